/- A part of the proof that the law PureRuns gives true for every input. -/
import Derived.Test.YtiefoagopfeibaaGreatPureRunsT
import Derived.Test.YtiefoagopfeibaaGreatPureRunsB
import Derived.Test.YtiefoagopfeibaaGreatPureRunsX
import Derived.Test.YtiefoagopfeibaaGreatPureRunsI
import Derived.Test.YtiefoagopfeibaaGreatPureRunsW1
/- Each Go function computes its plain function. -/
namespace Go.Proofs.YtiefoagopfeibaaGreat
open Go.RowKit Go.Abs
set_option maxRecDepth 100000
set_option maxHeartbeats 4000000
theorem scope_Type_ok {a0 : GClass} {a1 : GMethod} {a2 : List UInt8} {r : GType × Bool} (hF : scope_Type a0 a1 a2 = some r) : FZ 54 [.agg (eGClass a0), .agg (eGMethod a1), .str a2] [.p (.agg (eGType r.1)), .p (.bool r.2)] := by
 unfold scope_Type at hF
 refine fn_of_body (n := 25) Tryz.func54 rfl rfl rfl fun w O => ?_
 refine go ?_
 refine rgp (bo 0) ?_
 refine rgp (bo 1) ?_
 refine rgp (al 2 (eGType zGType) zer_37) ?_
 iterate 5 refine go ?_
 refine rgp (op_str rfl rfl rfl rfl rfl rfl) ?_
 refine go ?_
 refine cnd hF (fun hb1 hF => ?_) fun hb1 hF => ?_
 ·refine go ?_
  refine rgp (la (eGClass a0) agg_32) ?_
  obtain ⟨y2, h3, hF⟩ := bs hF
  refine rgp (cl 3 [.agg (eGClass a0)] [.p (.agg (eGType y2))] (scope_This_ok h3)) ?_
  iterate 5 refine go ?_
  cases hF
  exact post_ret rfl rfl (.cons _ _ _ _ _ (.agg _ _ _ _ _ 11 _ _ rfl rfl agg_37 rfl rfl rfl) (.p _) (.cons _ _ _ _ _ (.tmp _ _ rfl) (.p _) .nil)) (.inl rfl)
 iterate 3 refine go ?_
 refine rgp (la (eGMethod a1) agg_40) ?_
 refine go ?_
 obtain ⟨y6, h7, hF⟩ := bs hF
 refine rgp (cl 3 [.agg (eGMethod a1), .str a2] [.p (.int .i64 y6)] (scope_Place_ok h7)) ?_
 iterate 7 refine go ?_
 refine cnd hF (fun hb8 hF => ?_) fun hb8 hF => ?_
 ·refine go ?_
  refine rgp (bd ((eGType zGType)) (eGType ({ fKind := 0, fClass := [], fN := 0, fOwn := (⟨zGOwner, zGOwner, zGOwner, zGOwner⟩ : A4 GOwner) } : GType)) zer_37 plc_37) ?_
  iterate 5 refine go ?_
  cases hF
  exact post_ret rfl rfl (.cons _ _ _ _ _ (.agg _ _ _ _ _ 11 _ _ rfl rfl agg_37 rfl rfl rfl) (.p _) (.cons _ _ _ _ _ (.tmp _ _ rfl) (.p _) .nil)) (.inl rfl)
 iterate 3 refine go ?_
 refine rgp (la (eGMethod a1) agg_40) ?_
 obtain ⟨y9, h10, hF⟩ := bs hF
 refine rgp (cl 3 [.agg (eGMethod a1)] [.p (.vs 13 (List.map eGVar y9))] (arena_Vars_ok h10)) ?_
 refine go ?_
 obtain ⟨y11, h12, hF⟩ := bs hF
 refine rgp (ix (idx_map eGVar h12) slc_29) ?_
 refine go ?_
 refine rgp (lw (eGType y11.fType) agg_37) ?_
 iterate 4 refine go ?_
 cases hF
 exact post_ret rfl rfl (.cons _ _ _ _ _ (.agg _ _ _ _ _ 11 _ _ rfl rfl agg_37 rfl rfl rfl) (.p _) (.cons _ _ _ _ _ (.tmp _ _ rfl) (.p _) .nil)) (.inl rfl)
theorem __pure_walker__body_w_ring : ∀ (n : Nat) (a1 : GClass) (a2 : GMethod) (a3 : List GStmt) (b0_0 : List GClass) (b1 : Nat × (List UInt8 → Option Int)) (b2 : List (A2 Int)) (r : (Nat × (List UInt8 → Option Int)) × (List (A2 Int))), __pure_walker__body_w n a1 a2 a3 b0_0 b1 b2 = some r → Abs.FnW globs_Tryz Tryz.prog 27 [.lp 0 0, .pv (.agg (eGClass a1)), .pv (.agg (eGMethod a2)), .pv (.vs 23 (eLGStmt a3))] [(0, some (.box 81 [.pv (.vs 7 (List.map eGClass b0_0)), .ls 1, .ls 2])), (1, some (.dict Tryz.prog 79 b1.1 b1.2)), (2, some (.row 59 2 (List.map (eA2 eI) b2)))] 3 [(0, 0)] [] [(0, some (.box 81 [.pv (.vs 7 (List.map eGClass b0_0)), .ls 1, .ls 2])), (1, some (.dict Tryz.prog 79 r.1.1 r.1.2)), (2, some (.row 59 2 (List.map (eA2 eI) r.2)))] 3 := by
 intro n
 induction n with
 | zero => exact fun _ _ _ _ _ _ _ h => by simp [__pure_walker__body_w] at h
 | succ n ih =>
  have __pure_walker__body_w_ih := ih
  clear ih
  intro a1 a2 a3 b0_0 b1 b2 r hF
  unfold __pure_walker__body_w at hF
  revert hF __pure_walker__body_w_ih
  generalize __pure_walker__body_w n = __pure_walker__body_w_rec
  intro __pure_walker__body_w_ih hF
  refine fnW_of_body (n := 56) (m := 3) [0] Tryz.func27 rfl rfl rfl ?_
  intro c w O θ hcx
  refine go ?_
  refine rgp (bo 3) ?_
  refine rgp (bo 4) ?_
  iterate 3 refine go ?_
  refine rgp (op_len_vs (n := a3.length) rfl rfl (lenR eLGStmt_map) slc_38 rfl rfl) ?_
  iterate 2 refine go ?_
  obtain ⟨lr106, hF, hK107⟩ := bs hF
  refine aw_for ((a3.length - 0 : Int).toNat + 1) (fun s1 => s1 = ⟨56, [(0, some (.lp 0 0))], [(0, some (.box 81 [.pv (.vs 7 (List.map eGClass b0_0)), .ls 1, .ls 2])), (1, some (.dict Tryz.prog 79 lr106.1 lr106.2.1)), (2, some (.row 59 2 (List.map (eA2 eI) lr106.2.2)))], 3, [], [], 0, [0]⟩) ?_ ?_
  ·refine rnd_loop (α := Nat × (List UInt8 → Option Int) × (List (A2 Int)) × Int) (fun q => ⟨56, [(0, some (.lp 0 0)), (5, some (.lp 3 0)), (6, some (.lp 4 0)), (12, some (.pv (.vs 23 (eLGStmt a3)))), (13, some (.pv (.int .i64 (a3.length : Int)))), (14, some (.pv (.int .i64 q.2.2.2)))], [(0, some (.box 81 [.pv (.vs 7 (List.map eGClass b0_0)), .ls 1, .ls 2])), (1, some (.dict Tryz.prog 79 q.1 q.2.1)), (2, some (.row 59 2 (List.map (eA2 eI) q.2.2.1))), (3, some (.box 32 (bxv (eGClass a1)))), (4, some (.box 40 (bxv (eGMethod a2))))], 5, [], [], 0, [0]⟩) (fun k q => __pure_walker__body_w_L1 a1 a2 a3 b0_0 __pure_walker__body_w_rec k q.1 q.2.1 q.2.2.1 q.2.2.2 = some lr106) (b1.1, b1.2, b2, 0) (impz [0, 1, 2, 3, 4]) hF (fun q h => by cases h) ?_
   clear hF
   rintro k ⟨x31, x32, x33, x34⟩ hF ih
   refine rnd_succ ?_
   iterate 3 refine go ?_
   refine aw_seq ?_
   refine cnd hF (fun hb69 hF => ?_) fun hb69 hF => ?_
   ·iterate 2 refine go ?_
    refine aw_seq ?_
    refine aw_block ?_
    refine go ?_
    obtain ⟨y72, h73, hF⟩ := bs hF
    refine rgp (ix (idxR eLGStmt_map h73) slc_38) ?_
    refine rgp (lw (eGStmt y72) agg_48) ?_
    refine rgp (al 5 (eGStmt zGStmt) zer_48) ?_
    iterate 2 refine go ?_
    refine aw_seq ?_
    obtain ⟨p89, hF, hK90⟩ := bs hF
    obtain ⟨x86, x87, x88⟩ := p89
    refine ctx ⟨56, [(0, some (.lp 0 0)), (5, some (.lp 3 0)), (6, some (.lp 4 0)), (9, some (.lp 5 0)), (12, some (.pv (.vs 23 (eLGStmt a3)))), (13, some (.pv (.int .i64 (a3.length : Int)))), (14, some (.pv (.int .i64 x34)))], [(0, some (.box 81 [.pv (.vs 7 (List.map eGClass b0_0)), .ls 1, .ls 2])), (1, some (.dict Tryz.prog 79 x86 x87)), (2, some (.row 59 2 (List.map (eA2 eI) x88))), (3, some (.box 32 (bxv (eGClass a1)))), (4, some (.box 40 (bxv (eGMethod a2)))), (5, some (.box 48 (bxv (eGStmt y72))))], 6, [], [], 0, [0]⟩ ?_ ?_
    ·refine go ?_
     refine rgp (la (eGClass a1) agg_32) ?_
     refine rgp (la (eGMethod a2) agg_40) ?_
     iterate 2 refine go ?_
     obtain ⟨y76, h77, hF⟩ := bs hF
     refine rgp (cl 6 [.agg (eGClass a1), .agg (eGMethod a2), .str y72.fY] [.p (.agg (eGType y76.1)), .p (.bool y76.2)] (scope_Type_ok h77)) ?_
     refine go ?_
     iterate 2 (refine rgp (op_extract rfl rfl rfl rfl rfl) ?_)
     refine rgp (al 6 (eGType zGType) zer_37) ?_
     iterate 3 refine go ?_
     refine aw_seq ?_
     obtain ⟨x80, hF, hK82⟩ := bs hF
     refine ctx ⟨56, [(0, some (.lp 0 0)), (5, some (.lp 3 0)), (6, some (.lp 4 0)), (9, some (.lp 5 0)), (10, some (.lp 6 0)), (12, some (.pv (.vs 23 (eLGStmt a3)))), (13, some (.pv (.int .i64 (a3.length : Int)))), (14, some (.pv (.int .i64 x34))), (36, some (.pv (.bool x80)))], [(0, some (.box 81 [.pv (.vs 7 (List.map eGClass b0_0)), .ls 1, .ls 2])), (1, some (.dict Tryz.prog 79 x31 x32)), (2, some (.row 59 2 (List.map (eA2 eI) x33))), (3, some (.box 32 (bxv (eGClass a1)))), (4, some (.box 40 (bxv (eGMethod a2)))), (5, some (.box 48 (bxv (eGStmt y72)))), (6, some (.box 37 (bxv (eGType y76.1))))], 7, [], [], 0, [0]⟩ ?_ ?_
     ·iterate 3 refine go ?_
      rcases ie hF with ⟨hb78, hF⟩ | ⟨hb78, hF⟩
      ·iterate 3 refine gn hb78 ?_
       refine rpt hb78 ?_
       refine go ?_
       rcases ie hF with ⟨hb79, hF⟩ | ⟨hb79, hF⟩
       ·iterate 3 refine gn hb79 ?_
        refine rpt hb79 ?_
        cases hF
        exact rcz [0, 1, 2, 3, 4, 5, 6]
       iterate 3 refine rgo_f hb79 ?_
       refine rpf hb79 ?_
       cases hF
       exact rcz [0, 1, 2, 3, 4, 5, 6]
      iterate 3 refine rgo_f hb78 ?_
      refine rpf hb78 ?_
      refine go ?_
      iterate 3 refine rgo_f rfl ?_
      refine rpf rfl ?_
      cases hF
      exact rcz [0, 1, 2, 3, 4, 5, 6]
     have hF := hK82
     refine go ?_
     refine cnd hF (fun hb83 hF => ?_) fun hb83 hF => ?_
     ·iterate 6 refine go ?_
      obtain ⟨y84, h85, hF⟩ := bs hF
      refine rgp (op_callW (args := [.lp 0 0, .pv (.str y76.1.fClass), .pv (.str y72.fName)]) [0, 1, 2] [0, 7, 8] [1, 2] 9 rfl rfl rfl rfl rfl cal_26 (__pure_walker__call_w_ok h85) rfl (by decide) ⟨rfl, rfl, rfl, trivial⟩ rfl (by decide) ⟨.inl rfl, .inr rfl, .inr rfl, trivial⟩ (by kernel_rfl) (by kernel_rfl) rfl rfl rfl rfl) ?_
      cases hF
      exact rcz [0, 7, 8, 3, 4, 5]
     refine go ?_
     cases hF
     exact pcz [0, 1, 2, 3, 4, 5]
    have hF := hK90
    iterate 3 refine go ?_
    refine rgp (la (eGClass a1) agg_32) ?_
    refine rgp (la (eGMethod a2) agg_40) ?_
    iterate 2 refine go ?_
    obtain ⟨y93, h94, hF⟩ := bs hF
    refine rgp (op_callW (args := [.lp 0 0, .pv (.agg (eGClass a1)), .pv (.agg (eGMethod a2)), .pv (.vs 23 (eLGStmt y72.fBody))]) [0, 1, 2] [0, 6, 7] [1, 2] 8 rfl rfl rfl rfl rfl cal_27 (__pure_walker__body_w_ih _ _ _ _ _ _ _ h94) rfl (by decide) ⟨rfl, rfl, rfl, trivial⟩ rfl (by decide) ⟨.inl rfl, .inr rfl, .inr rfl, trivial⟩ (by kernel_rfl) (by kernel_rfl) rfl rfl rfl rfl) ?_
    iterate 3 refine go ?_
    refine rgp (la (eGClass a1) agg_32) ?_
    refine rgp (la (eGMethod a2) agg_40) ?_
    iterate 2 refine go ?_
    obtain ⟨y97, h98, hF⟩ := bs hF
    refine rgp (op_callW (args := [.lp 0 0, .pv (.agg (eGClass a1)), .pv (.agg (eGMethod a2)), .pv (.vs 23 (eLGStmt y72.fElse))]) [0, 6, 7] [0, 8, 9] [6, 7] 10 rfl rfl rfl rfl rfl cal_27 (__pure_walker__body_w_ih _ _ _ _ _ _ _ h98) rfl (by decide) ⟨rfl, rfl, rfl, trivial⟩ rfl (by decide) ⟨.inl rfl, .inr rfl, .inr rfl, trivial⟩ (by kernel_rfl) (by kernel_rfl) rfl rfl rfl rfl) ?_
    refine reg_nil ?_
    refine piz ⟨56, [(0, some (.lp 0 0)), (5, some (.lp 3 0)), (6, some (.lp 4 0)), (12, some (.pv (.vs 23 (eLGStmt a3)))), (13, some (.pv (.int .i64 (a3.length : Int)))), (14, some (.pv (.int .i64 x34)))], [(0, some (.box 81 [.pv (.vs 7 (List.map eGClass b0_0)), .ls 1, .ls 2])), (1, some (.dict Tryz.prog 79 y97.1.1 y97.1.2)), (2, some (.row 59 2 (List.map (eA2 eI) y97.2))), (3, some (.box 32 (bxv (eGClass a1)))), (4, some (.box 40 (bxv (eGMethod a2))))], 5, [], [], 0, [0]⟩ [0, 8, 9, 3, 4] ?_
    iterate 5 refine go ?_
    refine rnr ?_
    exact rnd_back (ih (y97.1.1, y97.1.2, y97.2, w_i64 (x34 + 1)) hF) (impz [0, 1, 2, 3, 4])
   refine aw_exit ?_
   iterate 2 refine post_then_exit ?_
   cases hF
   exact post_lp_break _ rfl (impz [0, 1, 2])
  rintro _ rfl
  have hF := hK107
  obtain ⟨x103, x104, x105⟩ := lr106
  refine piz ⟨56, [(0, some (.lp 0 0))], [(0, some (.box 81 [.pv (.vs 7 (List.map eGClass b0_0)), .ls 1, .ls 2])), (1, some (.dict Tryz.prog 79 x103 x104)), (2, some (.row 59 2 (List.map (eA2 eI) x105)))], 3, [], [], 0, [0]⟩ [0, 1, 2] ?_
  cases hF
  exact post_retW hcx rfl .nil rfl (.inr rfl)
theorem __pure_walker__body_w_ok {n : Nat} {a1 : GClass} {a2 : GMethod} {a3 : List GStmt} {b0_0 : List GClass} {b1 : Nat × (List UInt8 → Option Int)} {b2 : List (A2 Int)} {r : (Nat × (List UInt8 → Option Int)) × (List (A2 Int))} (hF : __pure_walker__body_w n a1 a2 a3 b0_0 b1 b2 = some r) : Abs.FnW globs_Tryz Tryz.prog 27 [.lp 0 0, .pv (.agg (eGClass a1)), .pv (.agg (eGMethod a2)), .pv (.vs 23 (eLGStmt a3))] [(0, some (.box 81 [.pv (.vs 7 (List.map eGClass b0_0)), .ls 1, .ls 2])), (1, some (.dict Tryz.prog 79 b1.1 b1.2)), (2, some (.row 59 2 (List.map (eA2 eI) b2)))] 3 [(0, 0)] [] [(0, some (.box 81 [.pv (.vs 7 (List.map eGClass b0_0)), .ls 1, .ls 2])), (1, some (.dict Tryz.prog 79 r.1.1 r.1.2)), (2, some (.row 59 2 (List.map (eA2 eI) r.2)))] 3 := __pure_walker__body_w_ring n a1 a2 a3 b0_0 b1 b2 r hF

theorem pure_Runs_ok {a0 : List GClass} {a1 : List UInt8} {a2 : List UInt8} {r : (List (A2 Int))} (hF : pure_Runs a0 a1 a2 = some r) : FZ 14 [.vs 7 (List.map eGClass a0), .str a1, .str a2] [.own 59 2 (List.map (eA2 eI) r)] := by
 unfold pure_Runs at hF
 refine fn_of_body (n := 66) Tryz.func14 rfl rfl rfl fun w O => ?_
 iterate 5 refine go ?_
 refine rgp (op_makeMap2 0 rfl rfl Tryz_map2_79 rfl rfl) ?_
 refine rgp (op_buildM (zs := [.vs 7 (List.map eGClass zGwalker_pure.fp), .nilm, .nils]) (r := [.pv (.vs 7 (List.map eGClass a0)), .ls 0, .pv .nils]) rfl zer_81 (by exact ⟨trivial, rfl, rfl, trivial⟩) plc_81 rfl rfl rfl rfl) ?_
 refine rgp (bo 1) ?_
 refine reg_imp (imp_nil_box 1 2 81 59 2 2 rfl rfl rfl) ?_
 iterate 6 refine go ?_
 obtain ⟨y3, h4, hF⟩ := bs hF
 refine rgp (op_callW (args := [.lp 0 0, .pv (.str a1), .pv (.str a2)]) [1, 0, 2] [1, 3, 4] [0, 2] 5 rfl rfl rfl rfl rfl cal_26 (__pure_walker__call_w_ok h4) rfl (by decide) ⟨rfl, rfl, rfl, trivial⟩ rfl (by decide) ⟨.inl rfl, .inr rfl, .inr rfl, trivial⟩ (by kernel_rfl) (by kernel_rfl) rfl rfl rfl rfl) ?_
 iterate 5 refine go ?_
 obtain ⟨lr83, hF, hK84⟩ := bs hF
 refine aw_for ((a0.map fun c => c.fMethods.length).foldr (· + ·) 0 + 1) (fun s1 => s1 = (sX 66 [(7, some (.lp 0 0))] [(0, some (.box 81 [.pv (.vs 7 (List.map eGClass a0)), .ls 1, .ls 2])), (1, some (.dict Tryz.prog 79 lr83.1 lr83.2.1)), (2, some (.row 59 2 (List.map (eA2 eI) lr83.2.2)))] 3)) ?_ ?_
 ·refine rnd_loop (α := Nat × (List UInt8 → Option Int) × (List (A2 Int)) × Int) (fun q => (sX 66 [pf 0 (.vs 7 (List.map eGClass a0)), (7, some (.lp 0 0)), pf 8 (.int .i64 q.2.2.2)] [(0, some (.box 81 [.pv (.vs 7 (List.map eGClass a0)), .ls 1, .ls 2])), (1, some (.dict Tryz.prog 79 q.1 q.2.1)), (2, some (.row 59 2 (List.map (eA2 eI) q.2.2.1)))] 3)) (fun k q => pure_Runs_L1 a0 a1 k q.1 q.2.1 q.2.2.1 q.2.2.2 = some lr83) (y3.1.1, y3.1.2, y3.2, 0) (impz [1, 3, 4]) hF (fun q h => by cases h) ?_
  clear hF
  rintro k ⟨x26, x27, x28, x29⟩ hF ih
  refine rnd_succ ?_
  iterate 4 refine go ?_
  refine rgp (op_nilCheck rfl rfl rfl rfl rfl) ?_
  iterate 2 refine go ?_
  refine rgp (op_len_ls (n := x28.length) rfl rfl rfl (List.length_map ..) slc_57 rfl rfl) ?_
  iterate 2 refine go ?_
  refine cnd hF (fun hb55 hF => ?_) fun hb55 hF => ?_
  ·iterate 2 refine go ?_
   refine aw_seq ?_
   refine aw_block ?_
   iterate 3 refine go ?_
   refine rgp (op_nilCheck rfl rfl rfl rfl rfl) ?_
   iterate 3 refine go ?_
   obtain ⟨y60, h61, hF⟩ := bs hF
   refine rgp (op_index_ls (k := .i64) rfl rfl rfl rfl (idx_map (eA2 eI) h61) slc_57 rfl rfl) ?_
   refine rgp (op_arr_le (k := .i64) (m := 0) (n := 2) rfl rfl rfl arr_59 rfl rfl rfl rfl) ?_
   refine rgp (op_load_le (p := .int .i64 y60.a0) rfl rfl rfl (map_get (eA2 eI) h61) rfl one_3 rfl rfl) ?_
   obtain ⟨y62, h63, hF⟩ := bs hF
   refine rgp (ix (idx_map eGClass h63) slc_22) ?_
   refine rgp (lw (eGClass y62) agg_32) ?_
   refine rgp (al 3 (eGClass zGClass) zer_32) ?_
   iterate 2 refine go ?_
   refine aw_seq ?_
   refine aw_imp (imp_names 1) ?_
   refine dr_start ⟨_, _, _⟩ rfl ?_
   iterate 3 refine dgo ?_
   refine dr_cons { need := [(41, .lp 0 0)], dst := some 42, val := some (.lp 0 0) } (fun m h => step_on (guard_no rfl) (op_nilCheck rfl h.1.1 rfl rfl rfl) rfl) ⟨⟨rfl, trivial⟩, trivial, trivial⟩ ?_
   iterate 3 refine dgo ?_
   obtain ⟨y68, h69, hF⟩ := bs hF
   refine dr_cons { need := [(44, .ls 2), (45, .pv (.int .i64 x29))], hneed := [(2, .row 59 2 (List.map (eA2 eI) x28))], dst := some 46, val := some (.le 2 2 (x29 : Int).toNat 0) } (fun m h => step_on (guard_no rfl) (op_index_ls (k := .i64) rfl h.1.1 h.1.2.1 h.2.1.1 (idx_map (eA2 eI) h69) slc_57 rfl rfl) rfl) ⟨⟨rfl, rfl, trivial⟩, ⟨rfl, trivial⟩, trivial⟩ ?_
   refine dr_cons { need := [(46, .le 2 2 (x29 : Int).toNat 0)], dst := some 47, val := some (.le 2 2 (x29 : Int).toNat 1) } (fun m h => step_on (guard_no rfl) (op_arr_le (k := .i64) (m := 1) (n := 2) rfl h.1.1 rfl arr_59 rfl rfl rfl rfl) rfl) ⟨⟨rfl, trivial⟩, trivial, trivial⟩ ?_
   refine dr_cons { need := [(47, .le 2 2 (x29 : Int).toNat 1)], hneed := [(2, .row 59 2 (List.map (eA2 eI) x28))], dst := some 48, val := some (.pv (.int .i64 y68.a1)) } (fun m h => step_on (guard_no rfl) (op_load_le (p := .int .i64 y68.a1) rfl h.1.1 h.2.1.1 (map_get (eA2 eI) h69) rfl one_3 rfl rfl) rfl) ⟨⟨rfl, trivial⟩, ⟨rfl, trivial⟩, trivial⟩ ?_
   obtain ⟨y70, h71, hF⟩ := bs hF
   refine dr_cons { need := [(40, .pv (.vs 17 (List.map eGMethod y62.fMethods))), (48, .pv (.int .i64 y68.a1))], dst := some 49, val := some (.pv (.vp (eGMethod y70))) } (fun m h => step_on (guard_no rfl) (op_index_vs (k := .i64) rfl h.1.1 h.1.2.1 (idx_map eGMethod h71) slc_30 rfl rfl) rfl) ⟨⟨rfl, rfl, trivial⟩, trivial, trivial⟩ ?_
   refine dr_cons { need := [(49, .pv (.vp (eGMethod y70)))], dst := some 50, val := some (.pv (.agg (eGMethod y70))) } (fun m h => step_on (guard_no rfl) (op_load_vp_agg (ps := eGMethod y70) rfl h.1.1 rfl rfl agg_40 rfl rfl) rfl) ⟨⟨rfl, trivial⟩, trivial, trivial⟩ ?_
   refine dr_cons { names := [4], dst := some 10, val := some (.lp 4 0), upd := [(4, some (.box 40 (bxv (eGMethod zGMethod))))] } (fun m h => step_on (guard_no rfl) (op_alloc 4 (fresh_free h.2.2.1) (ps := (eGMethod zGMethod)) rfl zer_40 (by exact ⟨rfl, rfl, rfl, rfl, rfl, rfl, rfl, rfl, rfl, rfl, rfl, rfl, rfl, trivial, trivial, trivial, rfl, trivial⟩) rfl rfl) rfl) ⟨trivial, trivial, ⟨rfl, trivial⟩⟩ ?_
   refine dr_cons { need := [(10, .lp 4 0), (50, .pv (.agg (eGMethod y70)))], hneed := [(4, .box 40 (bxv (eGMethod zGMethod)))], upd := [(4, some (.box 40 (bxv (eGMethod y70))))] } (fun m h => step_on (guard_no rfl) (op_store_lp (n := 17) rfl h.1.1 h.1.2.1 rfl h.2.1.1 (or_agg agg_40) (by rw [non_40]; rfl) rfl rfl rfl) rfl) ⟨⟨rfl, rfl, trivial⟩, ⟨rfl, trivial⟩, trivial⟩ ?_
   refine dr_nil mixed rfl (by kernel_rfl) ?_
   refine piz (sX 66 [pf 0 (.vs 7 (List.map eGClass a0)), (7, some (.lp 0 0)), pf 8 (.int .i64 x29), (9, some (.lp 3 0)), (10, some (.lp 4 0))] [(0, some (.box 81 [.pv (.vs 7 (List.map eGClass a0)), .ls 1, .ls 2])), (1, some (.dict Tryz.prog 79 x26 x27)), (2, some (.row 59 2 (List.map (eA2 eI) x28))), bf 3 32 (eGClass y62), bf 4 40 (eGMethod y70)] 5) [0, 1, 2, 3, 4] ?_
   iterate 3 refine go ?_
   refine rgp (la (eGClass y62) agg_32) ?_
   refine rgp (la (eGMethod y70) agg_40) ?_
   iterate 2 refine go ?_
   obtain ⟨y74, h75, hF⟩ := bs hF
   refine rgp (op_callW (args := [.lp 0 0, .pv (.agg (eGClass y62)), .pv (.agg (eGMethod y70)), .pv (.vs 23 (eLGStmt y70.fBody))]) [0, 1, 2] [0, 5, 6] [1, 2] 7 rfl rfl rfl rfl rfl cal_27 (__pure_walker__body_w_ok h75) rfl (by decide) ⟨rfl, rfl, rfl, trivial⟩ rfl (by decide) ⟨.inl rfl, .inr rfl, .inr rfl, trivial⟩ (by kernel_rfl) (by kernel_rfl) rfl rfl rfl rfl) ?_
   refine reg_nil ?_
   refine piz (sX 66 [pf 0 (.vs 7 (List.map eGClass a0)), (7, some (.lp 0 0)), pf 8 (.int .i64 x29)] [(0, some (.box 81 [.pv (.vs 7 (List.map eGClass a0)), .ls 1, .ls 2])), (1, some (.dict Tryz.prog 79 y74.1.1 y74.1.2)), (2, some (.row 59 2 (List.map (eA2 eI) y74.2)))] 3) [0, 5, 6] ?_
   iterate 6 refine go ?_
   refine rnr ?_
   exact rnd_back (ih (y74.1.1, y74.1.2, y74.2, w_i64 (x29 + 1)) hF) (impz [0, 1, 2])
  refine aw_exit ?_
  iterate 2 refine post_then_exit ?_
  cases hF
  exact post_lp_break _ rfl (impz [0, 1, 2])
 rintro _ rfl
 have hF := hK84
 obtain ⟨x80, x81, x82⟩ := lr83
 iterate 3 refine go ?_
 refine rgp (op_nilCheck rfl rfl rfl rfl rfl) ?_
 iterate 2 refine go ?_
 obtain ⟨y87, h88, hF⟩ := bs hF
 refine rgp (op_callW (args := [.ls 0, .pv (.fn 29 [])]) [2] [2] [] 3 rfl rfl rfl rfl rfl cal_28 (sortP_ok h88) rfl (by decide) ⟨rfl, trivial⟩ rfl (by decide) ⟨.inl rfl, trivial⟩ (by kernel_rfl) (by kernel_rfl) rfl rfl rfl rfl) ?_
 iterate 3 refine go ?_
 refine rgp (op_nilCheck rfl rfl rfl rfl rfl) ?_
 iterate 5 refine go ?_
 cases hF
 exact post_ret rfl rfl (.cons _ _ _ _ _ (.tmp _ _ rfl) (.own _ _ _ _ rfl nolent3) .nil) (.inl rfl)
theorem law22_awake_ok  {r : Bool} (hF : law22_awake = some r) : FZ 7 [] [.p (.bool r)] := by
 unfold law22_awake at hF
 refine fn_of_body (n := 17) Tryz.func7 rfl rfl rfl fun w O => ?_
 iterate 4 refine go ?_
 obtain ⟨y3, h4, hF⟩ := bs hF
 refine rgp (cl 0 [.str [99, 108, 97, 115, 115, 32, 65, 32, 123, 32, 105, 110, 116, 32, 110, 59, 32, 112, 117, 114, 101, 32, 118, 111, 105, 100, 32, 109, 40, 41, 32, 123, 32, 116, 104, 105, 115, 46, 110, 32, 61, 32, 49, 59, 32, 125, 32, 118, 111, 105, 100, 32, 107, 40, 41, 32, 123, 32, 116, 104, 105, 115, 46, 109, 40, 41, 59, 32, 125, 32, 125]] [.p (.vs 7 (List.map eGClass y3.1)), .p (.agg (eGFault y3.2))] (Fn.frozen (ref09_Of_ok h4))) ?_
 refine go ?_
 iterate 2 (refine rgp (op_extract rfl rfl rfl rfl rfl) ?_)
 refine rgp (al 0 (eGFault zGFault) zer_55) ?_
 iterate 5 refine go ?_
 obtain ⟨y5, h6, hF⟩ := bs hF
 refine rgp (cl 1 [.vs 7 (List.map eGClass y3.1)] [.p (.agg (eGFault y5))] (pure_Check_ok h6)) ?_
 refine rgp (bd ((eGFault zGFault)) (eGFault ({ fErr := 20, fAt := 33 } : GFault)) zer_55 plc_55) ?_
 refine rgp (op_eqAgg_eql (r := bGFault y5 ({ fErr := 20, fAt := 33 } : GFault)) rfl rfl rfl eqt_55 rfl rfl rfl rfl rfl) ?_
 refine go ?_
 rcases ie hF with ⟨hb7, hF⟩ | ⟨hb7, hF⟩
 ·refine gn hb7 ?_
  obtain ⟨y8, h9, hF⟩ := bs hF
  refine rgn hb7 (cl 1 [.vs 7 (List.map eGClass y3.1), .str [65], .str [107]] [.p (.vs 2 (List.map (eA2 eI) y8))] (Fn.frozen (pure_Runs_ok h9))) ?_
  iterate 2 refine gn hb7 ?_
  refine rpt hb7 ?_
  iterate 3 refine go ?_
  cases hF
  exact prt
 cases hF
theorem ref13_Find_ok {a0 : List GClass} {a1 : List UInt8} {r : Int} (hF : ref13_Find a0 a1 = some r) : FZ 59 [.vs 7 (List.map eGClass a0), .str a1] [.p (.int .i64 r)] := by
 unfold ref13_Find at hF
 refine fn_of_body (n := 20) Tryz.func59 rfl rfl rfl fun w O => ?_
 iterate 7 refine go ?_
 obtain ⟨lr22, hF, hK23⟩ := bs hF
 refine aw_for ((a0.length - 0 : Int).toNat + 1) (fun s1 => ∃ q, lr22 = .next q ∧ s1 = (sX 20 [] [] 0)) ?_ ?_
 ·refine rnd_loop (α := Int) (fun q => (sX 20 [pf 0 (.vs 7 (List.map eGClass a0)), pf 1 (.str a1), pf 5 (.int .i64 q)] [] 0)) (fun k q => ref13_Find_L1 a0 a1 k q = some lr22) 0 (impz []) hF (fun q h => by cases h) ?_
  clear hF
  rintro k x7 hF ih
  refine rnd_succ ?_
  iterate 7 refine go ?_
  refine cnd hF (fun hb15 hF => ?_) fun hb15 hF => ?_
  ·iterate 2 refine go ?_
   refine aw_seq ?_
   refine aw_block ?_
   iterate 3 refine go ?_
   obtain ⟨y18, h19, hF⟩ := bs hF
   refine rgp (ix (idx_map eGClass h19) slc_22) ?_
   iterate 3 refine go ?_
   refine rgp (op_str rfl rfl rfl rfl rfl rfl) ?_
   refine go ?_
   refine cnd hF (fun hb20 hF => ?_) fun hb20 hF => ?_
   ·iterate 8 refine go ?_
    refine post_lp_ret ?_
    cases hF
    have hF := elim_stop hK23
    refine go ?_
    cases hF
    exact prt
   iterate 7 refine go ?_
   refine rnr ?_
   exact rnd_back (ih (w_i64 (x7 + 1)) hF) (impz [])
  refine aw_exit ?_
  iterate 2 refine post_then_exit ?_
  cases hF
  exact post_lp_break _ ⟨_, rfl, rfl⟩ (impz [])
 rintro _ ⟨⟨⟩, rfl, rfl⟩
 have hF := elim_next hK23
 clear hK23
 iterate 5 refine go ?_
 cases hF
 exact prt
theorem ref14_has_ok {a0 : List Int} {a1 : Int} {r : Bool} (hF : ref14_has a0 a1 = some r) : FZ 78 [.vs 1 (List.map eI a0), .int .i64 a1] [.p (.bool r)] := by
 unfold ref14_has at hF
 refine fn_of_body (n := 18) Tryz.func78 rfl rfl rfl fun w O => ?_
 iterate 7 refine go ?_
 obtain ⟨lr22, hF, hK23⟩ := bs hF
 refine aw_for ((a0.length - 0 : Int).toNat + 1) (fun s1 => ∃ q, lr22 = .next q ∧ s1 = (sX 18 [] [] 0)) ?_ ?_
 ·refine rnd_loop (α := Int) (fun q => (sX 18 [pf 0 (.vs 1 (List.map eI a0)), pf 1 (.int .i64 a1), pf 5 (.int .i64 q)] [] 0)) (fun k q => ref14_has_L1 a0 a1 k q = some lr22) 0 (impz []) hF (fun q h => by cases h) ?_
  clear hF
  rintro k x7 hF ih
  refine rnd_succ ?_
  iterate 7 refine go ?_
  refine cnd hF (fun hb15 hF => ?_) fun hb15 hF => ?_
  ·iterate 2 refine go ?_
   refine aw_seq ?_
   refine aw_block ?_
   iterate 3 refine go ?_
   obtain ⟨y18, h19, hF⟩ := bs hF
   refine rgp (ix (idx_map eI h19) slc_96) ?_
   iterate 4 refine go ?_
   refine cnd hF (fun hb20 hF => ?_) fun hb20 hF => ?_
   ·iterate 7 refine go ?_
    refine post_lp_ret ?_
    cases hF
    have hF := elim_stop hK23
    refine go ?_
    cases hF
    exact prt
   iterate 7 refine go ?_
   refine rnr ?_
   exact rnd_back (ih (w_i64 (x7 + 1)) hF) (impz [])
  refine aw_exit ?_
  iterate 2 refine post_then_exit ?_
  cases hF
  exact post_lp_break _ ⟨_, rfl, rfl⟩ (impz [])
 rintro _ ⟨⟨⟩, rfl, rfl⟩
 have hF := elim_next hK23
 clear hK23
 iterate 5 refine go ?_
 cases hF
 exact prt
theorem ref14_Chain_ok {a0 : List GClass} {a1 : List UInt8} {r : (List Int)} (hF : ref14_Chain a0 a1 = some r) : FZ 39 [.vs 7 (List.map eGClass a0), .str a1] [.own 3 1 (List.map eI r)] := by
 unfold ref14_Chain at hF
 refine fn_of_body (n := 37) Tryz.func39 rfl rfl rfl fun w O => ?_
 iterate 5 refine go ?_
 refine reg_imp (imp_nil_own 5 3 1 0 rfl rfl) ?_
 iterate 4 refine go ?_
 obtain ⟨y3, h4, hF⟩ := bs hF
 refine rgp (cl 1 [.vs 7 (List.map eGClass a0), .str a1] [.p (.int .i64 y3)] (ref13_Find_ok h4)) ?_
 iterate 2 refine go ?_
 refine aw_seq ?_
 obtain ⟨lr72, hF, hK73⟩ := bs hF
 refine aw_for (a0.length + 2) (fun s1 => ∃ q, lr72 = .next q ∧ s1 = (sX 37 [(5, some (.ls 0))] [(0, some (.row 3 1 (List.map eI q)))] 1)) ?_ ?_
 ·refine rnd_loop (α := (List Int) × Int) (fun q => (sX 37 [pf 0 (.vs 7 (List.map eGClass a0)), (5, some (.ls 0)), pf 6 (.int .i64 q.2)] [(0, some (.row 3 1 (List.map eI q.1)))] 1)) (fun k q => ref14_Chain_L1 a0 k q.1 q.2 = some lr72) ([], y3) (impz [0]) hF (fun q h => by cases h) ?_
  clear hF
  rintro k ⟨x25, x26⟩ hF ih
  refine rnd_succ ?_
  refine aw_seq ?_
  refine aw_seq ?_
  obtain ⟨x52, hF, hK54⟩ := bs hF
  refine ctx (sX 37 [pf 0 (.vs 7 (List.map eGClass a0)), (5, some (.ls 0)), pf 6 (.int .i64 x26), pf 17 (.bool x52)] [(0, some (.row 3 1 (List.map eI x25)))] 1) ?_ ?_
  ·iterate 4 refine go ?_
   rcases ie hF with ⟨hb49, hF⟩ | ⟨hb49, hF⟩
   ·iterate 2 refine gn hb49 ?_
    obtain ⟨y50, h51, hF⟩ := bs hF
    refine rgn hb49 (op_callB 1 rfl (caps := []) (args := [.vs 1 (List.map eI x25), .int .i64 x26]) [(0, some (.row 3 1 (List.map eI x25)))] rfl rfl rfl (FzH.spec ⟨rfl, trivial⟩) rfl rfl cal_78 (ref14_has_ok h51) rfl rfl rfl) ?_
    refine gn hb49 ?_
    refine rpt hb49 ?_
    cases hF
    exact rcz [0]
   iterate 4 refine rgo_f hb49 ?_
   refine rpf hb49 ?_
   cases hF
   exact rcz [0]
  have hF := hK54
  refine go ?_
  refine cnd hF (fun hb55 hF => ?_) fun hb55 hF => ?_
  ·iterate 2 refine go ?_
   refine aw_block ?_
   iterate 3 refine go ?_
   refine rgp (op_lit (rows := List.map eI ([x26] : List Int)) (zs := [.int .i64 0]) rfl rfl slc_96 zer_3 (by exact ⟨rfl, trivial⟩) rfl rfl rfl rfl rfl rfl rfl rfl) ?_
   obtain ⟨u58, h59, hF⟩ := bs hF
   refine rgp (op_append 1 rfl rfl rfl rfl rfl slc_96 elm_3 zer_3 rfl rfl rfl (room_map (f := eI) (g := eI) h59) (List.map_append (f := eI) (l₁ := x25) (l₂ := [x26])).symm rfl rfl) ?_
   iterate 6 refine go ?_
   obtain ⟨y62, h63, hF⟩ := bs hF
   refine rgp (ix (idx_map eGClass h63) slc_22) ?_
   iterate 2 refine go ?_
   refine rgp (op_str rfl rfl rfl rfl rfl rfl) ?_
   refine go ?_
   refine cnd hF (fun hb64 hF => ?_) fun hb64 hF => ?_
   ·iterate 8 refine go ?_
    refine post_lp_ret ?_
    cases hF
    have hF := elim_stop hK73
    refine go ?_
    cases hF
    exact post_ret rfl rfl (.cons _ _ _ _ _ (.tmp _ _ rfl) (.own _ _ _ _ rfl nolent3) .nil) (.inl rfl)
   iterate 6 refine go ?_
   obtain ⟨y65, h66, hF⟩ := bs hF
   refine rgp (ix (idx_map eGClass h66) slc_22) ?_
   iterate 2 refine go ?_
   obtain ⟨y67, h68, hF⟩ := bs hF
   refine rgp (cl 2 [.vs 7 (List.map eGClass a0), .str y65.fSuper] [.p (.int .i64 y67)] (ref13_Find_ok h68)) ?_
   refine go ?_
   refine reg_nil ?_
   refine piz (sX 37 [pf 0 (.vs 7 (List.map eGClass a0)), (5, some (.ls 0)), pf 6 (.int .i64 y67)] [(0, some (.row 3 1 (List.map eI (x25 ++ [x26]))))] 1) [1] ?_
   refine go ?_
   refine post_round ?_
   exact rnd_back (ih ((x25 ++ [x26]), y67) hF) (impz [0])
  refine aw_exit ?_
  iterate 2 refine post_then_exit ?_
  cases hF
  exact post_lp_break _ ⟨_, rfl, rfl⟩ (impz [0])
 rintro _ ⟨x71, rfl, rfl⟩
 have hF := elim_next hK73
 clear hK73
 iterate 6 refine go ?_
 cases hF
 exact post_ret rfl rfl (.cons _ _ _ _ _ (.tmp _ _ rfl) (.own _ _ _ _ rfl nolent3) .nil) (.inl rfl)
theorem ref17_own_ok {a0 : GClass} {a1 : List UInt8} {r : GFound_ref17 × Bool} (hF : ref17_own a0 a1 = some r) : FZ 77 [.agg (eGClass a0), .str a1] [.p (.agg (eGFound_ref17 r.1)), .p (.bool r.2)] := by
 unfold ref17_own at hF
 refine fn_of_body (n := 31) Tryz.func77 rfl rfl rfl fun w O => ?_
 refine go ?_
 refine rgp (bo 0) ?_
 refine rgp (al 1 (eGFound_ref17 zGFound_ref17) zer_62) ?_
 iterate 6 refine go ?_
 obtain ⟨lr28, hF, hK29⟩ := bs hF
 refine aw_for ((a0.fMethods.length - 0 : Int).toNat + 1) (fun s1 => ∃ q, lr28 = .next q ∧ s1 = (sX 31 [(4, some (.lp 0 0))] [bf 0 62 (eGFound_ref17 zGFound_ref17)] 1)) ?_ ?_
 ·refine rnd_loop (α := Int) (fun q => (sX 31 [pf 1 (.str a1), (2, some (.lp 0 0)), (4, some (.lp 1 0)), pf 6 (.int .i64 q)] [bf 0 32 (eGClass a0), bf 1 62 (eGFound_ref17 zGFound_ref17)] 2)) (fun k q => ref17_own_L1 a0 a1 k q = some lr28) 0 (impz [0, 1]) hF (fun q h => by cases h) ?_
  clear hF
  rintro k x9 hF ih
  refine rnd_succ ?_
  iterate 8 refine go ?_
  refine cnd hF (fun hb19 hF => ?_) fun hb19 hF => ?_
  ·iterate 2 refine go ?_
   refine aw_seq ?_
   refine aw_block ?_
   iterate 4 refine go ?_
   obtain ⟨y22, h23, hF⟩ := bs hF
   refine rgp (ix (idx_map eGMethod h23) slc_30) ?_
   iterate 3 refine go ?_
   refine rgp (op_str rfl rfl rfl rfl rfl rfl) ?_
   refine go ?_
   refine cnd hF (fun hb24 hF => ?_) fun hb24 hF => ?_
   ·refine aw_seq ?_
    refine dr_start ⟨_, _, _⟩ rfl ?_
    iterate 5 refine dgo ?_
    obtain ⟨y25, h26, hF⟩ := bs hF
    refine dr_cons { need := [(25, .pv (.vs 17 (List.map eGMethod a0.fMethods))), (26, .pv (.int .i64 x9))], dst := some 27, val := some (.pv (.vp (eGMethod y25))) } (fun m h => step_on (guard_no rfl) (op_index_vs (k := .i64) rfl h.1.1 h.1.2.1 (idx_map eGMethod h26) slc_30 rfl rfl) rfl) ⟨⟨rfl, rfl, trivial⟩, trivial, trivial⟩ ?_
    refine dr_cons { need := [(27, .pv (.vp (eGMethod y25)))], dst := some 28, val := some (.pv (.agg (eGMethod y25))) } (fun m h => step_on (guard_no rfl) (op_load_vp_agg (ps := eGMethod y25) rfl h.1.1 rfl rfl agg_40 rfl rfl) rfl) ⟨⟨rfl, trivial⟩, trivial, trivial⟩ ?_
    refine dr_cons { need := [(28, .pv (.agg (eGMethod y25))), (23, .pv (.str a0.fName))], dst := some 29, val := some (.pv (.agg (eGFound_ref17 ({ fClass := a0.fName, fMethod := y25 } : GFound_ref17)))) } (fun m h => step_on (guard_no rfl) (op_build (zs := (eGFound_ref17 zGFound_ref17)) (r := eGFound_ref17 ({ fClass := a0.fName, fMethod := y25 } : GFound_ref17)) rfl zer_62 (by exact ⟨rfl, rfl, rfl, rfl, rfl, rfl, rfl, rfl, rfl, rfl, rfl, rfl, rfl, rfl, trivial, trivial, trivial, rfl, trivial⟩) plc_62 (evs_cons h.1.2.1 (evs_cons h.1.1 evs_nil)) rfl rfl rfl) rfl) ⟨⟨rfl, rfl, trivial⟩, trivial, trivial⟩ ?_
    refine dr_cons { need := [(4, .lp 1 0), (29, .pv (.agg (eGFound_ref17 ({ fClass := a0.fName, fMethod := y25 } : GFound_ref17))))], hneed := [(1, .box 62 (bxv (eGFound_ref17 zGFound_ref17)))], upd := [(1, some (.box 62 (bxv (eGFound_ref17 ({ fClass := a0.fName, fMethod := y25 } : GFound_ref17)))))] } (fun m h => step_on (guard_no rfl) (op_store_lp (n := 18) rfl h.1.1 h.1.2.1 rfl h.2.1.1 (or_agg agg_62) (by rw [non_62]; rfl) rfl rfl rfl) rfl) ⟨⟨rfl, rfl, trivial⟩, ⟨rfl, trivial⟩, trivial⟩ ?_
    refine dr_cons { dst := some 5, val := some (.pv (.bool true)) } (fun m h => step_on (guard_no rfl) (op_assign rfl rfl rfl rfl) rfl) ⟨trivial, trivial, trivial⟩ ?_
    refine dr_nil mixed rfl (by kernel_rfl) ?_
    refine piz (sX 31 [(4, some (.lp 0 0)), pf 5 (.bool true)] [bf 0 62 (eGFound_ref17 ({ fClass := a0.fName, fMethod := y25 } : GFound_ref17))] 1) [1] ?_
    iterate 5 refine go ?_
    refine post_lp_ret ?_
    cases hF
    have hF := elim_stop hK29
    refine go ?_
    cases hF
    exact post_ret rfl rfl (.cons _ _ _ _ _ (.agg _ _ _ _ _ 18 _ _ rfl rfl agg_62 rfl rfl rfl) (.p _) (.cons _ _ _ _ _ (.tmp _ _ rfl) (.p _) .nil)) (.inl rfl)
   iterate 7 refine go ?_
   refine rnr ?_
   exact rnd_back (ih (w_i64 (x9 + 1)) hF) (impz [0, 1])
  refine aw_exit ?_
  iterate 2 refine post_then_exit ?_
  cases hF
  exact post_lp_break _ ⟨_, rfl, rfl⟩ (impz [1])
 rintro _ ⟨⟨⟩, rfl, rfl⟩
 have hF := elim_next hK29
 clear hK29
 iterate 2 refine go ?_
 refine rgp (bd ((eGFound_ref17 zGFound_ref17)) (eGFound_ref17 ({ fClass := [], fMethod := zGMethod } : GFound_ref17)) zer_62 plc_62) ?_
 iterate 4 refine go ?_
 cases hF
 exact post_ret rfl rfl (.cons _ _ _ _ _ (.agg _ _ _ _ _ 18 _ _ rfl rfl agg_62 rfl rfl rfl) (.p _) (.cons _ _ _ _ _ (.tmp _ _ rfl) (.p _) .nil)) (.inl rfl)
theorem ref17_among_ok {a0 : List GClass} {a1 : List Int} {a2 : List UInt8} {r : GFound_ref17 × Bool} (hF : ref17_among a0 a1 a2 = some r) : FZ 38 [.vs 7 (List.map eGClass a0), .vs 1 (List.map eI a1), .str a2] [.p (.agg (eGFound_ref17 r.1)), .p (.bool r.2)] := by
 unfold ref17_among at hF
 refine fn_of_body (n := 32) Tryz.func38 rfl rfl rfl fun w O => ?_
 refine go ?_
 refine rgp (al 0 (eGFound_ref17 zGFound_ref17) zer_62) ?_
 iterate 6 refine go ?_
 obtain ⟨lr46, hF, hK47⟩ := bs hF
 refine aw_for ((a1.length - 0 : Int).toNat + 1) (fun s1 => ∃ q, lr46 = .next q ∧ s1 = (sX 32 [(6, some (.lp 0 0))] [bf 0 62 (eGFound_ref17 zGFound_ref17)] 1)) ?_ ?_
 ·refine rnd_loop (α := Int) (fun q => (sX 32 [pf 0 (.vs 7 (List.map eGClass a0)), pf 1 (.vs 1 (List.map eI a1)), pf 2 (.str a2), (6, some (.lp 0 0)), pf 8 (.int .i64 q)] [bf 0 62 (eGFound_ref17 zGFound_ref17)] 1)) (fun k q => ref17_among_L1 a0 a1 a2 k q = some lr46) 0 (impz [0]) hF (fun q h => by cases h) ?_
  clear hF
  rintro k x15 hF ih
  refine rnd_succ ?_
  iterate 7 refine go ?_
  refine cnd hF (fun hb31 hF => ?_) fun hb31 hF => ?_
  ·iterate 2 refine go ?_
   refine aw_seq ?_
   refine aw_block ?_
   iterate 4 refine go ?_
   obtain ⟨y38, h39, hF⟩ := bs hF
   refine rgp (ix (idx_map eI h39) slc_96) ?_
   refine go ?_
   obtain ⟨y40, h41, hF⟩ := bs hF
   refine rgp (ix (idx_map eGClass h41) slc_22) ?_
   refine rgp (lw (eGClass y40) agg_32) ?_
   refine go ?_
   obtain ⟨y42, h43, hF⟩ := bs hF
   refine rgp (cl 1 [.agg (eGClass y40), .str a2] [.p (.agg (eGFound_ref17 y42.1)), .p (.bool y42.2)] (ref17_own_ok h43)) ?_
   refine go ?_
   iterate 2 (refine rgp (op_extract rfl rfl rfl rfl rfl) ?_)
   refine rgp (al 1 (eGFound_ref17 zGFound_ref17) zer_62) ?_
   iterate 6 refine go ?_
   refine cnd hF (fun hb44 hF => ?_) fun hb44 hF => ?_
   ·refine go ?_
    refine rgp (la (eGFound_ref17 y42.1) agg_62) ?_
    iterate 7 refine go ?_
    refine post_lp_ret ?_
    cases hF
    have hF := elim_stop hK47
    refine go ?_
    cases hF
    exact post_ret rfl rfl (.cons _ _ _ _ _ (.agg _ _ _ _ _ 18 _ _ rfl rfl agg_62 rfl rfl rfl) (.p _) (.cons _ _ _ _ _ (.tmp _ _ rfl) (.p _) .nil)) (.inl rfl)
   iterate 7 refine go ?_
   refine rnr ?_
   exact rnd_back (ih (w_i64 (x15 + 1)) hF) (impz [0])
  refine aw_exit ?_
  iterate 2 refine post_then_exit ?_
  cases hF
  exact post_lp_break _ ⟨_, rfl, rfl⟩ (impz [0])
 rintro _ ⟨⟨⟩, rfl, rfl⟩
 have hF := elim_next hK47
 clear hK47
 iterate 2 refine go ?_
 refine rgp (bd ((eGFound_ref17 zGFound_ref17)) (eGFound_ref17 ({ fClass := [], fMethod := zGMethod } : GFound_ref17)) zer_62 plc_62) ?_
 iterate 4 refine go ?_
 cases hF
 exact post_ret rfl rfl (.cons _ _ _ _ _ (.agg _ _ _ _ _ 18 _ _ rfl rfl agg_62 rfl rfl rfl) (.p _) (.cons _ _ _ _ _ (.tmp _ _ rfl) (.p _) .nil)) (.inl rfl)
theorem ref17_Find_ok {a0 : List GClass} {a1 : List UInt8} {a2 : List UInt8} {r : GFound_ref17 × Bool} (hF : ref17_Find a0 a1 a2 = some r) : FZ 17 [.vs 7 (List.map eGClass a0), .str a1, .str a2] [.p (.agg (eGFound_ref17 r.1)), .p (.bool r.2)] := by
 unfold ref17_Find at hF
 refine fn_of_body (n := 16) Tryz.func17 rfl rfl rfl fun w O => ?_
 refine go ?_
 refine rgp (al 0 (eGFound_ref17 zGFound_ref17) zer_62) ?_
 iterate 6 refine go ?_
 obtain ⟨y1, h2, hF⟩ := bs hF
 refine rgp (cl 1 [.vs 7 (List.map eGClass a0), .str a1] [.p (.vs 1 (List.map eI y1))] (Fn.frozen (ref14_Chain_ok h2))) ?_
 refine go ?_
 obtain ⟨y3, h4, hF⟩ := bs hF
 refine rgp (cl 1 [.vs 7 (List.map eGClass a0), .vs 1 (List.map eI y1), .str a2] [.p (.agg (eGFound_ref17 y3.1)), .p (.bool y3.2)] (ref17_among_ok h4)) ?_
 iterate 2 (refine rgp (op_extract rfl rfl rfl rfl rfl) ?_)
 iterate 4 refine go ?_
 cases hF
 exact post_ret rfl rfl (.cons _ _ _ _ _ (.agg _ _ _ _ _ 18 _ _ rfl rfl agg_62 rfl rfl rfl) (.p _) (.cons _ _ _ _ _ (.tmp _ _ rfl) (.p _) .nil)) (.inl rfl)
theorem ref14_Below_ok {a0 : List GClass} {a1 : List UInt8} {a2 : List UInt8} {r : Bool} (hF : ref14_Below a0 a1 a2 = some r) : FZ 58 [.vs 7 (List.map eGClass a0), .str a1, .str a2] [.p (.bool r)] := by
 unfold ref14_Below at hF
 refine fn_of_body (n := 20) Tryz.func58 rfl rfl rfl fun w O => ?_
 iterate 6 refine go ?_
 obtain ⟨y3, h4, hF⟩ := bs hF
 refine rgp (cl 0 [.vs 7 (List.map eGClass a0), .str a2] [.p (.int .i64 y3)] (ref13_Find_ok h4)) ?_
 iterate 6 refine go ?_
 rcases ie hF with ⟨hb5, hF⟩ | ⟨hb5, hF⟩
 ·iterate 2 refine gn hb5 ?_
  obtain ⟨y6, h7, hF⟩ := bs hF
  refine rgn hb5 (cl 0 [.vs 7 (List.map eGClass a0), .str a1] [.p (.vs 1 (List.map eI y6))] (Fn.frozen (ref14_Chain_ok h7))) ?_
  refine gn hb5 ?_
  obtain ⟨y8, h9, hF⟩ := bs hF
  refine rgn hb5 (cl 0 [.vs 1 (List.map eI y6), .int .i64 y3] [.p (.bool y8)] (ref14_has_ok h9)) ?_
  refine rpt hb5 ?_
  iterate 3 refine go ?_
  cases hF
  exact prt
 iterate 5 refine rgo_f hb5 ?_
 refine rpf hb5 ?_
 iterate 3 refine go ?_
 cases hF
 exact prt
theorem ref22_place_ok {a0 : GClass} {a1 : List UInt8} {r : Int} (hF : ref22_place a0 a1 = some r) : FZ 60 [.agg (eGClass a0), .str a1] [.p (.int .i64 r)] := by
 unfold ref22_place at hF
 refine fn_of_body (n := 22) Tryz.func60 rfl rfl rfl fun w O => ?_
 refine go ?_
 refine rgp (bo 0) ?_
 iterate 6 refine go ?_
 obtain ⟨lr22, hF, hK23⟩ := bs hF
 refine aw_for ((a0.fMethods.length - 0 : Int).toNat + 1) (fun s1 => ∃ q, lr22 = .next q ∧ s1 = (sX 22 [] [] 0)) ?_ ?_
 ·refine rnd_loop (α := Int) (fun q => (sX 22 [pf 1 (.str a1), (2, some (.lp 0 0)), pf 5 (.int .i64 q)] [bf 0 32 (eGClass a0)] 1)) (fun k q => ref22_place_L1 a0 a1 k q = some lr22) 0 (impz [0]) hF (fun q h => by cases h) ?_
  clear hF
  rintro k x7 hF ih
  refine rnd_succ ?_
  iterate 8 refine go ?_
  refine cnd hF (fun hb15 hF => ?_) fun hb15 hF => ?_
  ·iterate 2 refine go ?_
   refine aw_seq ?_
   refine aw_block ?_
   iterate 4 refine go ?_
   obtain ⟨y18, h19, hF⟩ := bs hF
   refine rgp (ix (idx_map eGMethod h19) slc_30) ?_
   iterate 3 refine go ?_
   refine rgp (op_str rfl rfl rfl rfl rfl rfl) ?_
   refine go ?_
   refine cnd hF (fun hb20 hF => ?_) fun hb20 hF => ?_
   ·iterate 8 refine go ?_
    refine post_lp_ret ?_
    cases hF
    have hF := elim_stop hK23
    refine go ?_
    cases hF
    exact prt
   iterate 7 refine go ?_
   refine rnr ?_
   exact rnd_back (ih (w_i64 (x7 + 1)) hF) (impz [0])
  refine aw_exit ?_
  iterate 2 refine post_then_exit ?_
  cases hF
  exact post_lp_break _ ⟨_, rfl, rfl⟩ (impz [])
 rintro _ ⟨⟨⟩, rfl, rfl⟩
 have hF := elim_next hK23
 clear hK23
 iterate 5 refine go ?_
 cases hF
 exact prt
theorem ref22_runs_ok {a0 : List GClass} {a1 : List GCall_ref22} {a2 : Int} {a3 : Int} {r : Bool} (hF : ref22_runs a0 a1 a2 a3 = some r) : FZ 32 [.vs 7 (List.map eGClass a0), .vs 2 (List.map eGCall_ref22 a1), .int .i64 a2, .int .i64 a3] [.p (.bool r)] := by
 unfold ref22_runs at hF
 refine fn_of_body (n := 93) Tryz.func32 rfl rfl rfl fun w O => ?_
 iterate 6 refine go ?_
 obtain ⟨y5, h6, hF⟩ := bs hF
 refine rgp (ix (idx_map eGClass h6) slc_22) ?_
 iterate 3 refine go ?_
 obtain ⟨y7, h8, hF⟩ := bs hF
 refine rgp (ix (idx_map eGMethod h8) slc_30) ?_
 refine rgp (lw (eGMethod y7) agg_40) ?_
 refine rgp (al 0 (eGMethod zGMethod) zer_40) ?_
 iterate 6 refine go ?_
 obtain ⟨lr345, hF, hK346⟩ := bs hF
 refine aw_for ((a1.length - 0 : Int).toNat + 1) (fun s1 => ∃ q, lr345 = .next q ∧ s1 = (sX 93 [] [] 0)) ?_ ?_
 ·refine rnd_loop (α := Int) (fun q => (sX 93 [pf 0 (.vs 7 (List.map eGClass a0)), pf 1 (.vs 2 (List.map eGCall_ref22 a1)), pf 2 (.int .i64 a2), pf 3 (.int .i64 a3), (9, some (.lp 0 0)), pf 10 (.int .i64 q)] [bf 0 40 (eGMethod y7)] 1)) (fun k q => ref22_runs_L1 a0 a1 a2 a3 y7 k q = some lr345) 0 (impz [0]) hF (fun q h => by cases h) ?_
  clear hF
  rintro k x120 hF ih
  refine rnd_succ ?_
  iterate 7 refine go ?_
  refine cnd hF (fun hb233 hF => ?_) fun hb233 hF => ?_
  ·iterate 2 refine go ?_
   refine aw_seq ?_
   refine aw_block ?_
   iterate 3 refine go ?_
   obtain ⟨lr342, hF, hK343⟩ := bs hF
   refine aw_for ((a0.length - 0 : Int).toNat + 1) (fun s1 => ∃ q, lr342 = .next q ∧ s1 = (sX 93 [pf 0 (.vs 7 (List.map eGClass a0)), pf 1 (.vs 2 (List.map eGCall_ref22 a1)), pf 2 (.int .i64 a2), pf 3 (.int .i64 a3), (9, some (.lp 0 0)), pf 10 (.int .i64 x120)] [bf 0 40 (eGMethod y7)] 1)) ?_ ?_
   ·refine rnd_loop (α := Int) (fun q => (sX 93 [pf 0 (.vs 7 (List.map eGClass a0)), pf 1 (.vs 2 (List.map eGCall_ref22 a1)), pf 2 (.int .i64 a2), pf 3 (.int .i64 a3), (9, some (.lp 0 0)), pf 10 (.int .i64 x120), pf 11 (.int .i64 q)] [bf 0 40 (eGMethod y7)] 1)) (fun k q => ref22_runs_L2 a0 a1 a2 a3 y7 x120 k q = some lr342) 0 (impz [0]) hF (fun q h => by cases h) ?_
    clear hF
    rintro k x269 hF ih
    refine rnd_succ ?_
    iterate 7 refine go ?_
    refine cnd hF (fun hb306 hF => ?_) fun hb306 hF => ?_
    ·iterate 2 refine go ?_
     refine aw_seq ?_
     refine aw_block ?_
     refine aw_seq ?_
     refine aw_imp (imp_names 1) ?_
     refine dr_start ⟨_, _, _⟩ rfl ?_
     iterate 3 refine dgo ?_
     obtain ⟨y313, h314, hF⟩ := bs hF
     refine dr_cons { need := [(36, .pv (.vs 7 (List.map eGClass a0))), (37, .pv (.int .i64 x269))], dst := some 38, val := some (.pv (.vp (eGClass y313))) } (fun m h => step_on (guard_no rfl) (op_index_vs (k := .i64) rfl h.1.1 h.1.2.1 (idx_map eGClass h314) slc_22 rfl rfl) rfl) ⟨⟨rfl, rfl, trivial⟩, trivial, trivial⟩ ?_
     refine dr_cons { need := [(38, .pv (.vp (eGClass y313)))], dst := some 39, val := some (.pv (.vp (List.drop 0 (eGClass y313)))) } (fun m h => step_on (guard_no rfl) (op_field_vp rfl h.1.1 fld_32_0 rfl rfl) rfl) ⟨⟨rfl, trivial⟩, trivial, trivial⟩ ?_
     refine dr_cons { need := [(39, .pv (.vp (List.drop 0 (eGClass y313))))], dst := some 40, val := some (.pv (.str y313.fName)) } (fun m h => step_on (guard_no rfl) (op_load_vp (p := .str y313.fName) rfl h.1.1 rfl one_9 rfl rfl) rfl) ⟨⟨rfl, trivial⟩, trivial, trivial⟩ ?_
     iterate 2 refine dgo ?_
     obtain ⟨y315, h316, hF⟩ := bs hF
     refine dr_cons { need := [(41, .pv (.vs 2 (List.map eGCall_ref22 a1))), (42, .pv (.int .i64 x120))], dst := some 43, val := some (.pv (.vp (eGCall_ref22 y315))) } (fun m h => step_on (guard_no rfl) (op_index_vs (k := .i64) rfl h.1.1 h.1.2.1 (idx_map eGCall_ref22 h316) slc_90 rfl rfl) rfl) ⟨⟨rfl, rfl, trivial⟩, trivial, trivial⟩ ?_
     refine dr_cons { need := [(43, .pv (.vp (eGCall_ref22 y315)))], dst := some 44, val := some (.pv (.vp (List.drop 1 (eGCall_ref22 y315)))) } (fun m h => step_on (guard_no rfl) (op_field_vp rfl h.1.1 fld_89_1 rfl rfl) rfl) ⟨⟨rfl, trivial⟩, trivial, trivial⟩ ?_
     refine dr_cons { need := [(44, .pv (.vp (List.drop 1 (eGCall_ref22 y315))))], dst := some 45, val := some (.pv (.str y315.fName)) } (fun m h => step_on (guard_no rfl) (op_load_vp (p := .str y315.fName) rfl h.1.1 rfl one_9 rfl rfl) rfl) ⟨⟨rfl, trivial⟩, trivial, trivial⟩ ?_
     obtain ⟨y317, h318, hF⟩ := bs hF
     refine dr_cons { need := [(45, .pv (.str y315.fName)), (40, .pv (.str y313.fName)), (35, .pv (.vs 7 (List.map eGClass a0)))], dst := some 46, val := some (.tup [.pv (.agg (eGFound_ref17 y317.1)), .pv (.bool y317.2)]) } (fun m h => step_on (guard_no rfl) (op_call 2 rfl (caps := []) (args := [.vs 7 (List.map eGClass a0), .str y313.fName, .str y315.fName]) (rs := [.p (.agg (eGFound_ref17 y317.1)), .p (.bool y317.2)]) rfl rfl (evl_cons h.1.2.2.1 (evl_cons h.1.2.1 (evl_cons h.1.1 evl_nil))) cal_17 (ref17_Find_ok h318) rfl rfl rfl) rfl) ⟨⟨rfl, rfl, rfl, trivial⟩, trivial, trivial⟩ ?_
     refine dgo ?_
     refine dr_cons { need := [(34, .tup [.pv (.agg (eGFound_ref17 y317.1)), .pv (.bool y317.2)])], dst := some 47, val := some (.pv (.agg (eGFound_ref17 y317.1))) } (fun m h => step_on (guard_no rfl) (op_extract rfl h.1.1 rfl rfl rfl) rfl) ⟨⟨rfl, trivial⟩, trivial, trivial⟩ ?_
     refine dr_cons { need := [(34, .tup [.pv (.agg (eGFound_ref17 y317.1)), .pv (.bool y317.2)])], dst := some 48, val := some (.pv (.bool y317.2)) } (fun m h => step_on (guard_no rfl) (op_extract rfl h.1.1 rfl rfl rfl) rfl) ⟨⟨rfl, trivial⟩, trivial, trivial⟩ ?_
     refine dr_cons { names := [1], dst := some 12, val := some (.lp 1 0), upd := [(1, some (.box 62 (bxv (eGFound_ref17 zGFound_ref17))))] } (fun m h => step_on (guard_no rfl) (op_alloc 1 (fresh_free h.2.2.1) (ps := (eGFound_ref17 zGFound_ref17)) rfl zer_62 (by exact ⟨rfl, rfl, rfl, rfl, rfl, rfl, rfl, rfl, rfl, rfl, rfl, rfl, rfl, rfl, trivial, trivial, trivial, rfl, trivial⟩) rfl rfl) rfl) ⟨trivial, trivial, ⟨rfl, trivial⟩⟩ ?_
     refine dr_cons { need := [(12, .lp 1 0), (47, .pv (.agg (eGFound_ref17 y317.1)))], hneed := [(1, .box 62 (bxv (eGFound_ref17 zGFound_ref17)))], upd := [(1, some (.box 62 (bxv (eGFound_ref17 y317.1))))] } (fun m h => step_on (guard_no rfl) (op_store_lp (n := 18) rfl h.1.1 h.1.2.1 rfl h.2.1.1 (or_agg agg_62) (by rw [non_62]; rfl) rfl rfl rfl) rfl) ⟨⟨rfl, rfl, trivial⟩, ⟨rfl, trivial⟩, trivial⟩ ?_
     refine dr_cons { need := [(48, .pv (.bool y317.2))], dst := some 13, val := some (.pv (.bool y317.2)) } (fun m h => step_on (guard_no rfl) (op_assign rfl h.1.1 rfl rfl) rfl) ⟨⟨rfl, trivial⟩, trivial, trivial⟩ ?_
     refine dr_nil mixed rfl (by kernel_rfl) ?_
     refine piz (sX 93 [pf 0 (.vs 7 (List.map eGClass a0)), pf 1 (.vs 2 (List.map eGCall_ref22 a1)), pf 2 (.int .i64 a2), pf 3 (.int .i64 a3), (9, some (.lp 0 0)), pf 10 (.int .i64 x120), pf 11 (.int .i64 x269), (12, some (.lp 1 0)), pf 13 (.bool y317.2)] [bf 0 40 (eGMethod y7), bf 1 62 (eGFound_ref17 y317.1)] 2) [0, 1] ?_
     refine go ?_
     refine aw_seq ?_
     obtain ⟨x337, hF, hK339⟩ := bs hF
     refine ctx (sX 93 [pf 0 (.vs 7 (List.map eGClass a0)), pf 1 (.vs 2 (List.map eGCall_ref22 a1)), pf 2 (.int .i64 a2), pf 3 (.int .i64 a3), (9, some (.lp 0 0)), pf 10 (.int .i64 x120), pf 11 (.int .i64 x269), pf 92 (.bool x337)] [bf 0 40 (eGMethod y7)] 1) ?_ ?_
     ·refine dr_start ⟨_, _, _⟩ rfl ?_
      iterate 2 refine dgo ?_
      rcases ie hF with ⟨hb319, hF⟩ | ⟨hb319, hF⟩
      ·refine dr_cons { need := [(50, .pv (.bool y317.2)), (0, .pv (.vs 7 (List.map eGClass a0)))], dst := some 51, val := some (.pv (.vs 7 (List.map eGClass a0))) } (fun m h => step_on (guard_on rfl rfl rfl h.1.1 hb319) (op_move rfl h.1.2.1 rfl rfl) rfl) ⟨⟨rfl, rfl, trivial⟩, trivial, trivial⟩ ?_
       refine dr_cons { need := [(50, .pv (.bool y317.2)), (0, .pv (.vs 7 (List.map eGClass a0)))], dst := some 52, val := some (.pv (.vs 7 (List.map eGClass a0))) } (fun m h => step_on (guard_on rfl rfl rfl h.1.1 hb319) (op_move rfl h.1.2.1 rfl rfl) rfl) ⟨⟨rfl, rfl, trivial⟩, trivial, trivial⟩ ?_
       refine dr_cons { need := [(50, .pv (.bool y317.2)), (11, .pv (.int .i64 x269))], dst := some 53, val := some (.pv (.int .i64 x269)) } (fun m h => step_on (guard_on rfl rfl rfl h.1.1 hb319) (op_move rfl h.1.2.1 rfl rfl) rfl) ⟨⟨rfl, rfl, trivial⟩, trivial, trivial⟩ ?_
       obtain ⟨y320, h321, hF⟩ := bs hF
       refine dr_cons { need := [(50, .pv (.bool y317.2)), (52, .pv (.vs 7 (List.map eGClass a0))), (53, .pv (.int .i64 x269))], dst := some 54, val := some (.pv (.vp (eGClass y320))) } (fun m h => step_on (guard_on rfl rfl rfl h.1.1 hb319) (op_index_vs (k := .i64) rfl h.1.2.1 h.1.2.2.1 (idx_map eGClass h321) slc_22 rfl rfl) rfl) ⟨⟨rfl, rfl, rfl, trivial⟩, trivial, trivial⟩ ?_
       refine dr_cons { need := [(50, .pv (.bool y317.2)), (54, .pv (.vp (eGClass y320)))], dst := some 55, val := some (.pv (.vp (List.drop 0 (eGClass y320)))) } (fun m h => step_on (guard_on rfl rfl rfl h.1.1 hb319) (op_field_vp rfl h.1.2.1 fld_32_0 rfl rfl) rfl) ⟨⟨rfl, rfl, trivial⟩, trivial, trivial⟩ ?_
       refine dr_cons { need := [(50, .pv (.bool y317.2)), (55, .pv (.vp (List.drop 0 (eGClass y320))))], dst := some 56, val := some (.pv (.str y320.fName)) } (fun m h => step_on (guard_on rfl rfl rfl h.1.1 hb319) (op_load_vp (p := .str y320.fName) rfl h.1.2.1 rfl one_9 rfl rfl) rfl) ⟨⟨rfl, rfl, trivial⟩, trivial, trivial⟩ ?_
       refine dr_cons { need := [(50, .pv (.bool y317.2)), (1, .pv (.vs 2 (List.map eGCall_ref22 a1)))], dst := some 57, val := some (.pv (.vs 2 (List.map eGCall_ref22 a1))) } (fun m h => step_on (guard_on rfl rfl rfl h.1.1 hb319) (op_move rfl h.1.2.1 rfl rfl) rfl) ⟨⟨rfl, rfl, trivial⟩, trivial, trivial⟩ ?_
       refine dr_cons { need := [(50, .pv (.bool y317.2)), (10, .pv (.int .i64 x120))], dst := some 58, val := some (.pv (.int .i64 x120)) } (fun m h => step_on (guard_on rfl rfl rfl h.1.1 hb319) (op_move rfl h.1.2.1 rfl rfl) rfl) ⟨⟨rfl, rfl, trivial⟩, trivial, trivial⟩ ?_
       obtain ⟨y322, h323, hF⟩ := bs hF
       refine dr_cons { need := [(50, .pv (.bool y317.2)), (57, .pv (.vs 2 (List.map eGCall_ref22 a1))), (58, .pv (.int .i64 x120))], dst := some 59, val := some (.pv (.vp (eGCall_ref22 y322))) } (fun m h => step_on (guard_on rfl rfl rfl h.1.1 hb319) (op_index_vs (k := .i64) rfl h.1.2.1 h.1.2.2.1 (idx_map eGCall_ref22 h323) slc_90 rfl rfl) rfl) ⟨⟨rfl, rfl, rfl, trivial⟩, trivial, trivial⟩ ?_
       refine dr_cons { need := [(50, .pv (.bool y317.2)), (59, .pv (.vp (eGCall_ref22 y322)))], dst := some 60, val := some (.pv (.vp (List.drop 0 (eGCall_ref22 y322)))) } (fun m h => step_on (guard_on rfl rfl rfl h.1.1 hb319) (op_field_vp rfl h.1.2.1 fld_89_0 rfl rfl) rfl) ⟨⟨rfl, rfl, trivial⟩, trivial, trivial⟩ ?_
       refine dr_cons { need := [(50, .pv (.bool y317.2)), (60, .pv (.vp (List.drop 0 (eGCall_ref22 y322))))], dst := some 61, val := some (.pv (.str y322.fClass)) } (fun m h => step_on (guard_on rfl rfl rfl h.1.1 hb319) (op_load_vp (p := .str y322.fClass) rfl h.1.2.1 rfl one_9 rfl rfl) rfl) ⟨⟨rfl, rfl, trivial⟩, trivial, trivial⟩ ?_
       obtain ⟨y324, h325, hF⟩ := bs hF
       refine dr_cons { need := [(50, .pv (.bool y317.2)), (61, .pv (.str y322.fClass)), (56, .pv (.str y320.fName)), (51, .pv (.vs 7 (List.map eGClass a0)))], dst := some 62, val := some (.pv (.bool y324)) } (fun m h => step_on (guard_on rfl rfl rfl h.1.1 hb319) (op_call 2 rfl (caps := []) (args := [.vs 7 (List.map eGClass a0), .str y320.fName, .str y322.fClass]) (rs := [.p (.bool y324)]) rfl rfl (evl_cons h.1.2.2.2.1 (evl_cons h.1.2.2.1 (evl_cons h.1.2.1 evl_nil))) cal_58 (ref14_Below_ok h325) rfl rfl rfl) rfl) ⟨⟨rfl, rfl, rfl, rfl, trivial⟩, trivial, trivial⟩ ?_
       refine dr_cons { need := [(50, .pv (.bool y317.2)), (62, .pv (.bool y324))], dst := some 63, val := some (.pv (.bool y324)) } (fun m h => step_on (guard_no rfl) (op_pick_t rfl h.1.1 hb319 h.1.2.1 rfl rfl) rfl) ⟨⟨rfl, rfl, trivial⟩, trivial, trivial⟩ ?_
       refine dgo ?_
       rcases ie hF with ⟨hb326, hF⟩ | ⟨hb326, hF⟩
       ·refine dr_cons { need := [(64, .pv (.bool y324)), (0, .pv (.vs 7 (List.map eGClass a0)))], dst := some 65, val := some (.pv (.vs 7 (List.map eGClass a0))) } (fun m h => step_on (guard_on rfl rfl rfl h.1.1 hb326) (op_move rfl h.1.2.1 rfl rfl) rfl) ⟨⟨rfl, rfl, trivial⟩, trivial, trivial⟩ ?_
        iterate 2 refine dgn hb326 ?_
        obtain ⟨y327, h328, hF⟩ := bs hF
        refine dr_cons { need := [(64, .pv (.bool y324)), (67, .pv (.str y317.1.fClass)), (65, .pv (.vs 7 (List.map eGClass a0)))], dst := some 68, val := some (.pv (.int .i64 y327)) } (fun m h => step_on (guard_on rfl rfl rfl h.1.1 hb326) (op_call 2 rfl (caps := []) (args := [.vs 7 (List.map eGClass a0), .str y317.1.fClass]) (rs := [.p (.int .i64 y327)]) rfl rfl (evl_cons h.1.2.2.1 (evl_cons h.1.2.1 evl_nil)) cal_59 (ref13_Find_ok h328) rfl rfl rfl) rfl) ⟨⟨rfl, rfl, rfl, trivial⟩, trivial, trivial⟩ ?_
        refine dr_cons { need := [(64, .pv (.bool y324)), (2, .pv (.int .i64 a2))], dst := some 69, val := some (.pv (.int .i64 a2)) } (fun m h => step_on (guard_on rfl rfl rfl h.1.1 hb326) (op_move rfl h.1.2.1 rfl rfl) rfl) ⟨⟨rfl, rfl, trivial⟩, trivial, trivial⟩ ?_
        refine dr_cons { need := [(64, .pv (.bool y324)), (68, .pv (.int .i64 y327)), (69, .pv (.int .i64 a2))], dst := some 70, val := some (.pv (.bool (y327 == a2))) } (fun m h => step_on (guard_on rfl rfl rfl h.1.1 hb326) (op_int (k := .i64) (m := y327) (n := a2) rfl h.1.2.1 h.1.2.2.1 rfl rfl rfl) rfl) ⟨⟨rfl, rfl, rfl, trivial⟩, trivial, trivial⟩ ?_
        refine dr_cons { need := [(64, .pv (.bool y324)), (70, .pv (.bool (y327 == a2)))], dst := some 71, val := some (.pv (.bool (y327 == a2))) } (fun m h => step_on (guard_no rfl) (op_pick_t rfl h.1.1 hb326 h.1.2.1 rfl rfl) rfl) ⟨⟨rfl, rfl, trivial⟩, trivial, trivial⟩ ?_
        refine dgo ?_
        rcases ie hF with ⟨hb329, hF⟩ | ⟨hb329, hF⟩
        ·iterate 2 refine dgn hb329 ?_
         refine dr_cons { need := [(72, .pv (.bool (y327 == a2))), (1, .pv (.vs 2 (List.map eGCall_ref22 a1)))], dst := some 75, val := some (.pv (.vs 2 (List.map eGCall_ref22 a1))) } (fun m h => step_on (guard_on rfl rfl rfl h.1.1 hb329) (op_move rfl h.1.2.1 rfl rfl) rfl) ⟨⟨rfl, rfl, trivial⟩, trivial, trivial⟩ ?_
         refine dr_cons { need := [(72, .pv (.bool (y327 == a2))), (10, .pv (.int .i64 x120))], dst := some 76, val := some (.pv (.int .i64 x120)) } (fun m h => step_on (guard_on rfl rfl rfl h.1.1 hb329) (op_move rfl h.1.2.1 rfl rfl) rfl) ⟨⟨rfl, rfl, trivial⟩, trivial, trivial⟩ ?_
         obtain ⟨y330, h331, hF⟩ := bs hF
         refine dr_cons { need := [(72, .pv (.bool (y327 == a2))), (75, .pv (.vs 2 (List.map eGCall_ref22 a1))), (76, .pv (.int .i64 x120))], dst := some 77, val := some (.pv (.vp (eGCall_ref22 y330))) } (fun m h => step_on (guard_on rfl rfl rfl h.1.1 hb329) (op_index_vs (k := .i64) rfl h.1.2.1 h.1.2.2.1 (idx_map eGCall_ref22 h331) slc_90 rfl rfl) rfl) ⟨⟨rfl, rfl, rfl, trivial⟩, trivial, trivial⟩ ?_
         refine dr_cons { need := [(72, .pv (.bool (y327 == a2))), (77, .pv (.vp (eGCall_ref22 y330)))], dst := some 78, val := some (.pv (.vp (List.drop 1 (eGCall_ref22 y330)))) } (fun m h => step_on (guard_on rfl rfl rfl h.1.1 hb329) (op_field_vp rfl h.1.2.1 fld_89_1 rfl rfl) rfl) ⟨⟨rfl, rfl, trivial⟩, trivial, trivial⟩ ?_
         refine dr_cons { need := [(72, .pv (.bool (y327 == a2))), (78, .pv (.vp (List.drop 1 (eGCall_ref22 y330))))], dst := some 79, val := some (.pv (.str y330.fName)) } (fun m h => step_on (guard_on rfl rfl rfl h.1.1 hb329) (op_load_vp (p := .str y330.fName) rfl h.1.2.1 rfl one_9 rfl rfl) rfl) ⟨⟨rfl, rfl, trivial⟩, trivial, trivial⟩ ?_
         refine dr_cons { need := [(72, .pv (.bool (y327 == a2))), (74, .pv (.str y7.fName)), (79, .pv (.str y330.fName))], dst := some 80, val := some (.pv (.bool (y7.fName == y330.fName))) } (fun m h => step_on (guard_on rfl rfl rfl h.1.1 hb329) (op_str rfl h.1.2.1 h.1.2.2.1 rfl rfl rfl) rfl) ⟨⟨rfl, rfl, rfl, trivial⟩, trivial, trivial⟩ ?_
         refine dr_cons { need := [(72, .pv (.bool (y327 == a2))), (80, .pv (.bool (y7.fName == y330.fName)))], dst := some 81, val := some (.pv (.bool (y7.fName == y330.fName))) } (fun m h => step_on (guard_no rfl) (op_pick_t rfl h.1.1 hb329 h.1.2.1 rfl rfl) rfl) ⟨⟨rfl, rfl, trivial⟩, trivial, trivial⟩ ?_
         refine dgo ?_
         rcases ie hF with ⟨hb332, hF⟩ | ⟨hb332, hF⟩
         ·refine dr_cons { need := [(82, .pv (.bool (y7.fName == y330.fName))), (0, .pv (.vs 7 (List.map eGClass a0)))], dst := some 83, val := some (.pv (.vs 7 (List.map eGClass a0))) } (fun m h => step_on (guard_on rfl rfl rfl h.1.1 hb332) (op_move rfl h.1.2.1 rfl rfl) rfl) ⟨⟨rfl, rfl, trivial⟩, trivial, trivial⟩ ?_
          refine dr_cons { need := [(82, .pv (.bool (y7.fName == y330.fName))), (2, .pv (.int .i64 a2))], dst := some 84, val := some (.pv (.int .i64 a2)) } (fun m h => step_on (guard_on rfl rfl rfl h.1.1 hb332) (op_move rfl h.1.2.1 rfl rfl) rfl) ⟨⟨rfl, rfl, trivial⟩, trivial, trivial⟩ ?_
          obtain ⟨y333, h334, hF⟩ := bs hF
          refine dr_cons { need := [(82, .pv (.bool (y7.fName == y330.fName))), (83, .pv (.vs 7 (List.map eGClass a0))), (84, .pv (.int .i64 a2))], dst := some 85, val := some (.pv (.vp (eGClass y333))) } (fun m h => step_on (guard_on rfl rfl rfl h.1.1 hb332) (op_index_vs (k := .i64) rfl h.1.2.1 h.1.2.2.1 (idx_map eGClass h334) slc_22 rfl rfl) rfl) ⟨⟨rfl, rfl, rfl, trivial⟩, trivial, trivial⟩ ?_
          refine dr_cons { need := [(82, .pv (.bool (y7.fName == y330.fName))), (85, .pv (.vp (eGClass y333)))], dst := some 86, val := some (.pv (.agg (eGClass y333))) } (fun m h => step_on (guard_on rfl rfl rfl h.1.1 hb332) (op_load_vp_agg (ps := eGClass y333) rfl h.1.2.1 rfl rfl agg_32 rfl rfl) rfl) ⟨⟨rfl, rfl, trivial⟩, trivial, trivial⟩ ?_
          iterate 2 refine dgn hb332 ?_
          obtain ⟨y335, h336, hF⟩ := bs hF
          refine dr_cons { need := [(82, .pv (.bool (y7.fName == y330.fName))), (88, .pv (.str y7.fName)), (86, .pv (.agg (eGClass y333)))], dst := some 89, val := some (.pv (.int .i64 y335)) } (fun m h => step_on (guard_on rfl rfl rfl h.1.1 hb332) (op_call 2 rfl (caps := []) (args := [.agg (eGClass y333), .str y7.fName]) (rs := [.p (.int .i64 y335)]) rfl rfl (evl_cons h.1.2.2.1 (evl_cons h.1.2.1 evl_nil)) cal_60 (ref22_place_ok h336) rfl rfl rfl) rfl) ⟨⟨rfl, rfl, rfl, trivial⟩, trivial, trivial⟩ ?_
          refine dr_cons { need := [(82, .pv (.bool (y7.fName == y330.fName))), (3, .pv (.int .i64 a3))], dst := some 90, val := some (.pv (.int .i64 a3)) } (fun m h => step_on (guard_on rfl rfl rfl h.1.1 hb332) (op_move rfl h.1.2.1 rfl rfl) rfl) ⟨⟨rfl, rfl, trivial⟩, trivial, trivial⟩ ?_
          refine dr_cons { need := [(82, .pv (.bool (y7.fName == y330.fName))), (89, .pv (.int .i64 y335)), (90, .pv (.int .i64 a3))], dst := some 91, val := some (.pv (.bool (y335 == a3))) } (fun m h => step_on (guard_on rfl rfl rfl h.1.1 hb332) (op_int (k := .i64) (m := y335) (n := a3) rfl h.1.2.1 h.1.2.2.1 rfl rfl rfl) rfl) ⟨⟨rfl, rfl, rfl, trivial⟩, trivial, trivial⟩ ?_
          refine dr_cons { need := [(82, .pv (.bool (y7.fName == y330.fName))), (91, .pv (.bool (y335 == a3)))], dst := some 92, val := some (.pv (.bool (y335 == a3))) } (fun m h => step_on (guard_no rfl) (op_pick_t rfl h.1.1 hb332 h.1.2.1 rfl rfl) rfl) ⟨⟨rfl, rfl, trivial⟩, trivial, trivial⟩ ?_
          refine dr_nil mixed rfl (by kernel_rfl) ?_
          refine piz (sX 93 [pf 0 (.vs 7 (List.map eGClass a0)), pf 1 (.vs 2 (List.map eGCall_ref22 a1)), pf 2 (.int .i64 a2), pf 3 (.int .i64 a3), (9, some (.lp 0 0)), pf 10 (.int .i64 x120), pf 11 (.int .i64 x269), pf 92 (.bool (y335 == a3))] [bf 0 40 (eGMethod y7)] 1) [0] ?_
          cases hF
          exact pcz [0]
         iterate 9 refine dro_f hb332 ?_
         refine drpf hb332 ?_
         refine dr_nil mixed rfl (by kernel_rfl) ?_
         refine piz (sX 93 [pf 0 (.vs 7 (List.map eGClass a0)), pf 1 (.vs 2 (List.map eGCall_ref22 a1)), pf 2 (.int .i64 a2), pf 3 (.int .i64 a3), (9, some (.lp 0 0)), pf 10 (.int .i64 x120), pf 11 (.int .i64 x269), pf 92 (.bool false)] [bf 0 40 (eGMethod y7)] 1) [0] ?_
         cases hF
         exact pcz [0]
        iterate 8 refine dro_f hb329 ?_
        refine drpf hb329 ?_
        refine dgo ?_
        iterate 9 refine dro_f rfl ?_
        refine drpf rfl ?_
        refine dr_nil mixed rfl (by kernel_rfl) ?_
        refine piz (sX 93 [pf 0 (.vs 7 (List.map eGClass a0)), pf 1 (.vs 2 (List.map eGCall_ref22 a1)), pf 2 (.int .i64 a2), pf 3 (.int .i64 a3), (9, some (.lp 0 0)), pf 10 (.int .i64 x120), pf 11 (.int .i64 x269), pf 92 (.bool false)] [bf 0 40 (eGMethod y7)] 1) [0] ?_
        cases hF
        exact pcz [0]
       iterate 6 refine dro_f hb326 ?_
       refine drpf hb326 ?_
       refine dgo ?_
       iterate 8 refine dro_f rfl ?_
       refine drpf rfl ?_
       refine dgo ?_
       iterate 9 refine dro_f rfl ?_
       refine drpf rfl ?_
       refine dr_nil mixed rfl (by kernel_rfl) ?_
       refine piz (sX 93 [pf 0 (.vs 7 (List.map eGClass a0)), pf 1 (.vs 2 (List.map eGCall_ref22 a1)), pf 2 (.int .i64 a2), pf 3 (.int .i64 a3), (9, some (.lp 0 0)), pf 10 (.int .i64 x120), pf 11 (.int .i64 x269), pf 92 (.bool false)] [bf 0 40 (eGMethod y7)] 1) [0] ?_
       cases hF
       exact pcz [0]
      iterate 12 refine dro_f hb319 ?_
      refine drpf hb319 ?_
      refine dgo ?_
      iterate 6 refine dro_f rfl ?_
      refine drpf rfl ?_
      refine dgo ?_
      iterate 8 refine dro_f rfl ?_
      refine drpf rfl ?_
      refine dgo ?_
      iterate 9 refine dro_f rfl ?_
      refine drpf rfl ?_
      refine dr_nil mixed rfl (by kernel_rfl) ?_
      refine piz (sX 93 [pf 0 (.vs 7 (List.map eGClass a0)), pf 1 (.vs 2 (List.map eGCall_ref22 a1)), pf 2 (.int .i64 a2), pf 3 (.int .i64 a3), (9, some (.lp 0 0)), pf 10 (.int .i64 x120), pf 11 (.int .i64 x269), pf 92 (.bool false)] [bf 0 40 (eGMethod y7)] 1) [0] ?_
      cases hF
      exact pcz [0]
     have hF := hK339
     refine go ?_
     refine cnd hF (fun hb340 hF => ?_) fun hb340 hF => ?_
     ·iterate 7 refine go ?_
      refine post_lp_ret ?_
      cases hF
      have hF := elim_stop hK343
      iterate 3 refine go ?_
      refine post_lp_ret ?_
      cases hF
      have hF := elim_stop hK346
      refine go ?_
      cases hF
      exact prt
     iterate 7 refine go ?_
     refine rnr ?_
     exact rnd_back (ih (w_i64 (x269 + 1)) hF) (impz [0])
    refine aw_exit ?_
    iterate 2 refine post_then_exit ?_
    cases hF
    exact post_lp_break _ ⟨_, rfl, rfl⟩ (impz [0])
   rintro _ ⟨⟨⟩, rfl, rfl⟩
   have hF := elim_next hK343
   clear hK343
   iterate 6 refine go ?_
   refine rnr ?_
   exact rnd_back (ih (w_i64 (x120 + 1)) hF) (impz [0])
  refine aw_exit ?_
  iterate 2 refine post_then_exit ?_
  cases hF
  exact post_lp_break _ ⟨_, rfl, rfl⟩ (impz [])
 rintro _ ⟨⟨⟩, rfl, rfl⟩
 have hF := elim_next hK346
 clear hK346
 iterate 5 refine go ?_
 cases hF
 exact prt
theorem ref12_lines_ring : ∀ n : Nat, (∀ (a0 : List GStmt) (a1 : GLine_ref12) (r : (List GLine_ref12)), ref12_lines n a0 a1 = some r → FZ 22 [.vs 23 (eLGStmt a0), .agg (eGLine_ref12 a1)] [.own 50 26 (List.map eGLine_ref12 r)]) := by
 intro n
 induction n with
 | zero => exact (fun _ _ _ h => by simp [ref12_lines] at h)
 | succ n ih =>
  have ref12_lines_ih := ih
  clear ih
  intro a0 a1 r hF
  unfold ref12_lines at hF
  revert hF ref12_lines_ih
  generalize ref12_lines n = ref12_lines_rec
  intro ref12_lines_ih hF
  refine fn_of_body (n := 47) Tryz.func22 rfl rfl rfl fun w O => ?_
  refine go ?_
  refine rgp (bo 0) ?_
  iterate 4 refine go ?_
  refine reg_imp (imp_nil_own 5 50 26 1 rfl rfl) ?_
  iterate 5 refine go ?_
  obtain ⟨x106, hF, hK107⟩ := bs hF
  refine aw_for ((a0.length - 0 : Int).toNat + 1) (fun s1 => s1 = (sX 47 [(5, some (.ls 0))] [(0, some (.row 50 26 (List.map eGLine_ref12 x106)))] 1)) ?_ ?_
  ·refine rnd_loop (α := (List GLine_ref12) × Int) (fun q => (sX 47 [pf 0 (.vs 23 (eLGStmt a0)), (3, some (.lp 0 0)), (5, some (.ls 1)), pf 6 (.int .i64 q.2)] [bf 0 50 (eGLine_ref12 a1), (1, some (.row 50 26 (List.map eGLine_ref12 q.1)))] 2)) (fun k q => ref12_lines_L1 a0 a1 ref12_lines_rec k q.1 q.2 = some x106) ([], 0) (impz [0, 1]) hF (fun q h => by cases h) ?_
   clear hF
   rintro k ⟨x34, x35⟩ hF ih
   refine rnd_succ ?_
   iterate 4 refine go ?_
   refine rgp (op_len_vs (n := a0.length) rfl rfl (lenR eLGStmt_map) slc_38 rfl rfl) ?_
   iterate 2 refine go ?_
   refine cnd hF (fun hb71 hF => ?_) fun hb71 hF => ?_
   ·iterate 2 refine go ?_
    refine aw_seq ?_
    refine aw_block ?_
    refine go ?_
    refine rgp (la (eGLine_ref12 a1) agg_50) ?_
    refine rgp (al 2 (eGLine_ref12 zGLine_ref12) zer_50) ?_
    iterate 5 refine go ?_
    obtain ⟨y74, h75, hF⟩ := bs hF
    refine rgp (ix (idxR eLGStmt_map h75) slc_38) ?_
    refine rgp (lw (eGStmt y74) agg_48) ?_
    iterate 5 refine go ?_
    refine rgp (la (eGLine_ref12 ({ a1 with fS := y74 } : GLine_ref12)) agg_50) ?_
    refine rgp (op_lit (rows := List.map eGLine_ref12 ([({ a1 with fS := y74 } : GLine_ref12)] : List GLine_ref12)) (zs := (eGLine_ref12 zGLine_ref12)) rfl rfl slc_25 zer_50 (by exact ⟨rfl, rfl, rfl, rfl, rfl, rfl, rfl, rfl, rfl, rfl, rfl, rfl, rfl, rfl, rfl, rfl, rfl, rfl, rfl, rfl, rfl, trivial, trivial, trivial, trivial, rfl, trivial⟩) rfl rfl rfl rfl rfl rfl rfl rfl) ?_
    obtain ⟨u78, h79, hF⟩ := bs hF
    refine rgp (op_append 3 rfl rfl rfl rfl rfl slc_25 elm_50 zer_50 rfl rfl rfl (room_map (f := eGLine_ref12) (g := eGLine_ref12) h79) (List.map_append (f := eGLine_ref12) (l₁ := x34) (l₂ := [({ a1 with fS := y74 } : GLine_ref12)])).symm rfl rfl) ?_
    iterate 9 refine go ?_
    refine aw_seq ?_
    refine aw_imp (imp_names 1) ?_
    refine dr_start ⟨_, _, _⟩ rfl ?_
    iterate 3 refine dgo ?_
    obtain ⟨y86, h87, hF⟩ := bs hF
    refine dr_cons { need := [(29, .pv (.vs 23 (eLGStmt a0))), (30, .pv (.int .i64 x35))], dst := some 31, val := some (.pv (.vp (eGStmt y86))) } (fun m h => step_on (guard_no rfl) (op_index_vs (k := .i64) rfl h.1.1 h.1.2.1 (idxR eLGStmt_map h87) slc_38 rfl rfl) rfl) ⟨⟨rfl, rfl, trivial⟩, trivial, trivial⟩ ?_
    refine dr_cons { need := [(31, .pv (.vp (eGStmt y86)))], dst := some 32, val := some (.pv (.vp (List.drop 20 (eGStmt y86)))) } (fun m h => step_on (guard_no rfl) (op_field_vp rfl h.1.1 fld_48_7 rfl rfl) rfl) ⟨⟨rfl, trivial⟩, trivial, trivial⟩ ?_
    refine dr_cons { need := [(32, .pv (.vp (List.drop 20 (eGStmt y86))))], dst := some 33, val := some (.pv (.vs 23 (eLGStmt y86.fBody))) } (fun m h => step_on (guard_no rfl) (op_load_vp (p := .vs 23 (eLGStmt y86.fBody)) rfl h.1.1 rfl one_38 rfl rfl) rfl) ⟨⟨rfl, trivial⟩, trivial, trivial⟩ ?_
    refine dr_cons { need := [(7, .lp 2 0)], hneed := [(2, .box 50 (bxv (eGLine_ref12 ({ ({ a1 with fS := y74 } : GLine_ref12) with fDeep := w_i64 ((({ a1 with fS := y74 } : GLine_ref12).fDeep) + 1) } : GLine_ref12))))], dst := some 34, val := some (.pv (.agg (eGLine_ref12 ({ ({ a1 with fS := y74 } : GLine_ref12) with fDeep := w_i64 ((({ a1 with fS := y74 } : GLine_ref12).fDeep) + 1) } : GLine_ref12)))) } (fun m h => step_on (guard_no rfl) (op_load_lp_agg (ps := eGLine_ref12 ({ ({ a1 with fS := y74 } : GLine_ref12) with fDeep := w_i64 ((({ a1 with fS := y74 } : GLine_ref12).fDeep) + 1) } : GLine_ref12)) rfl h.1.1 h.2.1.1 rfl rfl rfl agg_50 rfl rfl) rfl) ⟨⟨rfl, trivial⟩, ⟨rfl, trivial⟩, trivial⟩ ?_
    obtain ⟨y88, h89, hF⟩ := bs hF
    refine dr_cons { need := [(34, .pv (.agg (eGLine_ref12 ({ ({ a1 with fS := y74 } : GLine_ref12) with fDeep := w_i64 ((({ a1 with fS := y74 } : GLine_ref12).fDeep) + 1) } : GLine_ref12)))), (33, .pv (.vs 23 (eLGStmt y86.fBody)))], dst := some 35, val := some (.pv (.vs 26 (List.map eGLine_ref12 y88))) } (fun m h => step_on (guard_no rfl) (op_call 5 rfl (caps := []) (args := [.vs 23 (eLGStmt y86.fBody), .agg (eGLine_ref12 ({ ({ a1 with fS := y74 } : GLine_ref12) with fDeep := w_i64 ((({ a1 with fS := y74 } : GLine_ref12).fDeep) + 1) } : GLine_ref12))]) (rs := [.p (.vs 26 (List.map eGLine_ref12 y88))]) rfl rfl (evl_cons h.1.2.1 (evl_cons h.1.1 evl_nil)) cal_22 (Fn.frozen (ref12_lines_ih _ _ _ h89)) rfl rfl rfl) rfl) ⟨⟨rfl, rfl, trivial⟩, trivial, trivial⟩ ?_
    obtain ⟨u90, h91, hF⟩ := bs hF
    refine dr_cons { need := [(28, .ls 3), (35, .pv (.vs 26 (List.map eGLine_ref12 y88)))], hneed := [(3, .row 50 26 (List.map eGLine_ref12 (x34 ++ [({ a1 with fS := y74 } : GLine_ref12)])))], names := [4], dst := some 36, val := some (.ls 4), upd := [(4, some (.row 50 26 (List.map eGLine_ref12 ((x34 ++ [({ a1 with fS := y74 } : GLine_ref12)]) ++ y88)))), (3, none)] } (fun m h => step_on (guard_no rfl) (op_append 4 (fresh_free h.2.2.1) rfl h.1.1 h.2.1.1 h.1.2.1 slc_25 elm_50 zer_50 rfl rfl rfl (room_map (f := eGLine_ref12) (g := eGLine_ref12) h91) (List.map_append (f := eGLine_ref12) (l₁ := (x34 ++ [({ a1 with fS := y74 } : GLine_ref12)])) (l₂ := y88)).symm rfl rfl) rfl) ⟨⟨rfl, rfl, trivial⟩, ⟨rfl, trivial⟩, ⟨rfl, trivial⟩⟩ ?_
    refine dr_cons { need := [(36, .ls 4)], dst := some 5, val := some (.ls 4) } (fun m h => step_on (guard_no rfl) (op_assign rfl h.1.1 rfl rfl) rfl) ⟨⟨rfl, trivial⟩, trivial, trivial⟩ ?_
    refine dr_nil mixed rfl (by kernel_rfl) ?_
    refine piz (sX 47 [pf 0 (.vs 23 (eLGStmt a0)), (3, some (.lp 0 0)), (5, some (.ls 1)), pf 6 (.int .i64 x35), (7, some (.lp 2 0))] [bf 0 50 (eGLine_ref12 a1), (1, some (.row 50 26 (List.map eGLine_ref12 ((x34 ++ [({ a1 with fS := y74 } : GLine_ref12)]) ++ y88)))), bf 2 50 (eGLine_ref12 ({ ({ a1 with fS := y74 } : GLine_ref12) with fDeep := w_i64 ((({ a1 with fS := y74 } : GLine_ref12).fDeep) + 1) } : GLine_ref12))] 3) [0, 4, 2] ?_
    refine go ?_
    refine aw_imp (imp_names 1) ?_
    refine dr_start ⟨_, _, _⟩ rfl ?_
    iterate 3 refine dgo ?_
    obtain ⟨y98, h99, hF⟩ := bs hF
    refine dr_cons { need := [(38, .pv (.vs 23 (eLGStmt a0))), (39, .pv (.int .i64 x35))], dst := some 40, val := some (.pv (.vp (eGStmt y98))) } (fun m h => step_on (guard_no rfl) (op_index_vs (k := .i64) rfl h.1.1 h.1.2.1 (idxR eLGStmt_map h99) slc_38 rfl rfl) rfl) ⟨⟨rfl, rfl, trivial⟩, trivial, trivial⟩ ?_
    refine dr_cons { need := [(40, .pv (.vp (eGStmt y98)))], dst := some 41, val := some (.pv (.vp (List.drop 21 (eGStmt y98)))) } (fun m h => step_on (guard_no rfl) (op_field_vp rfl h.1.1 fld_48_8 rfl rfl) rfl) ⟨⟨rfl, trivial⟩, trivial, trivial⟩ ?_
    refine dr_cons { need := [(41, .pv (.vp (List.drop 21 (eGStmt y98))))], dst := some 42, val := some (.pv (.vs 23 (eLGStmt y98.fElse))) } (fun m h => step_on (guard_no rfl) (op_load_vp (p := .vs 23 (eLGStmt y98.fElse)) rfl h.1.1 rfl one_38 rfl rfl) rfl) ⟨⟨rfl, trivial⟩, trivial, trivial⟩ ?_
    refine dr_cons { need := [(7, .lp 2 0)], hneed := [(2, .box 50 (bxv (eGLine_ref12 ({ ({ a1 with fS := y74 } : GLine_ref12) with fDeep := w_i64 ((({ a1 with fS := y74 } : GLine_ref12).fDeep) + 1) } : GLine_ref12))))], dst := some 43, val := some (.pv (.agg (eGLine_ref12 ({ ({ a1 with fS := y74 } : GLine_ref12) with fDeep := w_i64 ((({ a1 with fS := y74 } : GLine_ref12).fDeep) + 1) } : GLine_ref12)))) } (fun m h => step_on (guard_no rfl) (op_load_lp_agg (ps := eGLine_ref12 ({ ({ a1 with fS := y74 } : GLine_ref12) with fDeep := w_i64 ((({ a1 with fS := y74 } : GLine_ref12).fDeep) + 1) } : GLine_ref12)) rfl h.1.1 h.2.1.1 rfl rfl rfl agg_50 rfl rfl) rfl) ⟨⟨rfl, trivial⟩, ⟨rfl, trivial⟩, trivial⟩ ?_
    obtain ⟨y100, h101, hF⟩ := bs hF
    refine dr_cons { need := [(43, .pv (.agg (eGLine_ref12 ({ ({ a1 with fS := y74 } : GLine_ref12) with fDeep := w_i64 ((({ a1 with fS := y74 } : GLine_ref12).fDeep) + 1) } : GLine_ref12)))), (42, .pv (.vs 23 (eLGStmt y98.fElse)))], dst := some 44, val := some (.pv (.vs 26 (List.map eGLine_ref12 y100))) } (fun m h => step_on (guard_no rfl) (op_call 4 rfl (caps := []) (args := [.vs 23 (eLGStmt y98.fElse), .agg (eGLine_ref12 ({ ({ a1 with fS := y74 } : GLine_ref12) with fDeep := w_i64 ((({ a1 with fS := y74 } : GLine_ref12).fDeep) + 1) } : GLine_ref12))]) (rs := [.p (.vs 26 (List.map eGLine_ref12 y100))]) rfl rfl (evl_cons h.1.2.1 (evl_cons h.1.1 evl_nil)) cal_22 (Fn.frozen (ref12_lines_ih _ _ _ h101)) rfl rfl rfl) rfl) ⟨⟨rfl, rfl, trivial⟩, trivial, trivial⟩ ?_
    obtain ⟨u102, h103, hF⟩ := bs hF
    refine dr_cons { need := [(37, .ls 1), (44, .pv (.vs 26 (List.map eGLine_ref12 y100)))], hneed := [(1, .row 50 26 (List.map eGLine_ref12 ((x34 ++ [({ a1 with fS := y74 } : GLine_ref12)]) ++ y88)))], names := [3], dst := some 45, val := some (.ls 3), upd := [(3, some (.row 50 26 (List.map eGLine_ref12 (((x34 ++ [({ a1 with fS := y74 } : GLine_ref12)]) ++ y88) ++ y100)))), (1, none)] } (fun m h => step_on (guard_no rfl) (op_append 3 (fresh_free h.2.2.1) rfl h.1.1 h.2.1.1 h.1.2.1 slc_25 elm_50 zer_50 rfl rfl rfl (room_map (f := eGLine_ref12) (g := eGLine_ref12) h103) (List.map_append (f := eGLine_ref12) (l₁ := ((x34 ++ [({ a1 with fS := y74 } : GLine_ref12)]) ++ y88)) (l₂ := y100)).symm rfl rfl) rfl) ⟨⟨rfl, rfl, trivial⟩, ⟨rfl, trivial⟩, ⟨rfl, trivial⟩⟩ ?_
    refine dr_cons { need := [(45, .ls 3)], dst := some 5, val := some (.ls 3) } (fun m h => step_on (guard_no rfl) (op_assign rfl h.1.1 rfl rfl) rfl) ⟨⟨rfl, trivial⟩, trivial, trivial⟩ ?_
    refine dr_nil mixed rfl (by kernel_rfl) ?_
    refine piz (sX 47 [pf 0 (.vs 23 (eLGStmt a0)), (3, some (.lp 0 0)), (5, some (.ls 1)), pf 6 (.int .i64 x35)] [bf 0 50 (eGLine_ref12 a1), (1, some (.row 50 26 (List.map eGLine_ref12 (((x34 ++ [({ a1 with fS := y74 } : GLine_ref12)]) ++ y88) ++ y100))))] 2) [0, 3] ?_
    iterate 6 refine go ?_
    refine rnr ?_
    exact rnd_back (ih ((((x34 ++ [({ a1 with fS := y74 } : GLine_ref12)]) ++ y88) ++ y100), w_i64 (x35 + 1)) hF) (impz [0, 1])
   refine aw_exit ?_
   iterate 2 refine post_then_exit ?_
   cases hF
   exact post_lp_break _ rfl (impz [1])
  rintro _ rfl
  have hF := hK107
  iterate 6 refine go ?_
  cases hF
  exact post_ret rfl rfl (.cons _ _ _ _ _ (.tmp _ _ rfl) (.own _ _ _ _ rfl nolent3) .nil) (.inl rfl)
theorem ref12_lines_ok {n : Nat} {a0 : List GStmt} {a1 : GLine_ref12} {r : (List GLine_ref12)} (hF : ref12_lines n a0 a1 = some r) : FZ 22 [.vs 23 (eLGStmt a0), .agg (eGLine_ref12 a1)] [.own 50 26 (List.map eGLine_ref12 r)] := (ref12_lines_ring n) _ _ _ hF

theorem ref12_Stmts_ok {a0 : List GClass} {r : (List GLine_ref12)} (hF : ref12_Stmts a0 = some r) : FZ 8 [.vs 7 (List.map eGClass a0)] [.own 50 26 (List.map eGLine_ref12 r)] := by
 unfold ref12_Stmts at hF
 refine fn_of_body (n := 38) Tryz.func8 rfl rfl rfl fun w O => ?_
 iterate 5 refine go ?_
 refine reg_imp (imp_nil_own 3 50 26 0 rfl rfl) ?_
 iterate 5 refine go ?_
 obtain ⟨x229, hF, hK230⟩ := bs hF
 refine aw_for ((a0.length - 0 : Int).toNat + 1) (fun s1 => s1 = (sX 38 [(3, some (.ls 0))] [(0, some (.row 50 26 (List.map eGLine_ref12 x229)))] 1)) ?_ ?_
 ·refine rnd_loop (α := (List GLine_ref12) × Int) (fun q => (sX 38 [pf 0 (.vs 7 (List.map eGClass a0)), (3, some (.ls 0)), pf 4 (.int .i64 q.2)] [(0, some (.row 50 26 (List.map eGLine_ref12 q.1)))] 1)) (fun k q => ref12_Stmts_L1 a0 k q.1 q.2 = some x229) ([], 0) (impz [0]) hF (fun q h => by cases h) ?_
  clear hF
  rintro k ⟨x75, x76⟩ hF ih
  refine rnd_succ ?_
  iterate 7 refine go ?_
  refine cnd hF (fun hb153 hF => ?_) fun hb153 hF => ?_
  ·iterate 2 refine go ?_
   refine aw_seq ?_
   refine aw_block ?_
   iterate 3 refine go ?_
   obtain ⟨x223, hF, hK224⟩ := bs hF
   refine aw_for (Option.getD (Option.bind (idx a0 x76) fun (y225 : GClass) => some ((y225.fMethods.length - 0 : Int).toNat + 1)) 1) (fun s1 => s1 = (sX 38 [pf 0 (.vs 7 (List.map eGClass a0)), (3, some (.ls 0)), pf 4 (.int .i64 x76)] [(0, some (.row 50 26 (List.map eGLine_ref12 x223)))] 1)) ?_ ?_
   ·refine rnd_loop (α := (List GLine_ref12) × Int) (fun q => (sX 38 [pf 0 (.vs 7 (List.map eGClass a0)), (3, some (.ls 0)), pf 4 (.int .i64 x76), pf 5 (.int .i64 q.2)] [(0, some (.row 50 26 (List.map eGLine_ref12 q.1)))] 1)) (fun k q => ref12_Stmts_L2 a0 x76 k q.1 q.2 = some x223) (x75, 0) (impz [0]) hF (fun q h => by cases h) ?_
    clear hF
    rintro k ⟨x175, x176⟩ hF ih
    refine rnd_succ ?_
    iterate 5 refine go ?_
    obtain ⟨y202, h203, hF⟩ := bs hF
    refine rgp (ix (idx_map eGClass h203) slc_22) ?_
    iterate 5 refine go ?_
    refine cnd hF (fun hb204 hF => ?_) fun hb204 hF => ?_
    ·iterate 2 refine go ?_
     refine aw_seq ?_
     refine aw_block ?_
     iterate 4 refine go ?_
     obtain ⟨y213, h214, hF⟩ := bs hF
     refine rgp (ix (idx_map eGClass h214) slc_22) ?_
     iterate 3 refine go ?_
     obtain ⟨y215, h216, hF⟩ := bs hF
     refine rgp (ix (idx_map eGMethod h216) slc_30) ?_
     iterate 4 refine go ?_
     refine rgp (bd ((eGLine_ref12 zGLine_ref12)) (eGLine_ref12 ({ fClass := x76, fMethod := x176, fDeep := 0, fS := zGStmt } : GLine_ref12)) zer_50 plc_50) ?_
     obtain ⟨y217, h218, hF⟩ := bs hF
     refine rgp (cl 1 [.vs 23 (eLGStmt y215.fBody), .agg (eGLine_ref12 ({ fClass := x76, fMethod := x176, fDeep := 0, fS := zGStmt } : GLine_ref12))] [.p (.vs 26 (List.map eGLine_ref12 y217))] (Fn.frozen (ref12_lines_ok h218))) ?_
     obtain ⟨u219, h220, hF⟩ := bs hF
     refine rgp (op_append 1 rfl rfl rfl rfl rfl slc_25 elm_50 zer_50 rfl rfl rfl (room_map (f := eGLine_ref12) (g := eGLine_ref12) h220) (List.map_append (f := eGLine_ref12) (l₁ := x175) (l₂ := y217)).symm rfl rfl) ?_
     refine go ?_
     refine reg_nil ?_
     refine piz (sX 38 [pf 0 (.vs 7 (List.map eGClass a0)), (3, some (.ls 0)), pf 4 (.int .i64 x76), pf 5 (.int .i64 x176)] [(0, some (.row 50 26 (List.map eGLine_ref12 (x175 ++ y217))))] 1) [1] ?_
     iterate 6 refine go ?_
     refine rnr ?_
     exact rnd_back (ih ((x175 ++ y217), w_i64 (x176 + 1)) hF) (impz [0])
    refine aw_exit ?_
    iterate 2 refine post_then_exit ?_
    cases hF
    exact post_lp_break _ rfl (impz [0])
   rintro _ rfl
   have hF := hK224
   iterate 6 refine go ?_
   refine rnr ?_
   exact rnd_back (ih (x223, w_i64 (x76 + 1)) hF) (impz [0])
  refine aw_exit ?_
  iterate 2 refine post_then_exit ?_
  cases hF
  exact post_lp_break _ rfl (impz [0])
 rintro _ rfl
 have hF := hK230
 iterate 6 refine go ?_
 cases hF
 exact post_ret rfl rfl (.cons _ _ _ _ _ (.tmp _ _ rfl) (.own _ _ _ _ rfl nolent3) .nil) (.inl rfl)
theorem ref15_This_ok {a0 : GClass} {r : (List GOwner)} (hF : ref15_This a0 = some r) : FZ 146 [.agg (eGClass a0)] [.own 34 2 (List.map eGOwner r)] := by
 unfold ref15_This at hF
 refine fn_of_body (n := 21) Tryz.func146 rfl rfl rfl fun w O => ?_
 refine go ?_
 refine rgp (bo 0) ?_
 iterate 3 refine go ?_
 refine rgp (bd ((eGOwner zGOwner)) (eGOwner ({ fKind := 2, fN := 0 } : GOwner)) zer_34 plc_34) ?_
 refine rgp (op_litOwn 1 rfl (rows := List.map eGOwner ([({ fKind := 2, fN := 0 } : GOwner)] : List GOwner)) (zs := (eGOwner zGOwner)) rfl rfl slc_28 zer_34 (by exact ⟨rfl, rfl, trivial⟩) rfl rfl rfl rfl rfl rfl rfl rfl) ?_
 iterate 6 refine go ?_
 obtain ⟨x22, hF, hK23⟩ := bs hF
 refine aw_for ((a0.fParams.length - 0 : Int).toNat + 1) (fun s1 => s1 = (sX 21 [(3, some (.ls 0))] [(0, some (.row 34 2 (List.map eGOwner x22)))] 1)) ?_ ?_
 ·refine rnd_loop (α := (List GOwner) × Int) (fun q => (sX 21 [(1, some (.lp 0 0)), (3, some (.ls 1)), pf 4 (.int .i64 q.2)] [bf 0 32 (eGClass a0), (1, some (.row 34 2 (List.map eGOwner q.1)))] 2)) (fun k q => ref15_This_L1 a0 k q.1 q.2 = some x22) ([({ fKind := 2, fN := 0 } : GOwner)], 0) (impz [0, 1]) hF (fun q h => by cases h) ?_
  clear hF
  rintro k ⟨x6, x7⟩ hF ih
  refine rnd_succ ?_
  iterate 8 refine go ?_
  refine cnd hF (fun hb15 hF => ?_) fun hb15 hF => ?_
  ·iterate 2 refine go ?_
   refine aw_seq ?_
   refine aw_block ?_
   iterate 4 refine go ?_
   refine rgp (bd ((eGOwner zGOwner)) (eGOwner ({ fKind := 3, fN := w_i64 (x7 + 1) } : GOwner)) zer_34 plc_34) ?_
   refine rgp (op_lit (rows := List.map eGOwner ([({ fKind := 3, fN := w_i64 (x7 + 1) } : GOwner)] : List GOwner)) (zs := (eGOwner zGOwner)) rfl rfl slc_28 zer_34 (by exact ⟨rfl, rfl, trivial⟩) rfl rfl rfl rfl rfl rfl rfl rfl) ?_
   obtain ⟨u18, h19, hF⟩ := bs hF
   refine rgp (op_append 2 rfl rfl rfl rfl rfl slc_28 elm_34 zer_34 rfl rfl rfl (room_map (f := eGOwner) (g := eGOwner) h19) (List.map_append (f := eGOwner) (l₁ := x6) (l₂ := [({ fKind := 3, fN := w_i64 (x7 + 1) } : GOwner)])).symm rfl rfl) ?_
   refine go ?_
   refine reg_nil ?_
   refine piz (sX 21 [(1, some (.lp 0 0)), (3, some (.ls 1)), pf 4 (.int .i64 x7)] [bf 0 32 (eGClass a0), (1, some (.row 34 2 (List.map eGOwner (x6 ++ [({ fKind := 3, fN := w_i64 (x7 + 1) } : GOwner)]))))] 2) [0, 2] ?_
   iterate 6 refine go ?_
   refine rnr ?_
   exact rnd_back (ih ((x6 ++ [({ fKind := 3, fN := w_i64 (x7 + 1) } : GOwner)]), w_i64 (x7 + 1)) hF) (impz [0, 1])
  refine aw_exit ?_
  iterate 2 refine post_then_exit ?_
  cases hF
  exact post_lp_break _ rfl (impz [1])
 rintro _ rfl
 have hF := hK23
 iterate 6 refine go ?_
 cases hF
 exact post_ret rfl rfl (.cons _ _ _ _ _ (.tmp _ _ rfl) (.own _ _ _ _ rfl nolent3) .nil) (.inl rfl)
theorem ref18_This_ok {a0 : GClass} {r : GType} (hF : ref18_This a0 = some r) : FZ 110 [.agg (eGClass a0)] [.p (.agg (eGType r))] := by
 unfold ref18_This at hF
 refine fn_of_body (n := 29) Tryz.func110 rfl rfl rfl fun w O => ?_
 refine go ?_
 refine rgp (bo 0) ?_
 refine rgp (al 1 (eGType zGType) zer_37) ?_
 iterate 7 refine go ?_
 refine rgp (op_min2 rfl rfl rfl rfl rfl) ?_
 refine rgp (bd ((eGType zGType)) (eGType ({ fKind := 2, fClass := a0.fName, fN := (if (a0.fParams.length : Int) < 3 then (a0.fParams.length : Int) else 3), fOwn := (⟨zGOwner, zGOwner, zGOwner, zGOwner⟩ : A4 GOwner) } : GType)) zer_37 plc_37) ?_
 refine rgp (al 2 (eGType zGType) zer_37) ?_
 iterate 3 refine go ?_
 refine rgp (la (eGClass a0) agg_32) ?_
 obtain ⟨y3, h4, hF⟩ := bs hF
 refine rgp (cl 3 [.agg (eGClass a0)] [.p (.vs 2 (List.map eGOwner y3))] (Fn.frozen (ref15_This_ok h4))) ?_
 iterate 6 refine go ?_
 obtain ⟨x34, hF, hK35⟩ := bs hF
 refine aw_for 5 (fun s1 => s1 = (sX 29 [(2, some (.lp 0 0)), (3, some (.lp 1 0))] [bf 0 37 (eGType zGType), bf 1 37 (eGType x34)] 2)) ?_ ?_
 ·refine rnd_loop (α := GType × Int) (fun q => (sX 29 [(2, some (.lp 0 0)), (3, some (.lp 1 0)), pf 4 (.vs 2 (List.map eGOwner y3)), pf 5 (.int .i64 q.2)] [bf 0 37 (eGType zGType), bf 1 37 (eGType q.1)] 2)) (fun k q => ref18_This_L1 y3 k q.1 q.2 = some x34) (({ fKind := 2, fClass := a0.fName, fN := (if (a0.fParams.length : Int) < 3 then (a0.fParams.length : Int) else 3), fOwn := (⟨zGOwner, zGOwner, zGOwner, zGOwner⟩ : A4 GOwner) } : GType), 0) (impz [1, 2]) hF (fun q h => by cases h) ?_
  clear hF
  rintro k ⟨x10, x11⟩ hF ih
  refine rnd_succ ?_
  iterate 7 refine go ?_
  refine cnd hF (fun hb23 hF => ?_) fun hb23 hF => ?_
  ·iterate 2 refine go ?_
   refine aw_seq ?_
   refine aw_block ?_
   iterate 4 refine go ?_
   obtain ⟨y28, h29, hF⟩ := bs hF
   refine rgp (ix (idx_map eGOwner h29) slc_28) ?_
   refine rgp (lw (eGOwner y28) agg_34) ?_
   refine go ?_
   obtain ⟨y30, h31, hF⟩ := bs hF
   refine rgp (op_arr_lpN (l := (x10.fOwn).l) rfl rfl rfl arr_35 rfl h31 rfl rfl) ?_
   refine rgp (op_store_lpV (cells' := bxv (eGType ({ x10 with fOwn := (A4.set x10.fOwn (x11 : Int).toNat y28) } : GType))) (n := 2) rfl rfl rfl rfl rfl (or_agg agg_34) (by rw [non_34]; rfl) (by rcases idx_l4 h31 with e | e | e | e <;> rw [e] <;> exact Nat.le_of_ble_eq_true rfl) (by rcases idx_l4 h31 with e | e | e | e <;> rw [e] <;> rfl) rfl rfl) ?_
   refine reg_nil ?_
   refine piz (sX 29 [(2, some (.lp 0 0)), (3, some (.lp 1 0)), pf 4 (.vs 2 (List.map eGOwner y3)), pf 5 (.int .i64 x11)] [bf 0 37 (eGType zGType), bf 1 37 (eGType ({ x10 with fOwn := (A4.set x10.fOwn (x11 : Int).toNat y28) } : GType))] 2) [0, 1] ?_
   iterate 6 refine go ?_
   refine rnr ?_
   exact rnd_back (ih (({ x10 with fOwn := (A4.set x10.fOwn (x11 : Int).toNat y28) } : GType), w_i64 (x11 + 1)) hF) (impz [0, 1])
  refine aw_exit ?_
  iterate 2 refine post_then_exit ?_
  cases hF
  exact post_lp_break _ rfl (impz [0, 1])
 rintro _ rfl
 have hF := hK35
 iterate 2 refine go ?_
 refine rgp (la (eGType x34) agg_37) ?_
 iterate 3 refine go ?_
 cases hF
 exact post_ret rfl rfl (.cons _ _ _ _ _ (.agg _ _ _ _ _ 11 _ _ rfl rfl agg_37 rfl rfl rfl) (.p _) .nil) (.inl rfl)
theorem ref12_Vars_ok {a0 : GMethod} {r : (List GVar)} (hF : ref12_Vars a0 = some r) : FZ 112 [.agg (eGMethod a0)] [.own 99 13 (List.map eGVar r)] := by
 unfold ref12_Vars at hF
 refine fn_of_body (n := 10) Tryz.func112 rfl rfl rfl fun w O => ?_
 refine go ?_
 refine rgp (bo 0) ?_
 iterate 2 refine go ?_
 refine aw_seq ?_
 refine aw_imp (imp_names 3) ?_
 refine dr_start ⟨_, _, _⟩ rfl ?_
 refine dr_cons { names := [1], dst := some 3, val := some (.ls 1), upd := [(1, some (.row 99 13 (List.map eGVar ([] : List GVar))))] } (fun m h => step_on (guard_no rfl) (op_litOwn 1 (fresh_free h.2.2.1) (rows := List.map eGVar ([] : List GVar)) (zs := (eGVar zGVar)) rfl rfl slc_29 zer_99 (by exact ⟨rfl, rfl, rfl, rfl, rfl, rfl, rfl, rfl, rfl, rfl, rfl, rfl, rfl, trivial⟩) rfl rfl rfl evs_nil rfl rfl rfl rfl) rfl) ⟨trivial, trivial, ⟨rfl, trivial⟩⟩ ?_
 iterate 2 refine dgo ?_
 obtain ⟨u1, h2, hF⟩ := bs hF
 refine dr_cons { need := [(3, .ls 1), (5, .pv (.vs 13 (List.map eGVar a0.fParams)))], hneed := [(1, .row 99 13 (List.map eGVar ([] : List GVar)))], names := [2], dst := some 6, val := some (.ls 2), upd := [(2, some (.row 99 13 (List.map eGVar (([] : List GVar) ++ a0.fParams)))), (1, none)] } (fun m h => step_on (guard_no rfl) (op_append 2 (fresh_free h.2.2.1) rfl h.1.1 h.2.1.1 h.1.2.1 slc_29 elm_99 zer_99 rfl rfl rfl (room_map (f := eGVar) (g := eGVar) h2) (List.map_append (f := eGVar) (l₁ := ([] : List GVar)) (l₂ := a0.fParams)).symm rfl rfl) rfl) ⟨⟨rfl, rfl, trivial⟩, ⟨rfl, trivial⟩, ⟨rfl, trivial⟩⟩ ?_
 iterate 2 refine dgo ?_
 obtain ⟨u3, h4, hF⟩ := bs hF
 refine dr_cons { need := [(6, .ls 2), (8, .pv (.vs 13 (List.map eGVar a0.fLocals)))], hneed := [(2, .row 99 13 (List.map eGVar (([] : List GVar) ++ a0.fParams)))], names := [3], dst := some 9, val := some (.ls 3), upd := [(3, some (.row 99 13 (List.map eGVar ((([] : List GVar) ++ a0.fParams) ++ a0.fLocals)))), (2, none)] } (fun m h => step_on (guard_no rfl) (op_append 3 (fresh_free h.2.2.1) rfl h.1.1 h.2.1.1 h.1.2.1 slc_29 elm_99 zer_99 rfl rfl rfl (room_map (f := eGVar) (g := eGVar) h4) (List.map_append (f := eGVar) (l₁ := (([] : List GVar) ++ a0.fParams)) (l₂ := a0.fLocals)).symm rfl rfl) rfl) ⟨⟨rfl, rfl, trivial⟩, ⟨rfl, trivial⟩, ⟨rfl, trivial⟩⟩ ?_
 refine dr_cons { need := [(9, .ls 3)], dst := some 2, val := some (.ls 3) } (fun m h => step_on (guard_no rfl) (op_assign rfl h.1.1 rfl rfl) rfl) ⟨⟨rfl, trivial⟩, trivial, trivial⟩ ?_
 refine dr_nil mixed rfl (by kernel_rfl) ?_
 refine piz (sX 10 [(2, some (.ls 0))] [(0, some (.row 99 13 (List.map eGVar ((([] : List GVar) ++ a0.fParams) ++ a0.fLocals))))] 1) [3] ?_
 iterate 2 refine go ?_
 cases hF
 exact post_ret rfl rfl (.cons _ _ _ _ _ (.tmp _ _ rfl) (.own _ _ _ _ rfl nolent3) .nil) (.inl rfl)
theorem ref18_Place_ok {a0 : GMethod} {a1 : List UInt8} {r : Int} (hF : ref18_Place a0 a1 = some r) : FZ 111 [.agg (eGMethod a0), .str a1] [.p (.int .i64 r)] := by
 unfold ref18_Place at hF
 refine fn_of_body (n := 23) Tryz.func111 rfl rfl rfl fun w O => ?_
 refine go ?_
 refine rgp (bo 0) ?_
 iterate 3 refine go ?_
 refine rgp (la (eGMethod a0) agg_40) ?_
 obtain ⟨y3, h4, hF⟩ := bs hF
 refine rgp (cl 1 [.agg (eGMethod a0)] [.p (.vs 13 (List.map eGVar y3))] (Fn.frozen (ref12_Vars_ok h4))) ?_
 iterate 6 refine go ?_
 obtain ⟨lr26, hF, hK27⟩ := bs hF
 refine aw_for ((y3.length - 0 : Int).toNat + 1) (fun s1 => ∃ q, lr26 = .next q ∧ s1 = (sX 23 [] [] 0)) ?_ ?_
 ·refine rnd_loop (α := Int) (fun q => (sX 23 [pf 1 (.str a1), pf 5 (.vs 13 (List.map eGVar y3)), pf 6 (.int .i64 q)] [] 0)) (fun k q => ref18_Place_L1 a1 y3 k q = some lr26) 0 (impz []) hF (fun q h => by cases h) ?_
  clear hF
  rintro k x11 hF ih
  refine rnd_succ ?_
  iterate 7 refine go ?_
  refine cnd hF (fun hb19 hF => ?_) fun hb19 hF => ?_
  ·iterate 2 refine go ?_
   refine aw_seq ?_
   refine aw_block ?_
   iterate 3 refine go ?_
   obtain ⟨y22, h23, hF⟩ := bs hF
   refine rgp (ix (idx_map eGVar h23) slc_29) ?_
   iterate 3 refine go ?_
   refine rgp (op_str rfl rfl rfl rfl rfl rfl) ?_
   refine go ?_
   refine cnd hF (fun hb24 hF => ?_) fun hb24 hF => ?_
   ·iterate 8 refine go ?_
    refine post_lp_ret ?_
    cases hF
    have hF := elim_stop hK27
    refine go ?_
    cases hF
    exact prt
   iterate 7 refine go ?_
   refine rnr ?_
   exact rnd_back (ih (w_i64 (x11 + 1)) hF) (impz [])
  refine aw_exit ?_
  iterate 2 refine post_then_exit ?_
  cases hF
  exact post_lp_break _ ⟨_, rfl, rfl⟩ (impz [])
 rintro _ ⟨⟨⟩, rfl, rfl⟩
 have hF := elim_next hK27
 clear hK27
 iterate 5 refine go ?_
 cases hF
 exact prt
theorem ref18_Type_ok {a0 : GClass} {a1 : GMethod} {a2 : List UInt8} {r : GType × Bool} (hF : ref18_Type a0 a1 a2 = some r) : FZ 61 [.agg (eGClass a0), .agg (eGMethod a1), .str a2] [.p (.agg (eGType r.1)), .p (.bool r.2)] := by
 unfold ref18_Type at hF
 refine fn_of_body (n := 25) Tryz.func61 rfl rfl rfl fun w O => ?_
 refine go ?_
 refine rgp (bo 0) ?_
 refine rgp (bo 1) ?_
 refine rgp (al 2 (eGType zGType) zer_37) ?_
 iterate 5 refine go ?_
 refine rgp (op_str rfl rfl rfl rfl rfl rfl) ?_
 refine go ?_
 refine cnd hF (fun hb1 hF => ?_) fun hb1 hF => ?_
 ·refine go ?_
  refine rgp (la (eGClass a0) agg_32) ?_
  obtain ⟨y2, h3, hF⟩ := bs hF
  refine rgp (cl 3 [.agg (eGClass a0)] [.p (.agg (eGType y2))] (ref18_This_ok h3)) ?_
  iterate 5 refine go ?_
  cases hF
  exact post_ret rfl rfl (.cons _ _ _ _ _ (.agg _ _ _ _ _ 11 _ _ rfl rfl agg_37 rfl rfl rfl) (.p _) (.cons _ _ _ _ _ (.tmp _ _ rfl) (.p _) .nil)) (.inl rfl)
 iterate 3 refine go ?_
 refine rgp (la (eGMethod a1) agg_40) ?_
 refine go ?_
 obtain ⟨y6, h7, hF⟩ := bs hF
 refine rgp (cl 3 [.agg (eGMethod a1), .str a2] [.p (.int .i64 y6)] (ref18_Place_ok h7)) ?_
 iterate 7 refine go ?_
 refine cnd hF (fun hb8 hF => ?_) fun hb8 hF => ?_
 ·refine go ?_
  refine rgp (bd ((eGType zGType)) (eGType ({ fKind := 0, fClass := [], fN := 0, fOwn := (⟨zGOwner, zGOwner, zGOwner, zGOwner⟩ : A4 GOwner) } : GType)) zer_37 plc_37) ?_
  iterate 5 refine go ?_
  cases hF
  exact post_ret rfl rfl (.cons _ _ _ _ _ (.agg _ _ _ _ _ 11 _ _ rfl rfl agg_37 rfl rfl rfl) (.p _) (.cons _ _ _ _ _ (.tmp _ _ rfl) (.p _) .nil)) (.inl rfl)
 iterate 3 refine go ?_
 refine rgp (la (eGMethod a1) agg_40) ?_
 obtain ⟨y9, h10, hF⟩ := bs hF
 refine rgp (cl 3 [.agg (eGMethod a1)] [.p (.vs 13 (List.map eGVar y9))] (Fn.frozen (ref12_Vars_ok h10))) ?_
 refine go ?_
 obtain ⟨y11, h12, hF⟩ := bs hF
 refine rgp (ix (idx_map eGVar h12) slc_29) ?_
 refine go ?_
 refine rgp (lw (eGType y11.fType) agg_37) ?_
 iterate 4 refine go ?_
 cases hF
 exact post_ret rfl rfl (.cons _ _ _ _ _ (.agg _ _ _ _ _ 11 _ _ rfl rfl agg_37 rfl rfl rfl) (.p _) (.cons _ _ _ _ _ (.tmp _ _ rfl) (.p _) .nil)) (.inl rfl)
theorem ref22_calls_ok {a0 : List GClass} {a1 : Int} {a2 : GMethod} {r : (List GCall_ref22)} (hF : ref22_calls a0 a1 a2 = some r) : FZ 33 [.vs 7 (List.map eGClass a0), .int .i64 a1, .agg (eGMethod a2)] [.own 89 2 (List.map eGCall_ref22 r)] := by
 unfold ref22_calls at hF
 refine fn_of_body (n := 69) Tryz.func33 rfl rfl rfl fun w O => ?_
 refine go ?_
 refine rgp (bo 0) ?_
 iterate 5 refine go ?_
 obtain ⟨y3, h4, hF⟩ := bs hF
 refine rgp (ix (idx_map eGClass h4) slc_22) ?_
 refine rgp (lw (eGClass y3) agg_32) ?_
 refine rgp (al 1 (eGClass zGClass) zer_32) ?_
 iterate 3 refine go ?_
 refine rgp (la (eGMethod a2) agg_40) ?_
 refine rgp (op_lit (rows := List.map eGMethod ([a2] : List GMethod)) (zs := (eGMethod zGMethod)) rfl rfl slc_30 zer_40 (by exact ⟨rfl, rfl, rfl, rfl, rfl, rfl, rfl, rfl, rfl, rfl, rfl, rfl, rfl, trivial, trivial, trivial, rfl, trivial⟩) rfl rfl rfl rfl rfl rfl rfl rfl) ?_
 iterate 4 refine go ?_
 refine rgp (la (eGClass ({ y3 with fMethods := [a2] } : GClass)) agg_32) ?_
 refine rgp (op_lit (rows := List.map eGClass ([({ y3 with fMethods := [a2] } : GClass)] : List GClass)) (zs := (eGClass zGClass)) rfl rfl slc_22 zer_32 (by exact ⟨rfl, trivial, rfl, trivial, trivial, trivial, rfl, trivial⟩) rfl rfl rfl rfl rfl rfl rfl rfl) ?_
 obtain ⟨y7, h8, hF⟩ := bs hF
 refine rgp (cl 2 [.vs 7 (List.map eGClass [({ y3 with fMethods := [a2] } : GClass)])] [.p (.vs 26 (List.map eGLine_ref12 y7))] (Fn.frozen (ref12_Stmts_ok h8))) ?_
 iterate 4 refine go ?_
 refine reg_imp (imp_nil_own 9 89 2 2 rfl rfl) ?_
 iterate 5 refine go ?_
 obtain ⟨x87, hF, hK88⟩ := bs hF
 refine aw_for ((y7.length - 0 : Int).toNat + 1) (fun s1 => s1 = (sX 69 [(9, some (.ls 0))] [(0, some (.row 89 2 (List.map eGCall_ref22 x87)))] 1)) ?_ ?_
 ·refine rnd_loop (α := (List GCall_ref22) × Int) (fun q => (sX 69 [(5, some (.lp 0 0)), (7, some (.lp 1 0)), pf 8 (.vs 26 (List.map eGLine_ref12 y7)), (9, some (.ls 2)), pf 10 (.int .i64 q.2)] [bf 0 40 (eGMethod a2), bf 1 32 (eGClass ({ y3 with fMethods := [a2] } : GClass)), (2, some (.row 89 2 (List.map eGCall_ref22 q.1)))] 3)) (fun k q => ref22_calls_L1 a2 y3 y7 k q.1 q.2 = some x87) ([], 0) (impz [0, 1, 2]) hF (fun q h => by cases h) ?_
  clear hF
  rintro k ⟨x33, x34⟩ hF ih
  refine rnd_succ ?_
  iterate 7 refine go ?_
  refine cnd hF (fun hb61 hF => ?_) fun hb61 hF => ?_
  ·iterate 2 refine go ?_
   refine aw_seq ?_
   obtain ⟨x82, hF, hK84⟩ := bs hF
   refine ctx (sX 69 [(5, some (.lp 0 0)), (7, some (.lp 1 0)), pf 8 (.vs 26 (List.map eGLine_ref12 y7)), (9, some (.ls 2)), pf 10 (.int .i64 x34)] [bf 0 40 (eGMethod a2), bf 1 32 (eGClass ({ y3 with fMethods := [a2] } : GClass)), (2, some (.row 89 2 (List.map eGCall_ref22 x82)))] 3) ?_ ?_
   ·refine aw_block ?_
    refine aw_seq ?_
    refine aw_imp (imp_names 1) ?_
    refine dr_start ⟨_, _, _⟩ rfl ?_
    refine dr_cons { need := [(7, .lp 1 0)], hneed := [(1, .box 32 (bxv (eGClass ({ y3 with fMethods := [a2] } : GClass))))], dst := some 30, val := some (.pv (.agg (eGClass ({ y3 with fMethods := [a2] } : GClass)))) } (fun m h => step_on (guard_no rfl) (op_load_lp_agg (ps := eGClass ({ y3 with fMethods := [a2] } : GClass)) rfl h.1.1 h.2.1.1 rfl rfl rfl agg_32 rfl rfl) rfl) ⟨⟨rfl, trivial⟩, ⟨rfl, trivial⟩, trivial⟩ ?_
    refine dr_cons { need := [(5, .lp 0 0)], hneed := [(0, .box 40 (bxv (eGMethod a2)))], dst := some 31, val := some (.pv (.agg (eGMethod a2))) } (fun m h => step_on (guard_no rfl) (op_load_lp_agg (ps := eGMethod a2) rfl h.1.1 h.2.1.1 rfl rfl rfl agg_40 rfl rfl) rfl) ⟨⟨rfl, trivial⟩, ⟨rfl, trivial⟩, trivial⟩ ?_
    iterate 2 refine dgo ?_
    obtain ⟨y66, h67, hF⟩ := bs hF
    refine dr_cons { need := [(32, .pv (.vs 26 (List.map eGLine_ref12 y7))), (33, .pv (.int .i64 x34))], dst := some 34, val := some (.pv (.vp (eGLine_ref12 y66))) } (fun m h => step_on (guard_no rfl) (op_index_vs (k := .i64) rfl h.1.1 h.1.2.1 (idx_map eGLine_ref12 h67) slc_25 rfl rfl) rfl) ⟨⟨rfl, rfl, trivial⟩, trivial, trivial⟩ ?_
    refine dr_cons { need := [(34, .pv (.vp (eGLine_ref12 y66)))], dst := some 35, val := some (.pv (.vp (List.drop 3 (eGLine_ref12 y66)))) } (fun m h => step_on (guard_no rfl) (op_field_vp rfl h.1.1 fld_50_3 rfl rfl) rfl) ⟨⟨rfl, trivial⟩, trivial, trivial⟩ ?_
    refine dr_cons { need := [(35, .pv (.vp (List.drop 3 (eGLine_ref12 y66))))], dst := some 36, val := some (.pv (.vp (List.drop 2 (List.drop 3 (eGLine_ref12 y66))))) } (fun m h => step_on (guard_no rfl) (op_field_vp rfl h.1.1 fld_48_2 rfl rfl) rfl) ⟨⟨rfl, trivial⟩, trivial, trivial⟩ ?_
    refine dr_cons { need := [(36, .pv (.vp (List.drop 2 (List.drop 3 (eGLine_ref12 y66)))))], dst := some 37, val := some (.pv (.str y66.fS.fY)) } (fun m h => step_on (guard_no rfl) (op_load_vp (p := .str y66.fS.fY) rfl h.1.1 rfl one_9 rfl rfl) rfl) ⟨⟨rfl, trivial⟩, trivial, trivial⟩ ?_
    obtain ⟨y68, h69, hF⟩ := bs hF
    refine dr_cons { need := [(37, .pv (.str y66.fS.fY)), (31, .pv (.agg (eGMethod a2))), (30, .pv (.agg (eGClass ({ y3 with fMethods := [a2] } : GClass))))], dst := some 38, val := some (.tup [.pv (.agg (eGType y68.1)), .pv (.bool y68.2)]) } (fun m h => step_on (guard_no rfl) (op_call 4 rfl (caps := []) (args := [.agg (eGClass ({ y3 with fMethods := [a2] } : GClass)), .agg (eGMethod a2), .str y66.fS.fY]) (rs := [.p (.agg (eGType y68.1)), .p (.bool y68.2)]) rfl rfl (evl_cons h.1.2.2.1 (evl_cons h.1.2.1 (evl_cons h.1.1 evl_nil))) cal_61 (ref18_Type_ok h69) rfl rfl rfl) rfl) ⟨⟨rfl, rfl, rfl, trivial⟩, trivial, trivial⟩ ?_
    refine dgo ?_
    refine dr_cons { need := [(29, .tup [.pv (.agg (eGType y68.1)), .pv (.bool y68.2)])], dst := some 39, val := some (.pv (.agg (eGType y68.1))) } (fun m h => step_on (guard_no rfl) (op_extract rfl h.1.1 rfl rfl rfl) rfl) ⟨⟨rfl, trivial⟩, trivial, trivial⟩ ?_
    refine dr_cons { need := [(29, .tup [.pv (.agg (eGType y68.1)), .pv (.bool y68.2)])], dst := some 40, val := some (.pv (.bool y68.2)) } (fun m h => step_on (guard_no rfl) (op_extract rfl h.1.1 rfl rfl rfl) rfl) ⟨⟨rfl, trivial⟩, trivial, trivial⟩ ?_
    refine dr_cons { names := [3], dst := some 11, val := some (.lp 3 0), upd := [(3, some (.box 37 (bxv (eGType zGType))))] } (fun m h => step_on (guard_no rfl) (op_alloc 3 (fresh_free h.2.2.1) (ps := (eGType zGType)) rfl zer_37 (by exact ⟨rfl, rfl, rfl, rfl, rfl, rfl, rfl, rfl, rfl, rfl, rfl, trivial⟩) rfl rfl) rfl) ⟨trivial, trivial, ⟨rfl, trivial⟩⟩ ?_
    refine dr_cons { need := [(11, .lp 3 0), (39, .pv (.agg (eGType y68.1)))], hneed := [(3, .box 37 (bxv (eGType zGType)))], upd := [(3, some (.box 37 (bxv (eGType y68.1))))] } (fun m h => step_on (guard_no rfl) (op_store_lp (n := 11) rfl h.1.1 h.1.2.1 rfl h.2.1.1 (or_agg agg_37) (by rw [non_37]; rfl) rfl rfl rfl) rfl) ⟨⟨rfl, rfl, trivial⟩, ⟨rfl, trivial⟩, trivial⟩ ?_
    refine dr_cons { need := [(40, .pv (.bool y68.2))], dst := some 12, val := some (.pv (.bool y68.2)) } (fun m h => step_on (guard_no rfl) (op_assign rfl h.1.1 rfl rfl) rfl) ⟨⟨rfl, trivial⟩, trivial, trivial⟩ ?_
    refine dr_nil mixed rfl (by kernel_rfl) ?_
    refine piz (sX 69 [(5, some (.lp 0 0)), (7, some (.lp 1 0)), pf 8 (.vs 26 (List.map eGLine_ref12 y7)), (9, some (.ls 2)), pf 10 (.int .i64 x34), (11, some (.lp 3 0)), pf 12 (.bool y68.2)] [bf 0 40 (eGMethod a2), bf 1 32 (eGClass ({ y3 with fMethods := [a2] } : GClass)), (2, some (.row 89 2 (List.map eGCall_ref22 x33))), bf 3 37 (eGType y68.1)] 4) [0, 1, 2, 3] ?_
    refine go ?_
    refine aw_seq ?_
    obtain ⟨x74, hF, hK76⟩ := bs hF
    refine ctx (sX 69 [(5, some (.lp 0 0)), (7, some (.lp 1 0)), pf 8 (.vs 26 (List.map eGLine_ref12 y7)), (9, some (.ls 2)), pf 10 (.int .i64 x34), (11, some (.lp 3 0)), pf 55 (.bool x74)] [bf 0 40 (eGMethod a2), bf 1 32 (eGClass ({ y3 with fMethods := [a2] } : GClass)), (2, some (.row 89 2 (List.map eGCall_ref22 x33))), bf 3 37 (eGType y68.1)] 4) ?_ ?_
    ·iterate 3 refine go ?_
     rcases ie hF with ⟨hb70, hF⟩ | ⟨hb70, hF⟩
     ·iterate 2 refine gn hb70 ?_
      obtain ⟨y71, h72, hF⟩ := bs hF
      refine rgn hb70 (ix (idx_map eGLine_ref12 h72) slc_25) ?_
      iterate 4 refine gn hb70 ?_
      refine rpt hb70 ?_
      refine go ?_
      rcases ie hF with ⟨hb73, hF⟩ | ⟨hb73, hF⟩
      ·iterate 3 refine gn hb73 ?_
       refine rpt hb73 ?_
       cases hF
       exact rcz [0, 1, 2, 3]
      iterate 3 refine rgo_f hb73 ?_
      refine rpf hb73 ?_
      cases hF
      exact rcz [0, 1, 2, 3]
     iterate 7 refine rgo_f hb70 ?_
     refine rpf hb70 ?_
     refine go ?_
     iterate 3 refine rgo_f rfl ?_
     refine rpf rfl ?_
     cases hF
     exact rcz [0, 1, 2, 3]
    have hF := hK76
    refine go ?_
    refine cnd hF (fun hb77 hF => ?_) fun hb77 hF => ?_
    ·refine aw_imp (imp_names 1) ?_
     refine dr_start ⟨_, _, _⟩ rfl ?_
     iterate 5 refine dgo ?_
     obtain ⟨y78, h79, hF⟩ := bs hF
     refine dr_cons { need := [(59, .pv (.vs 26 (List.map eGLine_ref12 y7))), (60, .pv (.int .i64 x34))], dst := some 61, val := some (.pv (.vp (eGLine_ref12 y78))) } (fun m h => step_on (guard_no rfl) (op_index_vs (k := .i64) rfl h.1.1 h.1.2.1 (idx_map eGLine_ref12 h79) slc_25 rfl rfl) rfl) ⟨⟨rfl, rfl, trivial⟩, trivial, trivial⟩ ?_
     refine dr_cons { need := [(61, .pv (.vp (eGLine_ref12 y78)))], dst := some 62, val := some (.pv (.vp (List.drop 3 (eGLine_ref12 y78)))) } (fun m h => step_on (guard_no rfl) (op_field_vp rfl h.1.1 fld_50_3 rfl rfl) rfl) ⟨⟨rfl, trivial⟩, trivial, trivial⟩ ?_
     refine dr_cons { need := [(62, .pv (.vp (List.drop 3 (eGLine_ref12 y78))))], dst := some 63, val := some (.pv (.vp (List.drop 3 (List.drop 3 (eGLine_ref12 y78))))) } (fun m h => step_on (guard_no rfl) (op_field_vp rfl h.1.1 fld_48_3 rfl rfl) rfl) ⟨⟨rfl, trivial⟩, trivial, trivial⟩ ?_
     refine dr_cons { need := [(63, .pv (.vp (List.drop 3 (List.drop 3 (eGLine_ref12 y78)))))], dst := some 64, val := some (.pv (.str y78.fS.fName)) } (fun m h => step_on (guard_no rfl) (op_load_vp (p := .str y78.fS.fName) rfl h.1.1 rfl one_9 rfl rfl) rfl) ⟨⟨rfl, trivial⟩, trivial, trivial⟩ ?_
     refine dr_cons { need := [(64, .pv (.str y78.fS.fName)), (58, .pv (.str y68.1.fClass))], dst := some 65, val := some (.pv (.agg (eGCall_ref22 ({ fClass := y68.1.fClass, fName := y78.fS.fName } : GCall_ref22)))) } (fun m h => step_on (guard_no rfl) (op_build (zs := (eGCall_ref22 zGCall_ref22)) (r := eGCall_ref22 ({ fClass := y68.1.fClass, fName := y78.fS.fName } : GCall_ref22)) rfl zer_89 (by exact ⟨rfl, rfl, trivial⟩) plc_89 (evs_cons h.1.2.1 (evs_cons h.1.1 evs_nil)) rfl rfl rfl) rfl) ⟨⟨rfl, rfl, trivial⟩, trivial, trivial⟩ ?_
     refine dr_cons { need := [(65, .pv (.agg (eGCall_ref22 ({ fClass := y68.1.fClass, fName := y78.fS.fName } : GCall_ref22))))], dst := some 66, val := some (.pv (.vs 2 (List.map eGCall_ref22 [({ fClass := y68.1.fClass, fName := y78.fS.fName } : GCall_ref22)]))) } (fun m h => step_on (guard_no rfl) (op_lit (rows := List.map eGCall_ref22 ([({ fClass := y68.1.fClass, fName := y78.fS.fName } : GCall_ref22)] : List GCall_ref22)) (zs := (eGCall_ref22 zGCall_ref22)) rfl rfl slc_90 zer_89 (by exact ⟨rfl, rfl, trivial⟩) rfl rfl rfl (evs_cons h.1.1 evs_nil) rfl rfl rfl rfl) rfl) ⟨⟨rfl, trivial⟩, trivial, trivial⟩ ?_
     obtain ⟨u80, h81, hF⟩ := bs hF
     refine dr_cons { need := [(56, .ls 2), (66, .pv (.vs 2 (List.map eGCall_ref22 [({ fClass := y68.1.fClass, fName := y78.fS.fName } : GCall_ref22)])))], hneed := [(2, .row 89 2 (List.map eGCall_ref22 x33))], names := [4], dst := some 67, val := some (.ls 4), upd := [(4, some (.row 89 2 (List.map eGCall_ref22 (x33 ++ [({ fClass := y68.1.fClass, fName := y78.fS.fName } : GCall_ref22)])))), (2, none)] } (fun m h => step_on (guard_no rfl) (op_append 4 (fresh_free h.2.2.1) rfl h.1.1 h.2.1.1 h.1.2.1 slc_90 elm_89 zer_89 rfl rfl rfl (room_map (f := eGCall_ref22) (g := eGCall_ref22) h81) (List.map_append (f := eGCall_ref22) (l₁ := x33) (l₂ := [({ fClass := y68.1.fClass, fName := y78.fS.fName } : GCall_ref22)])).symm rfl rfl) rfl) ⟨⟨rfl, rfl, trivial⟩, ⟨rfl, trivial⟩, ⟨rfl, trivial⟩⟩ ?_
     refine dr_cons { need := [(67, .ls 4)], dst := some 9, val := some (.ls 4) } (fun m h => step_on (guard_no rfl) (op_assign rfl h.1.1 rfl rfl) rfl) ⟨⟨rfl, trivial⟩, trivial, trivial⟩ ?_
     refine dr_nil mixed rfl (by kernel_rfl) ?_
     refine piz (sX 69 [(5, some (.lp 0 0)), (7, some (.lp 1 0)), pf 8 (.vs 26 (List.map eGLine_ref12 y7)), (9, some (.ls 2)), pf 10 (.int .i64 x34)] [bf 0 40 (eGMethod a2), bf 1 32 (eGClass ({ y3 with fMethods := [a2] } : GClass)), (2, some (.row 89 2 (List.map eGCall_ref22 (x33 ++ [({ fClass := y68.1.fClass, fName := y78.fS.fName } : GCall_ref22)]))))] 3) [0, 1, 4] ?_
     refine go ?_
     cases hF
     exact pcz [0, 1, 2]
    iterate 2 refine go ?_
    cases hF
    exact pcz [0, 1, 2]
   have hF := hK84
   iterate 5 refine go ?_
   refine rnr ?_
   exact rnd_back (ih (x82, w_i64 (x34 + 1)) hF) (impz [0, 1, 2])
  refine aw_exit ?_
  iterate 2 refine post_then_exit ?_
  cases hF
  exact post_lp_break _ rfl (impz [2])
 rintro _ rfl
 have hF := hK88
 iterate 6 refine go ?_
 cases hF
 exact post_ret rfl rfl (.cons _ _ _ _ _ (.tmp _ _ rfl) (.own _ _ _ _ rfl nolent3) .nil) (.inl rfl)
theorem ref22_has_ok {a0 : List GCall_ref22} {a1 : GCall_ref22} {r : Bool} (hF : ref22_has a0 a1 = some r) : FZ 34 [.vs 2 (List.map eGCall_ref22 a0), .agg (eGCall_ref22 a1)] [.p (.bool r)] := by
 unfold ref22_has at hF
 refine fn_of_body (n := 18) Tryz.func34 rfl rfl rfl fun w O => ?_
 refine go ?_
 refine rgp (bo 0) ?_
 iterate 6 refine go ?_
 obtain ⟨lr22, hF, hK23⟩ := bs hF
 refine aw_for ((a0.length - 0 : Int).toNat + 1) (fun s1 => ∃ q, lr22 = .next q ∧ s1 = (sX 18 [] [] 0)) ?_ ?_
 ·refine rnd_loop (α := Int) (fun q => (sX 18 [pf 0 (.vs 2 (List.map eGCall_ref22 a0)), (3, some (.lp 0 0)), pf 5 (.int .i64 q)] [bf 0 89 (eGCall_ref22 a1)] 1)) (fun k q => ref22_has_L1 a0 a1 k q = some lr22) 0 (impz [0]) hF (fun q h => by cases h) ?_
  clear hF
  rintro k x7 hF ih
  refine rnd_succ ?_
  iterate 7 refine go ?_
  refine cnd hF (fun hb15 hF => ?_) fun hb15 hF => ?_
  ·iterate 2 refine go ?_
   refine aw_seq ?_
   refine aw_block ?_
   refine aw_seq ?_
   refine dr_start ⟨_, _, _⟩ rfl ?_
   iterate 2 refine dgo ?_
   obtain ⟨y18, h19, hF⟩ := bs hF
   refine dr_cons { need := [(12, .pv (.vs 2 (List.map eGCall_ref22 a0))), (13, .pv (.int .i64 x7))], dst := some 14, val := some (.pv (.vp (eGCall_ref22 y18))) } (fun m h => step_on (guard_no rfl) (op_index_vs (k := .i64) rfl h.1.1 h.1.2.1 (idx_map eGCall_ref22 h19) slc_90 rfl rfl) rfl) ⟨⟨rfl, rfl, trivial⟩, trivial, trivial⟩ ?_
   refine dr_cons { need := [(14, .pv (.vp (eGCall_ref22 y18)))], dst := some 15, val := some (.pv (.agg (eGCall_ref22 y18))) } (fun m h => step_on (guard_no rfl) (op_load_vp_agg (ps := eGCall_ref22 y18) rfl h.1.1 rfl rfl agg_89 rfl rfl) rfl) ⟨⟨rfl, trivial⟩, trivial, trivial⟩ ?_
   refine dr_cons { need := [(3, .lp 0 0)], hneed := [(0, .box 89 (bxv (eGCall_ref22 a1)))], dst := some 16, val := some (.pv (.agg (eGCall_ref22 a1))) } (fun m h => step_on (guard_no rfl) (op_load_lp_agg (ps := eGCall_ref22 a1) rfl h.1.1 h.2.1.1 rfl rfl rfl agg_89 rfl rfl) rfl) ⟨⟨rfl, trivial⟩, ⟨rfl, trivial⟩, trivial⟩ ?_
   refine dr_cons { need := [(15, .pv (.agg (eGCall_ref22 y18))), (16, .pv (.agg (eGCall_ref22 a1)))], dst := some 17, val := some (.pv (.bool (bGCall_ref22 y18 a1))) } (fun m h => step_on (guard_no rfl) (op_eqAgg_eql (r := bGCall_ref22 y18 a1) rfl h.1.1 h.1.2.1 eqt_89 rfl rfl rfl rfl rfl) rfl) ⟨⟨rfl, rfl, trivial⟩, trivial, trivial⟩ ?_
   refine dr_nil mixed rfl (by kernel_rfl) ?_
   refine piz (sX 18 [pf 0 (.vs 2 (List.map eGCall_ref22 a0)), (3, some (.lp 0 0)), pf 5 (.int .i64 x7), pf 17 (.bool (bGCall_ref22 y18 a1))] [bf 0 89 (eGCall_ref22 a1)] 1) [0] ?_
   refine go ?_
   refine cnd hF (fun hb20 hF => ?_) fun hb20 hF => ?_
   ·iterate 7 refine go ?_
    refine post_lp_ret ?_
    cases hF
    have hF := elim_stop hK23
    refine go ?_
    cases hF
    exact prt
   iterate 7 refine go ?_
   refine rnr ?_
   exact rnd_back (ih (w_i64 (x7 + 1)) hF) (impz [0])
  refine aw_exit ?_
  iterate 2 refine post_then_exit ?_
  cases hF
  exact post_lp_break _ ⟨_, rfl, rfl⟩ (impz [])
 rintro _ ⟨⟨⟩, rfl, rfl⟩
 have hF := elim_next hK23
 clear hK23
 iterate 5 refine go ?_
 cases hF
 exact prt
theorem ref22_Runs_ok {a0 : List GClass} {a1 : List UInt8} {a2 : List UInt8} {r : (List (A2 Int))} (hF : ref22_Runs a0 a1 a2 = some r) : FZ 15 [.vs 7 (List.map eGClass a0), .str a1, .str a2] [.own 59 2 (List.map (eA2 eI) r)] := by
 unfold ref22_Runs at hF
 refine fn_of_body (n := 86) Tryz.func15 rfl rfl rfl fun w O => ?_
 iterate 6 refine go ?_
 refine rgp (bd ((eGCall_ref22 zGCall_ref22)) (eGCall_ref22 ({ fClass := a1, fName := a2 } : GCall_ref22)) zer_89 plc_89) ?_
 refine rgp (op_litOwn 0 rfl (rows := List.map eGCall_ref22 ([({ fClass := a1, fName := a2 } : GCall_ref22)] : List GCall_ref22)) (zs := (eGCall_ref22 zGCall_ref22)) rfl rfl slc_90 zer_89 (by exact ⟨rfl, rfl, trivial⟩) rfl rfl rfl rfl rfl rfl rfl rfl) ?_
 iterate 2 refine go ?_
 obtain ⟨lr2701, hF, hK2702⟩ := bs hF
 refine aw_for (mLGClass a0 + 2) (fun _ => False) ?_ ?_
 ·refine rnd_loop (α := (List GCall_ref22)) (fun q => (sX 86 [pf 0 (.vs 7 (List.map eGClass a0)), (7, some (.ls 0))] [(0, some (.row 89 2 (List.map eGCall_ref22 q)))] 1)) (fun k q => ref22_Runs_L1 a0 k q = some lr2701) [({ fClass := a1, fName := a2 } : GCall_ref22)] (impz [0]) hF (fun q h => by cases h) ?_
  clear hF
  rintro k x900 hF ih
  refine rnd_succ ?_
  refine aw_block ?_
  iterate 2 refine go ?_
  refine reg_imp (imp_nil_own 8 59 2 1 rfl rfl) ?_
  iterate 3 refine go ?_
  refine rgp (op_len_ls (n := x900.length) rfl rfl rfl (List.length_map ..) slc_90 rfl rfl) ?_
  iterate 6 refine go ?_
  obtain ⟨lr2697, hF, hK2698⟩ := bs hF
  refine aw_for ((a0.length - 0 : Int).toNat + 1) (fun s1 => s1 = (sX 86 [pf 0 (.vs 7 (List.map eGClass a0)), (7, some (.ls 0)), (8, some (.ls 1)), pf 9 (.int .i64 (x900.length : Int))] [(0, some (.row 89 2 (List.map eGCall_ref22 lr2697.1))), (1, some (.row 59 2 (List.map (eA2 eI) lr2697.2)))] 2)) ?_ ?_
  ·refine rnd_loop (α := (List GCall_ref22) × (List (A2 Int)) × Int) (fun q => (sX 86 [pf 0 (.vs 7 (List.map eGClass a0)), (7, some (.ls 0)), (8, some (.ls 1)), pf 9 (.int .i64 (x900.length : Int)), pf 10 (.int .i64 q.2.2)] [(0, some (.row 89 2 (List.map eGCall_ref22 q.1))), (1, some (.row 59 2 (List.map (eA2 eI) q.2.1)))] 2)) (fun k q => ref22_Runs_L2 a0 x900 k q.1 q.2.1 q.2.2 = some lr2697) (x900, [], 0) (impz [0, 1]) hF (fun q h => by cases h) ?_
   clear hF
   rintro k ⟨x2096, x2097, x2098⟩ hF ih
   refine rnd_succ ?_
   iterate 7 refine go ?_
   refine cnd hF (fun hb2397 hF => ?_) fun hb2397 hF => ?_
   ·iterate 2 refine go ?_
    refine aw_seq ?_
    refine aw_block ?_
    iterate 3 refine go ?_
    obtain ⟨lr2688, hF, hK2689⟩ := bs hF
    refine aw_for (Option.getD (Option.bind (idx a0 x2098) fun (y2690 : GClass) => some ((y2690.fMethods.length - 0 : Int).toNat + 1)) 1) (fun s1 => s1 = (sX 86 [pf 0 (.vs 7 (List.map eGClass a0)), (7, some (.ls 0)), (8, some (.ls 1)), pf 9 (.int .i64 (x900.length : Int)), pf 10 (.int .i64 x2098)] [(0, some (.row 89 2 (List.map eGCall_ref22 lr2688.1))), (1, some (.row 59 2 (List.map (eA2 eI) lr2688.2)))] 2)) ?_ ?_
    ·refine rnd_loop (α := (List GCall_ref22) × (List (A2 Int)) × Int) (fun q => (sX 86 [pf 0 (.vs 7 (List.map eGClass a0)), (7, some (.ls 0)), (8, some (.ls 1)), pf 9 (.int .i64 (x900.length : Int)), pf 10 (.int .i64 x2098), pf 11 (.int .i64 q.2.2)] [(0, some (.row 89 2 (List.map eGCall_ref22 q.1))), (1, some (.row 59 2 (List.map (eA2 eI) q.2.1)))] 2)) (fun k q => ref22_Runs_L3 a0 x900 x2098 k q.1 q.2.1 q.2.2 = some lr2688) (x2096, x2097, 0) (impz [0, 1]) hF (fun q h => by cases h) ?_
     clear hF
     rintro k ⟨x2491, x2492, x2493⟩ hF ih
     refine rnd_succ ?_
     iterate 5 refine go ?_
     obtain ⟨y2592, h2593, hF⟩ := bs hF
     refine rgp (ix (idx_map eGClass h2593) slc_22) ?_
     iterate 5 refine go ?_
     refine cnd hF (fun hb2594 hF => ?_) fun hb2594 hF => ?_
     ·iterate 2 refine go ?_
      refine aw_seq ?_
      obtain ⟨p2681, hF, hK2682⟩ := bs hF
      obtain ⟨x2679, x2680⟩ := p2681
      refine ctx (sX 86 [pf 0 (.vs 7 (List.map eGClass a0)), (7, some (.ls 0)), (8, some (.ls 1)), pf 9 (.int .i64 (x900.length : Int)), pf 10 (.int .i64 x2098), pf 11 (.int .i64 x2493)] [(0, some (.row 89 2 (List.map eGCall_ref22 x2679))), (1, some (.row 59 2 (List.map (eA2 eI) x2680)))] 2) ?_ ?_
      ·refine aw_block ?_
       iterate 5 refine go ?_
       obtain ⟨y2599, h2600, hF⟩ := bs hF
       refine rgp (op_slice_sp rfl rfl rfl rfl slc_90 (cutL_map eGCall_ref22 h2600) rfl rfl) ?_
       iterate 2 refine go ?_
       obtain ⟨y2601, h2602, hF⟩ := bs hF
       refine rgp (op_callBS 2 rfl (caps := []) (args := [.vs 7 (List.map eGClass a0), .vs 2 (List.map eGCall_ref22 y2599), .int .i64 x2098, .int .i64 x2493]) [] rfl rfl rfl (by simp) rfl ⟨rfl, ⟨_, _, _, rfl, cutL_map eGCall_ref22 h2600, rfl⟩, rfl, rfl, trivial⟩ cal_32 (ref22_runs_ok h2602) rfl rfl rfl) ?_
       iterate 2 refine go ?_
       refine cnd hF (fun hb2603 hF => ?_) fun hb2603 hF => ?_
       ·refine aw_exit ?_
        refine post_then_exit ?_
        refine post_block_exit ?_
        cases hF
        exact pcz [0, 1]
       iterate 6 refine go ?_
       refine rgp (op_buildArr (zs := ((eA2 eI) (⟨0, 0⟩ : A2 Int))) (r := (eA2 eI) (⟨x2098, x2493⟩ : A2 Int)) rfl zer_59 (by exact ⟨rfl, rfl, trivial⟩) arr_59 rfl rfl rfl rfl) ?_
       refine rgp (op_lit (rows := List.map (eA2 eI) ([(⟨x2098, x2493⟩ : A2 Int)] : List (A2 Int))) (zs := ((eA2 eI) (⟨0, 0⟩ : A2 Int))) rfl rfl slc_57 zer_59 (by exact ⟨rfl, rfl, trivial⟩) rfl rfl rfl rfl rfl rfl rfl rfl) ?_
       obtain ⟨u2606, h2607, hF⟩ := bs hF
       refine rgp (op_append 2 rfl rfl rfl rfl rfl slc_57 elm_59 zer_59 rfl rfl rfl (room_map (f := (eA2 eI)) (g := (eA2 eI)) h2607) (List.map_append (f := (eA2 eI)) (l₁ := x2492) (l₂ := [(⟨x2098, x2493⟩ : A2 Int)])).symm rfl rfl) ?_
       iterate 7 refine go ?_
       obtain ⟨y2614, h2615, hF⟩ := bs hF
       refine rgp (ix (idx_map eGClass h2615) slc_22) ?_
       iterate 3 refine go ?_
       obtain ⟨y2616, h2617, hF⟩ := bs hF
       refine rgp (ix (idx_map eGMethod h2617) slc_30) ?_
       refine rgp (lw (eGMethod y2616) agg_40) ?_
       obtain ⟨y2618, h2619, hF⟩ := bs hF
       refine rgp (cl 3 [.vs 7 (List.map eGClass a0), .int .i64 x2098, .agg (eGMethod y2616)] [.p (.vs 2 (List.map eGCall_ref22 y2618))] (Fn.frozen (ref22_calls_ok h2619))) ?_
       iterate 5 refine go ?_
       obtain ⟨x2677, hF, hK2678⟩ := bs hF
       refine aw_for ((y2618.length - 0 : Int).toNat + 1) (fun s1 => s1 = (sX 86 [pf 0 (.vs 7 (List.map eGClass a0)), (7, some (.ls 0)), (8, some (.ls 1)), pf 9 (.int .i64 (x900.length : Int)), pf 10 (.int .i64 x2098), pf 11 (.int .i64 x2493)] [(0, some (.row 89 2 (List.map eGCall_ref22 x2677))), (1, some (.row 59 2 (List.map (eA2 eI) (x2492 ++ [(⟨x2098, x2493⟩ : A2 Int)]))))] 2)) ?_ ?_
       ·refine rnd_loop (α := (List GCall_ref22) × Int) (fun q => (sX 86 [pf 0 (.vs 7 (List.map eGClass a0)), (7, some (.ls 0)), (8, some (.ls 1)), pf 9 (.int .i64 (x900.length : Int)), pf 10 (.int .i64 x2098), pf 11 (.int .i64 x2493), pf 12 (.vs 2 (List.map eGCall_ref22 y2618)), pf 13 (.int .i64 q.2)] [(0, some (.row 89 2 (List.map eGCall_ref22 q.1))), (1, some (.row 59 2 (List.map (eA2 eI) (x2492 ++ [(⟨x2098, x2493⟩ : A2 Int)]))))] 2)) (fun k q => ref22_Runs_L4 y2618 k q.1 q.2 = some x2677) (x2491, 0) (impz [0, 2]) hF (fun q h => by cases h) ?_
        clear hF
        rintro k ⟨x2637, x2638⟩ hF ih
        refine rnd_succ ?_
        iterate 7 refine go ?_
        refine cnd hF (fun hb2658 hF => ?_) fun hb2658 hF => ?_
        ·iterate 2 refine go ?_
         refine aw_seq ?_
         obtain ⟨x2672, hF, hK2674⟩ := bs hF
         refine ctx (sX 86 [pf 0 (.vs 7 (List.map eGClass a0)), (7, some (.ls 0)), (8, some (.ls 1)), pf 9 (.int .i64 (x900.length : Int)), pf 10 (.int .i64 x2098), pf 11 (.int .i64 x2493), pf 12 (.vs 2 (List.map eGCall_ref22 y2618)), pf 13 (.int .i64 x2638)] [(0, some (.row 89 2 (List.map eGCall_ref22 x2672))), (1, some (.row 59 2 (List.map (eA2 eI) (x2492 ++ [(⟨x2098, x2493⟩ : A2 Int)]))))] 2) ?_ ?_
         ·refine aw_block ?_
          iterate 4 refine go ?_
          obtain ⟨y2663, h2664, hF⟩ := bs hF
          refine rgp (ix (idx_map eGCall_ref22 h2664) slc_90) ?_
          refine rgp (lw (eGCall_ref22 y2663) agg_89) ?_
          obtain ⟨y2665, h2666, hF⟩ := bs hF
          refine rgp (op_callB 2 rfl (caps := []) (args := [.vs 2 (List.map eGCall_ref22 x2637), .agg (eGCall_ref22 y2663)]) [(0, some (.row 89 2 (List.map eGCall_ref22 x2637)))] rfl rfl rfl (FzH.spec ⟨rfl, trivial⟩) rfl rfl cal_34 (ref22_has_ok h2666) rfl rfl rfl) ?_
          iterate 2 refine go ?_
          refine cnd hF (fun hb2667 hF => ?_) fun hb2667 hF => ?_
          ·iterate 4 refine go ?_
           obtain ⟨y2668, h2669, hF⟩ := bs hF
           refine rgp (ix (idx_map eGCall_ref22 h2669) slc_90) ?_
           refine rgp (lw (eGCall_ref22 y2668) agg_89) ?_
           refine rgp (op_lit (rows := List.map eGCall_ref22 ([y2668] : List GCall_ref22)) (zs := (eGCall_ref22 zGCall_ref22)) rfl rfl slc_90 zer_89 (by exact ⟨rfl, rfl, trivial⟩) rfl rfl rfl rfl rfl rfl rfl rfl) ?_
           obtain ⟨u2670, h2671, hF⟩ := bs hF
           refine rgp (op_append 2 rfl rfl rfl rfl rfl slc_90 elm_89 zer_89 rfl rfl rfl (room_map (f := eGCall_ref22) (g := eGCall_ref22) h2671) (List.map_append (f := eGCall_ref22) (l₁ := x2637) (l₂ := [y2668])).symm rfl rfl) ?_
           refine go ?_
           refine reg_nil ?_
           refine piz (sX 86 [pf 0 (.vs 7 (List.map eGClass a0)), (7, some (.ls 0)), (8, some (.ls 1)), pf 9 (.int .i64 (x900.length : Int)), pf 10 (.int .i64 x2098), pf 11 (.int .i64 x2493), pf 12 (.vs 2 (List.map eGCall_ref22 y2618)), pf 13 (.int .i64 x2638)] [(0, some (.row 89 2 (List.map eGCall_ref22 (x2637 ++ [y2668])))), (1, some (.row 59 2 (List.map (eA2 eI) (x2492 ++ [(⟨x2098, x2493⟩ : A2 Int)]))))] 2) [2, 1] ?_
           refine go ?_
           cases hF
           exact pcz [0, 1]
          iterate 2 refine go ?_
          cases hF
          exact pcz [0, 1]
         have hF := hK2674
         iterate 5 refine go ?_
         refine rnr ?_
         exact rnd_back (ih (x2672, w_i64 (x2638 + 1)) hF) (impz [0, 1])
        refine aw_exit ?_
        iterate 2 refine post_then_exit ?_
        cases hF
        exact post_lp_break _ rfl (impz [0, 1])
       rintro _ rfl
       have hF := hK2678
       refine go ?_
       cases hF
       exact pcz [0, 1]
      have hF := hK2682
      iterate 5 refine go ?_
      refine rnr ?_
      exact rnd_back (ih (x2679, x2680, w_i64 (x2493 + 1)) hF) (impz [0, 1])
     refine aw_exit ?_
     iterate 2 refine post_then_exit ?_
     cases hF
     exact post_lp_break _ rfl (impz [0, 1])
    rintro _ rfl
    have hF := hK2689
    obtain ⟨x2686, x2687⟩ := lr2688
    iterate 6 refine go ?_
    refine rnr ?_
    exact rnd_back (ih (x2686, x2687, w_i64 (x2098 + 1)) hF) (impz [0, 1])
   refine aw_exit ?_
   iterate 2 refine post_then_exit ?_
   cases hF
   exact post_lp_break _ rfl (impz [0, 1])
  rintro _ rfl
  have hF := hK2698
  obtain ⟨x2695, x2696⟩ := lr2697
  iterate 3 refine go ?_
  refine rgp (op_len_ls (n := x2695.length) rfl rfl rfl (List.length_map ..) slc_90 rfl rfl) ?_
  iterate 3 refine go ?_
  refine cnd hF (fun hb2699 hF => ?_) fun hb2699 hF => ?_
  ·iterate 7 refine go ?_
   refine post_lp_ret ?_
   cases hF
   have hF := elim_stop hK2702
   cases hF
   exact post_ret rfl rfl (.cons _ _ _ _ _ (.tmp _ _ rfl) (.own _ _ _ _ rfl nolent3) .nil) (.inl rfl)
  iterate 2 refine go ?_
  refine post_round ?_
  exact rnd_back (ih x2695 hF) (impz [0])
 intro _ h
 exact h.elim
theorem law22_PureRuns_ok {a0 : List GClass} {a1 : List UInt8} {a2 : List UInt8} {r : Bool} (hF : law22_PureRuns a0 a1 a2 = some r) : FZ 4 [.vs 7 (List.map eGClass a0), .str a1, .str a2] [.p (.bool r)] := by
 unfold law22_PureRuns at hF
 refine fn_of_body (n := 47) Tryz.func4 rfl rfl rfl fun w O => ?_
 iterate 3 refine go ?_
 refine aw_seq ?_
 refine aw_seq ?_
 obtain ⟨x6, hF, hK8⟩ := bs hF
 refine ctx (sX 47 [pf 0 (.vs 7 (List.map eGClass a0)), pf 1 (.str a1), pf 2 (.str a2), pf 16 (.bool x6)] [] 0) ?_ ?_
 ·iterate 2 refine go ?_
  obtain ⟨y3, h4, hF⟩ := bs hF
  refine rgp (cl 0 [.vs 7 (List.map eGClass a0)] [.p (.bool y3)] (ref10_Heavy_ok h4)) ?_
  refine go ?_
  rcases ie hF with ⟨hb5, hF⟩ | ⟨hb5, hF⟩
  ·refine rgo_t hb5 ?_
   iterate 2 refine rgo_t hb5 ?_
   refine rpt hb5 ?_
   cases hF
   exact rcz []
  iterate 3 refine gn hb5 ?_
  refine rpf hb5 ?_
  cases hF
  exact rcz []
 have hF := hK8
 refine go ?_
 refine cnd hF (fun hb9 hF => ?_) fun hb9 hF => ?_
 ·refine go ?_
  obtain ⟨y10, h11, hF⟩ := bs hF
  refine rgp (cl 0 [] [.p (.bool y10)] (law22_awake_ok h11)) ?_
  iterate 4 refine go ?_
  cases hF
  exact prt
 iterate 6 refine go ?_
 obtain ⟨y16, h17, hF⟩ := bs hF
 refine rgp (cl 0 [.vs 7 (List.map eGClass a0), .str a1, .str a2] [.p (.vs 2 (List.map (eA2 eI) y16))] (Fn.frozen (pure_Runs_ok h17))) ?_
 iterate 3 refine go ?_
 obtain ⟨y18, h19, hF⟩ := bs hF
 refine rgp (cl 0 [.vs 7 (List.map eGClass a0), .str a1, .str a2] [.p (.vs 2 (List.map (eA2 eI) y18))] (Fn.frozen (ref22_Runs_ok h19))) ?_
 iterate 11 refine go ?_
 refine cnd hF (fun hb20 hF => ?_) fun hb20 hF => ?_
 ·iterate 5 refine go ?_
  cases hF
  exact prt
 iterate 6 refine go ?_
 obtain ⟨lr54, hF, hK55⟩ := bs hF
 refine aw_for ((y16.length - 0 : Int).toNat + 1) (fun s1 => ∃ q, lr54 = .next q ∧ s1 = (sX 47 [] [] 0)) ?_ ?_
 ·refine rnd_loop (α := Int) (fun q => (sX 47 [pf 7 (.vs 2 (List.map (eA2 eI) y16)), pf 8 (.vs 2 (List.map (eA2 eI) y18)), pf 9 (.int .i64 q)] [] 0)) (fun k q => law22_PureRuns_L1 y16 y18 k q = some lr54) 0 (impz []) hF (fun q h => by cases h) ?_
  clear hF
  rintro k x31 hF ih
  refine rnd_succ ?_
  iterate 7 refine go ?_
  refine cnd hF (fun hb43 hF => ?_) fun hb43 hF => ?_
  ·iterate 2 refine go ?_
   refine aw_seq ?_
   refine aw_block ?_
   refine aw_seq ?_
   refine dr_start ⟨_, _, _⟩ rfl ?_
   iterate 2 refine dgo ?_
   obtain ⟨y48, h49, hF⟩ := bs hF
   refine dr_cons { need := [(37, .pv (.vs 2 (List.map (eA2 eI) y16))), (38, .pv (.int .i64 x31))], dst := some 39, val := some (.pv (.vp ((eA2 eI) y48))) } (fun m h => step_on (guard_no rfl) (op_index_vs (k := .i64) rfl h.1.1 h.1.2.1 (idx_map (eA2 eI) h49) slc_57 rfl rfl) rfl) ⟨⟨rfl, rfl, trivial⟩, trivial, trivial⟩ ?_
   refine dr_cons { need := [(39, .pv (.vp ((eA2 eI) y48)))], dst := some 40, val := some (.pv (.agg ((eA2 eI) y48))) } (fun m h => step_on (guard_no rfl) (op_load_vp_agg (ps := (eA2 eI) y48) rfl h.1.1 rfl rfl agg_59 rfl rfl) rfl) ⟨⟨rfl, trivial⟩, trivial, trivial⟩ ?_
   iterate 2 refine dgo ?_
   obtain ⟨y50, h51, hF⟩ := bs hF
   refine dr_cons { need := [(41, .pv (.vs 2 (List.map (eA2 eI) y18))), (42, .pv (.int .i64 x31))], dst := some 43, val := some (.pv (.vp ((eA2 eI) y50))) } (fun m h => step_on (guard_no rfl) (op_index_vs (k := .i64) rfl h.1.1 h.1.2.1 (idx_map (eA2 eI) h51) slc_57 rfl rfl) rfl) ⟨⟨rfl, rfl, trivial⟩, trivial, trivial⟩ ?_
   refine dr_cons { need := [(43, .pv (.vp ((eA2 eI) y50)))], dst := some 44, val := some (.pv (.agg ((eA2 eI) y50))) } (fun m h => step_on (guard_no rfl) (op_load_vp_agg (ps := (eA2 eI) y50) rfl h.1.1 rfl rfl agg_59 rfl rfl) rfl) ⟨⟨rfl, trivial⟩, trivial, trivial⟩ ?_
   refine dr_cons { need := [(40, .pv (.agg ((eA2 eI) y48))), (44, .pv (.agg ((eA2 eI) y50)))], dst := some 45, val := some (.pv (.bool (!(bA2Int y48 y50)))) } (fun m h => step_on (guard_no rfl) (op_eqAgg_neq (r := bA2Int y48 y50) rfl h.1.1 h.1.2.1 eqt_59 rfl rfl rfl rfl rfl) rfl) ⟨⟨rfl, rfl, trivial⟩, trivial, trivial⟩ ?_
   refine dr_nil mixed rfl (by kernel_rfl) ?_
   refine piz (sX 47 [pf 7 (.vs 2 (List.map (eA2 eI) y16)), pf 8 (.vs 2 (List.map (eA2 eI) y18)), pf 9 (.int .i64 x31), pf 45 (.bool (!(bA2Int y48 y50)))] [] 0) [] ?_
   refine go ?_
   refine cnd hF (fun hb52 hF => ?_) fun hb52 hF => ?_
   ·iterate 7 refine go ?_
    refine post_lp_ret ?_
    cases hF
    have hF := elim_stop hK55
    refine go ?_
    cases hF
    exact prt
   iterate 7 refine go ?_
   refine rnr ?_
   exact rnd_back (ih (w_i64 (x31 + 1)) hF) (impz [])
  refine aw_exit ?_
  iterate 2 refine post_then_exit ?_
  cases hF
  exact post_lp_break _ ⟨_, rfl, rfl⟩ (impz [])
 rintro _ ⟨⟨⟩, rfl, rfl⟩
 have hF := elim_next hK55
 clear hK55
 iterate 2 refine go ?_
 obtain ⟨y56, h57, hF⟩ := bs hF
 refine rgp (cl 0 [] [.p (.bool y56)] (law22_awake_ok h57)) ?_
 iterate 3 refine go ?_
 cases hF
 exact prt
end Go.Proofs.YtiefoagopfeibaaGreat
