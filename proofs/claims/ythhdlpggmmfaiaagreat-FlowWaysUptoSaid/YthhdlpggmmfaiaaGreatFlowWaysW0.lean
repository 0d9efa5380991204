/- A part of the proof that the law FlowWays gives true for every input. -/
import Derived.Test.YthhdlpggmmfaiaaGreatFlowWaysT
import Derived.Test.YthhdlpggmmfaiaaGreatFlowWaysX
import Derived.Test.YthhdlpggmmfaiaaGreatFlowWaysI
/- Each Go function computes its plain function. -/
namespace Go.Proofs.YthhdlpggmmfaiaaGreat
open Go.RowKit Go.Abs
set_option maxRecDepth 100000
set_option maxHeartbeats 4000000
theorem ref10_uniques_ok {a0 : GMethod} {r : Int} (hF : ref10_uniques a0 = some r) : FZ 30 [.agg (eGMethod a0)] [.p (.int .i64 r)] := by
 unfold ref10_uniques at hF
 refine fn_of_body (n := 45) Tryz.func30 rfl rfl rfl fun w O => ?_
 refine go ?_
 refine rgp (bo 0) ?_
 iterate 9 refine go ?_
 obtain ⟨x34, hF, hK35⟩ := bs hF
 refine aw_for ((a0.fParams.length - 0 : Int).toNat + 1) (fun s1 => s1 = (sX 45 [(1, some (.lp 0 0)), pf 3 (.int .i64 x34)] [bf 0 40 (eGMethod a0)] 1)) ?_ ?_
 ·refine rnd_loop (α := Int × Int) (fun q => (sX 45 [(1, some (.lp 0 0)), pf 3 (.int .i64 q.1), pf 4 (.int .i64 q.2)] [bf 0 40 (eGMethod a0)] 1)) (fun k q => ref10_uniques_L1 a0 k q.1 q.2 = some x34) (0, 0) (impz [0]) hF (fun q h => by cases h) ?_
  clear hF
  rintro k ⟨x10, x11⟩ hF ih
  refine rnd_succ ?_
  iterate 8 refine go ?_
  refine cnd hF (fun hb23 hF => ?_) fun hb23 hF => ?_
  ·iterate 2 refine go ?_
   refine aw_seq ?_
   obtain ⟨x29, hF, hK31⟩ := bs hF
   refine ctx (sX 45 [(1, some (.lp 0 0)), pf 3 (.int .i64 x29), pf 4 (.int .i64 x11)] [bf 0 40 (eGMethod a0)] 1) ?_ ?_
   ·refine aw_block ?_
    iterate 4 refine go ?_
    obtain ⟨y26, h27, hF⟩ := bs hF
    refine rgp (ix (idx_map eGVar h27) slc_29) ?_
    iterate 2 refine go ?_
    refine rgp (op_arr_vp (k := .i64) (m := 0) (n := 4) rfl rfl rfl arr_35 rfl rfl rfl rfl) ?_
    iterate 4 refine go ?_
    refine cnd hF (fun hb28 hF => ?_) fun hb28 hF => ?_
    ·iterate 4 refine go ?_
     refine reg_nil ?_
     refine piz (sX 45 [(1, some (.lp 0 0)), pf 3 (.int .i64 (w_i64 (x10 + 1))), pf 4 (.int .i64 x11)] [bf 0 40 (eGMethod a0)] 1) [0] ?_
     refine go ?_
     cases hF
     exact pcz [0]
    iterate 2 refine go ?_
    cases hF
    exact pcz [0]
   have hF := hK31
   iterate 5 refine go ?_
   refine rnr ?_
   exact rnd_back (ih (x29, w_i64 (x11 + 1)) hF) (impz [0])
  refine aw_exit ?_
  iterate 2 refine post_then_exit ?_
  cases hF
  exact post_lp_break _ rfl (impz [0])
 rintro _ rfl
 have hF := hK35
 iterate 5 refine go ?_
 obtain ⟨x69, hF, hK70⟩ := bs hF
 refine aw_for ((a0.fLocals.length - 0 : Int).toNat + 1) (fun s1 => s1 = (sX 45 [pf 3 (.int .i64 x69)] [] 0)) ?_ ?_
 ·refine rnd_loop (α := Int × Int) (fun q => (sX 45 [(1, some (.lp 0 0)), pf 3 (.int .i64 q.1), pf 5 (.int .i64 q.2)] [bf 0 40 (eGMethod a0)] 1)) (fun k q => ref10_uniques_L2 a0 k q.1 q.2 = some x69) (x34, 0) (impz [0]) hF (fun q h => by cases h) ?_
  clear hF
  rintro k ⟨x45, x46⟩ hF ih
  refine rnd_succ ?_
  iterate 8 refine go ?_
  refine cnd hF (fun hb58 hF => ?_) fun hb58 hF => ?_
  ·iterate 2 refine go ?_
   refine aw_seq ?_
   obtain ⟨x64, hF, hK66⟩ := bs hF
   refine ctx (sX 45 [(1, some (.lp 0 0)), pf 3 (.int .i64 x64), pf 5 (.int .i64 x46)] [bf 0 40 (eGMethod a0)] 1) ?_ ?_
   ·refine aw_block ?_
    iterate 4 refine go ?_
    obtain ⟨y61, h62, hF⟩ := bs hF
    refine rgp (ix (idx_map eGVar h62) slc_29) ?_
    iterate 2 refine go ?_
    refine rgp (op_arr_vp (k := .i64) (m := 0) (n := 4) rfl rfl rfl arr_35 rfl rfl rfl rfl) ?_
    iterate 4 refine go ?_
    refine cnd hF (fun hb63 hF => ?_) fun hb63 hF => ?_
    ·iterate 4 refine go ?_
     refine reg_nil ?_
     refine piz (sX 45 [(1, some (.lp 0 0)), pf 3 (.int .i64 (w_i64 (x45 + 1))), pf 5 (.int .i64 x46)] [bf 0 40 (eGMethod a0)] 1) [0] ?_
     refine go ?_
     cases hF
     exact pcz [0]
    iterate 2 refine go ?_
    cases hF
    exact pcz [0]
   have hF := hK66
   iterate 5 refine go ?_
   refine rnr ?_
   exact rnd_back (ih (x64, w_i64 (x46 + 1)) hF) (impz [0])
  refine aw_exit ?_
  iterate 2 refine post_then_exit ?_
  cases hF
  exact post_lp_break _ rfl (impz [])
 rintro _ rfl
 have hF := hK70
 iterate 6 refine go ?_
 cases hF
 exact prt
theorem ref10_kids_ring : ∀ n : Nat, (∀ (a0 : GExpr) (a1 : Int) (r : Bool), ref10_kids n a0 a1 = some r → FZ 64 [.agg (eGExpr a0), .int .i64 a1] [.p (.bool r)]) := by
 intro n
 induction n with
 | zero => exact (fun _ _ _ h => by simp [ref10_kids] at h)
 | succ n ih =>
  have ref10_kids_ih := ih
  clear ih
  intro a0 a1 r hF
  unfold ref10_kids at hF
  revert hF ref10_kids_ih
  generalize ref10_kids n = ref10_kids_rec
  intro ref10_kids_ih hF
  refine fn_of_body (n := 29) Tryz.func64 rfl rfl rfl fun w O => ?_
  refine go ?_
  refine rgp (bo 0) ?_
  iterate 2 refine go ?_
  refine aw_seq ?_
  refine aw_seq ?_
  obtain ⟨x2, hF, hK4⟩ := bs hF
  refine ctx (sX 29 [pf 1 (.int .i64 a1), (2, some (.lp 0 0)), pf 13 (.bool x2)] [bf 0 46 (eGExpr a0)] 1) ?_ ?_
  ·iterate 4 refine go ?_
   rcases ie hF with ⟨hb1, hF⟩ | ⟨hb1, hF⟩
   ·refine rgo_t hb1 ?_
    iterate 3 refine rgo_t hb1 ?_
    refine rpt hb1 ?_
    cases hF
    exact rcz [0]
   iterate 2 refine gn hb1 ?_
   refine rgn hb1 (op_len_vs (n := a0.fKids.length) rfl rfl (lenR eLGExpr_map) slc_44 rfl rfl) ?_
   refine gn hb1 ?_
   refine rpf hb1 ?_
   cases hF
   exact rcz [0]
  have hF := hK4
  refine go ?_
  refine cnd hF (fun hb5 hF => ?_) fun hb5 hF => ?_
  ·iterate 5 refine go ?_
   cases hF
   exact prt
  iterate 6 refine go ?_
  obtain ⟨lr39, hF, hK40⟩ := bs hF
  refine aw_for ((a0.fKids.length - 0 : Int).toNat + 1) (fun s1 => ∃ q, lr39 = .next q ∧ s1 = (sX 29 [] [] 0)) ?_ ?_
  ·refine rnd_loop (α := Int) (fun q => (sX 29 [pf 1 (.int .i64 a1), (2, some (.lp 0 0)), pf 5 (.int .i64 q)] [bf 0 46 (eGExpr a0)] 1)) (fun k q => ref10_kids_L1 a0 a1 ref10_kids_rec k q = some lr39) 0 (impz [0]) hF (fun q h => by cases h) ?_
   clear hF
   rintro k x16 hF ih
   refine rnd_succ ?_
   iterate 5 refine go ?_
   refine rgp (op_len_vs (n := a0.fKids.length) rfl rfl (lenR eLGExpr_map) slc_44 rfl rfl) ?_
   iterate 2 refine go ?_
   refine cnd hF (fun hb28 hF => ?_) fun hb28 hF => ?_
   ·iterate 2 refine go ?_
    refine aw_seq ?_
    refine aw_block ?_
    iterate 4 refine go ?_
    obtain ⟨y33, h34, hF⟩ := bs hF
    refine rgp (ix (idxR eLGExpr_map h34) slc_44) ?_
    refine rgp (lw (eGExpr y33) agg_46) ?_
    iterate 2 refine go ?_
    obtain ⟨y35, h36, hF⟩ := bs hF
    refine rgp (cl 1 [.agg (eGExpr y33), .int .i64 (w_i64 (a1 - 1))] [.p (.bool y35)] (ref10_kids_ih _ _ _ h36)) ?_
    refine go ?_
    refine cnd hF (fun hb37 hF => ?_) fun hb37 hF => ?_
    ·iterate 7 refine go ?_
     refine post_lp_ret ?_
     cases hF
     have hF := elim_stop hK40
     refine go ?_
     cases hF
     exact prt
    iterate 7 refine go ?_
    refine rnr ?_
    exact rnd_back (ih (w_i64 (x16 + 1)) hF) (impz [0])
   refine aw_exit ?_
   iterate 2 refine post_then_exit ?_
   cases hF
   exact post_lp_break _ ⟨_, rfl, rfl⟩ (impz [])
  rintro _ ⟨⟨⟩, rfl, rfl⟩
  have hF := elim_next hK40
  clear hK40
  iterate 5 refine go ?_
  cases hF
  exact prt
theorem ref10_kids_ok {n : Nat} {a0 : GExpr} {a1 : Int} {r : Bool} (hF : ref10_kids n a0 a1 = some r) : FZ 64 [.agg (eGExpr a0), .int .i64 a1] [.p (.bool r)] := (ref10_kids_ring n) _ _ _ hF

theorem ref10_much_ring : ∀ n : Nat, (∀ (a0 : GStmt) (a1 : Int) (r : Bool), ref10_much n a0 a1 = some r → FZ 31 [.agg (eGStmt a0), .int .i64 a1] [.p (.bool r)]) := by
 intro n
 induction n with
 | zero => exact (fun _ _ _ h => by simp [ref10_much] at h)
 | succ n ih =>
  have ref10_much_ih := ih
  clear ih
  intro a0 a1 r hF
  unfold ref10_much at hF
  revert hF ref10_much_ih
  generalize ref10_much n = ref10_much_rec
  intro ref10_much_ih hF
  refine fn_of_body (n := 76) Tryz.func31 rfl rfl rfl fun w O => ?_
  refine go ?_
  refine rgp (bo 0) ?_
  iterate 2 refine go ?_
  refine aw_seq ?_
  refine aw_seq ?_
  obtain ⟨x7, hF, hK9⟩ := bs hF
  refine ctx (sX 76 [pf 1 (.int .i64 a1), (2, some (.lp 0 0)), pf 32 (.bool x7)] [bf 0 48 (eGStmt a0)] 1) ?_ ?_
  ·iterate 4 refine go ?_
   rcases ie hF with ⟨hb1, hF⟩ | ⟨hb1, hF⟩
   ·refine rgo_t hb1 ?_
    iterate 3 refine rgo_t hb1 ?_
    refine rpt hb1 ?_
    refine go ?_
    iterate 4 refine rgo_t rfl ?_
    refine rpt rfl ?_
    refine go ?_
    iterate 4 refine rgo_t rfl ?_
    refine rpt rfl ?_
    refine go ?_
    iterate 3 refine rgo_t rfl ?_
    refine rpt rfl ?_
    cases hF
    exact rcz [0]
   iterate 2 refine gn hb1 ?_
   refine rgn hb1 (op_len_vs (n := a0.fBody.length) rfl rfl (lenR eLGStmt_map) slc_38 rfl rfl) ?_
   refine gn hb1 ?_
   refine rpf hb1 ?_
   refine go ?_
   rcases ie hF with ⟨hb2, hF⟩ | ⟨hb2, hF⟩
   ·refine rgo_t hb2 ?_
    iterate 3 refine rgo_t hb2 ?_
    refine rpt hb2 ?_
    refine go ?_
    iterate 4 refine rgo_t rfl ?_
    refine rpt rfl ?_
    refine go ?_
    iterate 3 refine rgo_t rfl ?_
    refine rpt rfl ?_
    cases hF
    exact rcz [0]
   iterate 2 refine gn hb2 ?_
   refine rgn hb2 (op_len_vs (n := a0.fElse.length) rfl rfl (lenR eLGStmt_map) slc_38 rfl rfl) ?_
   refine gn hb2 ?_
   refine rpf hb2 ?_
   refine go ?_
   rcases ie hF with ⟨hb3, hF⟩ | ⟨hb3, hF⟩
   ·refine rgo_t hb3 ?_
    iterate 3 refine rgo_t hb3 ?_
    refine rpt hb3 ?_
    refine go ?_
    iterate 3 refine rgo_t rfl ?_
    refine rpt rfl ?_
    cases hF
    exact rcz [0]
   iterate 2 refine gn hb3 ?_
   refine rgn hb3 (op_len_vs (n := a0.fArgs.length) rfl rfl (lenR eLGExpr_map) slc_44 rfl rfl) ?_
   refine gn hb3 ?_
   refine rpf hb3 ?_
   refine go ?_
   rcases ie hF with ⟨hb4, hF⟩ | ⟨hb4, hF⟩
   ·refine rgo_t hb4 ?_
    iterate 2 refine rgo_t hb4 ?_
    refine rpt hb4 ?_
    cases hF
    exact rcz [0]
   refine gn hb4 ?_
   refine rgn hb4 (la (eGExpr a0.fE) agg_46) ?_
   obtain ⟨y5, h6, hF⟩ := bs hF
   refine rgn hb4 (cl 1 [.agg (eGExpr a0.fE), .int .i64 25] [.p (.bool y5)] (ref10_kids_ok h6)) ?_
   refine rpf hb4 ?_
   cases hF
   exact rcz [0]
  have hF := hK9
  refine go ?_
  refine cnd hF (fun hb10 hF => ?_) fun hb10 hF => ?_
  ·iterate 5 refine go ?_
   cases hF
   exact prt
  iterate 6 refine go ?_
  obtain ⟨lr44, hF, hK45⟩ := bs hF
  refine aw_for ((a0.fArgs.length - 0 : Int).toNat + 1) (fun s1 => ∃ q, lr44 = .next q ∧ s1 = (sX 76 [pf 1 (.int .i64 a1), (2, some (.lp 0 0))] [bf 0 48 (eGStmt a0)] 1)) ?_ ?_
  ·refine rnd_loop (α := Int) (fun q => (sX 76 [pf 1 (.int .i64 a1), (2, some (.lp 0 0)), pf 5 (.int .i64 q)] [bf 0 48 (eGStmt a0)] 1)) (fun k q => ref10_much_L1 a0 k q = some lr44) 0 (impz [0]) hF (fun q h => by cases h) ?_
   clear hF
   rintro k x21 hF ih
   refine rnd_succ ?_
   iterate 5 refine go ?_
   refine rgp (op_len_vs (n := a0.fArgs.length) rfl rfl (lenR eLGExpr_map) slc_44 rfl rfl) ?_
   iterate 2 refine go ?_
   refine cnd hF (fun hb33 hF => ?_) fun hb33 hF => ?_
   ·iterate 2 refine go ?_
    refine aw_seq ?_
    refine aw_block ?_
    iterate 4 refine go ?_
    obtain ⟨y38, h39, hF⟩ := bs hF
    refine rgp (ix (idxR eLGExpr_map h39) slc_44) ?_
    refine rgp (lw (eGExpr y38) agg_46) ?_
    obtain ⟨y40, h41, hF⟩ := bs hF
    refine rgp (cl 1 [.agg (eGExpr y38), .int .i64 25] [.p (.bool y40)] (ref10_kids_ok h41)) ?_
    refine go ?_
    refine cnd hF (fun hb42 hF => ?_) fun hb42 hF => ?_
    ·iterate 7 refine go ?_
     refine post_lp_ret ?_
     cases hF
     have hF := elim_stop hK45
     refine go ?_
     cases hF
     exact prt
    iterate 7 refine go ?_
    refine rnr ?_
    exact rnd_back (ih (w_i64 (x21 + 1)) hF) (impz [0])
   refine aw_exit ?_
   iterate 2 refine post_then_exit ?_
   cases hF
   exact post_lp_break _ ⟨_, rfl, rfl⟩ (impz [0])
  rintro _ ⟨⟨⟩, rfl, rfl⟩
  have hF := elim_next hK45
  clear hK45
  iterate 5 refine go ?_
  obtain ⟨lr79, hF, hK80⟩ := bs hF
  refine aw_for ((a0.fBody.length - 0 : Int).toNat + 1) (fun s1 => ∃ q, lr79 = .next q ∧ s1 = (sX 76 [pf 1 (.int .i64 a1), (2, some (.lp 0 0))] [bf 0 48 (eGStmt a0)] 1)) ?_ ?_
  ·refine rnd_loop (α := Int) (fun q => (sX 76 [pf 1 (.int .i64 a1), (2, some (.lp 0 0)), pf 6 (.int .i64 q)] [bf 0 48 (eGStmt a0)] 1)) (fun k q => ref10_much_L2 a0 a1 ref10_much_rec k q = some lr79) 0 (impz [0]) hF (fun q h => by cases h) ?_
   clear hF
   rintro k x56 hF ih
   refine rnd_succ ?_
   iterate 5 refine go ?_
   refine rgp (op_len_vs (n := a0.fBody.length) rfl rfl (lenR eLGStmt_map) slc_38 rfl rfl) ?_
   iterate 2 refine go ?_
   refine cnd hF (fun hb68 hF => ?_) fun hb68 hF => ?_
   ·iterate 2 refine go ?_
    refine aw_seq ?_
    refine aw_block ?_
    iterate 4 refine go ?_
    obtain ⟨y73, h74, hF⟩ := bs hF
    refine rgp (ix (idxR eLGStmt_map h74) slc_38) ?_
    refine rgp (lw (eGStmt y73) agg_48) ?_
    iterate 2 refine go ?_
    obtain ⟨y75, h76, hF⟩ := bs hF
    refine rgp (cl 1 [.agg (eGStmt y73), .int .i64 (w_i64 (a1 - 1))] [.p (.bool y75)] (ref10_much_ih _ _ _ h76)) ?_
    refine go ?_
    refine cnd hF (fun hb77 hF => ?_) fun hb77 hF => ?_
    ·iterate 7 refine go ?_
     refine post_lp_ret ?_
     cases hF
     have hF := elim_stop hK80
     refine go ?_
     cases hF
     exact prt
    iterate 7 refine go ?_
    refine rnr ?_
    exact rnd_back (ih (w_i64 (x56 + 1)) hF) (impz [0])
   refine aw_exit ?_
   iterate 2 refine post_then_exit ?_
   cases hF
   exact post_lp_break _ ⟨_, rfl, rfl⟩ (impz [0])
  rintro _ ⟨⟨⟩, rfl, rfl⟩
  have hF := elim_next hK80
  clear hK80
  iterate 5 refine go ?_
  obtain ⟨lr114, hF, hK115⟩ := bs hF
  refine aw_for ((a0.fElse.length - 0 : Int).toNat + 1) (fun s1 => ∃ q, lr114 = .next q ∧ s1 = (sX 76 [] [] 0)) ?_ ?_
  ·refine rnd_loop (α := Int) (fun q => (sX 76 [pf 1 (.int .i64 a1), (2, some (.lp 0 0)), pf 7 (.int .i64 q)] [bf 0 48 (eGStmt a0)] 1)) (fun k q => ref10_much_L3 a0 a1 ref10_much_rec k q = some lr114) 0 (impz [0]) hF (fun q h => by cases h) ?_
   clear hF
   rintro k x91 hF ih
   refine rnd_succ ?_
   iterate 5 refine go ?_
   refine rgp (op_len_vs (n := a0.fElse.length) rfl rfl (lenR eLGStmt_map) slc_38 rfl rfl) ?_
   iterate 2 refine go ?_
   refine cnd hF (fun hb103 hF => ?_) fun hb103 hF => ?_
   ·iterate 2 refine go ?_
    refine aw_seq ?_
    refine aw_block ?_
    iterate 4 refine go ?_
    obtain ⟨y108, h109, hF⟩ := bs hF
    refine rgp (ix (idxR eLGStmt_map h109) slc_38) ?_
    refine rgp (lw (eGStmt y108) agg_48) ?_
    iterate 2 refine go ?_
    obtain ⟨y110, h111, hF⟩ := bs hF
    refine rgp (cl 1 [.agg (eGStmt y108), .int .i64 (w_i64 (a1 - 1))] [.p (.bool y110)] (ref10_much_ih _ _ _ h111)) ?_
    refine go ?_
    refine cnd hF (fun hb112 hF => ?_) fun hb112 hF => ?_
    ·iterate 7 refine go ?_
     refine post_lp_ret ?_
     cases hF
     have hF := elim_stop hK115
     refine go ?_
     cases hF
     exact prt
    iterate 7 refine go ?_
    refine rnr ?_
    exact rnd_back (ih (w_i64 (x91 + 1)) hF) (impz [0])
   refine aw_exit ?_
   iterate 2 refine post_then_exit ?_
   cases hF
   exact post_lp_break _ ⟨_, rfl, rfl⟩ (impz [])
  rintro _ ⟨⟨⟩, rfl, rfl⟩
  have hF := elim_next hK115
  clear hK115
  iterate 5 refine go ?_
  cases hF
  exact prt
theorem ref10_much_ok {n : Nat} {a0 : GStmt} {a1 : Int} {r : Bool} (hF : ref10_much n a0 a1 = some r) : FZ 31 [.agg (eGStmt a0), .int .i64 a1] [.p (.bool r)] := (ref10_much_ring n) _ _ _ hF

theorem ref08_Size_ring : ∀ n : Nat, (∀ (a0 : GStmt) (r : Int), ref08_Size n a0 = some r → FZ 32 [.agg (eGStmt a0)] [.p (.int .i64 r)]) := by
 intro n
 induction n with
 | zero => exact (fun _ _ h => by simp [ref08_Size] at h)
 | succ n ih =>
  have ref08_Size_ih := ih
  clear ih
  intro a0 r hF
  unfold ref08_Size at hF
  revert hF ref08_Size_ih
  generalize ref08_Size n = ref08_Size_rec
  intro ref08_Size_ih hF
  refine fn_of_body (n := 37) Tryz.func32 rfl rfl rfl fun w O => ?_
  refine go ?_
  refine rgp (bo 0) ?_
  iterate 9 refine go ?_
  obtain ⟨x34, hF, hK35⟩ := bs hF
  refine aw_for ((a0.fBody.length - 0 : Int).toNat + 1) (fun s1 => s1 = (sX 37 [(1, some (.lp 0 0)), pf 3 (.int .i64 x34)] [bf 0 48 (eGStmt a0)] 1)) ?_ ?_
  ·refine rnd_loop (α := Int × Int) (fun q => (sX 37 [(1, some (.lp 0 0)), pf 3 (.int .i64 q.1), pf 4 (.int .i64 q.2)] [bf 0 48 (eGStmt a0)] 1)) (fun k q => ref08_Size_L1 a0 ref08_Size_rec k q.1 q.2 = some x34) (1, 0) (impz [0]) hF (fun q h => by cases h) ?_
   clear hF
   rintro k ⟨x10, x11⟩ hF ih
   refine rnd_succ ?_
   iterate 5 refine go ?_
   refine rgp (op_len_vs (n := a0.fBody.length) rfl rfl (lenR eLGStmt_map) slc_38 rfl rfl) ?_
   iterate 2 refine go ?_
   refine cnd hF (fun hb23 hF => ?_) fun hb23 hF => ?_
   ·iterate 2 refine go ?_
    refine aw_seq ?_
    refine aw_block ?_
    iterate 5 refine go ?_
    obtain ⟨y28, h29, hF⟩ := bs hF
    refine rgp (ix (idxR eLGStmt_map h29) slc_38) ?_
    refine rgp (lw (eGStmt y28) agg_48) ?_
    obtain ⟨y30, h31, hF⟩ := bs hF
    refine rgp (cl 1 [.agg (eGStmt y28)] [.p (.int .i64 y30)] (ref08_Size_ih _ _ h31)) ?_
    iterate 2 refine go ?_
    refine reg_nil ?_
    refine piz (sX 37 [(1, some (.lp 0 0)), pf 3 (.int .i64 (w_i64 (x10 + y30))), pf 4 (.int .i64 x11)] [bf 0 48 (eGStmt a0)] 1) [0] ?_
    iterate 6 refine go ?_
    refine rnr ?_
    exact rnd_back (ih (w_i64 (x10 + y30), w_i64 (x11 + 1)) hF) (impz [0])
   refine aw_exit ?_
   iterate 2 refine post_then_exit ?_
   cases hF
   exact post_lp_break _ rfl (impz [0])
  rintro _ rfl
  have hF := hK35
  iterate 5 refine go ?_
  obtain ⟨x69, hF, hK70⟩ := bs hF
  refine aw_for ((a0.fElse.length - 0 : Int).toNat + 1) (fun s1 => s1 = (sX 37 [pf 3 (.int .i64 x69)] [] 0)) ?_ ?_
  ·refine rnd_loop (α := Int × Int) (fun q => (sX 37 [(1, some (.lp 0 0)), pf 3 (.int .i64 q.1), pf 5 (.int .i64 q.2)] [bf 0 48 (eGStmt a0)] 1)) (fun k q => ref08_Size_L2 a0 ref08_Size_rec k q.1 q.2 = some x69) (x34, 0) (impz [0]) hF (fun q h => by cases h) ?_
   clear hF
   rintro k ⟨x45, x46⟩ hF ih
   refine rnd_succ ?_
   iterate 5 refine go ?_
   refine rgp (op_len_vs (n := a0.fElse.length) rfl rfl (lenR eLGStmt_map) slc_38 rfl rfl) ?_
   iterate 2 refine go ?_
   refine cnd hF (fun hb58 hF => ?_) fun hb58 hF => ?_
   ·iterate 2 refine go ?_
    refine aw_seq ?_
    refine aw_block ?_
    iterate 5 refine go ?_
    obtain ⟨y63, h64, hF⟩ := bs hF
    refine rgp (ix (idxR eLGStmt_map h64) slc_38) ?_
    refine rgp (lw (eGStmt y63) agg_48) ?_
    obtain ⟨y65, h66, hF⟩ := bs hF
    refine rgp (cl 1 [.agg (eGStmt y63)] [.p (.int .i64 y65)] (ref08_Size_ih _ _ h66)) ?_
    iterate 2 refine go ?_
    refine reg_nil ?_
    refine piz (sX 37 [(1, some (.lp 0 0)), pf 3 (.int .i64 (w_i64 (x45 + y65))), pf 5 (.int .i64 x46)] [bf 0 48 (eGStmt a0)] 1) [0] ?_
    iterate 6 refine go ?_
    refine rnr ?_
    exact rnd_back (ih (w_i64 (x45 + y65), w_i64 (x46 + 1)) hF) (impz [0])
   refine aw_exit ?_
   iterate 2 refine post_then_exit ?_
   cases hF
   exact post_lp_break _ rfl (impz [])
  rintro _ rfl
  have hF := hK70
  iterate 6 refine go ?_
  cases hF
  exact prt
theorem ref08_Size_ok {n : Nat} {a0 : GStmt} {r : Int} (hF : ref08_Size n a0 = some r) : FZ 32 [.agg (eGStmt a0)] [.p (.int .i64 r)] := (ref08_Size_ring n) _ _ hF

theorem ref10_Heavy_ok {a0 : List GClass} {r : Bool} (hF : ref10_Heavy a0 = some r) : FZ 7 [.vs 7 (List.map eGClass a0)] [.p (.bool r)] := by
 unfold ref10_Heavy at hF
 refine fn_of_body (n := 106) Tryz.func7 rfl rfl rfl fun w O => ?_
 iterate 10 refine go ?_
 obtain ⟨lr767, hF, hK768⟩ := bs hF
 refine aw_for ((a0.length - 0 : Int).toNat + 1) (fun s1 => ∃ q, lr767 = .next q ∧ s1 = (sX 106 [pf 3 (.int .i64 q)] [] 0)) ?_ ?_
 ·refine rnd_loop (α := Int × Int) (fun q => (sX 106 [pf 0 (.vs 7 (List.map eGClass a0)), pf 3 (.int .i64 q.1), pf 4 (.int .i64 q.2)] [] 0)) (fun k q => ref10_Heavy_L1 a0 k q.1 q.2 = some lr767) (0, 0) (impz []) hF (fun q h => by cases h) ?_
  clear hF
  rintro k ⟨x254, x255⟩ hF ih
  refine rnd_succ ?_
  iterate 7 refine go ?_
  refine cnd hF (fun hb511 hF => ?_) fun hb511 hF => ?_
  ·iterate 2 refine go ?_
   refine aw_seq ?_
   refine aw_block ?_
   iterate 3 refine go ?_
   obtain ⟨y514, h515, hF⟩ := bs hF
   refine rgp (ix (idx_map eGClass h515) slc_22) ?_
   refine rgp (lw (eGClass y514) agg_32) ?_
   refine rgp (al 0 (eGClass zGClass) zer_32) ?_
   iterate 2 refine go ?_
   refine aw_seq ?_
   refine aw_seq ?_
   obtain ⟨x520, hF, hK522⟩ := bs hF
   refine ctx (sX 106 [pf 0 (.vs 7 (List.map eGClass a0)), pf 3 (.int .i64 x254), pf 4 (.int .i64 x255), (5, some (.lp 0 0)), pf 45 (.bool x520)] [bf 0 32 (eGClass y514)] 1) ?_ ?_
   ·iterate 5 refine go ?_
    rcases ie hF with ⟨hb516, hF⟩ | ⟨hb516, hF⟩
    ·refine rgo_t hb516 ?_
     iterate 3 refine rgo_t hb516 ?_
     refine rpt hb516 ?_
     refine go ?_
     iterate 4 refine rgo_t rfl ?_
     refine rpt rfl ?_
     refine go ?_
     iterate 4 refine rgo_t rfl ?_
     refine rpt rfl ?_
     refine go ?_
     iterate 4 refine rgo_t rfl ?_
     refine rpt rfl ?_
     cases hF
     exact rcz [0]
    iterate 4 refine gn hb516 ?_
    refine rpf hb516 ?_
    refine go ?_
    rcases ie hF with ⟨hb517, hF⟩ | ⟨hb517, hF⟩
    ·refine rgo_t hb517 ?_
     iterate 3 refine rgo_t hb517 ?_
     refine rpt hb517 ?_
     refine go ?_
     iterate 4 refine rgo_t rfl ?_
     refine rpt rfl ?_
     refine go ?_
     iterate 4 refine rgo_t rfl ?_
     refine rpt rfl ?_
     cases hF
     exact rcz [0]
    iterate 4 refine gn hb517 ?_
    refine rpf hb517 ?_
    refine go ?_
    rcases ie hF with ⟨hb518, hF⟩ | ⟨hb518, hF⟩
    ·refine rgo_t hb518 ?_
     iterate 3 refine rgo_t hb518 ?_
     refine rpt hb518 ?_
     refine go ?_
     iterate 4 refine rgo_t rfl ?_
     refine rpt rfl ?_
     cases hF
     exact rcz [0]
    iterate 4 refine gn hb518 ?_
    refine rpf hb518 ?_
    refine go ?_
    rcases ie hF with ⟨hb519, hF⟩ | ⟨hb519, hF⟩
    ·refine rgo_t hb519 ?_
     iterate 3 refine rgo_t hb519 ?_
     refine rpt hb519 ?_
     cases hF
     exact rcz [0]
    iterate 4 refine gn hb519 ?_
    refine rpf hb519 ?_
    cases hF
    exact rcz [0]
   have hF := hK522
   refine go ?_
   refine cnd hF (fun hb523 hF => ?_) fun hb523 hF => ?_
   ·iterate 8 refine go ?_
    refine post_lp_ret ?_
    cases hF
    have hF := elim_stop hK768
    refine go ?_
    cases hF
    exact prt
   iterate 5 refine go ?_
   obtain ⟨lr762, hF, hK763⟩ := bs hF
   refine aw_for ((y514.fMethods.length - 0 : Int).toNat + 1) (fun s1 => ∃ q, lr762 = .next q ∧ s1 = (sX 106 [pf 0 (.vs 7 (List.map eGClass a0)), pf 3 (.int .i64 q), pf 4 (.int .i64 x255)] [] 0)) ?_ ?_
   ·refine rnd_loop (α := Int × Int) (fun q => (sX 106 [pf 0 (.vs 7 (List.map eGClass a0)), pf 3 (.int .i64 q.1), pf 4 (.int .i64 x255), (5, some (.lp 0 0)), pf 6 (.int .i64 q.2)] [bf 0 32 (eGClass y514)] 1)) (fun k q => ref10_Heavy_L2 y514 k q.1 q.2 = some lr762) (x254, 0) (impz [0]) hF (fun q h => by cases h) ?_
    clear hF
    rintro k ⟨x601, x602⟩ hF ih
    refine rnd_succ ?_
    iterate 8 refine go ?_
    refine cnd hF (fun hb682 hF => ?_) fun hb682 hF => ?_
    ·iterate 2 refine go ?_
     refine aw_seq ?_
     refine aw_block ?_
     iterate 4 refine go ?_
     obtain ⟨y685, h686, hF⟩ := bs hF
     refine rgp (ix (idx_map eGMethod h686) slc_30) ?_
     refine rgp (lw (eGMethod y685) agg_40) ?_
     refine rgp (al 1 (eGMethod zGMethod) zer_40) ?_
     iterate 2 refine go ?_
     refine aw_seq ?_
     refine aw_seq ?_
     obtain ⟨x692, hF, hK694⟩ := bs hF
     refine ctx (sX 106 [pf 0 (.vs 7 (List.map eGClass a0)), pf 3 (.int .i64 x601), pf 4 (.int .i64 x255), (5, some (.lp 0 0)), pf 6 (.int .i64 x602), (7, some (.lp 1 0)), pf 78 (.bool x692)] [bf 0 32 (eGClass y514), bf 1 40 (eGMethod y685)] 2) ?_ ?_
     ·iterate 6 refine go ?_
      rcases ie hF with ⟨hb687, hF⟩ | ⟨hb687, hF⟩
      ·refine rgo_t hb687 ?_
       iterate 3 refine rgo_t hb687 ?_
       refine rpt hb687 ?_
       refine go ?_
       iterate 4 refine rgo_t rfl ?_
       refine rpt rfl ?_
       refine go ?_
       iterate 3 refine rgo_t rfl ?_
       refine rpt rfl ?_
       cases hF
       exact rcz [0, 1]
      iterate 4 refine gn hb687 ?_
      refine rpf hb687 ?_
      refine go ?_
      rcases ie hF with ⟨hb688, hF⟩ | ⟨hb688, hF⟩
      ·refine rgo_t hb688 ?_
       iterate 3 refine rgo_t hb688 ?_
       refine rpt hb688 ?_
       refine go ?_
       iterate 3 refine rgo_t rfl ?_
       refine rpt rfl ?_
       cases hF
       exact rcz [0, 1]
      iterate 2 refine gn hb688 ?_
      refine rgn hb688 (op_len_vs (n := y685.fBody.length) rfl rfl (lenR eLGStmt_map) slc_38 rfl rfl) ?_
      refine gn hb688 ?_
      refine rpf hb688 ?_
      refine go ?_
      rcases ie hF with ⟨hb689, hF⟩ | ⟨hb689, hF⟩
      ·refine rgo_t hb689 ?_
       iterate 2 refine rgo_t hb689 ?_
       refine rpt hb689 ?_
       cases hF
       exact rcz [0, 1]
      refine rgn hb689 (la (eGMethod y685) agg_40) ?_
      obtain ⟨y690, h691, hF⟩ := bs hF
      refine rgn hb689 (cl 2 [.agg (eGMethod y685)] [.p (.int .i64 y690)] (ref10_uniques_ok h691)) ?_
      refine gn hb689 ?_
      refine rpf hb689 ?_
      cases hF
      exact rcz [0, 1]
     have hF := hK694
     refine go ?_
     refine cnd hF (fun hb695 hF => ?_) fun hb695 hF => ?_
     ·iterate 8 refine go ?_
      refine post_lp_ret ?_
      cases hF
      have hF := elim_stop hK763
      iterate 3 refine go ?_
      refine post_lp_ret ?_
      cases hF
      have hF := elim_stop hK768
      refine go ?_
      cases hF
      exact prt
     iterate 5 refine go ?_
     obtain ⟨lr757, hF, hK758⟩ := bs hF
     refine aw_for ((y685.fBody.length - 0 : Int).toNat + 1) (fun s1 => ∃ q, lr757 = .next q ∧ s1 = (sX 106 [pf 0 (.vs 7 (List.map eGClass a0)), pf 3 (.int .i64 q), pf 4 (.int .i64 x255), (5, some (.lp 0 0)), pf 6 (.int .i64 x602)] [bf 0 32 (eGClass y514)] 1)) ?_ ?_
     ·refine rnd_loop (α := Int × Int) (fun q => (sX 106 [pf 0 (.vs 7 (List.map eGClass a0)), pf 3 (.int .i64 q.1), pf 4 (.int .i64 x255), (5, some (.lp 0 0)), pf 6 (.int .i64 x602), (7, some (.lp 1 0)), pf 8 (.int .i64 q.2)] [bf 0 32 (eGClass y514), bf 1 40 (eGMethod y685)] 2)) (fun k q => ref10_Heavy_L3 y685 k q.1 q.2 = some lr757) (x601, 0) (impz [0, 1]) hF (fun q h => by cases h) ?_
      clear hF
      rintro k ⟨x714, x715⟩ hF ih
      refine rnd_succ ?_
      iterate 5 refine go ?_
      refine rgp (op_len_vs (n := y685.fBody.length) rfl rfl (lenR eLGStmt_map) slc_38 rfl rfl) ?_
      iterate 2 refine go ?_
      refine cnd hF (fun hb736 hF => ?_) fun hb736 hF => ?_
      ·iterate 2 refine go ?_
       refine aw_seq ?_
       refine aw_block ?_
       refine aw_seq ?_
       refine aw_seq ?_
       obtain ⟨x742, hF, hK744⟩ := bs hF
       refine ctx (sX 106 [pf 0 (.vs 7 (List.map eGClass a0)), pf 3 (.int .i64 x714), pf 4 (.int .i64 x255), (5, some (.lp 0 0)), pf 6 (.int .i64 x602), (7, some (.lp 1 0)), pf 8 (.int .i64 x715), pf 95 (.bool x742)] [bf 0 32 (eGClass y514), bf 1 40 (eGMethod y685)] 2) ?_ ?_
       ·iterate 4 refine go ?_
        rcases ie hF with ⟨hb737, hF⟩ | ⟨hb737, hF⟩
        ·refine rgo_t hb737 ?_
         iterate 5 refine rgo_t hb737 ?_
         refine rpt hb737 ?_
         cases hF
         exact rcz [0, 1]
        iterate 3 refine gn hb737 ?_
        obtain ⟨y738, h739, hF⟩ := bs hF
        refine rgn hb737 (ix (idxR eLGStmt_map h739) slc_38) ?_
        refine rgn hb737 (lw (eGStmt y738) agg_48) ?_
        obtain ⟨y740, h741, hF⟩ := bs hF
        refine rgn hb737 (cl 2 [.agg (eGStmt y738), .int .i64 25] [.p (.bool y740)] (ref10_much_ok h741)) ?_
        refine rpf hb737 ?_
        cases hF
        exact rcz [0, 1]
       have hF := hK744
       refine go ?_
       refine cnd hF (fun hb745 hF => ?_) fun hb745 hF => ?_
       ·iterate 8 refine go ?_
        refine post_lp_ret ?_
        cases hF
        have hF := elim_stop hK758
        iterate 3 refine go ?_
        refine post_lp_ret ?_
        cases hF
        have hF := elim_stop hK763
        iterate 3 refine go ?_
        refine post_lp_ret ?_
        cases hF
        have hF := elim_stop hK768
        refine go ?_
        cases hF
        exact prt
       iterate 7 refine go ?_
       obtain ⟨y750, h751, hF⟩ := bs hF
       refine rgp (ix (idxR eLGStmt_map h751) slc_38) ?_
       refine rgp (lw (eGStmt y750) agg_48) ?_
       obtain ⟨y752, h753, hF⟩ := bs hF
       refine rgp (cl 2 [.agg (eGStmt y750)] [.p (.int .i64 y752)] (ref08_Size_ok h753)) ?_
       iterate 2 refine go ?_
       refine reg_nil ?_
       refine piz (sX 106 [pf 0 (.vs 7 (List.map eGClass a0)), pf 3 (.int .i64 (w_i64 (x714 + y752))), pf 4 (.int .i64 x255), (5, some (.lp 0 0)), pf 6 (.int .i64 x602), (7, some (.lp 1 0)), pf 8 (.int .i64 x715)] [bf 0 32 (eGClass y514), bf 1 40 (eGMethod y685)] 2) [0, 1] ?_
       iterate 6 refine go ?_
       refine rnr ?_
       exact rnd_back (ih (w_i64 (x714 + y752), w_i64 (x715 + 1)) hF) (impz [0, 1])
      refine aw_exit ?_
      iterate 2 refine post_then_exit ?_
      cases hF
      exact post_lp_break _ ⟨_, rfl, rfl⟩ (impz [0])
     rintro _ ⟨x756, rfl, rfl⟩
     have hF := elim_next hK758
     clear hK758
     iterate 6 refine go ?_
     refine rnr ?_
     exact rnd_back (ih (x756, w_i64 (x602 + 1)) hF) (impz [0])
    refine aw_exit ?_
    iterate 2 refine post_then_exit ?_
    cases hF
    exact post_lp_break _ ⟨_, rfl, rfl⟩ (impz [])
   rintro _ ⟨x761, rfl, rfl⟩
   have hF := elim_next hK763
   clear hK763
   iterate 6 refine go ?_
   refine rnr ?_
   exact rnd_back (ih (x761, w_i64 (x255 + 1)) hF) (impz [])
  refine aw_exit ?_
  iterate 2 refine post_then_exit ?_
  cases hF
  exact post_lp_break _ ⟨_, rfl, rfl⟩ (impz [])
 rintro _ ⟨x766, rfl, rfl⟩
 have hF := elim_next hK768
 clear hK768
 iterate 7 refine go ?_
 cases hF
 exact prt
theorem ref02_Letter_ok {a0 : Int} {r : Bool} (hF : ref02_Letter a0 = some r) : FZ 90 [.int .u8 a0] [.p (.bool r)] := by
 unfold ref02_Letter at hF
 refine fn_of_body (n := 17) Tryz.func90 rfl rfl rfl fun w O => ?_
 iterate 7 refine go ?_
 rcases ie hF with ⟨hb1, hF⟩ | ⟨hb1, hF⟩
 ·iterate 2 refine gn hb1 ?_
  refine rpt hb1 ?_
  refine go ?_
  rcases ie hF with ⟨hb2, hF⟩ | ⟨hb2, hF⟩
  ·refine rgo_t hb2 ?_
   iterate 2 refine rgo_t hb2 ?_
   iterate 2 refine go ?_
   refine rgo_t hb2 ?_
   refine rpt hb2 ?_
   iterate 3 refine go ?_
   cases hF
   exact prt
  iterate 3 refine gn hb2 ?_
  rcases ie hF with ⟨hb3, hF⟩ | ⟨hb3, hF⟩
  ·iterate 2 refine gn hb3 ?_
   refine rgn hb2 (op_pick_t rfl rfl hb3 rfl rfl rfl) ?_
   refine rpf hb2 ?_
   iterate 3 refine go ?_
   cases hF
   exact prt
  iterate 2 refine rgo_f hb3 ?_
  refine rgn hb2 (op_pick_f rfl rfl hb3 rfl rfl rfl) ?_
  refine rpf hb2 ?_
  iterate 3 refine go ?_
  cases hF
  exact prt
 iterate 2 refine rgo_f hb1 ?_
 refine rpf hb1 ?_
 refine go ?_
 iterate 3 refine gn rfl ?_
 rcases ie hF with ⟨hb4, hF⟩ | ⟨hb4, hF⟩
 ·iterate 2 refine gn hb4 ?_
  refine rgn rfl (op_pick_t rfl rfl hb4 rfl rfl rfl) ?_
  refine rpf rfl ?_
  iterate 3 refine go ?_
  cases hF
  exact prt
 iterate 2 refine rgo_f hb4 ?_
 refine rgn rfl (op_pick_f rfl rfl hb4 rfl rfl rfl) ?_
 refine rpf rfl ?_
 iterate 3 refine go ?_
 cases hF
 exact prt
theorem ref02_Words_ok  {r : (List (List UInt8))} (hF : ref02_Words = some r) : FZ 122 [] [.p (.vs 1 (List.map eS r))] := by
 unfold ref02_Words at hF
 refine fn_of_body (n := 2) Tryz.func122 rfl rfl rfl fun w O => ?_
 iterate 4 refine go ?_
 refine rgp (op_lit (rows := List.map eS ([[99, 108, 97, 115, 115], [101, 120, 116, 101, 110, 100, 115], [114, 101, 112], [112, 101, 101, 114], [119, 111, 114, 108, 100], [97, 110, 121], [117, 110, 105, 113, 117, 101], [112, 117, 114, 101], [118, 111, 105, 100], [105, 110, 116], [105, 102], [101, 108, 115, 101], [119, 104, 105, 108, 101], [114, 101, 116, 117, 114, 110], [110, 101, 119], [109, 111, 118, 101], [100, 101, 108, 101, 116, 101], [116, 104, 105, 115], [110, 117, 108, 108], [105, 110, 112, 117, 116], [110, 105, 108], [115, 97, 109, 101], [99, 97, 115, 116]] : List (List UInt8))) (zs := [.str []]) rfl rfl slc_23 zer_9 (by exact ⟨rfl, trivial⟩) rfl rfl rfl rfl rfl rfl rfl rfl) ?_
 iterate 3 refine go ?_
 cases hF
 exact prt
theorem ref02_Find_ok {a0 : List UInt8} {r : Int} (hF : ref02_Find a0 = some r) : FZ 91 [.str a0] [.p (.int .i64 r)] := by
 unfold ref02_Find at hF
 refine fn_of_body (n := 20) Tryz.func91 rfl rfl rfl fun w O => ?_
 iterate 4 refine go ?_
 obtain ⟨y3, h4, hF⟩ := bs hF
 refine rgp (cl 0 [] [.p (.vs 1 (List.map eS y3))] (ref02_Words_ok h4)) ?_
 iterate 6 refine go ?_
 obtain ⟨lr26, hF, hK27⟩ := bs hF
 refine aw_for ((y3.length - 0 : Int).toNat + 1) (fun s1 => ∃ q, lr26 = .next q ∧ s1 = (sX 20 [] [] 0)) ?_ ?_
 ·refine rnd_loop (α := Int) (fun q => (sX 20 [pf 0 (.str a0), pf 3 (.vs 1 (List.map eS y3)), pf 4 (.int .i64 q)] [] 0)) (fun k q => ref02_Find_L1 a0 y3 k q = some lr26) 0 (impz []) hF (fun q h => by cases h) ?_
  clear hF
  rintro k x11 hF ih
  refine rnd_succ ?_
  iterate 7 refine go ?_
  refine cnd hF (fun hb19 hF => ?_) fun hb19 hF => ?_
  ·iterate 2 refine go ?_
   refine aw_seq ?_
   refine aw_block ?_
   iterate 3 refine go ?_
   obtain ⟨y22, h23, hF⟩ := bs hF
   refine rgp (ix (idx_map eS h23) slc_23) ?_
   iterate 2 refine go ?_
   refine rgp (op_str rfl rfl rfl rfl rfl rfl) ?_
   refine go ?_
   refine cnd hF (fun hb24 hF => ?_) fun hb24 hF => ?_
   ·iterate 9 refine go ?_
    refine post_lp_ret ?_
    cases hF
    have hF := elim_stop hK27
    refine go ?_
    cases hF
    exact prt
   iterate 7 refine go ?_
   refine rnr ?_
   exact rnd_back (ih (w_i64 (x11 + 1)) hF) (impz [])
  refine aw_exit ?_
  iterate 2 refine post_then_exit ?_
  cases hF
  exact post_lp_break _ ⟨_, rfl, rfl⟩ (impz [])
 rintro _ ⟨⟨⟩, rfl, rfl⟩
 have hF := elim_next hK27
 clear hK27
 iterate 5 refine go ?_
 cases hF
 exact prt
theorem ref02_Digit_ok {a0 : Int} {r : Bool} (hF : ref02_Digit a0 = some r) : FZ 92 [.int .u8 a0] [.p (.bool r)] := by
 unfold ref02_Digit at hF
 refine fn_of_body (n := 9) Tryz.func92 rfl rfl rfl fun w O => ?_
 iterate 7 refine go ?_
 rcases ie hF with ⟨hb1, hF⟩ | ⟨hb1, hF⟩
 ·iterate 2 refine gn hb1 ?_
  refine rpt hb1 ?_
  iterate 3 refine go ?_
  cases hF
  exact prt
 iterate 2 refine rgo_f hb1 ?_
 refine rpf hb1 ?_
 iterate 3 refine go ?_
 cases hF
 exact prt
theorem ref02_Name_ok {a0 : List UInt8} {r : Bool} (hF : ref02_Name a0 = some r) : FZ 65 [.str a0] [.p (.bool r)] := by
 unfold ref02_Name at hF
 refine fn_of_body (n := 41) Tryz.func65 rfl rfl rfl fun w O => ?_
 iterate 3 refine go ?_
 refine aw_seq ?_
 refine aw_seq ?_
 obtain ⟨x10, hF, hK12⟩ := bs hF
 refine ctx (sX 41 [pf 0 (.str a0), pf 22 (.bool x10)] [] 0) ?_ ?_
 ·iterate 2 refine go ?_
  refine rgp (op_len_str rfl rfl und_9 rfl rfl) ?_
  iterate 2 refine go ?_
  rcases ie hF with ⟨hb1, hF⟩ | ⟨hb1, hF⟩
  ·refine rgo_t hb1 ?_
   iterate 2 refine rgo_t hb1 ?_
   refine rpt hb1 ?_
   refine go ?_
   iterate 4 refine rgo_t rfl ?_
   refine rpt rfl ?_
   refine go ?_
   iterate 3 refine rgo_t rfl ?_
   refine rpt rfl ?_
   cases hF
   exact rcz []
  refine gn hb1 ?_
  refine rgn hb1 (op_len_str rfl rfl und_9 rfl rfl) ?_
  refine gn hb1 ?_
  refine rpf hb1 ?_
  refine go ?_
  rcases ie hF with ⟨hb2, hF⟩ | ⟨hb2, hF⟩
  ·refine rgo_t hb2 ?_
   iterate 3 refine rgo_t hb2 ?_
   refine rpt hb2 ?_
   refine go ?_
   iterate 3 refine rgo_t rfl ?_
   refine rpt rfl ?_
   cases hF
   exact rcz []
  refine gn hb2 ?_
  obtain ⟨y3, h4, hF⟩ := bs hF
  refine rgn hb2 (op_index_str (k := .i64) rfl rfl rfl h4 und_9 rfl rfl) ?_
  obtain ⟨y5, h6, hF⟩ := bs hF
  refine rgn hb2 (cl 0 [.int .u8 (y3.toNat : Int)] [.p (.bool y5)] (ref02_Letter_ok h6)) ?_
  refine gn hb2 ?_
  refine rpf hb2 ?_
  refine go ?_
  rcases ie hF with ⟨hb7, hF⟩ | ⟨hb7, hF⟩
  ·refine rgo_t hb7 ?_
   iterate 2 refine rgo_t hb7 ?_
   refine rpt hb7 ?_
   cases hF
   exact rcz []
  refine gn hb7 ?_
  obtain ⟨y8, h9, hF⟩ := bs hF
  refine rgn hb7 (cl 0 [.str a0] [.p (.int .i64 y8)] (ref02_Find_ok h9)) ?_
  refine gn hb7 ?_
  refine rpf hb7 ?_
  cases hF
  exact rcz []
 have hF := hK12
 refine go ?_
 refine cnd hF (fun hb13 hF => ?_) fun hb13 hF => ?_
 ·iterate 5 refine go ?_
  cases hF
  exact prt
 iterate 6 refine go ?_
 obtain ⟨lr71, hF, hK72⟩ := bs hF
 refine aw_for ((a0.length - 0 : Int).toNat + 1) (fun s1 => ∃ q, lr71 = .next q ∧ s1 = (sX 41 [] [] 0)) ?_ ?_
 ·refine rnd_loop (α := Int) (fun q => (sX 41 [pf 0 (.str a0), pf 3 (.int .i64 q)] [] 0)) (fun k q => ref02_Name_L1 a0 k q = some lr71) 0 (impz []) hF (fun q h => by cases h) ?_
  clear hF
  rintro k x32 hF ih
  refine rnd_succ ?_
  iterate 4 refine go ?_
  refine rgp (op_len_str rfl rfl und_9 rfl rfl) ?_
  iterate 2 refine go ?_
  refine cnd hF (fun hb52 hF => ?_) fun hb52 hF => ?_
  ·iterate 2 refine go ?_
   refine aw_seq ?_
   refine aw_block ?_
   refine aw_seq ?_
   obtain ⟨x66, hF, hK68⟩ := bs hF
   refine ctx (sX 41 [pf 0 (.str a0), pf 3 (.int .i64 x32), pf 40 (.bool x66)] [] 0) ?_ ?_
   ·iterate 3 refine go ?_
    obtain ⟨y57, h58, hF⟩ := bs hF
    refine rgp (op_index_str (k := .i64) rfl rfl rfl h58 und_9 rfl rfl) ?_
    obtain ⟨y59, h60, hF⟩ := bs hF
    refine rgp (cl 0 [.int .u8 (y57.toNat : Int)] [.p (.bool y59)] (ref02_Letter_ok h60)) ?_
    iterate 2 refine go ?_
    rcases ie hF with ⟨hb61, hF⟩ | ⟨hb61, hF⟩
    ·iterate 2 refine gn hb61 ?_
     obtain ⟨y62, h63, hF⟩ := bs hF
     refine rgn hb61 (op_index_str (k := .i64) rfl rfl rfl h63 und_9 rfl rfl) ?_
     obtain ⟨y64, h65, hF⟩ := bs hF
     refine rgn hb61 (cl 0 [.int .u8 (y62.toNat : Int)] [.p (.bool y64)] (ref02_Digit_ok h65)) ?_
     refine gn hb61 ?_
     refine rpt hb61 ?_
     cases hF
     exact rcz []
    iterate 5 refine rgo_f hb61 ?_
    refine rpf hb61 ?_
    cases hF
    exact rcz []
   have hF := hK68
   refine go ?_
   refine cnd hF (fun hb69 hF => ?_) fun hb69 hF => ?_
   ·iterate 7 refine go ?_
    refine post_lp_ret ?_
    cases hF
    have hF := elim_stop hK72
    refine go ?_
    cases hF
    exact prt
   iterate 7 refine go ?_
   refine rnr ?_
   exact rnd_back (ih (w_i64 (x32 + 1)) hF) (impz [])
  refine aw_exit ?_
  iterate 2 refine post_then_exit ?_
  cases hF
  exact post_lp_break _ ⟨_, rfl, rfl⟩ (impz [])
 rintro _ ⟨⟨⟩, rfl, rfl⟩
 have hF := elim_next hK72
 clear hK72
 iterate 5 refine go ?_
 cases hF
 exact prt
theorem ref04_Right_ok {a0 : GOwner} {a1 : Int} {r : Bool} (hF : ref04_Right a0 a1 = some r) : FZ 66 [.agg (eGOwner a0), .int .i64 a1] [.p (.bool r)] := by
 unfold ref04_Right at hF
 refine fn_of_body (n := 51) Tryz.func66 rfl rfl rfl fun w O => ?_
 refine go ?_
 refine rgp (bo 0) ?_
 iterate 8 refine go ?_
 refine cnd hF (fun hb1 hF => ?_) fun hb1 hF => ?_
 ·iterate 5 refine go ?_
  rcases ie hF with ⟨hb2, hF⟩ | ⟨hb2, hF⟩
  ·iterate 4 refine gn hb2 ?_
   refine rpt hb2 ?_
   iterate 4 refine go ?_
   cases hF
   exact prt
  iterate 4 refine rgo_f hb2 ?_
  refine rpf hb2 ?_
  iterate 4 refine go ?_
  cases hF
  exact prt
 iterate 8 refine go ?_
 refine cnd hF (fun hb3 hF => ?_) fun hb3 hF => ?_
 ·iterate 8 refine go ?_
  cases hF
  exact prt
 iterate 7 refine go ?_
 rcases ie hF with ⟨hb4, hF⟩ | ⟨hb4, hF⟩
 ·iterate 4 refine gn hb4 ?_
  rcases ie hF with ⟨hb5, hF⟩ | ⟨hb5, hF⟩
  ·refine rgo_t hb5 ?_
   iterate 2 refine rgo_t hb5 ?_
   refine rgn hb4 (op_pick_t rfl rfl hb5 rfl rfl rfl) ?_
   refine gn hb4 ?_
   iterate 3 refine rgo_t rfl ?_
   refine rgn hb4 (op_pick_t rfl rfl rfl rfl rfl rfl) ?_
   refine gn hb4 ?_
   iterate 3 refine rgo_t rfl ?_
   refine rgn hb4 (op_pick_t rfl rfl rfl rfl rfl rfl) ?_
   refine gn hb4 ?_
   iterate 3 refine rgo_t rfl ?_
   refine rgn hb4 (op_pick_t rfl rfl rfl rfl rfl rfl) ?_
   refine rpt hb4 ?_
   iterate 3 refine go ?_
   cases hF
   exact prt
  iterate 3 refine gn hb5 ?_
  refine rgn hb4 (op_pick_f rfl rfl hb5 rfl rfl rfl) ?_
  refine gn hb4 ?_
  rcases ie hF with ⟨hb6, hF⟩ | ⟨hb6, hF⟩
  ·refine rgo_t hb6 ?_
   iterate 2 refine rgo_t hb6 ?_
   refine rgn hb4 (op_pick_t rfl rfl hb6 rfl rfl rfl) ?_
   refine gn hb4 ?_
   iterate 3 refine rgo_t rfl ?_
   refine rgn hb4 (op_pick_t rfl rfl rfl rfl rfl rfl) ?_
   refine gn hb4 ?_
   iterate 3 refine rgo_t rfl ?_
   refine rgn hb4 (op_pick_t rfl rfl rfl rfl rfl rfl) ?_
   refine rpt hb4 ?_
   iterate 3 refine go ?_
   cases hF
   exact prt
  iterate 3 refine gn hb6 ?_
  refine rgn hb4 (op_pick_f rfl rfl hb6 rfl rfl rfl) ?_
  refine gn hb4 ?_
  rcases ie hF with ⟨hb7, hF⟩ | ⟨hb7, hF⟩
  ·refine rgo_t hb7 ?_
   iterate 2 refine rgo_t hb7 ?_
   refine rgn hb4 (op_pick_t rfl rfl hb7 rfl rfl rfl) ?_
   refine gn hb4 ?_
   iterate 3 refine rgo_t rfl ?_
   refine rgn hb4 (op_pick_t rfl rfl rfl rfl rfl rfl) ?_
   refine rpt hb4 ?_
   iterate 3 refine go ?_
   cases hF
   exact prt
  iterate 3 refine gn hb7 ?_
  refine rgn hb4 (op_pick_f rfl rfl hb7 rfl rfl rfl) ?_
  refine gn hb4 ?_
  rcases ie hF with ⟨hb8, hF⟩ | ⟨hb8, hF⟩
  ·refine rgo_t hb8 ?_
   iterate 2 refine rgo_t hb8 ?_
   refine rgn hb4 (op_pick_t rfl rfl hb8 rfl rfl rfl) ?_
   refine rpt hb4 ?_
   iterate 3 refine go ?_
   cases hF
   exact prt
  iterate 3 refine gn hb8 ?_
  refine rgn hb4 (op_pick_f rfl rfl hb8 rfl rfl rfl) ?_
  refine rpt hb4 ?_
  iterate 3 refine go ?_
  cases hF
  exact prt
 iterate 4 refine rgo_f hb4 ?_
 iterate 3 refine go ?_
 iterate 2 refine rgo_f hb4 ?_
 iterate 3 refine go ?_
 iterate 2 refine rgo_f hb4 ?_
 iterate 3 refine go ?_
 iterate 2 refine rgo_f hb4 ?_
 iterate 3 refine go ?_
 refine rgo_f hb4 ?_
 refine rpf hb4 ?_
 iterate 3 refine go ?_
 cases hF
 exact prt
theorem ref08_Blank_ok {a0 : GStmt} {r : GStmt} (hF : ref08_Blank a0 = some r) : FZ 160 [.agg (eGStmt a0)] [.p (.agg (eGStmt r))] := by
 unfold ref08_Blank at hF
 refine fn_of_body (n := 105) Tryz.func160 rfl rfl rfl fun w O => ?_
 refine go ?_
 refine rgp (bo 0) ?_
 refine rgp (al 1 (eGStmt zGStmt) zer_48) ?_
 iterate 6 refine go ?_
 refine aw_seq ?_
 obtain ⟨x10, hF, hK12⟩ := bs hF
 refine ctx (sX 105 [(1, some (.lp 0 0)), (2, some (.lp 1 0)), pf 3 (.int .i64 a0.fKind)] [bf 0 48 (eGStmt x10), bf 1 48 (eGStmt zGStmt)] 2) ?_ ?_
 ·refine aw_seq ?_
  obtain ⟨x6, hF, hK8⟩ := bs hF
  refine ctx (sX 105 [(1, some (.lp 0 0)), (2, some (.lp 1 0)), pf 3 (.int .i64 a0.fKind), pf 27 (.bool x6)] [bf 0 48 (eGStmt a0), bf 1 48 (eGStmt zGStmt)] 2) ?_ ?_
  ·iterate 4 refine go ?_
   rcases ie hF with ⟨hb1, hF⟩ | ⟨hb1, hF⟩
   ·refine rgo_t hb1 ?_
    refine rgo_t hb1 ?_
    refine rpt hb1 ?_
    refine go ?_
    iterate 2 refine rgo_t rfl ?_
    refine rpt rfl ?_
    refine go ?_
    iterate 2 refine rgo_t rfl ?_
    refine rpt rfl ?_
    refine go ?_
    iterate 2 refine rgo_t rfl ?_
    refine rpt rfl ?_
    refine go ?_
    iterate 2 refine rgo_t rfl ?_
    refine rpt rfl ?_
    cases hF
    exact rcz [0, 1]
   iterate 2 refine gn hb1 ?_
   refine rpf hb1 ?_
   refine go ?_
   rcases ie hF with ⟨hb2, hF⟩ | ⟨hb2, hF⟩
   ·refine rgo_t hb2 ?_
    refine rgo_t hb2 ?_
    refine rpt hb2 ?_
    refine go ?_
    iterate 2 refine rgo_t rfl ?_
    refine rpt rfl ?_
    refine go ?_
    iterate 2 refine rgo_t rfl ?_
    refine rpt rfl ?_
    refine go ?_
    iterate 2 refine rgo_t rfl ?_
    refine rpt rfl ?_
    cases hF
    exact rcz [0, 1]
   iterate 2 refine gn hb2 ?_
   refine rpf hb2 ?_
   refine go ?_
   rcases ie hF with ⟨hb3, hF⟩ | ⟨hb3, hF⟩
   ·refine rgo_t hb3 ?_
    refine rgo_t hb3 ?_
    refine rpt hb3 ?_
    refine go ?_
    iterate 2 refine rgo_t rfl ?_
    refine rpt rfl ?_
    refine go ?_
    iterate 2 refine rgo_t rfl ?_
    refine rpt rfl ?_
    cases hF
    exact rcz [0, 1]
   iterate 2 refine gn hb3 ?_
   refine rpf hb3 ?_
   refine go ?_
   rcases ie hF with ⟨hb4, hF⟩ | ⟨hb4, hF⟩
   ·refine rgo_t hb4 ?_
    refine rgo_t hb4 ?_
    refine rpt hb4 ?_
    refine go ?_
    iterate 2 refine rgo_t rfl ?_
    refine rpt rfl ?_
    cases hF
    exact rcz [0, 1]
   iterate 2 refine gn hb4 ?_
   refine rpf hb4 ?_
   refine go ?_
   rcases ie hF with ⟨hb5, hF⟩ | ⟨hb5, hF⟩
   ·refine rgo_t hb5 ?_
    refine rgo_t hb5 ?_
    refine rpt hb5 ?_
    cases hF
    exact rcz [0, 1]
   iterate 2 refine gn hb5 ?_
   refine rpf hb5 ?_
   cases hF
   exact rcz [0, 1]
  have hF := hK8
  refine go ?_
  refine cnd hF (fun hb9 hF => ?_) fun hb9 hF => ?_
  ·iterate 3 refine go ?_
   cases hF
   exact rcz [0, 1]
  refine go ?_
  cases hF
  exact pcz [0, 1]
 have hF := hK12
 refine go ?_
 refine aw_seq ?_
 obtain ⟨x21, hF, hK23⟩ := bs hF
 refine ctx (sX 105 [(1, some (.lp 0 0)), (2, some (.lp 1 0)), pf 3 (.int .i64 a0.fKind)] [bf 0 48 (eGStmt x21), bf 1 48 (eGStmt zGStmt)] 2) ?_ ?_
 ·refine aw_seq ?_
  obtain ⟨x17, hF, hK19⟩ := bs hF
  refine ctx (sX 105 [(1, some (.lp 0 0)), (2, some (.lp 1 0)), pf 3 (.int .i64 a0.fKind), pf 46 (.bool x17)] [bf 0 48 (eGStmt x10), bf 1 48 (eGStmt zGStmt)] 2) ?_ ?_
  ·iterate 4 refine go ?_
   rcases ie hF with ⟨hb13, hF⟩ | ⟨hb13, hF⟩
   ·refine rgo_t hb13 ?_
    refine rgo_t hb13 ?_
    refine rpt hb13 ?_
    refine go ?_
    iterate 2 refine rgo_t rfl ?_
    refine rpt rfl ?_
    refine go ?_
    iterate 2 refine rgo_t rfl ?_
    refine rpt rfl ?_
    refine go ?_
    iterate 2 refine rgo_t rfl ?_
    refine rpt rfl ?_
    cases hF
    exact rcz [0, 1]
   iterate 2 refine gn hb13 ?_
   refine rpf hb13 ?_
   refine go ?_
   rcases ie hF with ⟨hb14, hF⟩ | ⟨hb14, hF⟩
   ·refine rgo_t hb14 ?_
    refine rgo_t hb14 ?_
    refine rpt hb14 ?_
    refine go ?_
    iterate 2 refine rgo_t rfl ?_
    refine rpt rfl ?_
    refine go ?_
    iterate 2 refine rgo_t rfl ?_
    refine rpt rfl ?_
    cases hF
    exact rcz [0, 1]
   iterate 2 refine gn hb14 ?_
   refine rpf hb14 ?_
   refine go ?_
   rcases ie hF with ⟨hb15, hF⟩ | ⟨hb15, hF⟩
   ·refine rgo_t hb15 ?_
    refine rgo_t hb15 ?_
    refine rpt hb15 ?_
    refine go ?_
    iterate 2 refine rgo_t rfl ?_
    refine rpt rfl ?_
    cases hF
    exact rcz [0, 1]
   iterate 2 refine gn hb15 ?_
   refine rpf hb15 ?_
   refine go ?_
   rcases ie hF with ⟨hb16, hF⟩ | ⟨hb16, hF⟩
   ·refine rgo_t hb16 ?_
    refine rgo_t hb16 ?_
    refine rpt hb16 ?_
    cases hF
    exact rcz [0, 1]
   iterate 2 refine gn hb16 ?_
   refine rpf hb16 ?_
   cases hF
   exact rcz [0, 1]
  have hF := hK19
  refine go ?_
  refine cnd hF (fun hb20 hF => ?_) fun hb20 hF => ?_
  ·iterate 3 refine go ?_
   cases hF
   exact rcz [0, 1]
  refine go ?_
  cases hF
  exact pcz [0, 1]
 have hF := hK23
 refine go ?_
 refine aw_seq ?_
 obtain ⟨x30, hF, hK32⟩ := bs hF
 refine ctx (sX 105 [(1, some (.lp 0 0)), (2, some (.lp 1 0)), pf 3 (.int .i64 a0.fKind)] [bf 0 48 (eGStmt x30), bf 1 48 (eGStmt zGStmt)] 2) ?_ ?_
 ·refine aw_seq ?_
  obtain ⟨x26, hF, hK28⟩ := bs hF
  refine ctx (sX 105 [(1, some (.lp 0 0)), (2, some (.lp 1 0)), pf 3 (.int .i64 a0.fKind), pf 57 (.bool x26)] [bf 0 48 (eGStmt x21), bf 1 48 (eGStmt zGStmt)] 2) ?_ ?_
  ·iterate 4 refine go ?_
   rcases ie hF with ⟨hb24, hF⟩ | ⟨hb24, hF⟩
   ·refine rgo_t hb24 ?_
    refine rgo_t hb24 ?_
    refine rpt hb24 ?_
    refine go ?_
    iterate 2 refine rgo_t rfl ?_
    refine rpt rfl ?_
    cases hF
    exact rcz [0, 1]
   iterate 2 refine gn hb24 ?_
   refine rpf hb24 ?_
   refine go ?_
   rcases ie hF with ⟨hb25, hF⟩ | ⟨hb25, hF⟩
   ·refine rgo_t hb25 ?_
    refine rgo_t hb25 ?_
    refine rpt hb25 ?_
    cases hF
    exact rcz [0, 1]
   iterate 2 refine gn hb25 ?_
   refine rpf hb25 ?_
   cases hF
   exact rcz [0, 1]
  have hF := hK28
  refine go ?_
  refine cnd hF (fun hb29 hF => ?_) fun hb29 hF => ?_
  ·iterate 3 refine go ?_
   cases hF
   exact rcz [0, 1]
  refine go ?_
  cases hF
  exact pcz [0, 1]
 have hF := hK32
 refine go ?_
 refine aw_seq ?_
 obtain ⟨x38, hF, hK40⟩ := bs hF
 refine ctx (sX 105 [(1, some (.lp 0 0)), (2, some (.lp 1 0)), pf 3 (.int .i64 a0.fKind)] [bf 0 48 (eGStmt x38), bf 1 48 (eGStmt zGStmt)] 2) ?_ ?_
 ·refine aw_seq ?_
  obtain ⟨x34, hF, hK36⟩ := bs hF
  refine ctx (sX 105 [(1, some (.lp 0 0)), (2, some (.lp 1 0)), pf 3 (.int .i64 a0.fKind), pf 64 (.bool x34)] [bf 0 48 (eGStmt x30), bf 1 48 (eGStmt zGStmt)] 2) ?_ ?_
  ·iterate 4 refine go ?_
   rcases ie hF with ⟨hb33, hF⟩ | ⟨hb33, hF⟩
   ·refine rgo_t hb33 ?_
    refine rgo_t hb33 ?_
    refine rpt hb33 ?_
    cases hF
    exact rcz [0, 1]
   iterate 2 refine gn hb33 ?_
   refine rpf hb33 ?_
   cases hF
   exact rcz [0, 1]
  have hF := hK36
  refine go ?_
  refine cnd hF (fun hb37 hF => ?_) fun hb37 hF => ?_
  ·refine go ?_
   refine rgp (bd ((eGType zGType)) (eGType ({ fKind := 0, fClass := [], fN := 0, fOwn := (⟨zGOwner, zGOwner, zGOwner, zGOwner⟩ : A4 GOwner) } : GType)) zer_37 plc_37) ?_
   iterate 2 refine go ?_
   cases hF
   exact rcz [0, 1]
  refine go ?_
  cases hF
  exact pcz [0, 1]
 have hF := hK40
 refine go ?_
 refine aw_seq ?_
 obtain ⟨x50, hF, hK52⟩ := bs hF
 refine ctx (sX 105 [(1, some (.lp 0 0)), (2, some (.lp 1 0)), pf 3 (.int .i64 a0.fKind)] [bf 0 48 (eGStmt x50), bf 1 48 (eGStmt zGStmt)] 2) ?_ ?_
 ·refine aw_seq ?_
  obtain ⟨x46, hF, hK48⟩ := bs hF
  refine ctx (sX 105 [(1, some (.lp 0 0)), (2, some (.lp 1 0)), pf 3 (.int .i64 a0.fKind), pf 88 (.bool x46)] [bf 0 48 (eGStmt x38), bf 1 48 (eGStmt zGStmt)] 2) ?_ ?_
  ·iterate 4 refine go ?_
   rcases ie hF with ⟨hb41, hF⟩ | ⟨hb41, hF⟩
   ·refine rgo_t hb41 ?_
    refine rgo_t hb41 ?_
    refine rpt hb41 ?_
    refine go ?_
    iterate 2 refine rgo_t rfl ?_
    refine rpt rfl ?_
    refine go ?_
    iterate 2 refine rgo_t rfl ?_
    refine rpt rfl ?_
    refine go ?_
    iterate 2 refine rgo_t rfl ?_
    refine rpt rfl ?_
    refine go ?_
    iterate 2 refine rgo_t rfl ?_
    refine rpt rfl ?_
    cases hF
    exact rcz [0, 1]
   iterate 2 refine gn hb41 ?_
   refine rpf hb41 ?_
   refine go ?_
   rcases ie hF with ⟨hb42, hF⟩ | ⟨hb42, hF⟩
   ·refine rgo_t hb42 ?_
    refine rgo_t hb42 ?_
    refine rpt hb42 ?_
    refine go ?_
    iterate 2 refine rgo_t rfl ?_
    refine rpt rfl ?_
    refine go ?_
    iterate 2 refine rgo_t rfl ?_
    refine rpt rfl ?_
    refine go ?_
    iterate 2 refine rgo_t rfl ?_
    refine rpt rfl ?_
    cases hF
    exact rcz [0, 1]
   iterate 2 refine gn hb42 ?_
   refine rpf hb42 ?_
   refine go ?_
   rcases ie hF with ⟨hb43, hF⟩ | ⟨hb43, hF⟩
   ·refine rgo_t hb43 ?_
    refine rgo_t hb43 ?_
    refine rpt hb43 ?_
    refine go ?_
    iterate 2 refine rgo_t rfl ?_
    refine rpt rfl ?_
    refine go ?_
    iterate 2 refine rgo_t rfl ?_
    refine rpt rfl ?_
    cases hF
    exact rcz [0, 1]
   iterate 2 refine gn hb43 ?_
   refine rpf hb43 ?_
   refine go ?_
   rcases ie hF with ⟨hb44, hF⟩ | ⟨hb44, hF⟩
   ·refine rgo_t hb44 ?_
    refine rgo_t hb44 ?_
    refine rpt hb44 ?_
    refine go ?_
    iterate 2 refine rgo_t rfl ?_
    refine rpt rfl ?_
    cases hF
    exact rcz [0, 1]
   iterate 2 refine gn hb44 ?_
   refine rpf hb44 ?_
   refine go ?_
   rcases ie hF with ⟨hb45, hF⟩ | ⟨hb45, hF⟩
   ·refine rgo_t hb45 ?_
    refine rgo_t hb45 ?_
    refine rpt hb45 ?_
    cases hF
    exact rcz [0, 1]
   iterate 2 refine gn hb45 ?_
   refine rpf hb45 ?_
   cases hF
   exact rcz [0, 1]
  have hF := hK48
  refine go ?_
  refine cnd hF (fun hb49 hF => ?_) fun hb49 hF => ?_
  ·refine go ?_
   refine rgp (bd ((eGExpr zGExpr)) (eGExpr ({ fKind := 0, fNum := 0, fName := [], fKids := [] } : GExpr)) zer_46 plc_46) ?_
   iterate 2 refine go ?_
   cases hF
   exact rcz [0, 1]
  refine go ?_
  cases hF
  exact pcz [0, 1]
 have hF := hK52
 refine go ?_
 refine aw_seq ?_
 obtain ⟨x54, hF, hK56⟩ := bs hF
 refine ctx (sX 105 [(1, some (.lp 0 0)), (2, some (.lp 1 0)), pf 3 (.int .i64 a0.fKind)] [bf 0 48 (eGStmt x54), bf 1 48 (eGStmt zGStmt)] 2) ?_ ?_
 ·iterate 4 refine go ?_
  refine cnd hF (fun hb53 hF => ?_) fun hb53 hF => ?_
  ·iterate 3 refine go ?_
   refine reg_imp (imp_nil_cell 0 19 48 4 rfl rfl) ?_
   cases hF
   exact rcz [0, 1]
  refine go ?_
  cases hF
  exact pcz [0, 1]
 have hF := hK56
 refine go ?_
 refine aw_seq ?_
 obtain ⟨x62, hF, hK64⟩ := bs hF
 refine ctx (sX 105 [(1, some (.lp 0 0)), (2, some (.lp 1 0)), pf 3 (.int .i64 a0.fKind)] [bf 0 48 (eGStmt x62), bf 1 48 (eGStmt zGStmt)] 2) ?_ ?_
 ·refine aw_seq ?_
  obtain ⟨x58, hF, hK60⟩ := bs hF
  refine ctx (sX 105 [(1, some (.lp 0 0)), (2, some (.lp 1 0)), pf 3 (.int .i64 a0.fKind), pf 99 (.bool x58)] [bf 0 48 (eGStmt x54), bf 1 48 (eGStmt zGStmt)] 2) ?_ ?_
  ·iterate 4 refine go ?_
   rcases ie hF with ⟨hb57, hF⟩ | ⟨hb57, hF⟩
   ·refine rgo_t hb57 ?_
    refine rgo_t hb57 ?_
    refine rpt hb57 ?_
    cases hF
    exact rcz [0, 1]
   iterate 2 refine gn hb57 ?_
   refine rpf hb57 ?_
   cases hF
   exact rcz [0, 1]
  have hF := hK60
  refine go ?_
  refine cnd hF (fun hb61 hF => ?_) fun hb61 hF => ?_
  ·iterate 3 refine go ?_
   refine reg_imp (imp_nil_cell 0 20 48 23 rfl rfl) ?_
   cases hF
   exact rcz [0, 1]
  refine go ?_
  cases hF
  exact pcz [0, 1]
 have hF := hK64
 iterate 6 refine go ?_
 refine cnd hF (fun hb65 hF => ?_) fun hb65 hF => ?_
 ·iterate 3 refine go ?_
  refine reg_imp (imp_nil_cell 0 21 48 23 rfl rfl) ?_
  iterate 2 refine go ?_
  refine rgp (la (eGStmt ({ x62 with fElse := [] } : GStmt)) agg_48) ?_
  iterate 3 refine go ?_
  cases hF
  exact post_ret rfl rfl (.cons _ _ _ _ _ (.agg _ _ _ _ _ 23 _ _ rfl rfl agg_48 rfl rfl rfl) (.p _) .nil) (.inl rfl)
 iterate 3 refine go ?_
 refine rgp (la (eGStmt x62) agg_48) ?_
 iterate 3 refine go ?_
 cases hF
 exact post_ret rfl rfl (.cons _ _ _ _ _ (.agg _ _ _ _ _ 23 _ _ rfl rfl agg_48 rfl rfl rfl) (.p _) .nil) (.inl rfl)
theorem ref06_Same_ring : ∀ n : Nat, (∀ (a0 : GExpr) (a1 : GExpr) (r : Bool), ref06_Same n a0 a1 = some r → FZ 161 [.agg (eGExpr a0), .agg (eGExpr a1)] [.p (.bool r)]) := by
 intro n
 induction n with
 | zero => exact (fun _ _ _ h => by simp [ref06_Same] at h)
 | succ n ih =>
  have ref06_Same_ih := ih
  clear ih
  intro a0 a1 r hF
  unfold ref06_Same at hF
  revert hF ref06_Same_ih
  generalize ref06_Same n = ref06_Same_rec
  intro ref06_Same_ih hF
  refine fn_of_body (n := 53) Tryz.func161 rfl rfl rfl fun w O => ?_
  refine go ?_
  refine rgp (bo 0) ?_
  refine rgp (bo 1) ?_
  iterate 2 refine go ?_
  refine aw_seq ?_
  refine aw_seq ?_
  obtain ⟨x4, hF, hK6⟩ := bs hF
  refine ctx (sX 53 [(2, some (.lp 0 0)), (3, some (.lp 1 0)), pf 33 (.bool x4)] [bf 0 46 (eGExpr a0), bf 1 46 (eGExpr a1)] 2) ?_ ?_
  ·iterate 7 refine go ?_
   rcases ie hF with ⟨hb1, hF⟩ | ⟨hb1, hF⟩
   ·refine rgo_t hb1 ?_
    iterate 4 refine rgo_t hb1 ?_
    refine rpt hb1 ?_
    refine go ?_
    iterate 5 refine rgo_t rfl ?_
    refine rpt rfl ?_
    refine go ?_
    iterate 7 refine rgo_t rfl ?_
    refine rpt rfl ?_
    cases hF
    exact rcz [0, 1]
   iterate 5 refine gn hb1 ?_
   refine rpf hb1 ?_
   refine go ?_
   rcases ie hF with ⟨hb2, hF⟩ | ⟨hb2, hF⟩
   ·refine rgo_t hb2 ?_
    iterate 4 refine rgo_t hb2 ?_
    refine rpt hb2 ?_
    refine go ?_
    iterate 7 refine rgo_t rfl ?_
    refine rpt rfl ?_
    cases hF
    exact rcz [0, 1]
   iterate 4 refine gn hb2 ?_
   refine rgn hb2 (op_str rfl rfl rfl rfl rfl rfl) ?_
   refine rpf hb2 ?_
   refine go ?_
   rcases ie hF with ⟨hb3, hF⟩ | ⟨hb3, hF⟩
   ·refine rgo_t hb3 ?_
    iterate 6 refine rgo_t hb3 ?_
    refine rpt hb3 ?_
    cases hF
    exact rcz [0, 1]
   iterate 2 refine gn hb3 ?_
   refine rgn hb3 (op_len_vs (n := a0.fKids.length) rfl rfl (lenR eLGExpr_map) slc_44 rfl rfl) ?_
   iterate 2 refine gn hb3 ?_
   refine rgn hb3 (op_len_vs (n := a1.fKids.length) rfl rfl (lenR eLGExpr_map) slc_44 rfl rfl) ?_
   refine gn hb3 ?_
   refine rpf hb3 ?_
   cases hF
   exact rcz [0, 1]
  have hF := hK6
  refine go ?_
  refine cnd hF (fun hb7 hF => ?_) fun hb7 hF => ?_
  ·iterate 5 refine go ?_
   cases hF
   exact prt
  iterate 6 refine go ?_
  obtain ⟨lr53, hF, hK54⟩ := bs hF
  refine aw_for ((a0.fKids.length - 0 : Int).toNat + 1) (fun s1 => ∃ q, lr53 = .next q ∧ s1 = (sX 53 [] [] 0)) ?_ ?_
  ·refine rnd_loop (α := Int) (fun q => (sX 53 [(2, some (.lp 0 0)), (3, some (.lp 1 0)), pf 5 (.int .i64 q)] [bf 0 46 (eGExpr a0), bf 1 46 (eGExpr a1)] 2)) (fun k q => ref06_Same_L1 a0 a1 ref06_Same_rec k q = some lr53) 0 (impz [0, 1]) hF (fun q h => by cases h) ?_
   clear hF
   rintro k x22 hF ih
   refine rnd_succ ?_
   iterate 5 refine go ?_
   refine rgp (op_len_vs (n := a0.fKids.length) rfl rfl (lenR eLGExpr_map) slc_44 rfl rfl) ?_
   iterate 2 refine go ?_
   refine cnd hF (fun hb38 hF => ?_) fun hb38 hF => ?_
   ·iterate 2 refine go ?_
    refine aw_seq ?_
    refine aw_block ?_
    refine aw_seq ?_
    refine dr_start ⟨_, _, _⟩ rfl ?_
    iterate 3 refine dgo ?_
    obtain ⟨y45, h46, hF⟩ := bs hF
    refine dr_cons { need := [(42, .pv (.vs 4 (eLGExpr a0.fKids))), (43, .pv (.int .i64 x22))], dst := some 44, val := some (.pv (.vp (eGExpr y45))) } (fun m h => step_on (guard_no rfl) (op_index_vs (k := .i64) rfl h.1.1 h.1.2.1 (idxR eLGExpr_map h46) slc_44 rfl rfl) rfl) ⟨⟨rfl, rfl, trivial⟩, trivial, trivial⟩ ?_
    refine dr_cons { need := [(44, .pv (.vp (eGExpr y45)))], dst := some 45, val := some (.pv (.agg (eGExpr y45))) } (fun m h => step_on (guard_no rfl) (op_load_vp_agg (ps := eGExpr y45) rfl h.1.1 rfl rfl agg_46 rfl rfl) rfl) ⟨⟨rfl, trivial⟩, trivial, trivial⟩ ?_
    iterate 3 refine dgo ?_
    obtain ⟨y47, h48, hF⟩ := bs hF
    refine dr_cons { need := [(47, .pv (.vs 4 (eLGExpr a1.fKids))), (48, .pv (.int .i64 x22))], dst := some 49, val := some (.pv (.vp (eGExpr y47))) } (fun m h => step_on (guard_no rfl) (op_index_vs (k := .i64) rfl h.1.1 h.1.2.1 (idxR eLGExpr_map h48) slc_44 rfl rfl) rfl) ⟨⟨rfl, rfl, trivial⟩, trivial, trivial⟩ ?_
    refine dr_cons { need := [(49, .pv (.vp (eGExpr y47)))], dst := some 50, val := some (.pv (.agg (eGExpr y47))) } (fun m h => step_on (guard_no rfl) (op_load_vp_agg (ps := eGExpr y47) rfl h.1.1 rfl rfl agg_46 rfl rfl) rfl) ⟨⟨rfl, trivial⟩, trivial, trivial⟩ ?_
    obtain ⟨y49, h50, hF⟩ := bs hF
    refine dr_cons { need := [(50, .pv (.agg (eGExpr y47))), (45, .pv (.agg (eGExpr y45)))], dst := some 51, val := some (.pv (.bool y49)) } (fun m h => step_on (guard_no rfl) (op_call 2 rfl (caps := []) (args := [.agg (eGExpr y45), .agg (eGExpr y47)]) (rs := [.p (.bool y49)]) rfl rfl (evl_cons h.1.2.1 (evl_cons h.1.1 evl_nil)) cal_161 (ref06_Same_ih _ _ _ h50) rfl rfl rfl) rfl) ⟨⟨rfl, rfl, trivial⟩, trivial, trivial⟩ ?_
    refine dr_cons { need := [(51, .pv (.bool y49))], dst := some 52, val := some (.pv (.bool (!y49))) } (fun m h => step_on (guard_no rfl) (op_not rfl h.1.1 rfl rfl) rfl) ⟨⟨rfl, trivial⟩, trivial, trivial⟩ ?_
    refine dr_nil mixed rfl (by kernel_rfl) ?_
    refine piz (sX 53 [(2, some (.lp 0 0)), (3, some (.lp 1 0)), pf 5 (.int .i64 x22), pf 52 (.bool (!y49))] [bf 0 46 (eGExpr a0), bf 1 46 (eGExpr a1)] 2) [0, 1] ?_
    refine go ?_
    refine cnd hF (fun hb51 hF => ?_) fun hb51 hF => ?_
    ·iterate 7 refine go ?_
     refine post_lp_ret ?_
     cases hF
     have hF := elim_stop hK54
     refine go ?_
     cases hF
     exact prt
    iterate 7 refine go ?_
    refine rnr ?_
    exact rnd_back (ih (w_i64 (x22 + 1)) hF) (impz [0, 1])
   refine aw_exit ?_
   iterate 2 refine post_then_exit ?_
   cases hF
   exact post_lp_break _ ⟨_, rfl, rfl⟩ (impz [])
  rintro _ ⟨⟨⟩, rfl, rfl⟩
  have hF := elim_next hK54
  clear hK54
  iterate 5 refine go ?_
  cases hF
  exact prt
theorem ref06_Same_ok {n : Nat} {a0 : GExpr} {a1 : GExpr} {r : Bool} (hF : ref06_Same n a0 a1 = some r) : FZ 161 [.agg (eGExpr a0), .agg (eGExpr a1)] [.p (.bool r)] := (ref06_Same_ring n) _ _ _ hF

theorem ref08_only_ok {a0 : GStmt} {r : Bool} (hF : ref08_only a0 = some r) : FZ 141 [.agg (eGStmt a0)] [.p (.bool r)] := by
 unfold ref08_only at hF
 refine fn_of_body (n := 55) Tryz.func141 rfl rfl rfl fun w O => ?_
 refine go ?_
 refine rgp (bo 0) ?_
 iterate 3 refine go ?_
 refine rgp (la (eGStmt a0) agg_48) ?_
 obtain ⟨y3, h4, hF⟩ := bs hF
 refine rgp (cl 1 [.agg (eGStmt a0)] [.p (.agg (eGStmt y3))] (ref08_Blank_ok h4)) ?_
 refine rgp (al 1 (eGStmt zGStmt) zer_48) ?_
 iterate 7 refine go ?_
 rcases ie hF with ⟨hb5, hF⟩ | ⟨hb5, hF⟩
 ·iterate 3 refine gn hb5 ?_
  refine rpt hb5 ?_
  refine go ?_
  rcases ie hF with ⟨hb6, hF⟩ | ⟨hb6, hF⟩
  ·iterate 2 refine gn hb6 ?_
   refine rgn hb6 (op_str rfl rfl rfl rfl rfl rfl) ?_
   refine rpt hb6 ?_
   refine go ?_
   rcases ie hF with ⟨hb7, hF⟩ | ⟨hb7, hF⟩
   ·iterate 2 refine gn hb7 ?_
    refine rgn hb7 (op_str rfl rfl rfl rfl rfl rfl) ?_
    refine rpt hb7 ?_
    refine go ?_
    rcases ie hF with ⟨hb8, hF⟩ | ⟨hb8, hF⟩
    ·iterate 2 refine gn hb8 ?_
     refine rgn hb8 (op_str rfl rfl rfl rfl rfl rfl) ?_
     refine rpt hb8 ?_
     refine go ?_
     rcases ie hF with ⟨hb9, hF⟩ | ⟨hb9, hF⟩
     ·refine gn hb9 ?_
      refine rgn hb9 (la (eGType y3.fType) agg_37) ?_
      refine rgn hb9 (bd ((eGType zGType)) (eGType ({ fKind := 0, fClass := [], fN := 0, fOwn := (⟨zGOwner, zGOwner, zGOwner, zGOwner⟩ : A4 GOwner) } : GType)) zer_37 plc_37) ?_
      refine rgn hb9 (op_eqAgg_eql (r := bGType y3.fType ({ fKind := 0, fClass := [], fN := 0, fOwn := (⟨zGOwner, zGOwner, zGOwner, zGOwner⟩ : A4 GOwner) } : GType)) rfl rfl rfl eqt_37 rfl rfl rfl rfl rfl) ?_
      refine rpt hb9 ?_
      refine go ?_
      rcases ie hF with ⟨hb10, hF⟩ | ⟨hb10, hF⟩
      ·refine gn hb10 ?_
       refine rgn hb10 (la (eGExpr y3.fE) agg_46) ?_
       refine rgn hb10 (bd ((eGExpr zGExpr)) (eGExpr ({ fKind := 0, fNum := 0, fName := [], fKids := [] } : GExpr)) zer_46 plc_46) ?_
       obtain ⟨y11, h12, hF⟩ := bs hF
       refine rgn hb10 (cl 2 [.agg (eGExpr y3.fE), .agg (eGExpr ({ fKind := 0, fNum := 0, fName := [], fKids := [] } : GExpr))] [.p (.bool y11)] (ref06_Same_ok h12)) ?_
       refine rpt hb10 ?_
       refine go ?_
       rcases ie hF with ⟨hb13, hF⟩ | ⟨hb13, hF⟩
       ·iterate 2 refine gn hb13 ?_
        refine rgn hb13 (op_len_vs (n := y3.fArgs.length) rfl rfl (lenR eLGExpr_map) slc_44 rfl rfl) ?_
        iterate 2 refine gn hb13 ?_
        refine rgn hb13 (op_len_vs (n := y3.fBody.length) rfl rfl (lenR eLGStmt_map) slc_38 rfl rfl) ?_
        iterate 3 refine gn hb13 ?_
        refine rgn hb13 (op_len_vs (n := y3.fElse.length) rfl rfl (lenR eLGStmt_map) slc_38 rfl rfl) ?_
        iterate 2 refine gn hb13 ?_
        refine rpt hb13 ?_
        refine go ?_
        refine reg_nil ?_
        refine piz (sX 55 [pf 2 (.bool ((w_i64 ((w_i64 ((y3.fArgs.length : Int) + (y3.fBody.length : Int))) + (y3.fElse.length : Int))) == 0))] [] 0) [] ?_
        iterate 2 refine go ?_
        cases hF
        exact prt
       iterate 12 refine rgo_f hb13 ?_
       refine rpf hb13 ?_
       refine go ?_
       refine reg_nil ?_
       refine piz (sX 55 [pf 2 (.bool false)] [] 0) [] ?_
       iterate 2 refine go ?_
       cases hF
       exact prt
      iterate 4 refine rgo_f hb10 ?_
      refine rpf hb10 ?_
      refine go ?_
      iterate 12 refine rgo_f rfl ?_
      refine rpf rfl ?_
      refine go ?_
      refine reg_nil ?_
      refine piz (sX 55 [pf 2 (.bool false)] [] 0) [] ?_
      iterate 2 refine go ?_
      cases hF
      exact prt
     iterate 4 refine rgo_f hb9 ?_
     refine rpf hb9 ?_
     refine go ?_
     iterate 4 refine rgo_f rfl ?_
     refine rpf rfl ?_
     refine go ?_
     iterate 12 refine rgo_f rfl ?_
     refine rpf rfl ?_
     refine go ?_
     refine reg_nil ?_
     refine piz (sX 55 [pf 2 (.bool false)] [] 0) [] ?_
     iterate 2 refine go ?_
     cases hF
     exact prt
    iterate 3 refine rgo_f hb8 ?_
    refine rpf hb8 ?_
    refine go ?_
    iterate 4 refine rgo_f rfl ?_
    refine rpf rfl ?_
    refine go ?_
    iterate 4 refine rgo_f rfl ?_
    refine rpf rfl ?_
    refine go ?_
    iterate 12 refine rgo_f rfl ?_
    refine rpf rfl ?_
    refine go ?_
    refine reg_nil ?_
    refine piz (sX 55 [pf 2 (.bool false)] [] 0) [] ?_
    iterate 2 refine go ?_
    cases hF
    exact prt
   iterate 3 refine rgo_f hb7 ?_
   refine rpf hb7 ?_
   refine go ?_
   iterate 3 refine rgo_f rfl ?_
   refine rpf rfl ?_
   refine go ?_
   iterate 4 refine rgo_f rfl ?_
   refine rpf rfl ?_
   refine go ?_
   iterate 4 refine rgo_f rfl ?_
   refine rpf rfl ?_
   refine go ?_
   iterate 12 refine rgo_f rfl ?_
   refine rpf rfl ?_
   refine go ?_
   refine reg_nil ?_
   refine piz (sX 55 [pf 2 (.bool false)] [] 0) [] ?_
   iterate 2 refine go ?_
   cases hF
   exact prt
  iterate 3 refine rgo_f hb6 ?_
  refine rpf hb6 ?_
  refine go ?_
  iterate 3 refine rgo_f rfl ?_
  refine rpf rfl ?_
  refine go ?_
  iterate 3 refine rgo_f rfl ?_
  refine rpf rfl ?_
  refine go ?_
  iterate 4 refine rgo_f rfl ?_
  refine rpf rfl ?_
  refine go ?_
  iterate 4 refine rgo_f rfl ?_
  refine rpf rfl ?_
  refine go ?_
  iterate 12 refine rgo_f rfl ?_
  refine rpf rfl ?_
  refine go ?_
  refine reg_nil ?_
  refine piz (sX 55 [pf 2 (.bool false)] [] 0) [] ?_
  iterate 2 refine go ?_
  cases hF
  exact prt
 iterate 3 refine rgo_f hb5 ?_
 refine rpf hb5 ?_
 refine go ?_
 iterate 3 refine rgo_f rfl ?_
 refine rpf rfl ?_
 refine go ?_
 iterate 3 refine rgo_f rfl ?_
 refine rpf rfl ?_
 refine go ?_
 iterate 3 refine rgo_f rfl ?_
 refine rpf rfl ?_
 refine go ?_
 iterate 4 refine rgo_f rfl ?_
 refine rpf rfl ?_
 refine go ?_
 iterate 4 refine rgo_f rfl ?_
 refine rpf rfl ?_
 refine go ?_
 iterate 12 refine rgo_f rfl ?_
 refine rpf rfl ?_
 refine go ?_
 refine reg_nil ?_
 refine piz (sX 55 [pf 2 (.bool false)] [] 0) [] ?_
 iterate 2 refine go ?_
 cases hF
 exact prt
theorem ref05_Right_ok {a0 : GType} {a1 : Int} {r : Bool} (hF : ref05_Right a0 a1 = some r) : FZ 125 [.agg (eGType a0), .int .i64 a1] [.p (.bool r)] := by
 unfold ref05_Right at hF
 refine fn_of_body (n := 77) Tryz.func125 rfl rfl rfl fun w O => ?_
 refine go ?_
 refine rgp (bo 0) ?_
 iterate 2 refine go ?_
 refine aw_seq ?_
 refine aw_seq ?_
 obtain ⟨x2, hF, hK4⟩ := bs hF
 refine ctx (sX 77 [pf 1 (.int .i64 a1), (2, some (.lp 0 0)), pf 14 (.bool x2)] [bf 0 37 (eGType a0)] 1) ?_ ?_
 ·iterate 5 refine go ?_
  rcases ie hF with ⟨hb1, hF⟩ | ⟨hb1, hF⟩
  ·refine rgo_t hb1 ?_
   iterate 2 refine rgo_t hb1 ?_
   refine rpt hb1 ?_
   cases hF
   exact rcz [0]
  iterate 3 refine gn hb1 ?_
  refine rpf hb1 ?_
  cases hF
  exact rcz [0]
 have hF := hK4
 refine go ?_
 refine cnd hF (fun hb5 hF => ?_) fun hb5 hF => ?_
 ·refine go ?_
  refine rgp (la (eGType a0) agg_37) ?_
  iterate 2 refine go ?_
  refine rgp (bd ((eGType zGType)) (eGType ({ fKind := a0.fKind, fClass := [], fN := 0, fOwn := (⟨zGOwner, zGOwner, zGOwner, zGOwner⟩ : A4 GOwner) } : GType)) zer_37 plc_37) ?_
  refine rgp (op_eqAgg_eql (r := bGType a0 ({ fKind := a0.fKind, fClass := [], fN := 0, fOwn := (⟨zGOwner, zGOwner, zGOwner, zGOwner⟩ : A4 GOwner) } : GType)) rfl rfl rfl eqt_37 rfl rfl rfl rfl rfl) ?_
  iterate 4 refine go ?_
  cases hF
  exact prt
 iterate 2 refine go ?_
 refine aw_seq ?_
 refine aw_seq ?_
 obtain ⟨x11, hF, hK13⟩ := bs hF
 refine ctx (sX 77 [pf 1 (.int .i64 a1), (2, some (.lp 0 0)), pf 38 (.bool x11)] [bf 0 37 (eGType a0)] 1) ?_ ?_
 ·iterate 5 refine go ?_
  rcases ie hF with ⟨hb6, hF⟩ | ⟨hb6, hF⟩
  ·refine rgo_t hb6 ?_
   iterate 3 refine rgo_t hb6 ?_
   refine rpt hb6 ?_
   refine go ?_
   iterate 3 refine rgo_t rfl ?_
   refine rpt rfl ?_
   refine go ?_
   iterate 3 refine rgo_t rfl ?_
   refine rpt rfl ?_
   cases hF
   exact rcz [0]
  iterate 2 refine gn hb6 ?_
  obtain ⟨y7, h8, hF⟩ := bs hF
  refine rgn hb6 (cl 1 [.str a0.fClass] [.p (.bool y7)] (ref02_Name_ok h8)) ?_
  refine gn hb6 ?_
  refine rpf hb6 ?_
  refine go ?_
  rcases ie hF with ⟨hb9, hF⟩ | ⟨hb9, hF⟩
  ·refine rgo_t hb9 ?_
   iterate 2 refine rgo_t hb9 ?_
   refine rpt hb9 ?_
   refine go ?_
   iterate 3 refine rgo_t rfl ?_
   refine rpt rfl ?_
   cases hF
   exact rcz [0]
  iterate 3 refine gn hb9 ?_
  refine rpf hb9 ?_
  refine go ?_
  rcases ie hF with ⟨hb10, hF⟩ | ⟨hb10, hF⟩
  ·refine rgo_t hb10 ?_
   iterate 2 refine rgo_t hb10 ?_
   refine rpt hb10 ?_
   cases hF
   exact rcz [0]
  iterate 3 refine gn hb10 ?_
  refine rpf hb10 ?_
  cases hF
  exact rcz [0]
 have hF := hK13
 refine go ?_
 refine cnd hF (fun hb14 hF => ?_) fun hb14 hF => ?_
 ·iterate 5 refine go ?_
  cases hF
  exact prt
 iterate 6 refine go ?_
 obtain ⟨lr77, hF, hK78⟩ := bs hF
 refine aw_for (((4 : Int) - (0)).toNat + 1) (fun s1 => ∃ q, lr77 = .next q ∧ s1 = (sX 77 [] [] 0)) ?_ ?_
 ·refine rnd_loop (α := Int) (fun q => (sX 77 [pf 1 (.int .i64 a1), (2, some (.lp 0 0)), pf 5 (.int .i64 q)] [bf 0 37 (eGType a0)] 1)) (fun k q => ref05_Right_L1 a0 a1 k q = some lr77) 0 (impz [0]) hF (fun q h => by cases h) ?_
  clear hF
  rintro k x32 hF ih
  refine rnd_succ ?_
  iterate 5 refine go ?_
  refine cnd hF (fun hb55 hF => ?_) fun hb55 hF => ?_
  ·iterate 2 refine go ?_
   refine aw_seq ?_
   refine aw_block ?_
   iterate 3 refine go ?_
   obtain ⟨y58, h59, hF⟩ := bs hF
   refine rgp (op_arr_lpN (l := (a0.fOwn).l) rfl rfl rfl arr_35 rfl h59 rfl rfl) ?_
   refine rgp (op_load_lp_agg (ps := eGOwner y58) rfl rfl rfl (arr_cellsN (l := (a0.fOwn).l) (f := eGOwner) rfl (fun _ => rfl) rfl h59) rfl rfl agg_34 rfl rfl) ?_
   refine rgp (al 1 (eGOwner zGOwner) zer_34) ?_
   iterate 2 refine go ?_
   refine aw_seq ?_
   obtain ⟨x72, hF, hK74⟩ := bs hF
   refine ctx (sX 77 [pf 1 (.int .i64 a1), (2, some (.lp 0 0)), pf 5 (.int .i64 x32), pf 76 (.bool x72)] [bf 0 37 (eGType a0)] 1) ?_ ?_
   ·iterate 6 refine go ?_
    rcases ie hF with ⟨hb60, hF⟩ | ⟨hb60, hF⟩
    ·refine rgn hb60 (la (eGOwner y58) agg_34) ?_
     refine rgn hb60 (bd ((eGOwner zGOwner)) (eGOwner ({ fKind := 0, fN := 0 } : GOwner)) zer_34 plc_34) ?_
     refine rgn hb60 (op_eqAgg_neq (r := bGOwner y58 ({ fKind := 0, fN := 0 } : GOwner)) rfl rfl rfl eqt_34 rfl rfl rfl rfl rfl) ?_
     refine rpt hb60 ?_
     refine go ?_
     rcases ie hF with ⟨hb61, hF⟩ | ⟨hb61, hF⟩
     ·refine rgo_t hb61 ?_
      iterate 4 refine rgo_t hb61 ?_
      iterate 13 refine go ?_
      refine rgo_t hb61 ?_
      refine rpt hb61 ?_
      cases hF
      exact rcz [0]
     iterate 5 refine gn hb61 ?_
     rcases ie hF with ⟨hb62, hF⟩ | ⟨hb62, hF⟩
     ·refine rgn hb62 (la (eGOwner y58) agg_34) ?_
      refine gn hb62 ?_
      obtain ⟨y63, h64, hF⟩ := bs hF
      refine rgn hb62 (cl 2 [.agg (eGOwner y58), .int .i64 a1] [.p (.bool y63)] (ref04_Right_ok h64)) ?_
      iterate 2 refine gn hb62 ?_
      rcases ie hF with ⟨hb65, hF⟩ | ⟨hb65, hF⟩
      ·refine rgo_t hb65 ?_
       iterate 2 refine rgo_t hb65 ?_
       iterate 3 refine go ?_
       refine rgo_t hb65 ?_
       refine rgn hb62 (op_pick_t rfl rfl hb65 rfl rfl rfl) ?_
       refine rgn hb61 (op_pick_t rfl rfl hb62 rfl rfl rfl) ?_
       refine rpf hb61 ?_
       cases hF
       exact rcz [0]
      iterate 3 refine gn hb65 ?_
      rcases ie hF with ⟨hb66, hF⟩ | ⟨hb66, hF⟩
      ·iterate 3 refine gn hb66 ?_
       refine rgn hb65 (op_pick_t rfl rfl hb66 rfl rfl rfl) ?_
       refine rgn hb62 (op_pick_f rfl rfl hb65 rfl rfl rfl) ?_
       refine rgn hb61 (op_pick_t rfl rfl hb62 rfl rfl rfl) ?_
       refine rpf hb61 ?_
       cases hF
       exact rcz [0]
      iterate 3 refine rgo_f hb66 ?_
      refine rgn hb65 (op_pick_f rfl rfl hb66 rfl rfl rfl) ?_
      refine rgn hb62 (op_pick_f rfl rfl hb65 rfl rfl rfl) ?_
      refine rgn hb61 (op_pick_t rfl rfl hb62 rfl rfl rfl) ?_
      refine rpf hb61 ?_
      cases hF
      exact rcz [0]
     iterate 5 refine rgo_f hb62 ?_
     iterate 7 refine go ?_
     refine rgo_f hb62 ?_
     refine rgn hb61 (op_pick_f rfl rfl hb62 rfl rfl rfl) ?_
     refine rpf hb61 ?_
     cases hF
     exact rcz [0]
    iterate 3 refine rgo_f hb60 ?_
    refine rpf hb60 ?_
    refine go ?_
    iterate 5 refine gn rfl ?_
    rcases ie hF with ⟨hb67, hF⟩ | ⟨hb67, hF⟩
    ·refine rgn hb67 (la (eGOwner y58) agg_34) ?_
     refine gn hb67 ?_
     obtain ⟨y68, h69, hF⟩ := bs hF
     refine rgn hb67 (cl 2 [.agg (eGOwner y58), .int .i64 a1] [.p (.bool y68)] (ref04_Right_ok h69)) ?_
     iterate 2 refine gn hb67 ?_
     rcases ie hF with ⟨hb70, hF⟩ | ⟨hb70, hF⟩
     ·refine rgo_t hb70 ?_
      iterate 2 refine rgo_t hb70 ?_
      iterate 3 refine go ?_
      refine rgo_t hb70 ?_
      refine rgn hb67 (op_pick_t rfl rfl hb70 rfl rfl rfl) ?_
      refine rgn rfl (op_pick_t rfl rfl hb67 rfl rfl rfl) ?_
      refine rpf rfl ?_
      cases hF
      exact rcz [0]
     iterate 3 refine gn hb70 ?_
     rcases ie hF with ⟨hb71, hF⟩ | ⟨hb71, hF⟩
     ·iterate 3 refine gn hb71 ?_
      refine rgn hb70 (op_pick_t rfl rfl hb71 rfl rfl rfl) ?_
      refine rgn hb67 (op_pick_f rfl rfl hb70 rfl rfl rfl) ?_
      refine rgn rfl (op_pick_t rfl rfl hb67 rfl rfl rfl) ?_
      refine rpf rfl ?_
      cases hF
      exact rcz [0]
     iterate 3 refine rgo_f hb71 ?_
     refine rgn hb70 (op_pick_f rfl rfl hb71 rfl rfl rfl) ?_
     refine rgn hb67 (op_pick_f rfl rfl hb70 rfl rfl rfl) ?_
     refine rgn rfl (op_pick_t rfl rfl hb67 rfl rfl rfl) ?_
     refine rpf rfl ?_
     cases hF
     exact rcz [0]
    iterate 5 refine rgo_f hb67 ?_
    iterate 7 refine go ?_
    refine rgo_f hb67 ?_
    refine rgn rfl (op_pick_f rfl rfl hb67 rfl rfl rfl) ?_
    refine rpf rfl ?_
    cases hF
    exact rcz [0]
   have hF := hK74
   refine go ?_
   refine cnd hF (fun hb75 hF => ?_) fun hb75 hF => ?_
   ·iterate 7 refine go ?_
    refine post_lp_ret ?_
    cases hF
    have hF := elim_stop hK78
    refine go ?_
    cases hF
    exact prt
   iterate 7 refine go ?_
   refine rnr ?_
   exact rnd_back (ih (w_i64 (x32 + 1)) hF) (impz [0])
  refine aw_exit ?_
  iterate 2 refine post_then_exit ?_
  cases hF
  exact post_lp_break _ ⟨_, rfl, rfl⟩ (impz [])
 rintro _ ⟨⟨⟩, rfl, rfl⟩
 have hF := elim_next hK78
 clear hK78
 iterate 5 refine go ?_
 cases hF
 exact prt
theorem ref08_names_ok {a0 : GStmt} {a1 : Int} {r : Bool} (hF : ref08_names a0 a1 = some r) : FZ 142 [.agg (eGStmt a0), .int .i64 a1] [.p (.bool r)] := by
 unfold ref08_names at hF
 refine fn_of_body (n := 115) Tryz.func142 rfl rfl rfl fun w O => ?_
 refine go ?_
 refine rgp (bo 0) ?_
 iterate 7 refine go ?_
 refine aw_seq ?_
 obtain ⟨x12, hF, hK14⟩ := bs hF
 refine ctx (sX 115 [pf 1 (.int .i64 a1), (2, some (.lp 0 0)), pf 5 (.int .i64 a0.fKind), pf 6 (.bool x12)] [bf 0 48 (eGStmt a0)] 1) ?_ ?_
 ·iterate 3 refine go ?_
  obtain ⟨y3, h4, hF⟩ := bs hF
  refine rgp (cl 1 [.str a0.fX] [.p (.bool y3)] (ref02_Name_ok h4)) ?_
  refine go ?_
  rcases ie hF with ⟨hb5, hF⟩ | ⟨hb5, hF⟩
  ·refine rgo_t hb5 ?_
   iterate 2 refine rgo_t hb5 ?_
   iterate 3 refine go ?_
   refine rgo_t hb5 ?_
   refine rpt hb5 ?_
   refine go ?_
   iterate 2 refine rgo_t rfl ?_
   refine rpt rfl ?_
   refine go ?_
   iterate 2 refine rgo_t rfl ?_
   refine rpt rfl ?_
   refine go ?_
   iterate 2 refine rgo_t rfl ?_
   refine rpt rfl ?_
   refine go ?_
   cases hF
   exact rcz [0]
  iterate 3 refine gn hb5 ?_
  rcases ie hF with ⟨hb6, hF⟩ | ⟨hb6, hF⟩
  ·iterate 2 refine gn hb6 ?_
   refine rgn hb6 (op_str rfl rfl rfl rfl rfl rfl) ?_
   refine rgn hb5 (op_pick_t rfl rfl hb6 rfl rfl rfl) ?_
   refine rpf hb5 ?_
   refine go ?_
   rcases ie hF with ⟨hb7, hF⟩ | ⟨hb7, hF⟩
   ·refine rgo_t hb7 ?_
    refine rgo_t hb7 ?_
    refine rpt hb7 ?_
    refine go ?_
    iterate 2 refine rgo_t rfl ?_
    refine rpt rfl ?_
    refine go ?_
    iterate 2 refine rgo_t rfl ?_
    refine rpt rfl ?_
    refine go ?_
    cases hF
    exact rcz [0]
   iterate 2 refine gn hb7 ?_
   refine rpf hb7 ?_
   refine go ?_
   rcases ie hF with ⟨hb8, hF⟩ | ⟨hb8, hF⟩
   ·refine rgo_t hb8 ?_
    refine rgo_t hb8 ?_
    refine rpt hb8 ?_
    refine go ?_
    iterate 2 refine rgo_t rfl ?_
    refine rpt rfl ?_
    refine go ?_
    cases hF
    exact rcz [0]
   iterate 2 refine gn hb8 ?_
   refine rpf hb8 ?_
   refine go ?_
   rcases ie hF with ⟨hb9, hF⟩ | ⟨hb9, hF⟩
   ·refine rgo_t hb9 ?_
    refine rgo_t hb9 ?_
    refine rpt hb9 ?_
    refine go ?_
    cases hF
    exact rcz [0]
   iterate 2 refine gn hb9 ?_
   refine rpf hb9 ?_
   refine go ?_
   cases hF
   exact rcz [0]
  iterate 3 refine rgo_f hb6 ?_
  refine rgn hb5 (op_pick_f rfl rfl hb6 rfl rfl rfl) ?_
  refine rpf hb5 ?_
  refine go ?_
  iterate 2 refine gn rfl ?_
  refine rpf rfl ?_
  refine go ?_
  rcases ie hF with ⟨hb10, hF⟩ | ⟨hb10, hF⟩
  ·refine rgo_t hb10 ?_
   refine rgo_t hb10 ?_
   refine rpt hb10 ?_
   refine go ?_
   iterate 2 refine rgo_t rfl ?_
   refine rpt rfl ?_
   refine go ?_
   cases hF
   exact rcz [0]
  iterate 2 refine gn hb10 ?_
  refine rpf hb10 ?_
  refine go ?_
  rcases ie hF with ⟨hb11, hF⟩ | ⟨hb11, hF⟩
  ·refine rgo_t hb11 ?_
   refine rgo_t hb11 ?_
   refine rpt hb11 ?_
   refine go ?_
   cases hF
   exact rcz [0]
  iterate 2 refine gn hb11 ?_
  refine rpf hb11 ?_
  refine go ?_
  cases hF
  exact rcz [0]
 have hF := hK14
 refine go ?_
 refine aw_seq ?_
 obtain ⟨x38, hF, hK40⟩ := bs hF
 refine ctx (sX 115 [pf 1 (.int .i64 a1), (2, some (.lp 0 0)), pf 5 (.int .i64 a0.fKind), pf 6 (.bool x12), pf 7 (.bool x38)] [bf 0 48 (eGStmt a0)] 1) ?_ ?_
 ·iterate 3 refine go ?_
  obtain ⟨y17, h18, hF⟩ := bs hF
  refine rgp (cl 1 [.str a0.fY] [.p (.bool y17)] (ref02_Name_ok h18)) ?_
  refine go ?_
  rcases ie hF with ⟨hb19, hF⟩ | ⟨hb19, hF⟩
  ·refine rgo_t hb19 ?_
   iterate 2 refine rgo_t hb19 ?_
   iterate 2 refine go ?_
   iterate 2 refine rgo_t hb19 ?_
   iterate 2 refine go ?_
   iterate 2 refine rgo_t hb19 ?_
   iterate 3 refine go ?_
   refine rgo_t hb19 ?_
   refine rpt hb19 ?_
   refine go ?_
   iterate 2 refine rgo_t rfl ?_
   refine rpt rfl ?_
   refine go ?_
   iterate 2 refine rgo_t rfl ?_
   refine rpt rfl ?_
   refine go ?_
   iterate 2 refine rgo_t rfl ?_
   refine rpt rfl ?_
   refine go ?_
   iterate 2 refine rgo_t rfl ?_
   refine rpt rfl ?_
   refine go ?_
   cases hF
   exact rcz [0]
  iterate 3 refine gn hb19 ?_
  rcases ie hF with ⟨hb20, hF⟩ | ⟨hb20, hF⟩
  ·refine rgo_t hb20 ?_
   refine rgo_t hb20 ?_
   refine rgn hb19 (op_pick_t rfl rfl hb20 rfl rfl rfl) ?_
   refine gn hb19 ?_
   iterate 2 refine rgo_t rfl ?_
   refine rgn hb19 (op_pick_t rfl rfl rfl rfl rfl rfl) ?_
   refine gn hb19 ?_
   iterate 2 refine gn rfl ?_
   refine rgn rfl (op_str rfl rfl rfl rfl rfl rfl) ?_
   refine rgn hb19 (op_pick_t rfl rfl rfl rfl rfl rfl) ?_
   refine rpf hb19 ?_
   refine go ?_
   rcases ie hF with ⟨hb21, hF⟩ | ⟨hb21, hF⟩
   ·refine rgo_t hb21 ?_
    refine rgo_t hb21 ?_
    refine rpt hb21 ?_
    refine go ?_
    iterate 2 refine rgo_t rfl ?_
    refine rpt rfl ?_
    refine go ?_
    iterate 2 refine rgo_t rfl ?_
    refine rpt rfl ?_
    refine go ?_
    iterate 2 refine rgo_t rfl ?_
    refine rpt rfl ?_
    refine go ?_
    cases hF
    exact rcz [0]
   iterate 2 refine gn hb21 ?_
   refine rpf hb21 ?_
   refine go ?_
   rcases ie hF with ⟨hb22, hF⟩ | ⟨hb22, hF⟩
   ·refine rgo_t hb22 ?_
    refine rgo_t hb22 ?_
    refine rpt hb22 ?_
    refine go ?_
    iterate 2 refine rgo_t rfl ?_
    refine rpt rfl ?_
    refine go ?_
    iterate 2 refine rgo_t rfl ?_
    refine rpt rfl ?_
    refine go ?_
    cases hF
    exact rcz [0]
   iterate 2 refine gn hb22 ?_
   refine rpf hb22 ?_
   refine go ?_
   rcases ie hF with ⟨hb23, hF⟩ | ⟨hb23, hF⟩
   ·refine rgo_t hb23 ?_
    refine rgo_t hb23 ?_
    refine rpt hb23 ?_
    refine go ?_
    iterate 2 refine rgo_t rfl ?_
    refine rpt rfl ?_
    refine go ?_
    cases hF
    exact rcz [0]
   iterate 2 refine gn hb23 ?_
   refine rpf hb23 ?_
   refine go ?_
   rcases ie hF with ⟨hb24, hF⟩ | ⟨hb24, hF⟩
   ·refine rgo_t hb24 ?_
    refine rgo_t hb24 ?_
    refine rpt hb24 ?_
    refine go ?_
    cases hF
    exact rcz [0]
   iterate 2 refine gn hb24 ?_
   refine rpf hb24 ?_
   refine go ?_
   cases hF
   exact rcz [0]
  iterate 2 refine gn hb20 ?_
  refine rgn hb19 (op_pick_f rfl rfl hb20 rfl rfl rfl) ?_
  refine gn hb19 ?_
  rcases ie hF with ⟨hb25, hF⟩ | ⟨hb25, hF⟩
  ·refine rgo_t hb25 ?_
   refine rgo_t hb25 ?_
   refine rgn hb19 (op_pick_t rfl rfl hb25 rfl rfl rfl) ?_
   refine gn hb19 ?_
   iterate 2 refine gn rfl ?_
   refine rgn rfl (op_str rfl rfl rfl rfl rfl rfl) ?_
   refine rgn hb19 (op_pick_t rfl rfl rfl rfl rfl rfl) ?_
   refine rpf hb19 ?_
   refine go ?_
   rcases ie hF with ⟨hb26, hF⟩ | ⟨hb26, hF⟩
   ·refine rgo_t hb26 ?_
    refine rgo_t hb26 ?_
    refine rpt hb26 ?_
    refine go ?_
    iterate 2 refine rgo_t rfl ?_
    refine rpt rfl ?_
    refine go ?_
    iterate 2 refine rgo_t rfl ?_
    refine rpt rfl ?_
    refine go ?_
    iterate 2 refine rgo_t rfl ?_
    refine rpt rfl ?_
    refine go ?_
    cases hF
    exact rcz [0]
   iterate 2 refine gn hb26 ?_
   refine rpf hb26 ?_
   refine go ?_
   rcases ie hF with ⟨hb27, hF⟩ | ⟨hb27, hF⟩
   ·refine rgo_t hb27 ?_
    refine rgo_t hb27 ?_
    refine rpt hb27 ?_
    refine go ?_
    iterate 2 refine rgo_t rfl ?_
    refine rpt rfl ?_
    refine go ?_
    iterate 2 refine rgo_t rfl ?_
    refine rpt rfl ?_
    refine go ?_
    cases hF
    exact rcz [0]
   iterate 2 refine gn hb27 ?_
   refine rpf hb27 ?_
   refine go ?_
   rcases ie hF with ⟨hb28, hF⟩ | ⟨hb28, hF⟩
   ·refine rgo_t hb28 ?_
    refine rgo_t hb28 ?_
    refine rpt hb28 ?_
    refine go ?_
    iterate 2 refine rgo_t rfl ?_
    refine rpt rfl ?_
    refine go ?_
    cases hF
    exact rcz [0]
   iterate 2 refine gn hb28 ?_
   refine rpf hb28 ?_
   refine go ?_
   rcases ie hF with ⟨hb29, hF⟩ | ⟨hb29, hF⟩
   ·refine rgo_t hb29 ?_
    refine rgo_t hb29 ?_
    refine rpt hb29 ?_
    refine go ?_
    cases hF
    exact rcz [0]
   iterate 2 refine gn hb29 ?_
   refine rpf hb29 ?_
   refine go ?_
   cases hF
   exact rcz [0]
  iterate 2 refine gn hb25 ?_
  refine rgn hb19 (op_pick_f rfl rfl hb25 rfl rfl rfl) ?_
  refine gn hb19 ?_
  rcases ie hF with ⟨hb30, hF⟩ | ⟨hb30, hF⟩
  ·iterate 2 refine gn hb30 ?_
   refine rgn hb30 (op_str rfl rfl rfl rfl rfl rfl) ?_
   refine rgn hb19 (op_pick_t rfl rfl hb30 rfl rfl rfl) ?_
   refine rpf hb19 ?_
   refine go ?_
   rcases ie hF with ⟨hb31, hF⟩ | ⟨hb31, hF⟩
   ·refine rgo_t hb31 ?_
    refine rgo_t hb31 ?_
    refine rpt hb31 ?_
    refine go ?_
    iterate 2 refine rgo_t rfl ?_
    refine rpt rfl ?_
    refine go ?_
    iterate 2 refine rgo_t rfl ?_
    refine rpt rfl ?_
    refine go ?_
    iterate 2 refine rgo_t rfl ?_
    refine rpt rfl ?_
    refine go ?_
    cases hF
    exact rcz [0]
   iterate 2 refine gn hb31 ?_
   refine rpf hb31 ?_
   refine go ?_
   rcases ie hF with ⟨hb32, hF⟩ | ⟨hb32, hF⟩
   ·refine rgo_t hb32 ?_
    refine rgo_t hb32 ?_
    refine rpt hb32 ?_
    refine go ?_
    iterate 2 refine rgo_t rfl ?_
    refine rpt rfl ?_
    refine go ?_
    iterate 2 refine rgo_t rfl ?_
    refine rpt rfl ?_
    refine go ?_
    cases hF
    exact rcz [0]
   iterate 2 refine gn hb32 ?_
   refine rpf hb32 ?_
   refine go ?_
   rcases ie hF with ⟨hb33, hF⟩ | ⟨hb33, hF⟩
   ·refine rgo_t hb33 ?_
    refine rgo_t hb33 ?_
    refine rpt hb33 ?_
    refine go ?_
    iterate 2 refine rgo_t rfl ?_
    refine rpt rfl ?_
    refine go ?_
    cases hF
    exact rcz [0]
   iterate 2 refine gn hb33 ?_
   refine rpf hb33 ?_
   refine go ?_
   rcases ie hF with ⟨hb34, hF⟩ | ⟨hb34, hF⟩
   ·refine rgo_t hb34 ?_
    refine rgo_t hb34 ?_
    refine rpt hb34 ?_
    refine go ?_
    cases hF
    exact rcz [0]
   iterate 2 refine gn hb34 ?_
   refine rpf hb34 ?_
   refine go ?_
   cases hF
   exact rcz [0]
  iterate 3 refine rgo_f hb30 ?_
  refine rgn hb19 (op_pick_f rfl rfl hb30 rfl rfl rfl) ?_
  refine rpf hb19 ?_
  refine go ?_
  iterate 2 refine gn rfl ?_
  refine rpf rfl ?_
  refine go ?_
  rcases ie hF with ⟨hb35, hF⟩ | ⟨hb35, hF⟩
  ·refine rgo_t hb35 ?_
   refine rgo_t hb35 ?_
   refine rpt hb35 ?_
   refine go ?_
   iterate 2 refine rgo_t rfl ?_
   refine rpt rfl ?_
   refine go ?_
   iterate 2 refine rgo_t rfl ?_
   refine rpt rfl ?_
   refine go ?_
   cases hF
   exact rcz [0]
  iterate 2 refine gn hb35 ?_
  refine rpf hb35 ?_
  refine go ?_
  rcases ie hF with ⟨hb36, hF⟩ | ⟨hb36, hF⟩
  ·refine rgo_t hb36 ?_
   refine rgo_t hb36 ?_
   refine rpt hb36 ?_
   refine go ?_
   iterate 2 refine rgo_t rfl ?_
   refine rpt rfl ?_
   refine go ?_
   cases hF
   exact rcz [0]
  iterate 2 refine gn hb36 ?_
  refine rpf hb36 ?_
  refine go ?_
  rcases ie hF with ⟨hb37, hF⟩ | ⟨hb37, hF⟩
  ·refine rgo_t hb37 ?_
   refine rgo_t hb37 ?_
   refine rpt hb37 ?_
   refine go ?_
   cases hF
   exact rcz [0]
  iterate 2 refine gn hb37 ?_
  refine rpf hb37 ?_
  refine go ?_
  cases hF
  exact rcz [0]
 have hF := hK40
 refine go ?_
 refine aw_seq ?_
 obtain ⟨x48, hF, hK50⟩ := bs hF
 refine ctx (sX 115 [pf 1 (.int .i64 a1), (2, some (.lp 0 0)), pf 5 (.int .i64 a0.fKind), pf 6 (.bool x12), pf 7 (.bool x38), pf 8 (.bool x48)] [bf 0 48 (eGStmt a0)] 1) ?_ ?_
 ·iterate 3 refine go ?_
  obtain ⟨y43, h44, hF⟩ := bs hF
  refine rgp (cl 1 [.str a0.fName] [.p (.bool y43)] (ref02_Name_ok h44)) ?_
  refine go ?_
  rcases ie hF with ⟨hb45, hF⟩ | ⟨hb45, hF⟩
  ·refine rgo_t hb45 ?_
   iterate 2 refine rgo_t hb45 ?_
   iterate 2 refine go ?_
   iterate 2 refine rgo_t hb45 ?_
   iterate 2 refine go ?_
   refine rgo_t hb45 ?_
   refine rpt hb45 ?_
   refine go ?_
   cases hF
   exact rcz [0]
  iterate 3 refine gn hb45 ?_
  rcases ie hF with ⟨hb46, hF⟩ | ⟨hb46, hF⟩
  ·iterate 2 refine gn hb46 ?_
   refine rgn hb45 (op_pick_t rfl rfl hb46 rfl rfl rfl) ?_
   refine gn hb45 ?_
   rcases ie hF with ⟨hb47, hF⟩ | ⟨hb47, hF⟩
   ·iterate 2 refine gn hb47 ?_
    refine rgn hb45 (op_pick_t rfl rfl hb47 rfl rfl rfl) ?_
    refine rpf hb45 ?_
    refine go ?_
    cases hF
    exact rcz [0]
   iterate 2 refine rgo_f hb47 ?_
   refine rgn hb45 (op_pick_f rfl rfl hb47 rfl rfl rfl) ?_
   refine rpf hb45 ?_
   refine go ?_
   cases hF
   exact rcz [0]
  iterate 2 refine rgo_f hb46 ?_
  refine rgn hb45 (op_pick_f rfl rfl hb46 rfl rfl rfl) ?_
  refine gn hb45 ?_
  iterate 2 refine rgo_f rfl ?_
  refine rgn hb45 (op_pick_f rfl rfl rfl rfl rfl rfl) ?_
  refine rpf hb45 ?_
  refine go ?_
  cases hF
  exact rcz [0]
 have hF := hK50
 refine go ?_
 refine aw_seq ?_
 obtain ⟨x57, hF, hK59⟩ := bs hF
 refine ctx (sX 115 [pf 6 (.bool x12), pf 7 (.bool x38), pf 8 (.bool x48), pf 9 (.bool x57)] [] 0) ?_ ?_
 ·iterate 6 refine go ?_
  rcases ie hF with ⟨hb51, hF⟩ | ⟨hb51, hF⟩
  ·refine gn hb51 ?_
   refine rgn hb51 (la (eGType a0.fType) agg_37) ?_
   refine gn hb51 ?_
   obtain ⟨y52, h53, hF⟩ := bs hF
   refine rgn hb51 (cl 1 [.agg (eGType a0.fType), .int .i64 a1] [.p (.bool y52)] (ref05_Right_ok h53)) ?_
   refine rpt hb51 ?_
   refine go ?_
   rcases ie hF with ⟨hb54, hF⟩ | ⟨hb54, hF⟩
   ·refine rgo_t hb54 ?_
    iterate 2 refine rgo_t hb54 ?_
    iterate 2 refine go ?_
    refine rgo_t hb54 ?_
    refine rpt hb54 ?_
    refine go ?_
    cases hF
    exact rcz []
   iterate 3 refine gn hb54 ?_
   rcases ie hF with ⟨hb55, hF⟩ | ⟨hb55, hF⟩
   ·iterate 2 refine gn hb55 ?_
    refine rgn hb54 (op_pick_t rfl rfl hb55 rfl rfl rfl) ?_
    refine rpf hb54 ?_
    refine go ?_
    cases hF
    exact rcz []
   iterate 2 refine rgo_f hb55 ?_
   refine rgn hb54 (op_pick_f rfl rfl hb55 rfl rfl rfl) ?_
   refine rpf hb54 ?_
   refine go ?_
   cases hF
   exact rcz []
  iterate 4 refine rgo_f hb51 ?_
  refine rpf hb51 ?_
  refine go ?_
  iterate 3 refine gn rfl ?_
  rcases ie hF with ⟨hb56, hF⟩ | ⟨hb56, hF⟩
  ·iterate 2 refine gn hb56 ?_
   refine rgn rfl (op_pick_t rfl rfl hb56 rfl rfl rfl) ?_
   refine rpf rfl ?_
   refine go ?_
   cases hF
   exact rcz []
  iterate 2 refine rgo_f hb56 ?_
  refine rgn rfl (op_pick_f rfl rfl hb56 rfl rfl rfl) ?_
  refine rpf rfl ?_
  refine go ?_
  cases hF
  exact rcz []
 have hF := hK59
 iterate 4 refine go ?_
 rcases ie hF with ⟨hb60, hF⟩ | ⟨hb60, hF⟩
 ·refine gn hb60 ?_
  refine rpt hb60 ?_
  refine go ?_
  rcases ie hF with ⟨hb61, hF⟩ | ⟨hb61, hF⟩
  ·refine gn hb61 ?_
   refine rpt hb61 ?_
   refine go ?_
   rcases ie hF with ⟨hb62, hF⟩ | ⟨hb62, hF⟩
   ·refine gn hb62 ?_
    refine rpt hb62 ?_
    iterate 3 refine go ?_
    cases hF
    exact prt
   refine rgo_f hb62 ?_
   refine rpf hb62 ?_
   iterate 3 refine go ?_
   cases hF
   exact prt
  refine rgo_f hb61 ?_
  refine rpf hb61 ?_
  refine go ?_
  refine rgo_f rfl ?_
  refine rpf rfl ?_
  iterate 3 refine go ?_
  cases hF
  exact prt
 refine rgo_f hb60 ?_
 refine rpf hb60 ?_
 refine go ?_
 refine rgo_f rfl ?_
 refine rpf rfl ?_
 refine go ?_
 refine rgo_f rfl ?_
 refine rpf rfl ?_
 iterate 3 refine go ?_
 cases hF
 exact prt
theorem ref06_kids_ok {a0 : Int} {r : Int} (hF : ref06_kids a0 = some r) : FZ 191 [.int .i64 a0] [.p (.int .i64 r)] := by
 unfold ref06_kids at hF
 refine fn_of_body (n := 19) Tryz.func191 rfl rfl rfl fun w O => ?_
 iterate 3 refine go ?_
 refine aw_seq ?_
 refine aw_seq ?_
 obtain ⟨x3, hF, hK5⟩ := bs hF
 refine ctx (sX 19 [pf 0 (.int .i64 a0), pf 12 (.bool x3)] [] 0) ?_ ?_
 ·iterate 4 refine go ?_
  rcases ie hF with ⟨hb1, hF⟩ | ⟨hb1, hF⟩
  ·iterate 2 refine gn hb1 ?_
   refine rpt hb1 ?_
   refine go ?_
   rcases ie hF with ⟨hb2, hF⟩ | ⟨hb2, hF⟩
   ·refine rgo_t hb2 ?_
    refine rgo_t hb2 ?_
    refine rpt hb2 ?_
    cases hF
    exact rcz []
   iterate 2 refine gn hb2 ?_
   refine rpf hb2 ?_
   cases hF
   exact rcz []
  iterate 2 refine rgo_f hb1 ?_
  refine rpf hb1 ?_
  refine go ?_
  iterate 2 refine gn rfl ?_
  refine rpf rfl ?_
  cases hF
  exact rcz []
 have hF := hK5
 refine go ?_
 refine cnd hF (fun hb6 hF => ?_) fun hb6 hF => ?_
 ·iterate 5 refine go ?_
  cases hF
  exact prt
 iterate 2 refine go ?_
 refine aw_seq ?_
 refine aw_seq ?_
 obtain ⟨x8, hF, hK10⟩ := bs hF
 refine ctx (sX 19 [pf 18 (.bool x8)] [] 0) ?_ ?_
 ·iterate 4 refine go ?_
  rcases ie hF with ⟨hb7, hF⟩ | ⟨hb7, hF⟩
  ·refine rgo_t hb7 ?_
   refine rgo_t hb7 ?_
   refine rpt hb7 ?_
   cases hF
   exact rcz []
  iterate 2 refine gn hb7 ?_
  refine rpf hb7 ?_
  cases hF
  exact rcz []
 have hF := hK10
 refine go ?_
 refine cnd hF (fun hb11 hF => ?_) fun hb11 hF => ?_
 ·iterate 5 refine go ?_
  cases hF
  exact prt
 iterate 6 refine go ?_
 cases hF
 exact prt
end Go.Proofs.YthhdlpggmmfaiaaGreat
