/- A part of the proof that the law PureRuns gives true for every input. -/
import Derived.Test.YtiefoagopfeibaaGreatPureRunsT
import Derived.Test.YtiefoagopfeibaaGreatPureRunsB
import Derived.Test.YtiefoagopfeibaaGreatPureRunsX
import Derived.Test.YtiefoagopfeibaaGreatPureRunsI
/- Each Go function computes its plain function. -/
namespace Go.Proofs.YtiefoagopfeibaaGreat
open Go.RowKit Go.Abs
set_option maxRecDepth 100000
set_option maxHeartbeats 4000000
theorem ref10_uniques_ok {a0 : GMethod} {r : Int} (hF : ref10_uniques a0 = some r) : FZ 18 [.agg (eGMethod a0)] [.p (.int .i64 r)] := by
 unfold ref10_uniques at hF
 refine fn_of_body (n := 45) Tryz.func18 rfl rfl rfl fun w O => ?_
 refine go ?_
 refine rgp (bo 0) ?_
 iterate 9 refine go ?_
 obtain ⟨x34, hF, hK35⟩ := bs hF
 refine aw_for ((a0.fParams.length - 0 : Int).toNat + 1) (fun s1 => s1 = (sX 45 [(1, some (.lp 0 0)), pf 3 (.int .i64 x34)] [bf 0 40 (eGMethod a0)] 1)) ?_ ?_
 ·refine rnd_loop (α := Int × Int) (fun q => (sX 45 [(1, some (.lp 0 0)), pf 3 (.int .i64 q.1), pf 4 (.int .i64 q.2)] [bf 0 40 (eGMethod a0)] 1)) (fun k q => ref10_uniques_L1 a0 k q.1 q.2 = some x34) (0, 0) (impz [0]) hF (fun q h => by cases h) ?_
  clear hF
  rintro k ⟨x10, x11⟩ hF ih
  refine rnd_succ ?_
  iterate 8 refine go ?_
  refine cnd hF (fun hb23 hF => ?_) fun hb23 hF => ?_
  ·iterate 2 refine go ?_
   refine aw_seq ?_
   obtain ⟨x29, hF, hK31⟩ := bs hF
   refine ctx (sX 45 [(1, some (.lp 0 0)), pf 3 (.int .i64 x29), pf 4 (.int .i64 x11)] [bf 0 40 (eGMethod a0)] 1) ?_ ?_
   ·refine aw_block ?_
    iterate 4 refine go ?_
    obtain ⟨y26, h27, hF⟩ := bs hF
    refine rgp (ix (idx_map eGVar h27) slc_29) ?_
    iterate 2 refine go ?_
    refine rgp (op_arr_vp (k := .i64) (m := 0) (n := 4) rfl rfl rfl arr_35 rfl rfl rfl rfl) ?_
    iterate 4 refine go ?_
    refine cnd hF (fun hb28 hF => ?_) fun hb28 hF => ?_
    ·iterate 4 refine go ?_
     refine reg_nil ?_
     refine piz (sX 45 [(1, some (.lp 0 0)), pf 3 (.int .i64 (w_i64 (x10 + 1))), pf 4 (.int .i64 x11)] [bf 0 40 (eGMethod a0)] 1) [0] ?_
     refine go ?_
     cases hF
     exact pcz [0]
    iterate 2 refine go ?_
    cases hF
    exact pcz [0]
   have hF := hK31
   iterate 5 refine go ?_
   refine rnr ?_
   exact rnd_back (ih (x29, w_i64 (x11 + 1)) hF) (impz [0])
  refine aw_exit ?_
  iterate 2 refine post_then_exit ?_
  cases hF
  exact post_lp_break _ rfl (impz [0])
 rintro _ rfl
 have hF := hK35
 iterate 5 refine go ?_
 obtain ⟨x69, hF, hK70⟩ := bs hF
 refine aw_for ((a0.fLocals.length - 0 : Int).toNat + 1) (fun s1 => s1 = (sX 45 [pf 3 (.int .i64 x69)] [] 0)) ?_ ?_
 ·refine rnd_loop (α := Int × Int) (fun q => (sX 45 [(1, some (.lp 0 0)), pf 3 (.int .i64 q.1), pf 5 (.int .i64 q.2)] [bf 0 40 (eGMethod a0)] 1)) (fun k q => ref10_uniques_L2 a0 k q.1 q.2 = some x69) (x34, 0) (impz [0]) hF (fun q h => by cases h) ?_
  clear hF
  rintro k ⟨x45, x46⟩ hF ih
  refine rnd_succ ?_
  iterate 8 refine go ?_
  refine cnd hF (fun hb58 hF => ?_) fun hb58 hF => ?_
  ·iterate 2 refine go ?_
   refine aw_seq ?_
   obtain ⟨x64, hF, hK66⟩ := bs hF
   refine ctx (sX 45 [(1, some (.lp 0 0)), pf 3 (.int .i64 x64), pf 5 (.int .i64 x46)] [bf 0 40 (eGMethod a0)] 1) ?_ ?_
   ·refine aw_block ?_
    iterate 4 refine go ?_
    obtain ⟨y61, h62, hF⟩ := bs hF
    refine rgp (ix (idx_map eGVar h62) slc_29) ?_
    iterate 2 refine go ?_
    refine rgp (op_arr_vp (k := .i64) (m := 0) (n := 4) rfl rfl rfl arr_35 rfl rfl rfl rfl) ?_
    iterate 4 refine go ?_
    refine cnd hF (fun hb63 hF => ?_) fun hb63 hF => ?_
    ·iterate 4 refine go ?_
     refine reg_nil ?_
     refine piz (sX 45 [(1, some (.lp 0 0)), pf 3 (.int .i64 (w_i64 (x45 + 1))), pf 5 (.int .i64 x46)] [bf 0 40 (eGMethod a0)] 1) [0] ?_
     refine go ?_
     cases hF
     exact pcz [0]
    iterate 2 refine go ?_
    cases hF
    exact pcz [0]
   have hF := hK66
   iterate 5 refine go ?_
   refine rnr ?_
   exact rnd_back (ih (x64, w_i64 (x46 + 1)) hF) (impz [0])
  refine aw_exit ?_
  iterate 2 refine post_then_exit ?_
  cases hF
  exact post_lp_break _ rfl (impz [])
 rintro _ rfl
 have hF := hK70
 iterate 6 refine go ?_
 cases hF
 exact prt
theorem ref10_kids_ring : ∀ n : Nat, (∀ (a0 : GExpr) (a1 : Int) (r : Bool), ref10_kids n a0 a1 = some r → FZ 40 [.agg (eGExpr a0), .int .i64 a1] [.p (.bool r)]) := by
 intro n
 induction n with
 | zero => exact (fun _ _ _ h => by simp [ref10_kids] at h)
 | succ n ih =>
  have ref10_kids_ih := ih
  clear ih
  intro a0 a1 r hF
  unfold ref10_kids at hF
  revert hF ref10_kids_ih
  generalize ref10_kids n = ref10_kids_rec
  intro ref10_kids_ih hF
  refine fn_of_body (n := 29) Tryz.func40 rfl rfl rfl fun w O => ?_
  refine go ?_
  refine rgp (bo 0) ?_
  iterate 2 refine go ?_
  refine aw_seq ?_
  refine aw_seq ?_
  obtain ⟨x2, hF, hK4⟩ := bs hF
  refine ctx (sX 29 [pf 1 (.int .i64 a1), (2, some (.lp 0 0)), pf 13 (.bool x2)] [bf 0 46 (eGExpr a0)] 1) ?_ ?_
  ·iterate 4 refine go ?_
   rcases ie hF with ⟨hb1, hF⟩ | ⟨hb1, hF⟩
   ·refine rgo_t hb1 ?_
    iterate 3 refine rgo_t hb1 ?_
    refine rpt hb1 ?_
    cases hF
    exact rcz [0]
   iterate 2 refine gn hb1 ?_
   refine rgn hb1 (op_len_vs (n := a0.fKids.length) rfl rfl (lenR eLGExpr_map) slc_44 rfl rfl) ?_
   refine gn hb1 ?_
   refine rpf hb1 ?_
   cases hF
   exact rcz [0]
  have hF := hK4
  refine go ?_
  refine cnd hF (fun hb5 hF => ?_) fun hb5 hF => ?_
  ·iterate 5 refine go ?_
   cases hF
   exact prt
  iterate 6 refine go ?_
  obtain ⟨lr39, hF, hK40⟩ := bs hF
  refine aw_for ((a0.fKids.length - 0 : Int).toNat + 1) (fun s1 => ∃ q, lr39 = .next q ∧ s1 = (sX 29 [] [] 0)) ?_ ?_
  ·refine rnd_loop (α := Int) (fun q => (sX 29 [pf 1 (.int .i64 a1), (2, some (.lp 0 0)), pf 5 (.int .i64 q)] [bf 0 46 (eGExpr a0)] 1)) (fun k q => ref10_kids_L1 a0 a1 ref10_kids_rec k q = some lr39) 0 (impz [0]) hF (fun q h => by cases h) ?_
   clear hF
   rintro k x16 hF ih
   refine rnd_succ ?_
   iterate 5 refine go ?_
   refine rgp (op_len_vs (n := a0.fKids.length) rfl rfl (lenR eLGExpr_map) slc_44 rfl rfl) ?_
   iterate 2 refine go ?_
   refine cnd hF (fun hb28 hF => ?_) fun hb28 hF => ?_
   ·iterate 2 refine go ?_
    refine aw_seq ?_
    refine aw_block ?_
    iterate 4 refine go ?_
    obtain ⟨y33, h34, hF⟩ := bs hF
    refine rgp (ix (idxR eLGExpr_map h34) slc_44) ?_
    refine rgp (lw (eGExpr y33) agg_46) ?_
    iterate 2 refine go ?_
    obtain ⟨y35, h36, hF⟩ := bs hF
    refine rgp (cl 1 [.agg (eGExpr y33), .int .i64 (w_i64 (a1 - 1))] [.p (.bool y35)] (ref10_kids_ih _ _ _ h36)) ?_
    refine go ?_
    refine cnd hF (fun hb37 hF => ?_) fun hb37 hF => ?_
    ·iterate 7 refine go ?_
     refine post_lp_ret ?_
     cases hF
     have hF := elim_stop hK40
     refine go ?_
     cases hF
     exact prt
    iterate 7 refine go ?_
    refine rnr ?_
    exact rnd_back (ih (w_i64 (x16 + 1)) hF) (impz [0])
   refine aw_exit ?_
   iterate 2 refine post_then_exit ?_
   cases hF
   exact post_lp_break _ ⟨_, rfl, rfl⟩ (impz [])
  rintro _ ⟨⟨⟩, rfl, rfl⟩
  have hF := elim_next hK40
  clear hK40
  iterate 5 refine go ?_
  cases hF
  exact prt
theorem ref10_kids_ok {n : Nat} {a0 : GExpr} {a1 : Int} {r : Bool} (hF : ref10_kids n a0 a1 = some r) : FZ 40 [.agg (eGExpr a0), .int .i64 a1] [.p (.bool r)] := (ref10_kids_ring n) _ _ _ hF

theorem ref10_much_ring : ∀ n : Nat, (∀ (a0 : GStmt) (a1 : Int) (r : Bool), ref10_much n a0 a1 = some r → FZ 19 [.agg (eGStmt a0), .int .i64 a1] [.p (.bool r)]) := by
 intro n
 induction n with
 | zero => exact (fun _ _ _ h => by simp [ref10_much] at h)
 | succ n ih =>
  have ref10_much_ih := ih
  clear ih
  intro a0 a1 r hF
  unfold ref10_much at hF
  revert hF ref10_much_ih
  generalize ref10_much n = ref10_much_rec
  intro ref10_much_ih hF
  refine fn_of_body (n := 76) Tryz.func19 rfl rfl rfl fun w O => ?_
  refine go ?_
  refine rgp (bo 0) ?_
  iterate 2 refine go ?_
  refine aw_seq ?_
  refine aw_seq ?_
  obtain ⟨x7, hF, hK9⟩ := bs hF
  refine ctx (sX 76 [pf 1 (.int .i64 a1), (2, some (.lp 0 0)), pf 32 (.bool x7)] [bf 0 48 (eGStmt a0)] 1) ?_ ?_
  ·iterate 4 refine go ?_
   rcases ie hF with ⟨hb1, hF⟩ | ⟨hb1, hF⟩
   ·refine rgo_t hb1 ?_
    iterate 3 refine rgo_t hb1 ?_
    refine rpt hb1 ?_
    refine go ?_
    iterate 4 refine rgo_t rfl ?_
    refine rpt rfl ?_
    refine go ?_
    iterate 4 refine rgo_t rfl ?_
    refine rpt rfl ?_
    refine go ?_
    iterate 3 refine rgo_t rfl ?_
    refine rpt rfl ?_
    cases hF
    exact rcz [0]
   iterate 2 refine gn hb1 ?_
   refine rgn hb1 (op_len_vs (n := a0.fBody.length) rfl rfl (lenR eLGStmt_map) slc_38 rfl rfl) ?_
   refine gn hb1 ?_
   refine rpf hb1 ?_
   refine go ?_
   rcases ie hF with ⟨hb2, hF⟩ | ⟨hb2, hF⟩
   ·refine rgo_t hb2 ?_
    iterate 3 refine rgo_t hb2 ?_
    refine rpt hb2 ?_
    refine go ?_
    iterate 4 refine rgo_t rfl ?_
    refine rpt rfl ?_
    refine go ?_
    iterate 3 refine rgo_t rfl ?_
    refine rpt rfl ?_
    cases hF
    exact rcz [0]
   iterate 2 refine gn hb2 ?_
   refine rgn hb2 (op_len_vs (n := a0.fElse.length) rfl rfl (lenR eLGStmt_map) slc_38 rfl rfl) ?_
   refine gn hb2 ?_
   refine rpf hb2 ?_
   refine go ?_
   rcases ie hF with ⟨hb3, hF⟩ | ⟨hb3, hF⟩
   ·refine rgo_t hb3 ?_
    iterate 3 refine rgo_t hb3 ?_
    refine rpt hb3 ?_
    refine go ?_
    iterate 3 refine rgo_t rfl ?_
    refine rpt rfl ?_
    cases hF
    exact rcz [0]
   iterate 2 refine gn hb3 ?_
   refine rgn hb3 (op_len_vs (n := a0.fArgs.length) rfl rfl (lenR eLGExpr_map) slc_44 rfl rfl) ?_
   refine gn hb3 ?_
   refine rpf hb3 ?_
   refine go ?_
   rcases ie hF with ⟨hb4, hF⟩ | ⟨hb4, hF⟩
   ·refine rgo_t hb4 ?_
    iterate 2 refine rgo_t hb4 ?_
    refine rpt hb4 ?_
    cases hF
    exact rcz [0]
   refine gn hb4 ?_
   refine rgn hb4 (la (eGExpr a0.fE) agg_46) ?_
   obtain ⟨y5, h6, hF⟩ := bs hF
   refine rgn hb4 (cl 1 [.agg (eGExpr a0.fE), .int .i64 25] [.p (.bool y5)] (ref10_kids_ok h6)) ?_
   refine rpf hb4 ?_
   cases hF
   exact rcz [0]
  have hF := hK9
  refine go ?_
  refine cnd hF (fun hb10 hF => ?_) fun hb10 hF => ?_
  ·iterate 5 refine go ?_
   cases hF
   exact prt
  iterate 6 refine go ?_
  obtain ⟨lr44, hF, hK45⟩ := bs hF
  refine aw_for ((a0.fArgs.length - 0 : Int).toNat + 1) (fun s1 => ∃ q, lr44 = .next q ∧ s1 = (sX 76 [pf 1 (.int .i64 a1), (2, some (.lp 0 0))] [bf 0 48 (eGStmt a0)] 1)) ?_ ?_
  ·refine rnd_loop (α := Int) (fun q => (sX 76 [pf 1 (.int .i64 a1), (2, some (.lp 0 0)), pf 5 (.int .i64 q)] [bf 0 48 (eGStmt a0)] 1)) (fun k q => ref10_much_L1 a0 k q = some lr44) 0 (impz [0]) hF (fun q h => by cases h) ?_
   clear hF
   rintro k x21 hF ih
   refine rnd_succ ?_
   iterate 5 refine go ?_
   refine rgp (op_len_vs (n := a0.fArgs.length) rfl rfl (lenR eLGExpr_map) slc_44 rfl rfl) ?_
   iterate 2 refine go ?_
   refine cnd hF (fun hb33 hF => ?_) fun hb33 hF => ?_
   ·iterate 2 refine go ?_
    refine aw_seq ?_
    refine aw_block ?_
    iterate 4 refine go ?_
    obtain ⟨y38, h39, hF⟩ := bs hF
    refine rgp (ix (idxR eLGExpr_map h39) slc_44) ?_
    refine rgp (lw (eGExpr y38) agg_46) ?_
    obtain ⟨y40, h41, hF⟩ := bs hF
    refine rgp (cl 1 [.agg (eGExpr y38), .int .i64 25] [.p (.bool y40)] (ref10_kids_ok h41)) ?_
    refine go ?_
    refine cnd hF (fun hb42 hF => ?_) fun hb42 hF => ?_
    ·iterate 7 refine go ?_
     refine post_lp_ret ?_
     cases hF
     have hF := elim_stop hK45
     refine go ?_
     cases hF
     exact prt
    iterate 7 refine go ?_
    refine rnr ?_
    exact rnd_back (ih (w_i64 (x21 + 1)) hF) (impz [0])
   refine aw_exit ?_
   iterate 2 refine post_then_exit ?_
   cases hF
   exact post_lp_break _ ⟨_, rfl, rfl⟩ (impz [0])
  rintro _ ⟨⟨⟩, rfl, rfl⟩
  have hF := elim_next hK45
  clear hK45
  iterate 5 refine go ?_
  obtain ⟨lr79, hF, hK80⟩ := bs hF
  refine aw_for ((a0.fBody.length - 0 : Int).toNat + 1) (fun s1 => ∃ q, lr79 = .next q ∧ s1 = (sX 76 [pf 1 (.int .i64 a1), (2, some (.lp 0 0))] [bf 0 48 (eGStmt a0)] 1)) ?_ ?_
  ·refine rnd_loop (α := Int) (fun q => (sX 76 [pf 1 (.int .i64 a1), (2, some (.lp 0 0)), pf 6 (.int .i64 q)] [bf 0 48 (eGStmt a0)] 1)) (fun k q => ref10_much_L2 a0 a1 ref10_much_rec k q = some lr79) 0 (impz [0]) hF (fun q h => by cases h) ?_
   clear hF
   rintro k x56 hF ih
   refine rnd_succ ?_
   iterate 5 refine go ?_
   refine rgp (op_len_vs (n := a0.fBody.length) rfl rfl (lenR eLGStmt_map) slc_38 rfl rfl) ?_
   iterate 2 refine go ?_
   refine cnd hF (fun hb68 hF => ?_) fun hb68 hF => ?_
   ·iterate 2 refine go ?_
    refine aw_seq ?_
    refine aw_block ?_
    iterate 4 refine go ?_
    obtain ⟨y73, h74, hF⟩ := bs hF
    refine rgp (ix (idxR eLGStmt_map h74) slc_38) ?_
    refine rgp (lw (eGStmt y73) agg_48) ?_
    iterate 2 refine go ?_
    obtain ⟨y75, h76, hF⟩ := bs hF
    refine rgp (cl 1 [.agg (eGStmt y73), .int .i64 (w_i64 (a1 - 1))] [.p (.bool y75)] (ref10_much_ih _ _ _ h76)) ?_
    refine go ?_
    refine cnd hF (fun hb77 hF => ?_) fun hb77 hF => ?_
    ·iterate 7 refine go ?_
     refine post_lp_ret ?_
     cases hF
     have hF := elim_stop hK80
     refine go ?_
     cases hF
     exact prt
    iterate 7 refine go ?_
    refine rnr ?_
    exact rnd_back (ih (w_i64 (x56 + 1)) hF) (impz [0])
   refine aw_exit ?_
   iterate 2 refine post_then_exit ?_
   cases hF
   exact post_lp_break _ ⟨_, rfl, rfl⟩ (impz [0])
  rintro _ ⟨⟨⟩, rfl, rfl⟩
  have hF := elim_next hK80
  clear hK80
  iterate 5 refine go ?_
  obtain ⟨lr114, hF, hK115⟩ := bs hF
  refine aw_for ((a0.fElse.length - 0 : Int).toNat + 1) (fun s1 => ∃ q, lr114 = .next q ∧ s1 = (sX 76 [] [] 0)) ?_ ?_
  ·refine rnd_loop (α := Int) (fun q => (sX 76 [pf 1 (.int .i64 a1), (2, some (.lp 0 0)), pf 7 (.int .i64 q)] [bf 0 48 (eGStmt a0)] 1)) (fun k q => ref10_much_L3 a0 a1 ref10_much_rec k q = some lr114) 0 (impz [0]) hF (fun q h => by cases h) ?_
   clear hF
   rintro k x91 hF ih
   refine rnd_succ ?_
   iterate 5 refine go ?_
   refine rgp (op_len_vs (n := a0.fElse.length) rfl rfl (lenR eLGStmt_map) slc_38 rfl rfl) ?_
   iterate 2 refine go ?_
   refine cnd hF (fun hb103 hF => ?_) fun hb103 hF => ?_
   ·iterate 2 refine go ?_
    refine aw_seq ?_
    refine aw_block ?_
    iterate 4 refine go ?_
    obtain ⟨y108, h109, hF⟩ := bs hF
    refine rgp (ix (idxR eLGStmt_map h109) slc_38) ?_
    refine rgp (lw (eGStmt y108) agg_48) ?_
    iterate 2 refine go ?_
    obtain ⟨y110, h111, hF⟩ := bs hF
    refine rgp (cl 1 [.agg (eGStmt y108), .int .i64 (w_i64 (a1 - 1))] [.p (.bool y110)] (ref10_much_ih _ _ _ h111)) ?_
    refine go ?_
    refine cnd hF (fun hb112 hF => ?_) fun hb112 hF => ?_
    ·iterate 7 refine go ?_
     refine post_lp_ret ?_
     cases hF
     have hF := elim_stop hK115
     refine go ?_
     cases hF
     exact prt
    iterate 7 refine go ?_
    refine rnr ?_
    exact rnd_back (ih (w_i64 (x91 + 1)) hF) (impz [0])
   refine aw_exit ?_
   iterate 2 refine post_then_exit ?_
   cases hF
   exact post_lp_break _ ⟨_, rfl, rfl⟩ (impz [])
  rintro _ ⟨⟨⟩, rfl, rfl⟩
  have hF := elim_next hK115
  clear hK115
  iterate 5 refine go ?_
  cases hF
  exact prt
theorem ref10_much_ok {n : Nat} {a0 : GStmt} {a1 : Int} {r : Bool} (hF : ref10_much n a0 a1 = some r) : FZ 19 [.agg (eGStmt a0), .int .i64 a1] [.p (.bool r)] := (ref10_much_ring n) _ _ _ hF

theorem ref08_Size_ring : ∀ n : Nat, (∀ (a0 : GStmt) (r : Int), ref08_Size n a0 = some r → FZ 20 [.agg (eGStmt a0)] [.p (.int .i64 r)]) := by
 intro n
 induction n with
 | zero => exact (fun _ _ h => by simp [ref08_Size] at h)
 | succ n ih =>
  have ref08_Size_ih := ih
  clear ih
  intro a0 r hF
  unfold ref08_Size at hF
  revert hF ref08_Size_ih
  generalize ref08_Size n = ref08_Size_rec
  intro ref08_Size_ih hF
  refine fn_of_body (n := 37) Tryz.func20 rfl rfl rfl fun w O => ?_
  refine go ?_
  refine rgp (bo 0) ?_
  iterate 9 refine go ?_
  obtain ⟨x34, hF, hK35⟩ := bs hF
  refine aw_for ((a0.fBody.length - 0 : Int).toNat + 1) (fun s1 => s1 = (sX 37 [(1, some (.lp 0 0)), pf 3 (.int .i64 x34)] [bf 0 48 (eGStmt a0)] 1)) ?_ ?_
  ·refine rnd_loop (α := Int × Int) (fun q => (sX 37 [(1, some (.lp 0 0)), pf 3 (.int .i64 q.1), pf 4 (.int .i64 q.2)] [bf 0 48 (eGStmt a0)] 1)) (fun k q => ref08_Size_L1 a0 ref08_Size_rec k q.1 q.2 = some x34) (1, 0) (impz [0]) hF (fun q h => by cases h) ?_
   clear hF
   rintro k ⟨x10, x11⟩ hF ih
   refine rnd_succ ?_
   iterate 5 refine go ?_
   refine rgp (op_len_vs (n := a0.fBody.length) rfl rfl (lenR eLGStmt_map) slc_38 rfl rfl) ?_
   iterate 2 refine go ?_
   refine cnd hF (fun hb23 hF => ?_) fun hb23 hF => ?_
   ·iterate 2 refine go ?_
    refine aw_seq ?_
    refine aw_block ?_
    iterate 5 refine go ?_
    obtain ⟨y28, h29, hF⟩ := bs hF
    refine rgp (ix (idxR eLGStmt_map h29) slc_38) ?_
    refine rgp (lw (eGStmt y28) agg_48) ?_
    obtain ⟨y30, h31, hF⟩ := bs hF
    refine rgp (cl 1 [.agg (eGStmt y28)] [.p (.int .i64 y30)] (ref08_Size_ih _ _ h31)) ?_
    iterate 2 refine go ?_
    refine reg_nil ?_
    refine piz (sX 37 [(1, some (.lp 0 0)), pf 3 (.int .i64 (w_i64 (x10 + y30))), pf 4 (.int .i64 x11)] [bf 0 48 (eGStmt a0)] 1) [0] ?_
    iterate 6 refine go ?_
    refine rnr ?_
    exact rnd_back (ih (w_i64 (x10 + y30), w_i64 (x11 + 1)) hF) (impz [0])
   refine aw_exit ?_
   iterate 2 refine post_then_exit ?_
   cases hF
   exact post_lp_break _ rfl (impz [0])
  rintro _ rfl
  have hF := hK35
  iterate 5 refine go ?_
  obtain ⟨x69, hF, hK70⟩ := bs hF
  refine aw_for ((a0.fElse.length - 0 : Int).toNat + 1) (fun s1 => s1 = (sX 37 [pf 3 (.int .i64 x69)] [] 0)) ?_ ?_
  ·refine rnd_loop (α := Int × Int) (fun q => (sX 37 [(1, some (.lp 0 0)), pf 3 (.int .i64 q.1), pf 5 (.int .i64 q.2)] [bf 0 48 (eGStmt a0)] 1)) (fun k q => ref08_Size_L2 a0 ref08_Size_rec k q.1 q.2 = some x69) (x34, 0) (impz [0]) hF (fun q h => by cases h) ?_
   clear hF
   rintro k ⟨x45, x46⟩ hF ih
   refine rnd_succ ?_
   iterate 5 refine go ?_
   refine rgp (op_len_vs (n := a0.fElse.length) rfl rfl (lenR eLGStmt_map) slc_38 rfl rfl) ?_
   iterate 2 refine go ?_
   refine cnd hF (fun hb58 hF => ?_) fun hb58 hF => ?_
   ·iterate 2 refine go ?_
    refine aw_seq ?_
    refine aw_block ?_
    iterate 5 refine go ?_
    obtain ⟨y63, h64, hF⟩ := bs hF
    refine rgp (ix (idxR eLGStmt_map h64) slc_38) ?_
    refine rgp (lw (eGStmt y63) agg_48) ?_
    obtain ⟨y65, h66, hF⟩ := bs hF
    refine rgp (cl 1 [.agg (eGStmt y63)] [.p (.int .i64 y65)] (ref08_Size_ih _ _ h66)) ?_
    iterate 2 refine go ?_
    refine reg_nil ?_
    refine piz (sX 37 [(1, some (.lp 0 0)), pf 3 (.int .i64 (w_i64 (x45 + y65))), pf 5 (.int .i64 x46)] [bf 0 48 (eGStmt a0)] 1) [0] ?_
    iterate 6 refine go ?_
    refine rnr ?_
    exact rnd_back (ih (w_i64 (x45 + y65), w_i64 (x46 + 1)) hF) (impz [0])
   refine aw_exit ?_
   iterate 2 refine post_then_exit ?_
   cases hF
   exact post_lp_break _ rfl (impz [])
  rintro _ rfl
  have hF := hK70
  iterate 6 refine go ?_
  cases hF
  exact prt
theorem ref08_Size_ok {n : Nat} {a0 : GStmt} {r : Int} (hF : ref08_Size n a0 = some r) : FZ 20 [.agg (eGStmt a0)] [.p (.int .i64 r)] := (ref08_Size_ring n) _ _ hF

theorem ref10_Heavy_ok {a0 : List GClass} {r : Bool} (hF : ref10_Heavy a0 = some r) : FZ 6 [.vs 7 (List.map eGClass a0)] [.p (.bool r)] := by
 unfold ref10_Heavy at hF
 refine fn_of_body (n := 106) Tryz.func6 rfl rfl rfl fun w O => ?_
 iterate 10 refine go ?_
 obtain ⟨lr767, hF, hK768⟩ := bs hF
 refine aw_for ((a0.length - 0 : Int).toNat + 1) (fun s1 => ∃ q, lr767 = .next q ∧ s1 = (sX 106 [pf 3 (.int .i64 q)] [] 0)) ?_ ?_
 ·refine rnd_loop (α := Int × Int) (fun q => (sX 106 [pf 0 (.vs 7 (List.map eGClass a0)), pf 3 (.int .i64 q.1), pf 4 (.int .i64 q.2)] [] 0)) (fun k q => ref10_Heavy_L1 a0 k q.1 q.2 = some lr767) (0, 0) (impz []) hF (fun q h => by cases h) ?_
  clear hF
  rintro k ⟨x254, x255⟩ hF ih
  refine rnd_succ ?_
  iterate 7 refine go ?_
  refine cnd hF (fun hb511 hF => ?_) fun hb511 hF => ?_
  ·iterate 2 refine go ?_
   refine aw_seq ?_
   refine aw_block ?_
   iterate 3 refine go ?_
   obtain ⟨y514, h515, hF⟩ := bs hF
   refine rgp (ix (idx_map eGClass h515) slc_22) ?_
   refine rgp (lw (eGClass y514) agg_32) ?_
   refine rgp (al 0 (eGClass zGClass) zer_32) ?_
   iterate 2 refine go ?_
   refine aw_seq ?_
   refine aw_seq ?_
   obtain ⟨x520, hF, hK522⟩ := bs hF
   refine ctx (sX 106 [pf 0 (.vs 7 (List.map eGClass a0)), pf 3 (.int .i64 x254), pf 4 (.int .i64 x255), (5, some (.lp 0 0)), pf 45 (.bool x520)] [bf 0 32 (eGClass y514)] 1) ?_ ?_
   ·iterate 5 refine go ?_
    rcases ie hF with ⟨hb516, hF⟩ | ⟨hb516, hF⟩
    ·refine rgo_t hb516 ?_
     iterate 3 refine rgo_t hb516 ?_
     refine rpt hb516 ?_
     refine go ?_
     iterate 4 refine rgo_t rfl ?_
     refine rpt rfl ?_
     refine go ?_
     iterate 4 refine rgo_t rfl ?_
     refine rpt rfl ?_
     refine go ?_
     iterate 4 refine rgo_t rfl ?_
     refine rpt rfl ?_
     cases hF
     exact rcz [0]
    iterate 4 refine gn hb516 ?_
    refine rpf hb516 ?_
    refine go ?_
    rcases ie hF with ⟨hb517, hF⟩ | ⟨hb517, hF⟩
    ·refine rgo_t hb517 ?_
     iterate 3 refine rgo_t hb517 ?_
     refine rpt hb517 ?_
     refine go ?_
     iterate 4 refine rgo_t rfl ?_
     refine rpt rfl ?_
     refine go ?_
     iterate 4 refine rgo_t rfl ?_
     refine rpt rfl ?_
     cases hF
     exact rcz [0]
    iterate 4 refine gn hb517 ?_
    refine rpf hb517 ?_
    refine go ?_
    rcases ie hF with ⟨hb518, hF⟩ | ⟨hb518, hF⟩
    ·refine rgo_t hb518 ?_
     iterate 3 refine rgo_t hb518 ?_
     refine rpt hb518 ?_
     refine go ?_
     iterate 4 refine rgo_t rfl ?_
     refine rpt rfl ?_
     cases hF
     exact rcz [0]
    iterate 4 refine gn hb518 ?_
    refine rpf hb518 ?_
    refine go ?_
    rcases ie hF with ⟨hb519, hF⟩ | ⟨hb519, hF⟩
    ·refine rgo_t hb519 ?_
     iterate 3 refine rgo_t hb519 ?_
     refine rpt hb519 ?_
     cases hF
     exact rcz [0]
    iterate 4 refine gn hb519 ?_
    refine rpf hb519 ?_
    cases hF
    exact rcz [0]
   have hF := hK522
   refine go ?_
   refine cnd hF (fun hb523 hF => ?_) fun hb523 hF => ?_
   ·iterate 8 refine go ?_
    refine post_lp_ret ?_
    cases hF
    have hF := elim_stop hK768
    refine go ?_
    cases hF
    exact prt
   iterate 5 refine go ?_
   obtain ⟨lr762, hF, hK763⟩ := bs hF
   refine aw_for ((y514.fMethods.length - 0 : Int).toNat + 1) (fun s1 => ∃ q, lr762 = .next q ∧ s1 = (sX 106 [pf 0 (.vs 7 (List.map eGClass a0)), pf 3 (.int .i64 q), pf 4 (.int .i64 x255)] [] 0)) ?_ ?_
   ·refine rnd_loop (α := Int × Int) (fun q => (sX 106 [pf 0 (.vs 7 (List.map eGClass a0)), pf 3 (.int .i64 q.1), pf 4 (.int .i64 x255), (5, some (.lp 0 0)), pf 6 (.int .i64 q.2)] [bf 0 32 (eGClass y514)] 1)) (fun k q => ref10_Heavy_L2 y514 k q.1 q.2 = some lr762) (x254, 0) (impz [0]) hF (fun q h => by cases h) ?_
    clear hF
    rintro k ⟨x601, x602⟩ hF ih
    refine rnd_succ ?_
    iterate 8 refine go ?_
    refine cnd hF (fun hb682 hF => ?_) fun hb682 hF => ?_
    ·iterate 2 refine go ?_
     refine aw_seq ?_
     refine aw_block ?_
     iterate 4 refine go ?_
     obtain ⟨y685, h686, hF⟩ := bs hF
     refine rgp (ix (idx_map eGMethod h686) slc_30) ?_
     refine rgp (lw (eGMethod y685) agg_40) ?_
     refine rgp (al 1 (eGMethod zGMethod) zer_40) ?_
     iterate 2 refine go ?_
     refine aw_seq ?_
     refine aw_seq ?_
     obtain ⟨x692, hF, hK694⟩ := bs hF
     refine ctx (sX 106 [pf 0 (.vs 7 (List.map eGClass a0)), pf 3 (.int .i64 x601), pf 4 (.int .i64 x255), (5, some (.lp 0 0)), pf 6 (.int .i64 x602), (7, some (.lp 1 0)), pf 78 (.bool x692)] [bf 0 32 (eGClass y514), bf 1 40 (eGMethod y685)] 2) ?_ ?_
     ·iterate 6 refine go ?_
      rcases ie hF with ⟨hb687, hF⟩ | ⟨hb687, hF⟩
      ·refine rgo_t hb687 ?_
       iterate 3 refine rgo_t hb687 ?_
       refine rpt hb687 ?_
       refine go ?_
       iterate 4 refine rgo_t rfl ?_
       refine rpt rfl ?_
       refine go ?_
       iterate 3 refine rgo_t rfl ?_
       refine rpt rfl ?_
       cases hF
       exact rcz [0, 1]
      iterate 4 refine gn hb687 ?_
      refine rpf hb687 ?_
      refine go ?_
      rcases ie hF with ⟨hb688, hF⟩ | ⟨hb688, hF⟩
      ·refine rgo_t hb688 ?_
       iterate 3 refine rgo_t hb688 ?_
       refine rpt hb688 ?_
       refine go ?_
       iterate 3 refine rgo_t rfl ?_
       refine rpt rfl ?_
       cases hF
       exact rcz [0, 1]
      iterate 2 refine gn hb688 ?_
      refine rgn hb688 (op_len_vs (n := y685.fBody.length) rfl rfl (lenR eLGStmt_map) slc_38 rfl rfl) ?_
      refine gn hb688 ?_
      refine rpf hb688 ?_
      refine go ?_
      rcases ie hF with ⟨hb689, hF⟩ | ⟨hb689, hF⟩
      ·refine rgo_t hb689 ?_
       iterate 2 refine rgo_t hb689 ?_
       refine rpt hb689 ?_
       cases hF
       exact rcz [0, 1]
      refine rgn hb689 (la (eGMethod y685) agg_40) ?_
      obtain ⟨y690, h691, hF⟩ := bs hF
      refine rgn hb689 (cl 2 [.agg (eGMethod y685)] [.p (.int .i64 y690)] (ref10_uniques_ok h691)) ?_
      refine gn hb689 ?_
      refine rpf hb689 ?_
      cases hF
      exact rcz [0, 1]
     have hF := hK694
     refine go ?_
     refine cnd hF (fun hb695 hF => ?_) fun hb695 hF => ?_
     ·iterate 8 refine go ?_
      refine post_lp_ret ?_
      cases hF
      have hF := elim_stop hK763
      iterate 3 refine go ?_
      refine post_lp_ret ?_
      cases hF
      have hF := elim_stop hK768
      refine go ?_
      cases hF
      exact prt
     iterate 5 refine go ?_
     obtain ⟨lr757, hF, hK758⟩ := bs hF
     refine aw_for ((y685.fBody.length - 0 : Int).toNat + 1) (fun s1 => ∃ q, lr757 = .next q ∧ s1 = (sX 106 [pf 0 (.vs 7 (List.map eGClass a0)), pf 3 (.int .i64 q), pf 4 (.int .i64 x255), (5, some (.lp 0 0)), pf 6 (.int .i64 x602)] [bf 0 32 (eGClass y514)] 1)) ?_ ?_
     ·refine rnd_loop (α := Int × Int) (fun q => (sX 106 [pf 0 (.vs 7 (List.map eGClass a0)), pf 3 (.int .i64 q.1), pf 4 (.int .i64 x255), (5, some (.lp 0 0)), pf 6 (.int .i64 x602), (7, some (.lp 1 0)), pf 8 (.int .i64 q.2)] [bf 0 32 (eGClass y514), bf 1 40 (eGMethod y685)] 2)) (fun k q => ref10_Heavy_L3 y685 k q.1 q.2 = some lr757) (x601, 0) (impz [0, 1]) hF (fun q h => by cases h) ?_
      clear hF
      rintro k ⟨x714, x715⟩ hF ih
      refine rnd_succ ?_
      iterate 5 refine go ?_
      refine rgp (op_len_vs (n := y685.fBody.length) rfl rfl (lenR eLGStmt_map) slc_38 rfl rfl) ?_
      iterate 2 refine go ?_
      refine cnd hF (fun hb736 hF => ?_) fun hb736 hF => ?_
      ·iterate 2 refine go ?_
       refine aw_seq ?_
       refine aw_block ?_
       refine aw_seq ?_
       refine aw_seq ?_
       obtain ⟨x742, hF, hK744⟩ := bs hF
       refine ctx (sX 106 [pf 0 (.vs 7 (List.map eGClass a0)), pf 3 (.int .i64 x714), pf 4 (.int .i64 x255), (5, some (.lp 0 0)), pf 6 (.int .i64 x602), (7, some (.lp 1 0)), pf 8 (.int .i64 x715), pf 95 (.bool x742)] [bf 0 32 (eGClass y514), bf 1 40 (eGMethod y685)] 2) ?_ ?_
       ·iterate 4 refine go ?_
        rcases ie hF with ⟨hb737, hF⟩ | ⟨hb737, hF⟩
        ·refine rgo_t hb737 ?_
         iterate 5 refine rgo_t hb737 ?_
         refine rpt hb737 ?_
         cases hF
         exact rcz [0, 1]
        iterate 3 refine gn hb737 ?_
        obtain ⟨y738, h739, hF⟩ := bs hF
        refine rgn hb737 (ix (idxR eLGStmt_map h739) slc_38) ?_
        refine rgn hb737 (lw (eGStmt y738) agg_48) ?_
        obtain ⟨y740, h741, hF⟩ := bs hF
        refine rgn hb737 (cl 2 [.agg (eGStmt y738), .int .i64 25] [.p (.bool y740)] (ref10_much_ok h741)) ?_
        refine rpf hb737 ?_
        cases hF
        exact rcz [0, 1]
       have hF := hK744
       refine go ?_
       refine cnd hF (fun hb745 hF => ?_) fun hb745 hF => ?_
       ·iterate 8 refine go ?_
        refine post_lp_ret ?_
        cases hF
        have hF := elim_stop hK758
        iterate 3 refine go ?_
        refine post_lp_ret ?_
        cases hF
        have hF := elim_stop hK763
        iterate 3 refine go ?_
        refine post_lp_ret ?_
        cases hF
        have hF := elim_stop hK768
        refine go ?_
        cases hF
        exact prt
       iterate 7 refine go ?_
       obtain ⟨y750, h751, hF⟩ := bs hF
       refine rgp (ix (idxR eLGStmt_map h751) slc_38) ?_
       refine rgp (lw (eGStmt y750) agg_48) ?_
       obtain ⟨y752, h753, hF⟩ := bs hF
       refine rgp (cl 2 [.agg (eGStmt y750)] [.p (.int .i64 y752)] (ref08_Size_ok h753)) ?_
       iterate 2 refine go ?_
       refine reg_nil ?_
       refine piz (sX 106 [pf 0 (.vs 7 (List.map eGClass a0)), pf 3 (.int .i64 (w_i64 (x714 + y752))), pf 4 (.int .i64 x255), (5, some (.lp 0 0)), pf 6 (.int .i64 x602), (7, some (.lp 1 0)), pf 8 (.int .i64 x715)] [bf 0 32 (eGClass y514), bf 1 40 (eGMethod y685)] 2) [0, 1] ?_
       iterate 6 refine go ?_
       refine rnr ?_
       exact rnd_back (ih (w_i64 (x714 + y752), w_i64 (x715 + 1)) hF) (impz [0, 1])
      refine aw_exit ?_
      iterate 2 refine post_then_exit ?_
      cases hF
      exact post_lp_break _ ⟨_, rfl, rfl⟩ (impz [0])
     rintro _ ⟨x756, rfl, rfl⟩
     have hF := elim_next hK758
     clear hK758
     iterate 6 refine go ?_
     refine rnr ?_
     exact rnd_back (ih (x756, w_i64 (x602 + 1)) hF) (impz [0])
    refine aw_exit ?_
    iterate 2 refine post_then_exit ?_
    cases hF
    exact post_lp_break _ ⟨_, rfl, rfl⟩ (impz [])
   rintro _ ⟨x761, rfl, rfl⟩
   have hF := elim_next hK763
   clear hK763
   iterate 6 refine go ?_
   refine rnr ?_
   exact rnd_back (ih (x761, w_i64 (x255 + 1)) hF) (impz [])
  refine aw_exit ?_
  iterate 2 refine post_then_exit ?_
  cases hF
  exact post_lp_break _ ⟨_, rfl, rfl⟩ (impz [])
 rintro _ ⟨x766, rfl, rfl⟩
 have hF := elim_next hK768
 clear hK768
 iterate 7 refine go ?_
 cases hF
 exact prt
theorem ref02_Blank_ok {a0 : Int} {r : Bool} (hF : ref02_Blank a0 = some r) : FZ 125 [.int .u8 a0] [.p (.bool r)] := by
 unfold ref02_Blank at hF
 refine fn_of_body (n := 17) Tryz.func125 rfl rfl rfl fun w O => ?_
 iterate 7 refine go ?_
 rcases ie hF with ⟨hb1, hF⟩ | ⟨hb1, hF⟩
 ·cases hF
 iterate 2 refine gn hb1 ?_
 refine rpf hb1 ?_
 refine go ?_
 rcases ie hF with ⟨hb2, hF⟩ | ⟨hb2, hF⟩
 ·cases hF
 iterate 2 refine gn hb2 ?_
 refine rpf hb2 ?_
 refine go ?_
 rcases ie hF with ⟨hb3, hF⟩ | ⟨hb3, hF⟩
 ·cases hF
 iterate 2 refine gn hb3 ?_
 refine rpf hb3 ?_
 iterate 3 refine go ?_
 cases hF
 exact prt
theorem ref03_skip_ok {a0 : List UInt8} {r : Int} (hF : ref03_skip a0 = some r) : FZ 79 [.str a0] [.p (.int .i64 r)] := by
 unfold ref03_skip at hF
 refine fn_of_body (n := 46) Tryz.func79 rfl rfl rfl fun w O => ?_
 iterate 6 refine go ?_
 refine aw_seq ?_
 obtain ⟨lr53, hF, hK54⟩ := bs hF
 refine aw_for (a0.length + 64) (fun s1 => ∃ q, lr53 = .next q ∧ s1 = (sX 46 [pf 3 (.int .i64 q)] [] 0)) ?_ ?_
 ·refine rnd_loop (α := Int) (fun q => (sX 46 [pf 0 (.str a0), pf 3 (.int .i64 q)] [] 0)) (fun k q => ref03_skip_L1 a0 k q = some lr53) 0 (impz []) hF (fun q h => by cases h) ?_
  clear hF
  rintro k x17 hF ih
  refine rnd_succ ?_
  iterate 4 refine go ?_
  refine rgp (op_len_str rfl rfl und_9 rfl rfl) ?_
  iterate 2 refine go ?_
  refine cnd hF (fun hb35 hF => ?_) fun hb35 hF => ?_
  ·iterate 2 refine go ?_
   refine aw_block ?_
   iterate 4 refine go ?_
   obtain ⟨y40, h41, hF⟩ := bs hF
   refine rgp (op_index_str (k := .i64) rfl rfl rfl h41 und_9 rfl rfl) ?_
   obtain ⟨y42, h43, hF⟩ := bs hF
   refine rgp (cl 0 [.int .u8 (y40.toNat : Int)] [.p (.bool y42)] (ref02_Blank_ok h43)) ?_
   refine go ?_
   refine cnd hF (fun hb44 hF => ?_) fun hb44 hF => ?_
   ·iterate 5 refine go ?_
    refine aw_exit ?_
    refine post_then_exit ?_
    refine post_block_exit ?_
    refine post_round ?_
    exact rnd_back (ih (w_i64 (x17 + 1)) hF) (impz [])
   iterate 2 refine go ?_
   refine aw_seq ?_
   refine aw_seq ?_
   obtain ⟨p49, hF, hK50⟩ := bs hF
   refine ctx (sX 46 [pf 3 (.int .i64 x17), pf 31 (.bool true)] [] 0) ?_ ?_
   ·iterate 4 refine go ?_
    refine rgp (op_len_str rfl rfl und_9 rfl rfl) ?_
    iterate 2 refine go ?_
    rcases ie hF with ⟨hb45, hF⟩ | ⟨hb45, hF⟩
    ·refine rgo_t hb45 ?_
     iterate 3 refine rgo_t hb45 ?_
     refine rpt hb45 ?_
     refine go ?_
     iterate 5 refine rgo_t rfl ?_
     refine rpt rfl ?_
     cases hF
     exact rcz []
    iterate 2 (refine rgn hb45 (op_move rfl rfl rfl rfl) ?_)
    obtain ⟨y46, h47, hF⟩ := bs hF
    refine rgn hb45 (op_index_str (k := .i64) rfl rfl rfl h47 und_9 rfl rfl) ?_
    refine gn hb45 ?_
    refine rpf hb45 ?_
    refine go ?_
    rcases ie hF with ⟨hb48, hF⟩ | ⟨hb48, hF⟩
    ·refine rgo_t hb48 ?_
     iterate 4 refine rgo_t hb48 ?_
     refine rpt hb48 ?_
     cases hF
     exact rcz []
    cases hF
   have hF := hK50
   refine go ?_
   refine aw_cond_t rfl rfl ?_
   iterate 8 refine go ?_
   refine post_lp_ret ?_
   cases hF
   have hF := elim_stop hK54
   refine go ?_
   cases hF
   exact prt
  refine aw_exit ?_
  iterate 2 refine post_then_exit ?_
  cases hF
  exact post_lp_break _ ⟨_, rfl, rfl⟩ (impz [])
 rintro _ ⟨x52, rfl, rfl⟩
 have hF := elim_next hK54
 clear hK54
 iterate 6 refine go ?_
 cases hF
 exact prt
theorem ref02_Letter_ok {a0 : Int} {r : Bool} (hF : ref02_Letter a0 = some r) : FZ 126 [.int .u8 a0] [.p (.bool r)] := by
 unfold ref02_Letter at hF
 refine fn_of_body (n := 17) Tryz.func126 rfl rfl rfl fun w O => ?_
 iterate 7 refine go ?_
 rcases ie hF with ⟨hb1, hF⟩ | ⟨hb1, hF⟩
 ·iterate 2 refine gn hb1 ?_
  refine rpt hb1 ?_
  refine go ?_
  rcases ie hF with ⟨hb2, hF⟩ | ⟨hb2, hF⟩
  ·refine rgo_t hb2 ?_
   iterate 2 refine rgo_t hb2 ?_
   iterate 2 refine go ?_
   refine rgo_t hb2 ?_
   refine rpt hb2 ?_
   iterate 3 refine go ?_
   cases hF
   exact prt
  iterate 3 refine gn hb2 ?_
  rcases ie hF with ⟨hb3, hF⟩ | ⟨hb3, hF⟩
  ·iterate 2 refine gn hb3 ?_
   refine rgn hb2 (op_pick_t rfl rfl hb3 rfl rfl rfl) ?_
   refine rpf hb2 ?_
   iterate 3 refine go ?_
   cases hF
   exact prt
  iterate 2 refine rgo_f hb3 ?_
  refine rgn hb2 (op_pick_f rfl rfl hb3 rfl rfl rfl) ?_
  refine rpf hb2 ?_
  iterate 3 refine go ?_
  cases hF
  exact prt
 iterate 2 refine rgo_f hb1 ?_
 refine rpf hb1 ?_
 refine go ?_
 iterate 3 refine gn rfl ?_
 rcases ie hF with ⟨hb4, hF⟩ | ⟨hb4, hF⟩
 ·iterate 2 refine gn hb4 ?_
  refine rgn rfl (op_pick_t rfl rfl hb4 rfl rfl rfl) ?_
  refine rpf rfl ?_
  iterate 3 refine go ?_
  cases hF
  exact prt
 iterate 2 refine rgo_f hb4 ?_
 refine rgn rfl (op_pick_f rfl rfl hb4 rfl rfl rfl) ?_
 refine rpf rfl ?_
 iterate 3 refine go ?_
 cases hF
 exact prt
theorem ref02_Digit_ok {a0 : Int} {r : Bool} (hF : ref02_Digit a0 = some r) : FZ 127 [.int .u8 a0] [.p (.bool r)] := by
 unfold ref02_Digit at hF
 refine fn_of_body (n := 9) Tryz.func127 rfl rfl rfl fun w O => ?_
 iterate 7 refine go ?_
 rcases ie hF with ⟨hb1, hF⟩ | ⟨hb1, hF⟩
 ·iterate 2 refine gn hb1 ?_
  refine rpt hb1 ?_
  iterate 3 refine go ?_
  cases hF
  exact prt
 iterate 2 refine rgo_f hb1 ?_
 refine rpf hb1 ?_
 iterate 3 refine go ?_
 cases hF
 exact prt
theorem ref02_Words_ok  {r : (List (List UInt8))} (hF : ref02_Words = some r) : FZ 160 [] [.p (.vs 1 (List.map eS r))] := by
 unfold ref02_Words at hF
 refine fn_of_body (n := 2) Tryz.func160 rfl rfl rfl fun w O => ?_
 iterate 4 refine go ?_
 refine rgp (op_lit (rows := List.map eS ([[99, 108, 97, 115, 115], [101, 120, 116, 101, 110, 100, 115], [114, 101, 112], [112, 101, 101, 114], [119, 111, 114, 108, 100], [97, 110, 121], [117, 110, 105, 113, 117, 101], [112, 117, 114, 101], [118, 111, 105, 100], [105, 110, 116], [105, 102], [101, 108, 115, 101], [119, 104, 105, 108, 101], [114, 101, 116, 117, 114, 110], [110, 101, 119], [109, 111, 118, 101], [100, 101, 108, 101, 116, 101], [116, 104, 105, 115], [110, 117, 108, 108], [105, 110, 112, 117, 116], [110, 105, 108], [115, 97, 109, 101], [99, 97, 115, 116]] : List (List UInt8))) (zs := [.str []]) rfl rfl slc_27 zer_9 (by exact ⟨rfl, trivial⟩) rfl rfl rfl rfl rfl rfl rfl rfl) ?_
 iterate 3 refine go ?_
 cases hF
 exact prt
theorem ref02_Find_ok {a0 : List UInt8} {r : Int} (hF : ref02_Find a0 = some r) : FZ 128 [.str a0] [.p (.int .i64 r)] := by
 unfold ref02_Find at hF
 refine fn_of_body (n := 20) Tryz.func128 rfl rfl rfl fun w O => ?_
 iterate 4 refine go ?_
 obtain ⟨y3, h4, hF⟩ := bs hF
 refine rgp (cl 0 [] [.p (.vs 1 (List.map eS y3))] (ref02_Words_ok h4)) ?_
 iterate 6 refine go ?_
 obtain ⟨lr26, hF, hK27⟩ := bs hF
 refine aw_for ((y3.length - 0 : Int).toNat + 1) (fun s1 => ∃ q, lr26 = .next q ∧ s1 = (sX 20 [] [] 0)) ?_ ?_
 ·refine rnd_loop (α := Int) (fun q => (sX 20 [pf 0 (.str a0), pf 3 (.vs 1 (List.map eS y3)), pf 4 (.int .i64 q)] [] 0)) (fun k q => ref02_Find_L1 a0 y3 k q = some lr26) 0 (impz []) hF (fun q h => by cases h) ?_
  clear hF
  rintro k x11 hF ih
  refine rnd_succ ?_
  iterate 7 refine go ?_
  refine cnd hF (fun hb19 hF => ?_) fun hb19 hF => ?_
  ·iterate 2 refine go ?_
   refine aw_seq ?_
   refine aw_block ?_
   iterate 3 refine go ?_
   obtain ⟨y22, h23, hF⟩ := bs hF
   refine rgp (ix (idx_map eS h23) slc_27) ?_
   iterate 2 refine go ?_
   refine rgp (op_str rfl rfl rfl rfl rfl rfl) ?_
   refine go ?_
   refine cnd hF (fun hb24 hF => ?_) fun hb24 hF => ?_
   ·iterate 9 refine go ?_
    refine post_lp_ret ?_
    cases hF
    have hF := elim_stop hK27
    refine go ?_
    cases hF
    exact prt
   iterate 7 refine go ?_
   refine rnr ?_
   exact rnd_back (ih (w_i64 (x11 + 1)) hF) (impz [])
  refine aw_exit ?_
  iterate 2 refine post_then_exit ?_
  cases hF
  exact post_lp_break _ ⟨_, rfl, rfl⟩ (impz [])
 rintro _ ⟨⟨⟩, rfl, rfl⟩
 have hF := elim_next hK27
 clear hK27
 iterate 5 refine go ?_
 cases hF
 exact prt
theorem ref03_sign_ok {a0 : List UInt8} {r : (List UInt8)} (hF : ref03_sign a0 = some r) : FZ 129 [.str a0] [.p (.str r)] := by
 unfold ref03_sign at hF
 refine fn_of_body (n := 38) Tryz.func129 rfl rfl rfl fun w O => ?_
 iterate 3 refine go ?_
 refine aw_seq ?_
 refine aw_seq ?_
 obtain ⟨x7, hF, hK9⟩ := bs hF
 refine ctx (sX 38 [pf 0 (.str a0), pf 17 (.bool x7)] [] 0) ?_ ?_
 ·iterate 2 refine go ?_
  refine rgp (op_len_str rfl rfl und_9 rfl rfl) ?_
  iterate 2 refine go ?_
  rcases ie hF with ⟨hb1, hF⟩ | ⟨hb1, hF⟩
  ·refine gn hb1 ?_
   obtain ⟨y2, h3, hF⟩ := bs hF
   refine rgn hb1 (op_slice_str (nl := none) (nh := (some 2)) rfl rfl rfl rfl und_9 h3 rfl rfl) ?_
   refine rgn hb1 (op_str rfl rfl rfl rfl rfl rfl) ?_
   refine gn hb1 ?_
   rcases ie hF with ⟨hb4, hF⟩ | ⟨hb4, hF⟩
   ·cases hF
   refine gn hb4 ?_
   obtain ⟨y5, h6, hF⟩ := bs hF
   refine rgn hb4 (op_slice_str (nl := none) (nh := (some 2)) rfl rfl rfl rfl und_9 h6 rfl rfl) ?_
   refine rgn hb4 (op_str rfl rfl rfl rfl rfl rfl) ?_
   refine rgn hb1 (op_pick_f rfl rfl hb4 rfl rfl rfl) ?_
   refine rpt hb1 ?_
   cases hF
   exact rcz []
  iterate 4 refine rgo_f hb1 ?_
  iterate 3 refine go ?_
  refine rgo_f hb1 ?_
  refine rpf hb1 ?_
  cases hF
  exact rcz []
 have hF := hK9
 refine go ?_
 refine cnd hF (fun hb10 hF => ?_) fun hb10 hF => ?_
 ·cases hF
 iterate 9 refine go ?_
 obtain ⟨lr59, hF, hK60⟩ := bs hF
 refine aw_for (a0.length + 64) (fun s1 => ∃ q, lr59 = .next q ∧ s1 = (sX 38 [] [] 0)) ?_ ?_
 ·refine rnd_loop (α := Int) (fun q => (sX 38 [pf 0 (.str a0), pf 3 (.str [123, 125, 40, 41, 60, 62, 44, 59, 46, 61, 43, 45, 42, 33]), pf 4 (.int .i64 q)] [] 0)) (fun k q => ref03_sign_L1 a0 k q = some lr59) 0 (impz []) hF (fun q h => by cases h) ?_
  clear hF
  rintro k x26 hF ih
  refine rnd_succ ?_
  refine aw_seq ?_
  refine aw_seq ?_
  obtain ⟨p44, hF, hK45⟩ := bs hF
  refine ctx (sX 38 [pf 0 (.str a0), pf 3 (.str [123, 125, 40, 41, 60, 62, 44, 59, 46, 61, 43, 45, 42, 33]), pf 4 (.int .i64 x26), pf 27 (.bool (!(a0 == [])))] [] 0) ?_ ?_
  ·iterate 3 refine go ?_
   refine rgp (op_len_str rfl rfl und_9 rfl rfl) ?_
   iterate 2 refine go ?_
   rcases ie hF with ⟨hb43, hF⟩ | ⟨hb43, hF⟩
   ·refine gn hb43 ?_
    refine rgn hb43 (op_str rfl rfl rfl rfl rfl rfl) ?_
    refine rpt hb43 ?_
    cases hF
    exact rcz []
   cases hF
  have hF := hK45
  refine go ?_
  refine cnd hF (fun hb46 hF => ?_) fun hb46 hF => ?_
  ·iterate 2 refine go ?_
   refine aw_seq ?_
   refine aw_block ?_
   refine aw_seq ?_
   refine dr_start ⟨_, _, _⟩ rfl ?_
   iterate 2 refine dgo ?_
   obtain ⟨y51, h52, hF⟩ := bs hF
   refine dr_cons { need := [(30, .pv (.str [123, 125, 40, 41, 60, 62, 44, 59, 46, 61, 43, 45, 42, 33])), (31, .pv (.int .i64 x26))], dst := some 32, val := some (.pv (.int .u8 (y51.toNat : Int))) } (fun m h => step_on (guard_no rfl) (op_index_str (k := .i64) rfl h.1.1 h.1.2.1 h52 und_9 rfl rfl) rfl) ⟨⟨rfl, rfl, trivial⟩, trivial, trivial⟩ ?_
   refine dgo ?_
   obtain ⟨y53, h54, hF⟩ := bs hF
   refine dr_cons { need := [(33, .pv (.str a0))], dst := some 34, val := some (.pv (.int .u8 (y53.toNat : Int))) } (fun m h => step_on (guard_no rfl) (op_index_str (k := .i64) rfl h.1.1 rfl h54 und_9 rfl rfl) rfl) ⟨⟨rfl, trivial⟩, trivial, trivial⟩ ?_
   refine dr_cons { need := [(32, .pv (.int .u8 (y51.toNat : Int))), (34, .pv (.int .u8 (y53.toNat : Int)))], dst := some 35, val := some (.pv (.bool ((y51.toNat : Int) == (y53.toNat : Int)))) } (fun m h => step_on (guard_no rfl) (op_int (k := .u8) (m := (y51.toNat : Int)) (n := (y53.toNat : Int)) rfl h.1.1 h.1.2.1 rfl rfl rfl) rfl) ⟨⟨rfl, rfl, trivial⟩, trivial, trivial⟩ ?_
   refine dr_nil mixed rfl (by kernel_rfl) ?_
   refine piz (sX 38 [pf 0 (.str a0), pf 3 (.str [123, 125, 40, 41, 60, 62, 44, 59, 46, 61, 43, 45, 42, 33]), pf 4 (.int .i64 x26), pf 35 (.bool ((y51.toNat : Int) == (y53.toNat : Int)))] [] 0) [] ?_
   refine go ?_
   refine cnd hF (fun hb55 hF => ?_) fun hb55 hF => ?_
   ·iterate 2 refine go ?_
    obtain ⟨y56, h57, hF⟩ := bs hF
    refine rgp (op_slice_str (nl := none) (nh := (some 1)) rfl rfl rfl rfl und_9 h57 rfl rfl) ?_
    iterate 6 refine go ?_
    refine post_lp_ret ?_
    cases hF
    have hF := elim_stop hK60
    refine go ?_
    cases hF
    exact prt
   iterate 7 refine go ?_
   refine rnr ?_
   exact rnd_back (ih (w_i64 (x26 + 1)) hF) (impz [])
  refine aw_exit ?_
  iterate 2 refine post_then_exit ?_
  cases hF
  exact post_lp_break _ ⟨_, rfl, rfl⟩ (impz [])
 rintro _ ⟨⟨⟩, rfl, rfl⟩
 have hF := elim_next hK60
 clear hK60
 iterate 5 refine go ?_
 cases hF
 exact prt
theorem ref03_one_ok {a0 : List UInt8} {r : GToken} (hF : ref03_one a0 = some r) : FZ 80 [.str a0] [.p (.agg (eGToken r))] := by
 unfold ref03_one at hF
 refine fn_of_body (n := 64) Tryz.func80 rfl rfl rfl fun w O => ?_
 refine go ?_
 refine rgp (al 0 (eGToken zGToken) zer_105) ?_
 iterate 7 refine go ?_
 obtain ⟨y5, h6, hF⟩ := bs hF
 refine rgp (op_index_str (k := .i64) rfl rfl rfl h6 und_9 rfl rfl) ?_
 obtain ⟨y7, h8, hF⟩ := bs hF
 refine rgp (cl 1 [.int .u8 (y5.toNat : Int)] [.p (.bool y7)] (ref02_Letter_ok h8)) ?_
 refine go ?_
 refine cnd hF (fun hb9 hF => ?_) fun hb9 hF => ?_
 ·refine aw_seq ?_
  obtain ⟨x55, hF, hK56⟩ := bs hF
  refine aw_for (a0.length + 64) (fun s1 => s1 = (sX 64 [pf 0 (.str a0), (2, some (.lp 0 0)), pf 3 (.int .i64 x55)] [bf 0 105 (eGToken zGToken)] 1)) ?_ ?_
  ·refine rnd_loop (α := Int) (fun q => (sX 64 [pf 0 (.str a0), (2, some (.lp 0 0)), pf 3 (.int .i64 q)] [bf 0 105 (eGToken zGToken)] 1)) (fun k q => ref03_one_L1 a0 k q = some x55) 0 (impz [0]) hF (fun q h => by cases h) ?_
   clear hF
   rintro k x24 hF ih
   refine rnd_succ ?_
   refine aw_seq ?_
   refine aw_seq ?_
   obtain ⟨x50, hF, hK52⟩ := bs hF
   refine ctx (sX 64 [pf 0 (.str a0), (2, some (.lp 0 0)), pf 3 (.int .i64 x24), pf 22 (.bool x50)] [bf 0 105 (eGToken zGToken)] 1) ?_ ?_
   ·iterate 3 refine go ?_
    refine rgp (op_len_str rfl rfl und_9 rfl rfl) ?_
    iterate 2 refine go ?_
    rcases ie hF with ⟨hb40, hF⟩ | ⟨hb40, hF⟩
    ·iterate 2 refine gn hb40 ?_
     obtain ⟨y41, h42, hF⟩ := bs hF
     refine rgn hb40 (op_index_str (k := .i64) rfl rfl rfl h42 und_9 rfl rfl) ?_
     obtain ⟨y43, h44, hF⟩ := bs hF
     refine rgn hb40 (cl 1 [.int .u8 (y41.toNat : Int)] [.p (.bool y43)] (ref02_Letter_ok h44)) ?_
     refine gn hb40 ?_
     rcases ie hF with ⟨hb45, hF⟩ | ⟨hb45, hF⟩
     ·refine rgo_t hb45 ?_
      iterate 3 refine rgo_t hb45 ?_
      refine rgn hb40 (op_pick_t rfl rfl hb45 rfl rfl rfl) ?_
      refine rpt hb40 ?_
      cases hF
      exact rcz [0]
     iterate 2 (refine rgn hb45 (op_move rfl rfl rfl rfl) ?_)
     obtain ⟨y46, h47, hF⟩ := bs hF
     refine rgn hb45 (op_index_str (k := .i64) rfl rfl rfl h47 und_9 rfl rfl) ?_
     obtain ⟨y48, h49, hF⟩ := bs hF
     refine rgn hb45 (cl 1 [.int .u8 (y46.toNat : Int)] [.p (.bool y48)] (ref02_Digit_ok h49)) ?_
     refine rgn hb40 (op_pick_f rfl rfl hb45 rfl rfl rfl) ?_
     refine rpt hb40 ?_
     cases hF
     exact rcz [0]
    cases hF
   have hF := hK52
   refine go ?_
   refine cnd hF (fun hb53 hF => ?_) fun hb53 hF => ?_
   ·iterate 2 refine go ?_
    refine aw_block ?_
    iterate 4 refine go ?_
    refine reg_nil ?_
    refine piz (sX 64 [pf 0 (.str a0), (2, some (.lp 0 0)), pf 3 (.int .i64 (w_i64 (x24 + 1)))] [bf 0 105 (eGToken zGToken)] 1) [0] ?_
    refine go ?_
    refine post_round ?_
    exact rnd_back (ih (w_i64 (x24 + 1)) hF) (impz [0])
   refine aw_exit ?_
   iterate 2 refine post_then_exit ?_
   cases hF
   exact post_lp_break _ rfl (impz [0])
  rintro _ rfl
  have hF := hK56
  iterate 5 refine go ?_
  obtain ⟨y61, h62, hF⟩ := bs hF
  refine rgp (op_slice_str (nl := none) (nh := (some x55)) rfl rfl rfl rfl und_9 h62 rfl rfl) ?_
  obtain ⟨y63, h64, hF⟩ := bs hF
  refine rgp (cl 1 [.str y61] [.p (.int .i64 y63)] (ref02_Find_ok h64)) ?_
  iterate 2 refine go ?_
  refine cnd hF (fun hb65 hF => ?_) fun hb65 hF => ?_
  ·iterate 3 refine go ?_
   obtain ⟨y66, h67, hF⟩ := bs hF
   refine rgp (op_slice_str (nl := none) (nh := (some x55)) rfl rfl rfl rfl und_9 h67 rfl rfl) ?_
   refine rgp (bd ((eGToken zGToken)) (eGToken ({ fKind := 3, fText := y66, fAt := 0 } : GToken)) zer_105 plc_105) ?_
   iterate 5 refine go ?_
   cases hF
   exact post_ret rfl rfl (.cons _ _ _ _ _ (.agg _ _ _ _ _ 3 _ _ rfl rfl agg_105 rfl rfl rfl) (.p _) .nil) (.inl rfl)
  iterate 5 refine go ?_
  obtain ⟨y68, h69, hF⟩ := bs hF
  refine rgp (op_slice_str (nl := none) (nh := (some x55)) rfl rfl rfl rfl und_9 h69 rfl rfl) ?_
  refine rgp (bd ((eGToken zGToken)) (eGToken ({ fKind := 1, fText := y68, fAt := 0 } : GToken)) zer_105 plc_105) ?_
  iterate 4 refine go ?_
  cases hF
  exact post_ret rfl rfl (.cons _ _ _ _ _ (.agg _ _ _ _ _ 3 _ _ rfl rfl agg_105 rfl rfl rfl) (.p _) .nil) (.inl rfl)
 iterate 5 refine go ?_
 obtain ⟨y74, h75, hF⟩ := bs hF
 refine rgp (op_index_str (k := .i64) rfl rfl rfl h75 und_9 rfl rfl) ?_
 obtain ⟨y76, h77, hF⟩ := bs hF
 refine rgp (cl 1 [.int .u8 (y74.toNat : Int)] [.p (.bool y76)] (ref02_Digit_ok h77)) ?_
 refine go ?_
 refine cnd hF (fun hb78 hF => ?_) fun hb78 hF => ?_
 ·refine aw_seq ?_
  obtain ⟨x109, hF, hK110⟩ := bs hF
  refine aw_for (a0.length + 64) (fun s1 => s1 = (sX 64 [pf 0 (.str a0), (2, some (.lp 0 0)), pf 3 (.int .i64 x109)] [bf 0 105 (eGToken zGToken)] 1)) ?_ ?_
  ·refine rnd_loop (α := Int) (fun q => (sX 64 [pf 0 (.str a0), (2, some (.lp 0 0)), pf 3 (.int .i64 q)] [bf 0 105 (eGToken zGToken)] 1)) (fun k q => ref03_one_L2 a0 k q = some x109) 0 (impz [0]) hF (fun q h => by cases h) ?_
   clear hF
   rintro k x88 hF ih
   refine rnd_succ ?_
   refine aw_seq ?_
   refine aw_seq ?_
   obtain ⟨x104, hF, hK106⟩ := bs hF
   refine ctx (sX 64 [pf 0 (.str a0), (2, some (.lp 0 0)), pf 3 (.int .i64 x88), pf 50 (.bool x104)] [bf 0 105 (eGToken zGToken)] 1) ?_ ?_
   ·iterate 3 refine go ?_
    refine rgp (op_len_str rfl rfl und_9 rfl rfl) ?_
    iterate 2 refine go ?_
    rcases ie hF with ⟨hb99, hF⟩ | ⟨hb99, hF⟩
    ·iterate 2 refine gn hb99 ?_
     obtain ⟨y100, h101, hF⟩ := bs hF
     refine rgn hb99 (op_index_str (k := .i64) rfl rfl rfl h101 und_9 rfl rfl) ?_
     obtain ⟨y102, h103, hF⟩ := bs hF
     refine rgn hb99 (cl 1 [.int .u8 (y100.toNat : Int)] [.p (.bool y102)] (ref02_Digit_ok h103)) ?_
     refine rpt hb99 ?_
     cases hF
     exact rcz [0]
    cases hF
   have hF := hK106
   refine go ?_
   refine cnd hF (fun hb107 hF => ?_) fun hb107 hF => ?_
   ·iterate 2 refine go ?_
    refine aw_block ?_
    iterate 4 refine go ?_
    refine reg_nil ?_
    refine piz (sX 64 [pf 0 (.str a0), (2, some (.lp 0 0)), pf 3 (.int .i64 (w_i64 (x88 + 1)))] [bf 0 105 (eGToken zGToken)] 1) [0] ?_
    refine go ?_
    refine post_round ?_
    exact rnd_back (ih (w_i64 (x88 + 1)) hF) (impz [0])
   refine aw_exit ?_
   iterate 2 refine post_then_exit ?_
   cases hF
   exact post_lp_break _ rfl (impz [0])
  rintro _ rfl
  have hF := hK110
  iterate 4 refine go ?_
  obtain ⟨y111, h112, hF⟩ := bs hF
  refine rgp (op_slice_str (nl := none) (nh := (some x109)) rfl rfl rfl rfl und_9 h112 rfl rfl) ?_
  refine rgp (bd ((eGToken zGToken)) (eGToken ({ fKind := 2, fText := y111, fAt := 0 } : GToken)) zer_105 plc_105) ?_
  iterate 4 refine go ?_
  cases hF
  exact post_ret rfl rfl (.cons _ _ _ _ _ (.agg _ _ _ _ _ 3 _ _ rfl rfl agg_105 rfl rfl rfl) (.p _) .nil) (.inl rfl)
 iterate 5 refine go ?_
 obtain ⟨y115, h116, hF⟩ := bs hF
 refine rgp (cl 1 [.str a0] [.p (.str y115)] (ref03_sign_ok h116)) ?_
 refine rgp (op_str rfl rfl rfl rfl rfl rfl) ?_
 refine go ?_
 refine cnd hF (fun hb117 hF => ?_) fun hb117 hF => ?_
 ·iterate 2 refine go ?_
  obtain ⟨y118, h119, hF⟩ := bs hF
  refine rgp (cl 1 [.str a0] [.p (.str y118)] (ref03_sign_ok h119)) ?_
  refine rgp (bd ((eGToken zGToken)) (eGToken ({ fKind := 4, fText := y118, fAt := 0 } : GToken)) zer_105 plc_105) ?_
  iterate 4 refine go ?_
  cases hF
  exact post_ret rfl rfl (.cons _ _ _ _ _ (.agg _ _ _ _ _ 3 _ _ rfl rfl agg_105 rfl rfl rfl) (.p _) .nil) (.inl rfl)
 cases hF
theorem ref02_Number_ok {a0 : List UInt8} {r : Int × Bool} (hF : ref02_Number a0 = some r) : FZ 81 [.str a0] [.p (.int .i64 r.1), .p (.bool r.2)] := by
 unfold ref02_Number at hF
 refine fn_of_body (n := 44) Tryz.func81 rfl rfl rfl fun w O => ?_
 iterate 4 refine go ?_
 refine aw_seq ?_
 refine aw_seq ?_
 obtain ⟨p6, hF, hK7⟩ := bs hF
 refine ctx (sX 44 [pf 0 (.str a0), pf 23 (.bool false)] [] 0) ?_ ?_
 ·iterate 2 refine go ?_
  refine rgp (op_len_str rfl rfl und_9 rfl rfl) ?_
  iterate 2 refine go ?_
  rcases ie hF with ⟨hb1, hF⟩ | ⟨hb1, hF⟩
  ·cases hF
  refine gn hb1 ?_
  refine rgn hb1 (op_len_str rfl rfl und_9 rfl rfl) ?_
  refine gn hb1 ?_
  refine rpf hb1 ?_
  refine go ?_
  rcases ie hF with ⟨hb2, hF⟩ | ⟨hb2, hF⟩
  ·cases hF
  refine gn hb2 ?_
  obtain ⟨y3, h4, hF⟩ := bs hF
  refine rgn hb2 (op_index_str (k := .i64) rfl rfl rfl h4 und_9 rfl rfl) ?_
  iterate 2 refine gn hb2 ?_
  rcases ie hF with ⟨hb5, hF⟩ | ⟨hb5, hF⟩
  ·cases hF
  iterate 3 refine rgo_f hb5 ?_
  refine rgn hb2 (op_pick_f rfl rfl hb5 rfl rfl rfl) ?_
  refine rpf hb2 ?_
  cases hF
  exact rcz []
 have hF := hK7
 refine go ?_
 refine aw_cond_f rfl rfl ?_
 iterate 9 refine go ?_
 obtain ⟨lr57, hF, hK58⟩ := bs hF
 refine aw_for ((a0.length - 0 : Int).toNat + 1) (fun s1 => ∃ q, lr57 = .next q ∧ s1 = (sX 44 [pf 4 (.int .i64 q)] [] 0)) ?_ ?_
 ·refine rnd_loop (α := Int × Int) (fun q => (sX 44 [pf 0 (.str a0), pf 4 (.int .i64 q.1), pf 5 (.int .i64 q.2)] [] 0)) (fun k q => ref02_Number_L1 a0 k q.1 q.2 = some lr57) (0, 0) (impz []) hF (fun q h => by cases h) ?_
  clear hF
  rintro k ⟨x22, x23⟩ hF ih
  refine rnd_succ ?_
  iterate 4 refine go ?_
  refine rgp (op_len_str rfl rfl und_9 rfl rfl) ?_
  iterate 2 refine go ?_
  refine cnd hF (fun hb40 hF => ?_) fun hb40 hF => ?_
  ·iterate 2 refine go ?_
   refine aw_seq ?_
   refine aw_block ?_
   iterate 4 refine go ?_
   obtain ⟨y45, h46, hF⟩ := bs hF
   refine rgp (op_index_str (k := .i64) rfl rfl rfl h46 und_9 rfl rfl) ?_
   obtain ⟨y47, h48, hF⟩ := bs hF
   refine rgp (cl 0 [.int .u8 (y45.toNat : Int)] [.p (.bool y47)] (ref02_Digit_ok h48)) ?_
   iterate 2 refine go ?_
   refine cnd hF (fun hb49 hF => ?_) fun hb49 hF => ?_
   ·iterate 9 refine go ?_
    refine post_lp_ret ?_
    cases hF
    have hF := elim_stop hK58
    refine go ?_
    cases hF
    exact post_ret rfl rfl (.cons _ _ _ _ _ (.tmp _ _ rfl) (.p _) (.cons _ _ _ _ _ (.tmp _ _ rfl) (.p _) .nil)) (.inl rfl)
   iterate 7 refine go ?_
   obtain ⟨y52, h53, hF⟩ := bs hF
   refine rgp (op_index_str (k := .i64) rfl rfl rfl h53 und_9 rfl rfl) ?_
   refine go ?_
   refine rgp (op_convInt rfl rfl und_5 und_3 rfl rfl) ?_
   iterate 2 refine go ?_
   refine reg_nil ?_
   refine piz (sX 44 [pf 0 (.str a0), pf 4 (.int .i64 (w_i64 ((w_i64 (10 * x22)) + (w_i64 (w_u8 ((y52.toNat : Int) - 48)))))), pf 5 (.int .i64 x23)] [] 0) [] ?_
   iterate 6 refine go ?_
   refine rnr ?_
   exact rnd_back (ih (w_i64 ((w_i64 (10 * x22)) + (w_i64 (w_u8 ((y52.toNat : Int) - 48)))), w_i64 (x23 + 1)) hF) (impz [])
  refine aw_exit ?_
  iterate 2 refine post_then_exit ?_
  cases hF
  exact post_lp_break _ ⟨_, rfl, rfl⟩ (impz [])
 rintro _ ⟨x56, rfl, rfl⟩
 have hF := elim_next hK58
 clear hK58
 iterate 7 refine go ?_
 cases hF
 exact post_ret rfl rfl (.cons _ _ _ _ _ (.tmp _ _ rfl) (.p _) (.cons _ _ _ _ _ (.tmp _ _ rfl) (.p _) .nil)) (.inl rfl)
theorem ref03_Of_ok {a0 : List UInt8} {r : (List GToken) × GFault} (hF : ref03_Of a0 = some r) : FZ 41 [.str a0] [.own 105 3 (List.map eGToken r.1), .p (.agg (eGFault r.2))] := by
 unfold ref03_Of at hF
 refine fn_of_body (n := 78) Tryz.func41 rfl rfl rfl fun w O => ?_
 iterate 2 refine go ?_
 refine rgp (al 0 (eGFault zGFault) zer_55) ?_
 iterate 4 refine go ?_
 refine rgp (op_len_str rfl rfl und_9 rfl rfl) ?_
 iterate 2 refine go ?_
 refine cnd hF (fun hb1 hF => ?_) fun hb1 hF => ?_
 ·cases hF
 iterate 4 refine go ?_
 refine reg_imp (imp_nil_own 4 105 3 1 rfl rfl) ?_
 iterate 3 refine go ?_
 obtain ⟨y4, h5, hF⟩ := bs hF
 refine rgp (cl 2 [.str a0] [.p (.int .i64 y4)] (ref03_skip_ok h5)) ?_
 iterate 2 refine go ?_
 refine aw_seq ?_
 obtain ⟨x102, hF, hK103⟩ := bs hF
 refine aw_for ((((a0.length : Int) : Int) - (y4)).toNat + 1) (fun s1 => s1 = (sX 78 [pf 0 (.str a0), (3, some (.lp 0 0)), (4, some (.ls 1))] [bf 0 55 (eGFault zGFault), (1, some (.row 105 3 (List.map eGToken x102)))] 2)) ?_ ?_
 ·refine rnd_loop (α := (List GToken) × Int) (fun q => (sX 78 [pf 0 (.str a0), (3, some (.lp 0 0)), (4, some (.ls 1)), pf 5 (.int .i64 q.2)] [bf 0 55 (eGFault zGFault), (1, some (.row 105 3 (List.map eGToken q.1)))] 2)) (fun k q => ref03_Of_L1 a0 k q.1 q.2 = some x102) ([], y4) (impz [0, 1]) hF (fun q h => by cases h) ?_
  clear hF
  rintro k ⟨x36, x37⟩ hF ih
  refine rnd_succ ?_
  iterate 4 refine go ?_
  refine rgp (op_len_str rfl rfl und_9 rfl rfl) ?_
  iterate 2 refine go ?_
  refine cnd hF (fun hb70 hF => ?_) fun hb70 hF => ?_
  ·iterate 2 refine go ?_
   refine aw_block ?_
   iterate 3 refine go ?_
   obtain ⟨y75, h76, hF⟩ := bs hF
   refine rgp (op_slice_str (nl := (some x37)) (nh := none) rfl rfl rfl rfl und_9 h76 rfl rfl) ?_
   obtain ⟨y77, h78, hF⟩ := bs hF
   refine rgp (cl 2 [.str y75] [.p (.agg (eGToken y77))] (ref03_one_ok h78)) ?_
   refine rgp (al 2 (eGToken zGToken) zer_105) ?_
   iterate 13 refine go ?_
   refine cnd hF (fun hb79 hF => ?_) fun hb79 hF => ?_
   ·cases hF
   iterate 5 refine go ?_
   obtain ⟨y82, h83, hF⟩ := bs hF
   refine rgp (cl 3 [.str (({ y77 with fAt := x37 } : GToken).fText)] [.p (.int .i64 y82.1), .p (.bool y82.2)] (ref02_Number_ok h83)) ?_
   refine go ?_
   iterate 2 (refine rgp (op_extract rfl rfl rfl rfl rfl) ?_)
   iterate 3 refine go ?_
   refine aw_seq ?_
   refine aw_seq ?_
   obtain ⟨x88, hF, hK90⟩ := bs hF
   refine ctx (sX 78 [pf 0 (.str a0), (3, some (.lp 0 0)), (4, some (.ls 1)), pf 5 (.int .i64 x37), (6, some (.lp 2 0)), pf 53 (.bool x88)] [bf 0 55 (eGFault zGFault), (1, some (.row 105 3 (List.map eGToken x36))), bf 2 105 (eGToken ({ y77 with fAt := x37 } : GToken))] 3) ?_ ?_
   ·iterate 5 refine go ?_
    rcases ie hF with ⟨hb84, hF⟩ | ⟨hb84, hF⟩
    ·iterate 2 refine gn hb84 ?_
     refine rgn hb84 (op_len_str rfl rfl und_9 rfl rfl) ?_
     refine gn hb84 ?_
     refine rpt hb84 ?_
     refine go ?_
     rcases ie hF with ⟨hb85, hF⟩ | ⟨hb85, hF⟩
     ·cases hF
     iterate 4 refine gn hb85 ?_
     rcases ie hF with ⟨hb86, hF⟩ | ⟨hb86, hF⟩
     ·iterate 2 refine gn hb86 ?_
      refine rgn hb85 (op_pick_t rfl rfl hb86 rfl rfl rfl) ?_
      refine rpf hb85 ?_
      cases hF
      exact rcz [0, 1, 2]
     iterate 2 refine rgo_f hb86 ?_
     refine rgn hb85 (op_pick_f rfl rfl hb86 rfl rfl rfl) ?_
     refine rpf hb85 ?_
     cases hF
     exact rcz [0, 1, 2]
    iterate 4 refine rgo_f hb84 ?_
    refine rpf hb84 ?_
    refine go ?_
    iterate 4 refine gn rfl ?_
    rcases ie hF with ⟨hb87, hF⟩ | ⟨hb87, hF⟩
    ·iterate 2 refine gn hb87 ?_
     refine rgn rfl (op_pick_t rfl rfl hb87 rfl rfl rfl) ?_
     refine rpf rfl ?_
     cases hF
     exact rcz [0, 1, 2]
    iterate 2 refine rgo_f hb87 ?_
    refine rgn rfl (op_pick_f rfl rfl hb87 rfl rfl rfl) ?_
    refine rpf rfl ?_
    cases hF
    exact rcz [0, 1, 2]
   have hF := hK90
   refine go ?_
   refine cnd hF (fun hb91 hF => ?_) fun hb91 hF => ?_
   ·cases hF
   iterate 4 refine go ?_
   refine rgp (la (eGToken ({ y77 with fAt := x37 } : GToken)) agg_105) ?_
   refine rgp (op_lit (rows := List.map eGToken ([({ y77 with fAt := x37 } : GToken)] : List GToken)) (zs := (eGToken zGToken)) rfl rfl slc_101 zer_105 (by exact ⟨rfl, rfl, rfl, trivial⟩) rfl rfl rfl rfl rfl rfl rfl rfl) ?_
   obtain ⟨u94, h95, hF⟩ := bs hF
   refine rgp (op_append 3 rfl rfl rfl rfl rfl slc_101 elm_105 zer_105 rfl rfl rfl (room_map (f := eGToken) (g := eGToken) h95) (List.map_append (f := eGToken) (l₁ := x36) (l₂ := [({ y77 with fAt := x37 } : GToken)])).symm rfl rfl) ?_
   iterate 6 refine go ?_
   refine rgp (op_len_str rfl rfl und_9 rfl rfl) ?_
   iterate 7 refine go ?_
   obtain ⟨y96, h97, hF⟩ := bs hF
   refine rgp (op_slice_str (nl := (some (w_i64 (x37 + ((({ y77 with fAt := x37 } : GToken).fText).length : Int))))) (nh := none) rfl rfl rfl rfl und_9 h97 rfl rfl) ?_
   obtain ⟨y98, h99, hF⟩ := bs hF
   refine rgp (cl 4 [.str y96] [.p (.int .i64 y98)] (ref03_skip_ok h99)) ?_
   iterate 2 refine go ?_
   refine reg_nil ?_
   refine piz (sX 78 [pf 0 (.str a0), (3, some (.lp 0 0)), (4, some (.ls 1)), pf 5 (.int .i64 (w_i64 ((w_i64 (x37 + ((({ y77 with fAt := x37 } : GToken).fText).length : Int))) + y98)))] [bf 0 55 (eGFault zGFault), (1, some (.row 105 3 (List.map eGToken (x36 ++ [({ y77 with fAt := x37 } : GToken)]))))] 2) [0, 3] ?_
   refine go ?_
   refine post_round ?_
   exact rnd_back (ih ((x36 ++ [({ y77 with fAt := x37 } : GToken)]), w_i64 ((w_i64 (x37 + ((({ y77 with fAt := x37 } : GToken).fText).length : Int))) + y98)) hF) (impz [0, 1])
  refine aw_exit ?_
  iterate 2 refine post_then_exit ?_
  cases hF
  exact post_lp_break _ rfl (impz [0, 1])
 rintro _ rfl
 have hF := hK103
 iterate 4 refine go ?_
 refine rgp (op_len_str rfl rfl und_9 rfl rfl) ?_
 refine rgp (bd ((eGToken zGToken)) (eGToken ({ fKind := 0, fText := [], fAt := (a0.length : Int) } : GToken)) zer_105 plc_105) ?_
 refine rgp (op_lit (rows := List.map eGToken ([({ fKind := 0, fText := [], fAt := (a0.length : Int) } : GToken)] : List GToken)) (zs := (eGToken zGToken)) rfl rfl slc_101 zer_105 (by exact ⟨rfl, rfl, rfl, trivial⟩) rfl rfl rfl rfl rfl rfl rfl rfl) ?_
 obtain ⟨u104, h105, hF⟩ := bs hF
 refine rgp (op_append 2 rfl rfl rfl rfl rfl slc_101 elm_105 zer_105 rfl rfl rfl (room_map (f := eGToken) (g := eGToken) h105) (List.map_append (f := eGToken) (l₁ := x102) (l₂ := [({ fKind := 0, fText := [], fAt := (a0.length : Int) } : GToken)])).symm rfl rfl) ?_
 refine rgp (bd ((eGFault zGFault)) (eGFault ({ fErr := 0, fAt := 0 } : GFault)) zer_55 plc_55) ?_
 iterate 4 refine go ?_
 cases hF
 exact post_ret rfl rfl (.cons _ _ _ _ _ (.tmp _ _ rfl) (.own _ _ _ _ rfl nolent3) (.cons _ _ _ _ _ (.agg _ _ _ _ _ 2 _ _ rfl rfl agg_55 rfl rfl rfl) (.p _) .nil)) (.inl rfl)
theorem ref06_Tok_ok {a0 : List GToken} {a1 : Int} {r : GToken} (hF : ref06_Tok a0 a1 = some r) : FZ 82 [.vs 3 (List.map eGToken a0), .int .i64 a1] [.p (.agg (eGToken r))] := by
 unfold ref06_Tok at hF
 refine fn_of_body (n := 29) Tryz.func82 rfl rfl rfl fun w O => ?_
 refine go ?_
 refine rgp (al 0 (eGToken zGToken) zer_105) ?_
 refine go ?_
 refine aw_seq ?_
 refine aw_seq ?_
 obtain ⟨p2, hF, hK3⟩ := bs hF
 refine ctx (sX 29 [pf 0 (.vs 3 (List.map eGToken a0)), pf 1 (.int .i64 a1), (4, some (.lp 0 0)), pf 12 (.bool (decide (a1 < (a0.length : Int))))] [bf 0 105 (eGToken zGToken)] 1) ?_ ?_
 ·iterate 4 refine go ?_
  rcases ie hF with ⟨hb1, hF⟩ | ⟨hb1, hF⟩
  ·iterate 4 refine gn hb1 ?_
   refine rpt hb1 ?_
   cases hF
   exact rcz [0]
  cases hF
 have hF := hK3
 refine go ?_
 refine cnd hF (fun hb4 hF => ?_) fun hb4 hF => ?_
 ·iterate 3 refine go ?_
  obtain ⟨y5, h6, hF⟩ := bs hF
  refine rgp (ix (idx_map eGToken h6) slc_101) ?_
  refine rgp (lw (eGToken y5) agg_105) ?_
  iterate 4 refine go ?_
  cases hF
  exact post_ret rfl rfl (.cons _ _ _ _ _ (.agg _ _ _ _ _ 3 _ _ rfl rfl agg_105 rfl rfl rfl) (.p _) .nil) (.inl rfl)
 cases hF
theorem ref09_tok_ok {a0 : List GToken} {a1 : Int} {r : GToken} (hF : ref09_tok a0 a1 = some r) : FZ 42 [.vs 3 (List.map eGToken a0), .int .i64 a1] [.p (.agg (eGToken r))] := by
 unfold ref09_tok at hF
 refine fn_of_body (n := 8) Tryz.func42 rfl rfl rfl fun w O => ?_
 refine go ?_
 refine rgp (al 0 (eGToken zGToken) zer_105) ?_
 iterate 4 refine go ?_
 obtain ⟨y1, h2, hF⟩ := bs hF
 refine rgp (cl 1 [.vs 3 (List.map eGToken a0), .int .i64 a1] [.p (.agg (eGToken y1))] (ref06_Tok_ok h2)) ?_
 iterate 3 refine go ?_
 cases hF
 exact post_ret rfl rfl (.cons _ _ _ _ _ (.agg _ _ _ _ _ 3 _ _ rfl rfl agg_105 rfl rfl rfl) (.p _) .nil) (.inl rfl)
theorem ref03_Is_ok {a0 : GToken} {a1 : List UInt8} {r : Bool} (hF : ref03_Is a0 a1 = some r) : FZ 83 [.agg (eGToken a0), .str a1] [.p (.bool r)] := by
 unfold ref03_Is at hF
 refine fn_of_body (n := 19) Tryz.func83 rfl rfl rfl fun w O => ?_
 refine go ?_
 refine rgp (bo 0) ?_
 iterate 7 refine go ?_
 rcases ie hF with ⟨hb1, hF⟩ | ⟨hb1, hF⟩
 ·refine rgo_t hb1 ?_
  iterate 2 refine rgo_t hb1 ?_
  refine rpt hb1 ?_
  refine go ?_
  iterate 3 refine gn rfl ?_
  refine rgn rfl (op_str rfl rfl rfl rfl rfl rfl) ?_
  refine rpt rfl ?_
  iterate 3 refine go ?_
  cases hF
  exact prt
 iterate 3 refine gn hb1 ?_
 refine rpf hb1 ?_
 refine go ?_
 rcases ie hF with ⟨hb2, hF⟩ | ⟨hb2, hF⟩
 ·iterate 3 refine gn hb2 ?_
  refine rgn hb2 (op_str rfl rfl rfl rfl rfl rfl) ?_
  refine rpt hb2 ?_
  iterate 3 refine go ?_
  cases hF
  exact prt
 iterate 4 refine rgo_f hb2 ?_
 refine rpf hb2 ?_
 iterate 3 refine go ?_
 cases hF
 exact prt
theorem ref09_is_ok {a0 : List GToken} {a1 : Int} {a2 : List UInt8} {r : Bool} (hF : ref09_is a0 a1 a2 = some r) : FZ 43 [.vs 3 (List.map eGToken a0), .int .i64 a1, .str a2] [.p (.bool r)] := by
 unfold ref09_is at hF
 refine fn_of_body (n := 12) Tryz.func43 rfl rfl rfl fun w O => ?_
 iterate 6 refine go ?_
 obtain ⟨y1, h2, hF⟩ := bs hF
 refine rgp (cl 0 [.vs 3 (List.map eGToken a0), .int .i64 a1] [.p (.agg (eGToken y1))] (ref06_Tok_ok h2)) ?_
 refine go ?_
 obtain ⟨y3, h4, hF⟩ := bs hF
 refine rgp (cl 0 [.agg (eGToken y1), .str a2] [.p (.bool y3)] (ref03_Is_ok h4)) ?_
 iterate 3 refine go ?_
 cases hF
 exact prt
theorem ref09_Stmts_ok {a0 : GClass} {r : Int} (hF : ref09_Stmts a0 = some r) : FZ 45 [.agg (eGClass a0)] [.p (.int .i64 r)] := by
 unfold ref09_Stmts at hF
 refine fn_of_body (n := 37) Tryz.func45 rfl rfl rfl fun w O => ?_
 refine go ?_
 refine rgp (bo 0) ?_
 iterate 9 refine go ?_
 obtain ⟨x193, hF, hK194⟩ := bs hF
 refine aw_for ((a0.fMethods.length - 0 : Int).toNat + 1) (fun s1 => s1 = (sX 37 [pf 3 (.int .i64 x193)] [] 0)) ?_ ?_
 ·refine rnd_loop (α := Int × Int) (fun q => (sX 37 [(1, some (.lp 0 0)), pf 3 (.int .i64 q.1), pf 4 (.int .i64 q.2)] [bf 0 32 (eGClass a0)] 1)) (fun k q => ref09_Stmts_L1 a0 k q.1 q.2 = some x193) (0, 0) (impz [0]) hF (fun q h => by cases h) ?_
  clear hF
  rintro k ⟨x63, x64⟩ hF ih
  refine rnd_succ ?_
  iterate 8 refine go ?_
  refine cnd hF (fun hb129 hF => ?_) fun hb129 hF => ?_
  ·iterate 2 refine go ?_
   refine aw_seq ?_
   refine aw_block ?_
   iterate 3 refine go ?_
   obtain ⟨x187, hF, hK188⟩ := bs hF
   refine aw_for (Option.getD (Option.bind (idx a0.fMethods x64) fun (y189 : GMethod) => some ((y189.fBody.length - 0 : Int).toNat + 1)) 1) (fun s1 => s1 = (sX 37 [(1, some (.lp 0 0)), pf 3 (.int .i64 x187), pf 4 (.int .i64 x64)] [bf 0 32 (eGClass a0)] 1)) ?_ ?_
   ·refine rnd_loop (α := Int × Int) (fun q => (sX 37 [(1, some (.lp 0 0)), pf 3 (.int .i64 q.1), pf 4 (.int .i64 x64), pf 5 (.int .i64 q.2)] [bf 0 32 (eGClass a0)] 1)) (fun k q => ref09_Stmts_L2 a0 x64 k q.1 q.2 = some x187) (x63, 0) (impz [0]) hF (fun q h => by cases h) ?_
    clear hF
    rintro k ⟨x147, x148⟩ hF ih
    refine rnd_succ ?_
    iterate 6 refine go ?_
    obtain ⟨y170, h171, hF⟩ := bs hF
    refine rgp (ix (idx_map eGMethod h171) slc_30) ?_
    iterate 2 refine go ?_
    refine rgp (op_len_vs (n := y170.fBody.length) rfl rfl (lenR eLGStmt_map) slc_38 rfl rfl) ?_
    iterate 2 refine go ?_
    refine cnd hF (fun hb172 hF => ?_) fun hb172 hF => ?_
    ·iterate 2 refine go ?_
     refine aw_seq ?_
     refine aw_block ?_
     iterate 5 refine go ?_
     obtain ⟨y179, h180, hF⟩ := bs hF
     refine rgp (ix (idx_map eGMethod h180) slc_30) ?_
     iterate 3 refine go ?_
     obtain ⟨y181, h182, hF⟩ := bs hF
     refine rgp (ix (idxR eLGStmt_map h182) slc_38) ?_
     refine rgp (lw (eGStmt y181) agg_48) ?_
     obtain ⟨y183, h184, hF⟩ := bs hF
     refine rgp (cl 1 [.agg (eGStmt y181)] [.p (.int .i64 y183)] (ref08_Size_ok h184)) ?_
     iterate 2 refine go ?_
     refine reg_nil ?_
     refine piz (sX 37 [(1, some (.lp 0 0)), pf 3 (.int .i64 (w_i64 (x147 + y183))), pf 4 (.int .i64 x64), pf 5 (.int .i64 x148)] [bf 0 32 (eGClass a0)] 1) [0] ?_
     iterate 6 refine go ?_
     refine rnr ?_
     exact rnd_back (ih (w_i64 (x147 + y183), w_i64 (x148 + 1)) hF) (impz [0])
    refine aw_exit ?_
    iterate 2 refine post_then_exit ?_
    cases hF
    exact post_lp_break _ rfl (impz [0])
   rintro _ rfl
   have hF := hK188
   iterate 6 refine go ?_
   refine rnr ?_
   exact rnd_back (ih (x187, w_i64 (x64 + 1)) hF) (impz [0])
  refine aw_exit ?_
  iterate 2 refine post_then_exit ?_
  cases hF
  exact post_lp_break _ rfl (impz [])
 rintro _ rfl
 have hF := hK194
 iterate 6 refine go ?_
 cases hF
 exact prt
theorem ref07_Parse_ok {a0 : List GToken} {a1 : Int} {a2 : List (List UInt8)} {a3 : Bool} {r : GGot_ref07} (hF : ref07_Parse a0 a1 a2 a3 = some r) : FZ 131 [.vs 3 (List.map eGToken a0), .int .i64 a1, .vs 1 (List.map eS a2), .bool a3] [.p (.agg (eGGot_ref07 r))] := by
 unfold ref07_Parse at hF
 refine fn_of_body (n := 121) Tryz.func131 rfl rfl rfl fun w O => ?_
 refine go ?_
 refine rgp (al 0 (eGGot_ref07 zGGot_ref07) zer_186) ?_
 iterate 4 refine go ?_
 obtain ⟨y3, h4, hF⟩ := bs hF
 refine rgp (cl 1 [.vs 3 (List.map eGToken a0), .int .i64 a1] [.p (.agg (eGToken y3))] (ref06_Tok_ok h4)) ?_
 refine rgp (al 1 (eGToken zGToken) zer_105) ?_
 iterate 4 refine go ?_
 refine rgp (la (eGToken y3) agg_105) ?_
 obtain ⟨y7, h8, hF⟩ := bs hF
 refine rgp (cl 2 [.agg (eGToken y3), .str [118, 111, 105, 100]] [.p (.bool y7)] (ref03_Is_ok h8)) ?_
 refine go ?_
 refine cnd hF (fun hb9 hF => ?_) fun hb9 hF => ?_
 ·iterate 3 refine go ?_
  refine rgp (bd ((eGGot_ref07 zGGot_ref07)) (eGGot_ref07 ({ fL := [], fT := zGType, fV := zGVar, fNext := w_i64 (a1 + 1), fF := zGFault } : GGot_ref07)) zer_186 plc_186) ?_
  iterate 4 refine go ?_
  cases hF
  exact post_ret rfl rfl (.cons _ _ _ _ _ (.agg _ _ _ _ _ 28 _ _ rfl rfl agg_186 rfl rfl rfl) (.p _) .nil) (.inl rfl)
 iterate 4 refine go ?_
 refine rgp (la (eGToken y3) agg_105) ?_
 obtain ⟨y12, h13, hF⟩ := bs hF
 refine rgp (cl 2 [.agg (eGToken y3), .str [105, 110, 116]] [.p (.bool y12)] (ref03_Is_ok h13)) ?_
 refine go ?_
 refine cnd hF (fun hb14 hF => ?_) fun hb14 hF => ?_
 ·refine go ?_
  refine rgp (bd ((eGType zGType)) (eGType ({ fKind := 1, fClass := [], fN := 0, fOwn := (⟨zGOwner, zGOwner, zGOwner, zGOwner⟩ : A4 GOwner) } : GType)) zer_37 plc_37) ?_
  iterate 2 refine go ?_
  refine rgp (bd ((eGGot_ref07 zGGot_ref07)) (eGGot_ref07 ({ fL := [], fT := ({ fKind := 1, fClass := [], fN := 0, fOwn := (⟨zGOwner, zGOwner, zGOwner, zGOwner⟩ : A4 GOwner) } : GType), fV := zGVar, fNext := w_i64 (a1 + 1), fF := zGFault } : GGot_ref07)) zer_186 plc_186) ?_
  iterate 4 refine go ?_
  cases hF
  exact post_ret rfl rfl (.cons _ _ _ _ _ (.agg _ _ _ _ _ 28 _ _ rfl rfl agg_186 rfl rfl rfl) (.p _) .nil) (.inl rfl)
 cases hF
theorem ref09_params_ok {a0 : List GToken} {a1 : Int} {a2 : List (List UInt8)} {r : GGot_ref09} (hF : ref09_params a0 a1 a2 = some r) : FZ 165 [.vs 3 (List.map eGToken a0), .int .i64 a1, .vs 1 (List.map eS a2)] [.p (.agg (eGGot_ref09 r))] := by
 unfold ref09_params at hF
 refine fn_of_body (n := 60) Tryz.func165 rfl rfl rfl fun w O => ?_
 refine go ?_
 refine rgp (al 0 (eGGot_ref09 zGGot_ref09) zer_109) ?_
 iterate 3 refine go ?_
 refine reg_imp (imp_nil_own 7 99 13 1 rfl rfl) ?_
 iterate 10 refine go ?_
 obtain ⟨y3, h4, hF⟩ := bs hF
 refine rgp (cl 2 [.vs 3 (List.map eGToken a0), .int .i64 (w_i64 (a1 + 1)), .str [41]] [.p (.bool y3)] (ref09_is_ok h4)) ?_
 refine go ?_
 refine cnd hF (fun hb5 hF => ?_) fun hb5 hF => ?_
 ·iterate 3 refine go ?_
  refine rgp (bd ((eGGot_ref09 zGGot_ref09)) (eGGot_ref09 ({ fC := zGClass, fM := zGMethod, fV := [], fN := [], fNext := w_i64 ((w_i64 (a1 + 1)) + 1), fF := zGFault } : GGot_ref09)) zer_109 plc_109) ?_
  iterate 4 refine go ?_
  cases hF
  exact post_ret rfl rfl (.cons _ _ _ _ _ (.agg _ _ _ _ _ 29 _ _ rfl rfl agg_109 rfl rfl rfl) (.p _) .nil) (.inl rfl)
 cases hF
theorem ref07_word_ok {a0 : GToken} {r : GOwner} (hF : ref07_word a0 = some r) : FZ 162 [.agg (eGToken a0)] [.p (.agg (eGOwner r))] := by
 unfold ref07_word at hF
 refine fn_of_body (n := 29) Tryz.func162 rfl rfl rfl fun w O => ?_
 refine go ?_
 refine rgp (bo 0) ?_
 refine rgp (al 1 (eGOwner zGOwner) zer_34) ?_
 iterate 2 refine go ?_
 refine rgp (op_lit (rows := List.map eS ([[114, 101, 112], [112, 101, 101, 114], [], [119, 111, 114, 108, 100], [97, 110, 121], [117, 110, 105, 113, 117, 101]] : List (List UInt8))) (zs := [.str []]) rfl rfl slc_27 zer_9 (by exact ⟨rfl, trivial⟩) rfl rfl rfl rfl rfl rfl rfl rfl) ?_
 iterate 6 refine go ?_
 obtain ⟨lr52, hF, hK53⟩ := bs hF
 refine aw_for (((([[114, 101, 112], [112, 101, 101, 114], [], [119, 111, 114, 108, 100], [97, 110, 121], [117, 110, 105, 113, 117, 101]].length : Int) : Int) - (0)).toNat + 1) (fun s1 => s1 = (sX 29 [(2, some (.lp 0 0))] [bf 0 34 (eGOwner zGOwner)] 1)) ?_ ?_
 ·refine rnd_loop (α := Int) (fun q => (sX 29 [(1, some (.lp 0 0)), (2, some (.lp 1 0)), pf 3 (.vs 1 (List.map eS [[114, 101, 112], [112, 101, 101, 114], [], [119, 111, 114, 108, 100], [97, 110, 121], [117, 110, 105, 113, 117, 101]])), pf 4 (.int .i64 q)] [bf 0 105 (eGToken a0), bf 1 34 (eGOwner zGOwner)] 2)) (fun k q => ref07_word_L1 a0 k q = some lr52) 0 (impz [0, 1]) hF (fun q h => by cases h) ?_
  clear hF
  rintro k x17 hF ih
  refine rnd_succ ?_
  iterate 7 refine go ?_
  refine cnd hF (fun hb35 hF => ?_) fun hb35 hF => ?_
  ·iterate 2 refine go ?_
   refine aw_seq ?_
   refine aw_block ?_
   refine aw_seq ?_
   obtain ⟨x47, hF, hK49⟩ := bs hF
   refine ctx (sX 29 [(1, some (.lp 0 0)), (2, some (.lp 1 0)), pf 3 (.vs 1 (List.map eS [[114, 101, 112], [112, 101, 101, 114], [], [119, 111, 114, 108, 100], [97, 110, 121], [117, 110, 105, 113, 117, 101]])), pf 4 (.int .i64 x17), pf 24 (.bool x47)] [bf 0 105 (eGToken a0), bf 1 34 (eGOwner zGOwner)] 2) ?_ ?_
   ·refine dr_start ⟨_, _, _⟩ rfl ?_
    refine dr_cons { need := [(1, .lp 0 0)], hneed := [(0, .box 105 (bxv (eGToken a0)))], dst := some 12, val := some (.pv (.agg (eGToken a0))) } (fun m h => step_on (guard_no rfl) (op_load_lp_agg (ps := eGToken a0) rfl h.1.1 h.2.1.1 rfl rfl rfl agg_105 rfl rfl) rfl) ⟨⟨rfl, trivial⟩, ⟨rfl, trivial⟩, trivial⟩ ?_
    iterate 2 refine dgo ?_
    obtain ⟨y40, h41, hF⟩ := bs hF
    refine dr_cons { need := [(13, .pv (.vs 1 (List.map eS [[114, 101, 112], [112, 101, 101, 114], [], [119, 111, 114, 108, 100], [97, 110, 121], [117, 110, 105, 113, 117, 101]]))), (14, .pv (.int .i64 x17))], dst := some 15, val := some (.pv (.vp (eS y40))) } (fun m h => step_on (guard_no rfl) (op_index_vs (k := .i64) rfl h.1.1 h.1.2.1 (idx_map eS h41) slc_27 rfl rfl) rfl) ⟨⟨rfl, rfl, trivial⟩, trivial, trivial⟩ ?_
    refine dr_cons { need := [(15, .pv (.vp (eS y40)))], dst := some 16, val := some (.pv (.str y40)) } (fun m h => step_on (guard_no rfl) (op_load_vp (p := .str y40) rfl h.1.1 rfl one_9 rfl rfl) rfl) ⟨⟨rfl, trivial⟩, trivial, trivial⟩ ?_
    obtain ⟨y42, h43, hF⟩ := bs hF
    refine dr_cons { need := [(16, .pv (.str y40)), (12, .pv (.agg (eGToken a0)))], dst := some 17, val := some (.pv (.bool y42)) } (fun m h => step_on (guard_no rfl) (op_call 2 rfl (caps := []) (args := [.agg (eGToken a0), .str y40]) (rs := [.p (.bool y42)]) rfl rfl (evl_cons h.1.2.1 (evl_cons h.1.1 evl_nil)) cal_83 (ref03_Is_ok h43) rfl rfl rfl) rfl) ⟨⟨rfl, rfl, trivial⟩, trivial, trivial⟩ ?_
    refine dgo ?_
    rcases ie hF with ⟨hb44, hF⟩ | ⟨hb44, hF⟩
    ·refine dr_cons { need := [(18, .pv (.bool y42)), (3, .pv (.vs 1 (List.map eS [[114, 101, 112], [112, 101, 101, 114], [], [119, 111, 114, 108, 100], [97, 110, 121], [117, 110, 105, 113, 117, 101]])))], dst := some 19, val := some (.pv (.vs 1 (List.map eS [[114, 101, 112], [112, 101, 101, 114], [], [119, 111, 114, 108, 100], [97, 110, 121], [117, 110, 105, 113, 117, 101]]))) } (fun m h => step_on (guard_on rfl rfl rfl h.1.1 hb44) (op_move rfl h.1.2.1 rfl rfl) rfl) ⟨⟨rfl, rfl, trivial⟩, trivial, trivial⟩ ?_
     refine dr_cons { need := [(18, .pv (.bool y42)), (4, .pv (.int .i64 x17))], dst := some 20, val := some (.pv (.int .i64 x17)) } (fun m h => step_on (guard_on rfl rfl rfl h.1.1 hb44) (op_move rfl h.1.2.1 rfl rfl) rfl) ⟨⟨rfl, rfl, trivial⟩, trivial, trivial⟩ ?_
     obtain ⟨y45, h46, hF⟩ := bs hF
     refine dr_cons { need := [(18, .pv (.bool y42)), (19, .pv (.vs 1 (List.map eS [[114, 101, 112], [112, 101, 101, 114], [], [119, 111, 114, 108, 100], [97, 110, 121], [117, 110, 105, 113, 117, 101]]))), (20, .pv (.int .i64 x17))], dst := some 21, val := some (.pv (.vp (eS y45))) } (fun m h => step_on (guard_on rfl rfl rfl h.1.1 hb44) (op_index_vs (k := .i64) rfl h.1.2.1 h.1.2.2.1 (idx_map eS h46) slc_27 rfl rfl) rfl) ⟨⟨rfl, rfl, rfl, trivial⟩, trivial, trivial⟩ ?_
     refine dr_cons { need := [(18, .pv (.bool y42)), (21, .pv (.vp (eS y45)))], dst := some 22, val := some (.pv (.str y45)) } (fun m h => step_on (guard_on rfl rfl rfl h.1.1 hb44) (op_load_vp (p := .str y45) rfl h.1.2.1 rfl one_9 rfl rfl) rfl) ⟨⟨rfl, rfl, trivial⟩, trivial, trivial⟩ ?_
     refine dr_cons { need := [(18, .pv (.bool y42)), (22, .pv (.str y45))], dst := some 23, val := some (.pv (.bool (!(y45 == [])))) } (fun m h => step_on (guard_on rfl rfl rfl h.1.1 hb44) (op_str rfl h.1.2.1 rfl rfl rfl rfl) rfl) ⟨⟨rfl, rfl, trivial⟩, trivial, trivial⟩ ?_
     refine dr_cons { need := [(18, .pv (.bool y42)), (23, .pv (.bool (!(y45 == []))))], dst := some 24, val := some (.pv (.bool (!(y45 == [])))) } (fun m h => step_on (guard_no rfl) (op_pick_t rfl h.1.1 hb44 h.1.2.1 rfl rfl) rfl) ⟨⟨rfl, rfl, trivial⟩, trivial, trivial⟩ ?_
     refine dr_nil mixed rfl (by kernel_rfl) ?_
     refine piz (sX 29 [(1, some (.lp 0 0)), (2, some (.lp 1 0)), pf 3 (.vs 1 (List.map eS [[114, 101, 112], [112, 101, 101, 114], [], [119, 111, 114, 108, 100], [97, 110, 121], [117, 110, 105, 113, 117, 101]])), pf 4 (.int .i64 x17), pf 24 (.bool (!(y45 == [])))] [bf 0 105 (eGToken a0), bf 1 34 (eGOwner zGOwner)] 2) [0, 1] ?_
     cases hF
     exact pcz [0, 1]
    iterate 5 refine dro_f hb44 ?_
    refine drpf hb44 ?_
    refine dr_nil mixed rfl (by kernel_rfl) ?_
    refine piz (sX 29 [(1, some (.lp 0 0)), (2, some (.lp 1 0)), pf 3 (.vs 1 (List.map eS [[114, 101, 112], [112, 101, 101, 114], [], [119, 111, 114, 108, 100], [97, 110, 121], [117, 110, 105, 113, 117, 101]])), pf 4 (.int .i64 x17), pf 24 (.bool false)] [bf 0 105 (eGToken a0), bf 1 34 (eGOwner zGOwner)] 2) [0, 1] ?_
    cases hF
    exact pcz [0, 1]
   have hF := hK49
   refine go ?_
   refine cnd hF (fun hb50 hF => ?_) fun hb50 hF => ?_
   ·cases hF
   iterate 7 refine go ?_
   refine rnr ?_
   exact rnd_back (ih (w_i64 (x17 + 1)) hF) (impz [0, 1])
  refine aw_exit ?_
  iterate 2 refine post_then_exit ?_
  cases hF
  exact post_lp_break _ rfl (impz [1])
 rintro _ rfl
 have hF := hK53
 iterate 2 refine go ?_
 refine rgp (bd ((eGOwner zGOwner)) (eGOwner ({ fKind := 0, fN := 0 } : GOwner)) zer_34 plc_34) ?_
 iterate 3 refine go ?_
 cases hF
 exact post_ret rfl rfl (.cons _ _ _ _ _ (.agg _ _ _ _ _ 2 _ _ rfl rfl agg_34 rfl rfl rfl) (.p _) .nil) (.inl rfl)
theorem ref07_Begins_ok {a0 : List GToken} {a1 : Int} {r : Bool} (hF : ref07_Begins a0 a1 = some r) : FZ 182 [.vs 3 (List.map eGToken a0), .int .i64 a1] [.p (.bool r)] := by
 unfold ref07_Begins at hF
 refine fn_of_body (n := 32) Tryz.func182 rfl rfl rfl fun w O => ?_
 iterate 6 refine go ?_
 obtain ⟨y3, h4, hF⟩ := bs hF
 refine rgp (cl 0 [.vs 3 (List.map eGToken a0), .int .i64 a1] [.p (.agg (eGToken y3))] (ref06_Tok_ok h4)) ?_
 refine rgp (al 0 (eGToken zGToken) zer_105) ?_
 iterate 2 refine go ?_
 refine aw_seq ?_
 refine aw_seq ?_
 obtain ⟨x12, hF, hK14⟩ := bs hF
 refine ctx (sX 32 [(5, some (.lp 0 0)), pf 17 (.bool x12)] [bf 0 105 (eGToken y3)] 1) ?_ ?_
 ·refine go ?_
  refine rgp (la (eGToken y3) agg_105) ?_
  obtain ⟨y7, h8, hF⟩ := bs hF
  refine rgp (cl 1 [.agg (eGToken y3), .str [105, 110, 116]] [.p (.bool y7)] (ref03_Is_ok h8)) ?_
  refine go ?_
  rcases ie hF with ⟨hb9, hF⟩ | ⟨hb9, hF⟩
  ·cases hF
  refine rgn hb9 (la (eGToken y3) agg_105) ?_
  obtain ⟨y10, h11, hF⟩ := bs hF
  refine rgn hb9 (cl 1 [.agg (eGToken y3)] [.p (.agg (eGOwner y10))] (ref07_word_ok h11)) ?_
  refine rgn hb9 (op_field1 (p := .int .i64 y10.fKind) rfl rfl ftb_34_0 one_3 rfl rfl rfl) ?_
  refine gn hb9 ?_
  refine rpf hb9 ?_
  cases hF
  exact rcz [0]
 have hF := hK14
 refine go ?_
 refine cnd hF (fun hb15 hF => ?_) fun hb15 hF => ?_
 ·cases hF
 iterate 8 refine go ?_
 refine cnd hF (fun hb16 hF => ?_) fun hb16 hF => ?_
 ·iterate 5 refine go ?_
  cases hF
  exact prt
 cases hF
theorem ref09_locals_ok {a0 : List GToken} {a1 : Int} {a2 : List (List UInt8)} {r : GGot_ref09} (hF : ref09_locals a0 a1 a2 = some r) : FZ 166 [.vs 3 (List.map eGToken a0), .int .i64 a1, .vs 1 (List.map eS a2)] [.p (.agg (eGGot_ref09 r))] := by
 unfold ref09_locals at hF
 refine fn_of_body (n := 49) Tryz.func166 rfl rfl rfl fun w O => ?_
 refine go ?_
 refine rgp (al 0 (eGGot_ref09 zGGot_ref09) zer_109) ?_
 iterate 3 refine go ?_
 refine reg_imp (imp_nil_own 7 99 13 1 rfl rfl) ?_
 refine go ?_
 refine aw_seq ?_
 obtain ⟨lr19, hF, hK20⟩ := bs hF
 refine aw_for (a0.length + 64) (fun s1 => s1 = (sX 49 [pf 1 (.int .i64 a1), (6, some (.lp 0 0)), (7, some (.ls 1))] [bf 0 109 (eGGot_ref09 zGGot_ref09), (1, some (.row 99 13 (List.map eGVar [])))] 2)) ?_ ?_
 ·refine rnd_loop (α := Unit) (fun q => (sX 49 [pf 0 (.vs 3 (List.map eGToken a0)), pf 1 (.int .i64 a1), (6, some (.lp 0 0)), (7, some (.ls 1))] [bf 0 109 (eGGot_ref09 zGGot_ref09), (1, some (.row 99 13 (List.map eGVar [])))] 2)) (fun k q => ref09_locals_L1 a0 a1 k = some lr19) () (impz [0, 1]) hF (fun q h => by cases h) ?_
  clear hF
  rintro k ⟨⟩ hF ih
  refine rnd_succ ?_
  iterate 4 refine go ?_
  obtain ⟨y15, h16, hF⟩ := bs hF
  refine rgp (cl 2 [.vs 3 (List.map eGToken a0), .int .i64 a1] [.p (.bool y15)] (ref07_Begins_ok h16)) ?_
  refine go ?_
  refine cnd hF (fun hb17 hF => ?_) fun hb17 hF => ?_
  ·iterate 2 refine go ?_
   refine aw_block ?_
   iterate 3 refine go ?_
   refine rgp (op_len_ls (n := ([] : List GVar).length) rfl rfl rfl (List.length_map ..) slc_29 rfl rfl) ?_
   iterate 2 refine go ?_
   refine cnd hF (fun hb18 hF => ?_) fun hb18 hF => ?_
   ·cases hF
   cases hF
  refine aw_exit ?_
  iterate 2 refine post_then_exit ?_
  cases hF
  exact post_lp_break _ rfl (impz [0, 1])
 rintro _ rfl
 have hF := hK20
 iterate 4 refine go ?_
 refine reg_imp (imp_freeze [(1, some (.row 99 13 (List.map eGVar [])))] [(7, some (.pv (.vs 13 (List.map eGVar [])))), (46, some (.pv (.vs 13 (List.map eGVar []))))] (FzH.spec ⟨rfl, trivial⟩) ⟨⟨_, rfl, rfl⟩, ⟨_, rfl, rfl⟩, trivial⟩) ?_
 refine rgp (bd ((eGGot_ref09 zGGot_ref09)) (eGGot_ref09 ({ fC := zGClass, fM := zGMethod, fV := [], fN := [], fNext := a1, fF := zGFault } : GGot_ref09)) zer_109 plc_109) ?_
 iterate 3 refine go ?_
 cases hF
 exact post_ret rfl rfl (.cons _ _ _ _ _ (.agg _ _ _ _ _ 29 _ _ rfl rfl agg_109 rfl rfl rfl) (.p _) .nil) (.inl rfl)
theorem ref08_tok_ok {a0 : List GToken} {a1 : Int} {r : GToken} (hF : ref08_tok a0 a1 = some r) : FZ 183 [.vs 3 (List.map eGToken a0), .int .i64 a1] [.p (.agg (eGToken r))] := by
 unfold ref08_tok at hF
 refine fn_of_body (n := 8) Tryz.func183 rfl rfl rfl fun w O => ?_
 refine go ?_
 refine rgp (al 0 (eGToken zGToken) zer_105) ?_
 iterate 4 refine go ?_
 obtain ⟨y1, h2, hF⟩ := bs hF
 refine rgp (cl 1 [.vs 3 (List.map eGToken a0), .int .i64 a1] [.p (.agg (eGToken y1))] (ref06_Tok_ok h2)) ?_
 iterate 3 refine go ?_
 cases hF
 exact post_ret rfl rfl (.cons _ _ _ _ _ (.agg _ _ _ _ _ 3 _ _ rfl rfl agg_105 rfl rfl rfl) (.p _) .nil) (.inl rfl)
theorem ref08_is_ok {a0 : List GToken} {a1 : Int} {a2 : List UInt8} {r : Bool} (hF : ref08_is a0 a1 a2 = some r) : FZ 186 [.vs 3 (List.map eGToken a0), .int .i64 a1, .str a2] [.p (.bool r)] := by
 unfold ref08_is at hF
 refine fn_of_body (n := 12) Tryz.func186 rfl rfl rfl fun w O => ?_
 iterate 6 refine go ?_
 obtain ⟨y1, h2, hF⟩ := bs hF
 refine rgp (cl 0 [.vs 3 (List.map eGToken a0), .int .i64 a1] [.p (.agg (eGToken y1))] (ref08_tok_ok h2)) ?_
 refine go ?_
 obtain ⟨y3, h4, hF⟩ := bs hF
 refine rgp (cl 0 [.agg (eGToken y1), .str a2] [.p (.bool y3)] (ref03_Is_ok h4)) ?_
 iterate 3 refine go ?_
 cases hF
 exact prt
theorem ref08_whose_ok {a0 : List GToken} {a1 : Int} {r : Bool} (hF : ref08_whose a0 a1 = some r) : FZ 185 [.vs 3 (List.map eGToken a0), .int .i64 a1] [.p (.bool r)] := by
 unfold ref08_whose at hF
 refine fn_of_body (n := 15) Tryz.func185 rfl rfl rfl fun w O => ?_
 iterate 6 refine go ?_
 obtain ⟨y1, h2, hF⟩ := bs hF
 refine rgp (cl 0 [.vs 3 (List.map eGToken a0), .int .i64 a1] [.p (.agg (eGToken y1))] (ref08_tok_ok h2)) ?_
 refine rgp (op_field1 (p := .int .i64 y1.fKind) rfl rfl ftb_105_0 one_3 rfl rfl rfl) ?_
 iterate 2 refine go ?_
 rcases ie hF with ⟨hb3, hF⟩ | ⟨hb3, hF⟩
 ·cases hF
 iterate 2 (refine rgn hb3 (op_move rfl rfl rfl rfl) ?_)
 obtain ⟨y4, h5, hF⟩ := bs hF
 refine rgn hb3 (cl 0 [.vs 3 (List.map eGToken a0), .int .i64 a1, .str [116, 104, 105, 115]] [.p (.bool y4)] (ref08_is_ok h5)) ?_
 refine rpf hb3 ?_
 iterate 3 refine go ?_
 cases hF
 exact prt
theorem ref08_args_ok {a0 : List GToken} {a1 : Int} {r : GGot_ref08} (hF : ref08_args a0 a1 = some r) : FZ 194 [.vs 3 (List.map eGToken a0), .int .i64 a1] [.p (.agg (eGGot_ref08 r))] := by
 unfold ref08_args at hF
 refine fn_of_body (n := 57) Tryz.func194 rfl rfl rfl fun w O => ?_
 refine go ?_
 refine rgp (al 0 (eGGot_ref08 zGGot_ref08) zer_220) ?_
 iterate 3 refine go ?_
 refine reg_imp (imp_nil_own 5 46 4 1 rfl rfl) ?_
 iterate 10 refine go ?_
 obtain ⟨y3, h4, hF⟩ := bs hF
 refine rgp (cl 2 [.vs 3 (List.map eGToken a0), .int .i64 (w_i64 (a1 + 1)), .str [41]] [.p (.bool y3)] (ref08_is_ok h4)) ?_
 refine go ?_
 refine cnd hF (fun hb5 hF => ?_) fun hb5 hF => ?_
 ·iterate 3 refine go ?_
  refine rgp (bd ((eGGot_ref08 zGGot_ref08)) (eGGot_ref08 ({ fS := zGStmt, fL := [], fA := [], fNext := w_i64 ((w_i64 (a1 + 1)) + 1), fF := zGFault } : GGot_ref08)) zer_220 plc_220) ?_
  iterate 4 refine go ?_
  cases hF
  exact post_ret rfl rfl (.cons _ _ _ _ _ (.agg _ _ _ _ _ 28 _ _ rfl rfl agg_220 rfl rfl rfl) (.p _) .nil) (.inl rfl)
 cases hF
theorem ref08_ends_ok {a0 : List GToken} {a1 : Int} {a2 : GStmt} {r : GGot_ref08} (hF : ref08_ends a0 a1 a2 = some r) : FZ 189 [.vs 3 (List.map eGToken a0), .int .i64 a1, .agg (eGStmt a2)] [.p (.agg (eGGot_ref08 r))] := by
 unfold ref08_ends at hF
 refine fn_of_body (n := 18) Tryz.func189 rfl rfl rfl fun w O => ?_
 refine go ?_
 refine rgp (bo 0) ?_
 refine rgp (al 1 (eGGot_ref08 zGGot_ref08) zer_220) ?_
 iterate 5 refine go ?_
 obtain ⟨y3, h4, hF⟩ := bs hF
 refine rgp (cl 2 [.vs 3 (List.map eGToken a0), .int .i64 a1, .str [59]] [.p (.bool y3)] (ref08_is_ok h4)) ?_
 iterate 2 refine go ?_
 refine cnd hF (fun hb5 hF => ?_) fun hb5 hF => ?_
 ·cases hF
 iterate 3 refine go ?_
 refine rgp (la (eGStmt a2) agg_48) ?_
 iterate 2 refine go ?_
 refine rgp (bd ((eGGot_ref08 zGGot_ref08)) (eGGot_ref08 ({ fS := a2, fL := [], fA := [], fNext := w_i64 (a1 + 1), fF := zGFault } : GGot_ref08)) zer_220 plc_220) ?_
 iterate 3 refine go ?_
 cases hF
 exact post_ret rfl rfl (.cons _ _ _ _ _ (.agg _ _ _ _ _ 28 _ _ rfl rfl agg_220 rfl rfl rfl) (.p _) .nil) (.inl rfl)
theorem ref06_tight_ok {a0 : List GToken} {a1 : Int} {a2 : Int} {r : GGot_ref06} (hF : ref06_tight a0 a1 a2 = some r) : FZ 198 [.vs 3 (List.map eGToken a0), .int .i64 a1, .int .i64 a2] [.p (.agg (eGGot_ref06 r))] := by
 unfold ref06_tight at hF
 refine fn_of_body (n := 98) Tryz.func198 rfl rfl rfl fun w O => ?_
 refine go ?_
 refine rgp (al 0 (eGGot_ref06 zGGot_ref06) zer_247) ?_
 iterate 4 refine go ?_
 obtain ⟨y3, h4, hF⟩ := bs hF
 refine rgp (cl 1 [.vs 3 (List.map eGToken a0), .int .i64 a1] [.p (.agg (eGToken y3))] (ref06_Tok_ok h4)) ?_
 refine rgp (al 1 (eGToken zGToken) zer_105) ?_
 iterate 2 refine go ?_
 refine aw_seq ?_
 refine aw_seq ?_
 obtain ⟨p13, hF, hK14⟩ := bs hF
 refine ctx (sX 98 [pf 1 (.int .i64 a1), (6, some (.lp 0 0)), (7, some (.lp 1 0)), pf 23 (.bool false)] [bf 0 247 (eGGot_ref06 zGGot_ref06), bf 1 105 (eGToken y3)] 2) ?_ ?_
 ·refine go ?_
  refine rgp (la (eGToken y3) agg_105) ?_
  obtain ⟨y7, h8, hF⟩ := bs hF
  refine rgp (cl 2 [.agg (eGToken y3), .str [40]] [.p (.bool y7)] (ref03_Is_ok h8)) ?_
  refine go ?_
  rcases ie hF with ⟨hb9, hF⟩ | ⟨hb9, hF⟩
  ·cases hF
  refine rgn hb9 (la (eGToken y3) agg_105) ?_
  obtain ⟨y10, h11, hF⟩ := bs hF
  refine rgn hb9 (cl 2 [.agg (eGToken y3), .str [33]] [.p (.bool y10)] (ref03_Is_ok h11)) ?_
  refine rpf hb9 ?_
  refine go ?_
  rcases ie hF with ⟨hb12, hF⟩ | ⟨hb12, hF⟩
  ·cases hF
  iterate 2 refine rgo_f hb12 ?_
  refine rpf hb12 ?_
  cases hF
  exact rcz [0, 1]
 have hF := hK14
 refine go ?_
 refine aw_cond_f rfl rfl ?_
 iterate 4 refine go ?_
 refine rgp (la (eGToken y3) agg_105) ?_
 obtain ⟨y17, h18, hF⟩ := bs hF
 refine rgp (cl 2 [.agg (eGToken y3), .str [40]] [.p (.bool y17)] (ref03_Is_ok h18)) ?_
 refine go ?_
 refine cnd hF (fun hb19 hF => ?_) fun hb19 hF => ?_
 ·cases hF
 iterate 4 refine go ?_
 refine rgp (la (eGToken y3) agg_105) ?_
 obtain ⟨y22, h23, hF⟩ := bs hF
 refine rgp (cl 2 [.agg (eGToken y3), .str [33]] [.p (.bool y22)] (ref03_Is_ok h23)) ?_
 refine go ?_
 refine cnd hF (fun hb24 hF => ?_) fun hb24 hF => ?_
 ·cases hF
 iterate 2 refine go ?_
 refine aw_seq ?_
 refine aw_seq ?_
 obtain ⟨x32, hF, hK34⟩ := bs hF
 refine ctx (sX 98 [pf 1 (.int .i64 a1), (6, some (.lp 0 0)), (7, some (.lp 1 0)), pf 68 (.bool x32)] [bf 0 247 (eGGot_ref06 zGGot_ref06), bf 1 105 (eGToken y3)] 2) ?_ ?_
 ·refine go ?_
  refine rgp (la (eGToken y3) agg_105) ?_
  obtain ⟨y27, h28, hF⟩ := bs hF
  refine rgp (cl 2 [.agg (eGToken y3), .str [110, 105, 108]] [.p (.bool y27)] (ref03_Is_ok h28)) ?_
  refine go ?_
  rcases ie hF with ⟨hb29, hF⟩ | ⟨hb29, hF⟩
  ·cases hF
  refine rgn hb29 (la (eGToken y3) agg_105) ?_
  obtain ⟨y30, h31, hF⟩ := bs hF
  refine rgn hb29 (cl 2 [.agg (eGToken y3), .str [115, 97, 109, 101]] [.p (.bool y30)] (ref03_Is_ok h31)) ?_
  refine rpf hb29 ?_
  cases hF
  exact rcz [0, 1]
 have hF := hK34
 refine go ?_
 refine cnd hF (fun hb35 hF => ?_) fun hb35 hF => ?_
 ·cases hF
 iterate 4 refine go ?_
 refine rgp (la (eGToken y3) agg_105) ?_
 obtain ⟨y38, h39, hF⟩ := bs hF
 refine rgp (cl 2 [.agg (eGToken y3), .str [105, 110, 112, 117, 116]] [.p (.bool y38)] (ref03_Is_ok h39)) ?_
 refine go ?_
 refine cnd hF (fun hb40 hF => ?_) fun hb40 hF => ?_
 ·cases hF
 iterate 5 refine go ?_
 obtain ⟨y43, h44, hF⟩ := bs hF
 refine rgp (cl 2 [.str y3.fText] [.p (.int .i64 y43.1), .p (.bool y43.2)] (ref02_Number_ok h44)) ?_
 refine go ?_
 iterate 2 (refine rgp (op_extract rfl rfl rfl rfl rfl) ?_)
 iterate 3 refine go ?_
 refine aw_seq ?_
 refine aw_seq ?_
 obtain ⟨p46, hF, hK47⟩ := bs hF
 refine ctx (sX 98 [pf 1 (.int .i64 a1), (6, some (.lp 0 0)), pf 9 (.int .i64 y43.1), pf 89 (.bool y43.2)] [bf 0 247 (eGGot_ref06 zGGot_ref06)] 1) ?_ ?_
 ·iterate 5 refine go ?_
  rcases ie hF with ⟨hb45, hF⟩ | ⟨hb45, hF⟩
  ·refine gn hb45 ?_
   refine rpt hb45 ?_
   cases hF
   exact rcz [0]
  cases hF
 have hF := hK47
 refine go ?_
 refine cnd hF (fun hb48 hF => ?_) fun hb48 hF => ?_
 ·iterate 2 refine go ?_
  refine rgp (bd ((eGExpr zGExpr)) (eGExpr ({ fKind := 1, fNum := y43.1, fName := [], fKids := [] } : GExpr)) zer_46 plc_46) ?_
  iterate 2 refine go ?_
  refine rgp (bd ((eGGot_ref06 zGGot_ref06)) (eGGot_ref06 ({ fE := ({ fKind := 1, fNum := y43.1, fName := [], fKids := [] } : GExpr), fNext := w_i64 (a1 + 1), fF := zGFault } : GGot_ref06)) zer_247 plc_247) ?_
  iterate 4 refine go ?_
  cases hF
  exact post_ret rfl rfl (.cons _ _ _ _ _ (.agg _ _ _ _ _ 7 _ _ rfl rfl agg_247 rfl rfl rfl) (.p _) .nil) (.inl rfl)
 cases hF
theorem ref06_signs_ok {a0 : Int} {r : (List (List UInt8))} (hF : ref06_signs a0 = some r) : FZ 205 [.int .i64 a0] [.p (.vs 1 (List.map eS r))] := by
 unfold ref06_signs at hF
 refine fn_of_body (n := 13) Tryz.func205 rfl rfl rfl fun w O => ?_
 iterate 4 refine go ?_
 refine rgp (op_lit (rows := List.map eS ([[38, 38]] : List (List UInt8))) (zs := [.str []]) rfl rfl slc_27 zer_9 (by exact ⟨rfl, trivial⟩) rfl rfl rfl rfl rfl rfl rfl rfl) ?_
 refine rgp (op_lit (rows := List.map eS ([[60], [61, 61]] : List (List UInt8))) (zs := [.str []]) rfl rfl slc_27 zer_9 (by exact ⟨rfl, trivial⟩) rfl rfl rfl rfl rfl rfl rfl rfl) ?_
 refine rgp (op_lit (rows := List.map eS ([[43], [45]] : List (List UInt8))) (zs := [.str []]) rfl rfl slc_27 zer_9 (by exact ⟨rfl, trivial⟩) rfl rfl rfl rfl rfl rfl rfl rfl) ?_
 refine rgp (op_lit (rows := List.map eS ([[42]] : List (List UInt8))) (zs := [.str []]) rfl rfl slc_27 zer_9 (by exact ⟨rfl, trivial⟩) rfl rfl rfl rfl rfl rfl rfl rfl) ?_
 refine rgp (op_lit (rows := List.map (eL 1 eS) ([[[38, 38]], [[60], [61, 61]], [[43], [45]], [[42]]] : List (List (List UInt8)))) (zs := [.vs 1 (List.map eS [])]) rfl rfl slc_258 zer_27 (by exact ⟨trivial, trivial⟩) rfl rfl rfl rfl rfl rfl rfl rfl) ?_
 iterate 5 refine go ?_
 obtain ⟨y1, h2, hF⟩ := bs hF
 refine rgp (ix (idx_map (eL 1 eS) h2) slc_258) ?_
 iterate 4 refine go ?_
 cases hF
 exact prt
theorem ref06_between_ok {a0 : List GToken} {a1 : Int} {a2 : Int} {r : (List UInt8)} (hF : ref06_between a0 a1 a2 = some r) : FZ 199 [.vs 3 (List.map eGToken a0), .int .i64 a1, .int .i64 a2] [.p (.str r)] := by
 unfold ref06_between at hF
 refine fn_of_body (n := 29) Tryz.func199 rfl rfl rfl fun w O => ?_
 iterate 5 refine go ?_
 obtain ⟨y3, h4, hF⟩ := bs hF
 refine rgp (cl 0 [.int .i64 a2] [.p (.vs 1 (List.map eS y3))] (ref06_signs_ok h4)) ?_
 iterate 6 refine go ?_
 obtain ⟨lr50, hF, hK51⟩ := bs hF
 refine aw_for ((y3.length - 0 : Int).toNat + 1) (fun s1 => s1 = (sX 29 [] [] 0)) ?_ ?_
 ·refine rnd_loop (α := Int) (fun q => (sX 29 [pf 0 (.vs 3 (List.map eGToken a0)), pf 1 (.int .i64 a1), pf 7 (.vs 1 (List.map eS y3)), pf 8 (.int .i64 q)] [] 0)) (fun k q => ref06_between_L1 a0 a1 y3 k q = some lr50) 0 (impz []) hF (fun q h => by cases h) ?_
  clear hF
  rintro k x19 hF ih
  refine rnd_succ ?_
  iterate 7 refine go ?_
  refine cnd hF (fun hb35 hF => ?_) fun hb35 hF => ?_
  ·iterate 2 refine go ?_
   refine aw_seq ?_
   refine aw_block ?_
   refine aw_seq ?_
   refine dr_start ⟨_, _, _⟩ rfl ?_
   iterate 2 refine dgo ?_
   obtain ⟨y42, h43, hF⟩ := bs hF
   refine dr_cons { need := [(18, .pv (.int .i64 a1)), (17, .pv (.vs 3 (List.map eGToken a0)))], dst := some 19, val := some (.pv (.agg (eGToken y42))) } (fun m h => step_on (guard_no rfl) (op_call 0 rfl (caps := []) (args := [.vs 3 (List.map eGToken a0), .int .i64 a1]) (rs := [.p (.agg (eGToken y42))]) rfl rfl (evl_cons h.1.2.1 (evl_cons h.1.1 evl_nil)) cal_82 (ref06_Tok_ok h43) rfl rfl rfl) rfl) ⟨⟨rfl, rfl, trivial⟩, trivial, trivial⟩ ?_
   iterate 2 refine dgo ?_
   obtain ⟨y44, h45, hF⟩ := bs hF
   refine dr_cons { need := [(20, .pv (.vs 1 (List.map eS y3))), (21, .pv (.int .i64 x19))], dst := some 22, val := some (.pv (.vp (eS y44))) } (fun m h => step_on (guard_no rfl) (op_index_vs (k := .i64) rfl h.1.1 h.1.2.1 (idx_map eS h45) slc_27 rfl rfl) rfl) ⟨⟨rfl, rfl, trivial⟩, trivial, trivial⟩ ?_
   refine dr_cons { need := [(22, .pv (.vp (eS y44)))], dst := some 23, val := some (.pv (.str y44)) } (fun m h => step_on (guard_no rfl) (op_load_vp (p := .str y44) rfl h.1.1 rfl one_9 rfl rfl) rfl) ⟨⟨rfl, trivial⟩, trivial, trivial⟩ ?_
   obtain ⟨y46, h47, hF⟩ := bs hF
   refine dr_cons { need := [(23, .pv (.str y44)), (19, .pv (.agg (eGToken y42)))], dst := some 24, val := some (.pv (.bool y46)) } (fun m h => step_on (guard_no rfl) (op_call 0 rfl (caps := []) (args := [.agg (eGToken y42), .str y44]) (rs := [.p (.bool y46)]) rfl rfl (evl_cons h.1.2.1 (evl_cons h.1.1 evl_nil)) cal_83 (ref03_Is_ok h47) rfl rfl rfl) rfl) ⟨⟨rfl, rfl, trivial⟩, trivial, trivial⟩ ?_
   refine dr_nil mixed rfl (by kernel_rfl) ?_
   refine piz (sX 29 [pf 0 (.vs 3 (List.map eGToken a0)), pf 1 (.int .i64 a1), pf 7 (.vs 1 (List.map eS y3)), pf 8 (.int .i64 x19), pf 24 (.bool y46)] [] 0) [] ?_
   refine go ?_
   refine cnd hF (fun hb48 hF => ?_) fun hb48 hF => ?_
   ·cases hF
   iterate 7 refine go ?_
   refine rnr ?_
   exact rnd_back (ih (w_i64 (x19 + 1)) hF) (impz [])
  refine aw_exit ?_
  iterate 2 refine post_then_exit ?_
  cases hF
  exact post_lp_break _ rfl (impz [])
 rintro _ rfl
 have hF := hK51
 iterate 5 refine go ?_
 cases hF
 exact prt
theorem ref06_chain_ring : ∀ n : Nat, (∀ (a0 : List GToken) (a1 : Int) (a2 : Int) (a3 : Int) (r : GGot_ref06), ref06_chain n a0 a1 a2 a3 = some r → FZ 197 [.vs 3 (List.map eGToken a0), .int .i64 a1, .int .i64 a2, .int .i64 a3] [.p (.agg (eGGot_ref06 r))]) := by
 intro n
 induction n with
 | zero => exact (fun _ _ _ _ _ h => by simp [ref06_chain] at h)
 | succ n ih =>
  have ref06_chain_ih := ih
  clear ih
  intro a0 a1 a2 a3 r hF
  unfold ref06_chain at hF
  revert hF ref06_chain_ih
  generalize ref06_chain n = ref06_chain_rec
  intro ref06_chain_ih hF
  refine fn_of_body (n := 76) Tryz.func197 rfl rfl rfl fun w O => ?_
  refine go ?_
  refine rgp (al 0 (eGGot_ref06 zGGot_ref06) zer_247) ?_
  iterate 6 refine go ?_
  refine cnd hF (fun hb1 hF => ?_) fun hb1 hF => ?_
  ·iterate 4 refine go ?_
   obtain ⟨y2, h3, hF⟩ := bs hF
   refine rgp (cl 1 [.vs 3 (List.map eGToken a0), .int .i64 a1, .int .i64 a3] [.p (.agg (eGGot_ref06 y2))] (ref06_tight_ok h3)) ?_
   iterate 4 refine go ?_
   cases hF
   exact post_ret rfl rfl (.cons _ _ _ _ _ (.agg _ _ _ _ _ 7 _ _ rfl rfl agg_247 rfl rfl rfl) (.p _) .nil) (.inl rfl)
  iterate 8 refine go ?_
  obtain ⟨y6, h7, hF⟩ := bs hF
  refine rgp (cl 1 [.vs 3 (List.map eGToken a0), .int .i64 a1, .int .i64 (w_i64 (a2 + 1)), .int .i64 a3] [.p (.agg (eGGot_ref06 y6))] (ref06_chain_ih _ _ _ _ _ h7)) ?_
  refine rgp (al 1 (eGGot_ref06 zGGot_ref06) zer_247) ?_
  iterate 2 refine go ?_
  refine aw_seq ?_
  obtain ⟨lr44, hF, hK45⟩ := bs hF
  refine aw_for (a0.length + 64) (fun s1 => s1 = (sX 76 [(8, some (.lp 0 0)), (9, some (.lp 1 0))] [bf 0 247 (eGGot_ref06 zGGot_ref06), bf 1 247 (eGGot_ref06 y6)] 2)) ?_ ?_
  ·refine rnd_loop (α := Unit) (fun q => (sX 76 [pf 0 (.vs 3 (List.map eGToken a0)), pf 2 (.int .i64 a2), pf 3 (.int .i64 a3), (8, some (.lp 0 0)), (9, some (.lp 1 0))] [bf 0 247 (eGGot_ref06 zGGot_ref06), bf 1 247 (eGGot_ref06 y6)] 2)) (fun k q => ref06_chain_L1 a0 a2 a3 y6 ref06_chain_rec k = some lr44) () (impz [0, 1]) hF (fun q h => by cases h) ?_
   clear hF
   rintro k ⟨⟩ hF ih
   refine rnd_succ ?_
   refine aw_seq ?_
   refine aw_seq ?_
   obtain ⟨x35, hF, hK37⟩ := bs hF
   refine ctx (sX 76 [pf 0 (.vs 3 (List.map eGToken a0)), pf 2 (.int .i64 a2), pf 3 (.int .i64 a3), (8, some (.lp 0 0)), (9, some (.lp 1 0)), pf 36 (.bool x35)] [bf 0 247 (eGGot_ref06 zGGot_ref06), bf 1 247 (eGGot_ref06 y6)] 2) ?_ ?_
   ·iterate 6 refine go ?_
    rcases ie hF with ⟨hb32, hF⟩ | ⟨hb32, hF⟩
    ·iterate 4 refine gn hb32 ?_
     obtain ⟨y33, h34, hF⟩ := bs hF
     refine rgn hb32 (cl 2 [.vs 3 (List.map eGToken a0), .int .i64 y6.fNext, .int .i64 a2] [.p (.str y33)] (ref06_between_ok h34)) ?_
     refine rgn hb32 (op_str rfl rfl rfl rfl rfl rfl) ?_
     refine rpt hb32 ?_
     cases hF
     exact rcz [0, 1]
    cases hF
   have hF := hK37
   refine go ?_
   refine cnd hF (fun hb38 hF => ?_) fun hb38 hF => ?_
   ·iterate 2 refine go ?_
    refine aw_block ?_
    iterate 12 refine go ?_
    obtain ⟨y41, h42, hF⟩ := bs hF
    refine rgp (cl 2 [.vs 3 (List.map eGToken a0), .int .i64 (w_i64 (y6.fNext + 1)), .int .i64 (w_i64 (a2 + 1)), .int .i64 a3] [.p (.agg (eGGot_ref06 y41))] (ref06_chain_ih _ _ _ _ _ h42)) ?_
    refine rgp (al 2 (eGGot_ref06 zGGot_ref06) zer_247) ?_
    iterate 9 refine go ?_
    refine cnd hF (fun hb43 hF => ?_) fun hb43 hF => ?_
    ·cases hF
    cases hF
   refine aw_exit ?_
   iterate 2 refine post_then_exit ?_
   cases hF
   exact post_lp_break _ rfl (impz [0, 1])
  rintro _ rfl
  have hF := hK45
  iterate 2 refine go ?_
  refine rgp (la (eGGot_ref06 y6) agg_247) ?_
  iterate 3 refine go ?_
  cases hF
  exact post_ret rfl rfl (.cons _ _ _ _ _ (.agg _ _ _ _ _ 7 _ _ rfl rfl agg_247 rfl rfl rfl) (.p _) .nil) (.inl rfl)
theorem ref06_chain_ok {n : Nat} {a0 : List GToken} {a1 : Int} {a2 : Int} {a3 : Int} {r : GGot_ref06} (hF : ref06_chain n a0 a1 a2 a3 = some r) : FZ 197 [.vs 3 (List.map eGToken a0), .int .i64 a1, .int .i64 a2, .int .i64 a3] [.p (.agg (eGGot_ref06 r))] := (ref06_chain_ring n) _ _ _ _ _ hF

theorem ref06_Parse_ok {a0 : List GToken} {a1 : Int} {r : GGot_ref06} (hF : ref06_Parse a0 a1 = some r) : FZ 191 [.vs 3 (List.map eGToken a0), .int .i64 a1] [.p (.agg (eGGot_ref06 r))] := by
 unfold ref06_Parse at hF
 refine fn_of_body (n := 17) Tryz.func191 rfl rfl rfl fun w O => ?_
 refine go ?_
 refine rgp (al 0 (eGGot_ref06 zGGot_ref06) zer_247) ?_
 iterate 4 refine go ?_
 obtain ⟨y3, h4, hF⟩ := bs hF
 refine rgp (cl 1 [.vs 3 (List.map eGToken a0), .int .i64 a1, .int .i64 0, .int .i64 0] [.p (.agg (eGGot_ref06 y3))] (ref06_chain_ok h4)) ?_
 refine rgp (al 1 (eGGot_ref06 zGGot_ref06) zer_247) ?_
 iterate 9 refine go ?_
 refine cnd hF (fun hb5 hF => ?_) fun hb5 hF => ?_
 ·cases hF
 iterate 3 refine go ?_
 refine rgp (la (eGGot_ref06 y3) agg_247) ?_
 iterate 3 refine go ?_
 cases hF
 exact post_ret rfl rfl (.cons _ _ _ _ _ (.agg _ _ _ _ _ 7 _ _ rfl rfl agg_247 rfl rfl rfl) (.p _) .nil) (.inl rfl)
theorem ref08_point_ok {a0 : List GToken} {a1 : Int} {a2 : GStmt} {r : GGot_ref08} (hF : ref08_point a0 a1 a2 = some r) : FZ 187 [.vs 3 (List.map eGToken a0), .int .i64 a1, .agg (eGStmt a2)] [.p (.agg (eGGot_ref08 r))] := by
 unfold ref08_point at hF
 refine fn_of_body (n := 90) Tryz.func187 rfl rfl rfl fun w O => ?_
 refine go ?_
 refine rgp (bo 0) ?_
 refine rgp (al 1 (eGGot_ref08 zGGot_ref08) zer_220) ?_
 iterate 4 refine go ?_
 obtain ⟨y3, h4, hF⟩ := bs hF
 refine rgp (cl 2 [.vs 3 (List.map eGToken a0), .int .i64 a1] [.p (.agg (eGToken y3))] (ref08_tok_ok h4)) ?_
 refine rgp (op_field1 (p := .str y3.fText) rfl rfl ftb_105_1 one_9 rfl rfl rfl) ?_
 iterate 8 refine go ?_
 obtain ⟨y7, h8, hF⟩ := bs hF
 refine rgp (cl 2 [.vs 3 (List.map eGToken a0), .int .i64 (w_i64 (a1 + 2))] [.p (.agg (eGToken y7))] (ref08_tok_ok h8)) ?_
 refine rgp (op_field1 (p := .int .i64 y7.fKind) rfl rfl ftb_105_0 one_3 rfl rfl rfl) ?_
 iterate 2 refine go ?_
 refine cnd hF (fun hb9 hF => ?_) fun hb9 hF => ?_
 ·cases hF
 iterate 6 refine go ?_
 obtain ⟨y12, h13, hF⟩ := bs hF
 refine rgp (cl 2 [.vs 3 (List.map eGToken a0), .int .i64 (w_i64 (a1 + 2))] [.p (.agg (eGToken y12))] (ref08_tok_ok h13)) ?_
 refine rgp (op_field1 (p := .str y12.fText) rfl rfl ftb_105_1 one_9 rfl rfl rfl) ?_
 iterate 8 refine go ?_
 obtain ⟨y16, h17, hF⟩ := bs hF
 refine rgp (cl 2 [.vs 3 (List.map eGToken a0), .int .i64 (w_i64 (a1 + 3)), .str [40]] [.p (.bool y16)] (ref08_is_ok h17)) ?_
 refine go ?_
 refine cnd hF (fun hb18 hF => ?_) fun hb18 hF => ?_
 ·iterate 4 refine go ?_
  obtain ⟨y21, h22, hF⟩ := bs hF
  refine rgp (cl 2 [.vs 3 (List.map eGToken a0), .int .i64 (w_i64 (a1 + 3))] [.p (.agg (eGGot_ref08 y21))] (ref08_args_ok h22)) ?_
  refine rgp (al 2 (eGGot_ref08 zGGot_ref08) zer_220) ?_
  iterate 9 refine go ?_
  refine cnd hF (fun hb23 hF => ?_) fun hb23 hF => ?_
  ·cases hF
  iterate 16 refine go ?_
  refine rgp (la (eGStmt ({ ({ ({ ({ a2 with fY := y3.fText } : GStmt) with fName := y12.fText } : GStmt) with fKind := 4 } : GStmt) with fArgs := y21.fA } : GStmt)) agg_48) ?_
  obtain ⟨y24, h25, hF⟩ := bs hF
  refine rgp (cl 3 [.vs 3 (List.map eGToken a0), .int .i64 y21.fNext, .agg (eGStmt ({ ({ ({ ({ a2 with fY := y3.fText } : GStmt) with fName := y12.fText } : GStmt) with fKind := 4 } : GStmt) with fArgs := y21.fA } : GStmt))] [.p (.agg (eGGot_ref08 y24))] (ref08_ends_ok h25)) ?_
  refine go ?_
  refine reg_nil ?_
  refine piz (sX 90 [(6, some (.lp 0 0))] [bf 0 220 (eGGot_ref08 y24)] 1) [1] ?_
  iterate 3 refine go ?_
  cases hF
  exact post_ret rfl rfl (.cons _ _ _ _ _ (.agg _ _ _ _ _ 28 _ _ rfl rfl agg_220 rfl rfl rfl) (.p _) .nil) (.inl rfl)
 iterate 6 refine go ?_
 refine rgp (op_str rfl rfl rfl rfl rfl rfl) ?_
 refine go ?_
 refine cnd hF (fun hb26 hF => ?_) fun hb26 hF => ?_
 ·cases hF
 iterate 7 refine go ?_
 obtain ⟨y29, h30, hF⟩ := bs hF
 refine rgp (cl 2 [.vs 3 (List.map eGToken a0), .int .i64 (w_i64 (a1 + 3)), .str [61]] [.p (.bool y29)] (ref08_is_ok h30)) ?_
 iterate 2 refine go ?_
 refine cnd hF (fun hb31 hF => ?_) fun hb31 hF => ?_
 ·cases hF
 iterate 6 refine go ?_
 obtain ⟨y34, h35, hF⟩ := bs hF
 refine rgp (cl 2 [.vs 3 (List.map eGToken a0), .int .i64 (w_i64 (a1 + 4))] [.p (.agg (eGGot_ref06 y34))] (ref06_Parse_ok h35)) ?_
 refine rgp (al 2 (eGGot_ref06 zGGot_ref06) zer_247) ?_
 iterate 9 refine go ?_
 refine cnd hF (fun hb36 hF => ?_) fun hb36 hF => ?_
 ·cases hF
 iterate 8 refine go ?_
 refine rgp (la (eGExpr y34.fE) agg_46) ?_
 iterate 2 refine go ?_
 refine reg_nil ?_
 refine piz (sX 90 [pf 0 (.vs 3 (List.map eGToken a0)), (5, some (.lp 0 0)), (6, some (.lp 1 0)), (8, some (.lp 2 0))] [bf 0 48 (eGStmt ({ ({ ({ ({ a2 with fY := y3.fText } : GStmt) with fName := y12.fText } : GStmt) with fKind := 3 } : GStmt) with fE := y34.fE } : GStmt)), bf 1 220 (eGGot_ref08 zGGot_ref08), bf 2 247 (eGGot_ref06 y34)] 3) [0, 1, 2] ?_
 iterate 5 refine go ?_
 refine rgp (la (eGStmt ({ ({ ({ ({ a2 with fY := y3.fText } : GStmt) with fName := y12.fText } : GStmt) with fKind := 3 } : GStmt) with fE := y34.fE } : GStmt)) agg_48) ?_
 obtain ⟨y37, h38, hF⟩ := bs hF
 refine rgp (cl 3 [.vs 3 (List.map eGToken a0), .int .i64 y34.fNext, .agg (eGStmt ({ ({ ({ ({ a2 with fY := y3.fText } : GStmt) with fName := y12.fText } : GStmt) with fKind := 3 } : GStmt) with fE := y34.fE } : GStmt))] [.p (.agg (eGGot_ref08 y37))] (ref08_ends_ok h38)) ?_
 iterate 3 refine go ?_
 cases hF
 exact post_ret rfl rfl (.cons _ _ _ _ _ (.agg _ _ _ _ _ 28 _ _ rfl rfl agg_220 rfl rfl rfl) (.p _) .nil) (.inl rfl)
theorem ref08_Parse_ok {a0 : List GToken} {a1 : Int} {a2 : List (List UInt8)} {a3 : Int} {r : GGot_ref08} (hF : ref08_Parse a0 a1 a2 a3 = some r) : FZ 167 [.vs 3 (List.map eGToken a0), .int .i64 a1, .vs 1 (List.map eS a2), .int .i64 a3] [.p (.agg (eGGot_ref08 r))] := by
 unfold ref08_Parse at hF
 refine fn_of_body (n := 141) Tryz.func167 rfl rfl rfl fun w O => ?_
 refine go ?_
 refine rgp (al 0 (eGGot_ref08 zGGot_ref08) zer_220) ?_
 iterate 4 refine go ?_
 obtain ⟨y3, h4, hF⟩ := bs hF
 refine rgp (cl 1 [.vs 3 (List.map eGToken a0), .int .i64 a1] [.p (.agg (eGToken y3))] (ref08_tok_ok h4)) ?_
 refine rgp (op_field1 (p := .int .i64 y3.fAt) rfl rfl ftb_105_2 one_3 rfl rfl rfl) ?_
 refine rgp (bd ((eGStmt zGStmt)) (eGStmt ({ fKind := 0, fX := [], fY := [], fName := [], fType := zGType, fE := zGExpr, fArgs := [], fBody := [], fElse := [], fAt := y3.fAt } : GStmt)) zer_48 plc_48) ?_
 refine rgp (al 1 (eGStmt zGStmt) zer_48) ?_
 iterate 7 refine go ?_
 refine cnd hF (fun hb5 hF => ?_) fun hb5 hF => ?_
 ·cases hF
 iterate 2 refine go ?_
 refine aw_seq ?_
 refine aw_seq ?_
 obtain ⟨x13, hF, hK15⟩ := bs hF
 refine ctx (sX 141 [pf 0 (.vs 3 (List.map eGToken a0)), pf 1 (.int .i64 a1), (8, some (.lp 0 0)), (9, some (.lp 1 0)), pf 29 (.bool x13)] [bf 0 220 (eGGot_ref08 zGGot_ref08), bf 1 48 (eGStmt ({ fKind := 0, fX := [], fY := [], fName := [], fType := zGType, fE := zGExpr, fArgs := [], fBody := [], fElse := [], fAt := y3.fAt } : GStmt))] 2) ?_ ?_
 ·iterate 3 refine go ?_
  obtain ⟨y8, h9, hF⟩ := bs hF
  refine rgp (cl 2 [.vs 3 (List.map eGToken a0), .int .i64 a1] [.p (.bool y8)] (ref08_whose_ok h9)) ?_
  refine go ?_
  rcases ie hF with ⟨hb10, hF⟩ | ⟨hb10, hF⟩
  ·iterate 3 refine gn hb10 ?_
   obtain ⟨y11, h12, hF⟩ := bs hF
   refine rgn hb10 (cl 2 [.vs 3 (List.map eGToken a0), .int .i64 (w_i64 (a1 + 1)), .str [46]] [.p (.bool y11)] (ref08_is_ok h12)) ?_
   refine rpt hb10 ?_
   cases hF
   exact rcz [0, 1]
  cases hF
 have hF := hK15
 refine go ?_
 refine cnd hF (fun hb16 hF => ?_) fun hb16 hF => ?_
 ·iterate 3 refine go ?_
  refine rgp (la (eGStmt ({ fKind := 0, fX := [], fY := [], fName := [], fType := zGType, fE := zGExpr, fArgs := [], fBody := [], fElse := [], fAt := y3.fAt } : GStmt)) agg_48) ?_
  obtain ⟨y17, h18, hF⟩ := bs hF
  refine rgp (cl 2 [.vs 3 (List.map eGToken a0), .int .i64 a1, .agg (eGStmt ({ fKind := 0, fX := [], fY := [], fName := [], fType := zGType, fE := zGExpr, fArgs := [], fBody := [], fElse := [], fAt := y3.fAt } : GStmt))] [.p (.agg (eGGot_ref08 y17))] (ref08_point_ok h18)) ?_
  iterate 4 refine go ?_
  cases hF
  exact post_ret rfl rfl (.cons _ _ _ _ _ (.agg _ _ _ _ _ 28 _ _ rfl rfl agg_220 rfl rfl rfl) (.p _) .nil) (.inl rfl)
 cases hF
theorem ref09_method_ok {a0 : List GToken} {a1 : Int} {a2 : List (List UInt8)} {a3_0 : List UInt8} {a3_1 : Bool} {a3_2 : Int} {a3_3 : List UInt8} {a3_4 : Int} {a3_5 : Int} {a3_6 : Int} {a3_7 : Int} {a3_8 : Int} {a3_9 : Int} {a3_10 : Int} {a3_11 : Int} {a3_12 : Int} {a3_13 : List GVar} {a3_14 : List GVar} {a3_16 : Int} {a4 : Int} {b0 : List GStmt} {r : GGot_ref09} (hF : ref09_method a0 a1 a2 a3_0 a3_1 a3_2 a3_3 a3_4 a3_5 a3_6 a3_7 a3_8 a3_9 a3_10 a3_11 a3_12 a3_13 a3_14 a3_16 a4 b0 = some r) : Abs.FnW globs_Tryz Tryz.prog 132 [.pv (.vs 3 (List.map eGToken a0)), .pv (.int .i64 a1), .pv (.vs 1 (List.map eS a2)), .agg [.pv (.str a3_0), .pv (.bool a3_1), .pv (.int .i64 a3_2), .pv (.str a3_3), .pv (.int .i64 a3_4), .pv (.int .i64 a3_5), .pv (.int .i64 a3_6), .pv (.int .i64 a3_7), .pv (.int .i64 a3_8), .pv (.int .i64 a3_9), .pv (.int .i64 a3_10), .pv (.int .i64 a3_11), .pv (.int .i64 a3_12), .pv (.vs 13 (List.map eGVar a3_13)), .pv (.vs 13 (List.map eGVar a3_14)), .ls 0, .pv (.int .i64 a3_16)], .pv (.int .i64 a4)] [(0, some (.row 48 23 (eLGStmt b0)))] 1 [] [.pv (.agg (eGGot_ref09 r))] [(0, some (.box 109 (bxv (eGGot_ref09 r))))] 1 := by
 unfold ref09_method at hF
 refine fnW_of_body (n := 89) (m := 1) [] Tryz.func132 rfl rfl rfl ?_
 intro c w O θ hcx
 refine go ?_
 refine rgp (bo 1) ?_
 refine rgp (al 2 (eGGot_ref09 zGGot_ref09) zer_109) ?_
 iterate 5 refine go ?_
 obtain ⟨y3, h4, hF⟩ := bs hF
 refine rgp (cl 3 [.vs 3 (List.map eGToken a0), .int .i64 a1, .vs 1 (List.map eS a2)] [.p (.agg (eGGot_ref09 y3))] (ref09_params_ok h4)) ?_
 refine rgp (al 3 (eGGot_ref09 zGGot_ref09) zer_109) ?_
 iterate 9 refine go ?_
 refine cnd hF (fun hb5 hF => ?_) fun hb5 hF => ?_
 ·cases hF
 iterate 13 refine go ?_
 obtain ⟨y8, h9, hF⟩ := bs hF
 refine rgp (cl 4 [.vs 3 (List.map eGToken a0), .int .i64 y3.fNext, .str [123]] [.p (.bool y8)] (ref09_is_ok h9)) ?_
 iterate 2 refine go ?_
 refine cnd hF (fun hb10 hF => ?_) fun hb10 hF => ?_
 ·cases hF
 iterate 8 refine go ?_
 obtain ⟨y13, h14, hF⟩ := bs hF
 refine rgp (cl 4 [.vs 3 (List.map eGToken a0), .int .i64 (w_i64 (y3.fNext + 1)), .vs 1 (List.map eS a2)] [.p (.agg (eGGot_ref09 y13))] (ref09_locals_ok h14)) ?_
 refine rgp (al 4 (eGGot_ref09 zGGot_ref09) zer_109) ?_
 iterate 9 refine go ?_
 refine cnd hF (fun hb15 hF => ?_) fun hb15 hF => ?_
 ·cases hF
 iterate 13 refine go ?_
 refine aw_seq ?_
 obtain ⟨lr84, hF, hK85⟩ := bs hF
 refine aw_for (a0.length + 64) (fun s1 => s1 = (sX 89 [pf 1 (.int .i64 lr84.1), (8, some (.lp 0 0)), (10, some (.lp 2 0))] [(0, some (.box 40 [.pv (.str a3_0), .pv (.bool a3_1), .pv (.int .i64 a3_2), .pv (.str a3_3), .pv (.int .i64 a3_4), .pv (.int .i64 a3_5), .pv (.int .i64 a3_6), .pv (.int .i64 a3_7), .pv (.int .i64 a3_8), .pv (.int .i64 a3_9), .pv (.int .i64 a3_10), .pv (.int .i64 a3_11), .pv (.int .i64 a3_12), .pv (.vs 13 (List.map eGVar y3.fV)), .pv (.vs 13 (List.map eGVar y13.fV)), .ls 1, .pv (.int .i64 a3_16)])), (1, some (.row 48 23 (eLGStmt lr84.2))), bf 2 109 (eGGot_ref09 zGGot_ref09)] 3)) ?_ ?_
 ·refine rnd_loop (α := Int × Int × (List GStmt)) (fun q => (sX 89 [pf 0 (.vs 3 (List.map eGToken a0)), pf 1 (.int .i64 q.1), pf 2 (.vs 1 (List.map eS a2)), pf 4 (.int .i64 q.2.1), (8, some (.lp 0 0)), (10, some (.lp 2 0))] [(0, some (.box 40 [.pv (.str a3_0), .pv (.bool a3_1), .pv (.int .i64 a3_2), .pv (.str a3_3), .pv (.int .i64 a3_4), .pv (.int .i64 a3_5), .pv (.int .i64 a3_6), .pv (.int .i64 a3_7), .pv (.int .i64 a3_8), .pv (.int .i64 a3_9), .pv (.int .i64 a3_10), .pv (.int .i64 a3_11), .pv (.int .i64 a3_12), .pv (.vs 13 (List.map eGVar y3.fV)), .pv (.vs 13 (List.map eGVar y13.fV)), .ls 1, .pv (.int .i64 a3_16)])), (1, some (.row 48 23 (eLGStmt q.2.2))), bf 2 109 (eGGot_ref09 zGGot_ref09)] 3)) (fun k q => ref09_method_L1 a0 a2 k q.1 q.2.1 q.2.2 = some lr84) (y13.fNext, a4, b0) (impz [1, 0, 2]) hF (fun q h => by cases h) ?_
  clear hF
  rintro k ⟨x35, x36, x37⟩ hF ih
  refine rnd_succ ?_
  iterate 4 refine go ?_
  obtain ⟨y62, h63, hF⟩ := bs hF
  refine rgp (cl 3 [.vs 3 (List.map eGToken a0), .int .i64 x35, .str [125]] [.p (.bool y62)] (ref09_is_ok h63)) ?_
  iterate 2 refine go ?_
  refine cnd hF (fun hb64 hF => ?_) fun hb64 hF => ?_
  ·iterate 2 refine go ?_
   refine aw_block ?_
   iterate 4 refine go ?_
   obtain ⟨y67, h68, hF⟩ := bs hF
   refine rgp (cl 3 [.vs 3 (List.map eGToken a0), .int .i64 x35, .vs 1 (List.map eS a2), .int .i64 0] [.p (.agg (eGGot_ref08 y67))] (ref08_Parse_ok h68)) ?_
   refine rgp (al 3 (eGGot_ref08 zGGot_ref08) zer_220) ?_
   iterate 9 refine go ?_
   refine cnd hF (fun hb69 hF => ?_) fun hb69 hF => ?_
   ·cases hF
   iterate 5 refine go ?_
   refine rgp (la (eGStmt y67.fS) agg_48) ?_
   obtain ⟨y72, h73, hF⟩ := bs hF
   refine rgp (cl 4 [.agg (eGStmt y67.fS)] [.p (.int .i64 y72)] (ref08_Size_ok h73)) ?_
   iterate 8 refine go ?_
   refine cnd hF (fun hb74 hF => ?_) fun hb74 hF => ?_
   ·cases hF
   iterate 6 refine go ?_
   refine rgp (la (eGStmt y67.fS) agg_48) ?_
   refine rgp (op_litR (rows := List.map eGStmt ([y67.fS] : List GStmt)) (rows' := eLGStmt ([y67.fS] : List GStmt)) (zs := (eGStmt zGStmt)) rfl rfl slc_38 zer_48 (by exact ⟨rfl, rfl, rfl, rfl, rfl, rfl, rfl, rfl, rfl, rfl, rfl, rfl, rfl, rfl, rfl, rfl, rfl, rfl, trivial, trivial, trivial, trivial, rfl, trivial⟩) rfl rfl rfl rfl rfl rfl (eLGStmt_map _) rfl rfl) ?_
   obtain ⟨u77, h78, hF⟩ := bs hF
   refine rgp (op_append 4 rfl rfl rfl rfl rfl slc_38 elm_48 zer_48 rfl rfl rfl (roomR eLGStmt_map h78) (appR eLGStmt_map _ _) rfl rfl) ?_
   refine reg_imp (imp_any 0 15 rfl) ?_
   iterate 7 refine go ?_
   refine reg_nil ?_
   refine piz (sX 89 [pf 0 (.vs 3 (List.map eGToken a0)), pf 1 (.int .i64 y67.fNext), pf 2 (.vs 1 (List.map eS a2)), pf 4 (.int .i64 (w_i64 (x36 + y72))), (8, some (.lp 0 0)), (10, some (.lp 2 0))] [(0, some (.box 40 [.pv (.str a3_0), .pv (.bool a3_1), .pv (.int .i64 a3_2), .pv (.str a3_3), .pv (.int .i64 a3_4), .pv (.int .i64 a3_5), .pv (.int .i64 a3_6), .pv (.int .i64 a3_7), .pv (.int .i64 a3_8), .pv (.int .i64 a3_9), .pv (.int .i64 a3_10), .pv (.int .i64 a3_11), .pv (.int .i64 a3_12), .pv (.vs 13 (List.map eGVar y3.fV)), .pv (.vs 13 (List.map eGVar y13.fV)), .ls 1, .pv (.int .i64 a3_16)])), (1, some (.row 48 23 (eLGStmt (x37 ++ [y67.fS])))), bf 2 109 (eGGot_ref09 zGGot_ref09)] 3) [0, 4, 2] ?_
   refine go ?_
   refine post_round ?_
   exact rnd_back (ih (y67.fNext, w_i64 (x36 + y72), (x37 ++ [y67.fS])) hF) (impz [0, 1, 2])
  refine aw_exit ?_
  iterate 2 refine post_then_exit ?_
  cases hF
  exact post_lp_break _ rfl (impz [0, 1, 2])
 rintro _ rfl
 have hF := hK85
 obtain ⟨x82, x83⟩ := lr84
 iterate 2 refine go ?_
 refine reg_imp (imp_freeze_in [(1, some (.row 48 23 (eLGStmt x83)))] [] 0 15 1 (FzH.spec ⟨rfl, trivial⟩) trivial rfl rfl rfl) ?_
 refine rgp (la (eGMethod ({ fName := a3_0, fPure := a3_1, fRet := ({ fKind := a3_2, fClass := a3_3, fN := a3_4, fOwn := (⟨({ fKind := a3_5, fN := a3_6 } : GOwner), ({ fKind := a3_7, fN := a3_8 } : GOwner), ({ fKind := a3_9, fN := a3_10 } : GOwner), ({ fKind := a3_11, fN := a3_12 } : GOwner)⟩ : A4 GOwner) } : GType), fParams := y3.fV, fLocals := y13.fV, fBody := x83, fAt := a3_16 } : GMethod)) agg_40) ?_
 iterate 2 refine go ?_
 refine rgp (bd ((eGGot_ref09 zGGot_ref09)) (eGGot_ref09 ({ fC := zGClass, fM := ({ fName := a3_0, fPure := a3_1, fRet := ({ fKind := a3_2, fClass := a3_3, fN := a3_4, fOwn := (⟨({ fKind := a3_5, fN := a3_6 } : GOwner), ({ fKind := a3_7, fN := a3_8 } : GOwner), ({ fKind := a3_9, fN := a3_10 } : GOwner), ({ fKind := a3_11, fN := a3_12 } : GOwner)⟩ : A4 GOwner) } : GType), fParams := y3.fV, fLocals := y13.fV, fBody := x83, fAt := a3_16 } : GMethod), fV := [], fN := [], fNext := w_i64 (x82 + 1), fF := zGFault } : GGot_ref09)) zer_109 plc_109) ?_
 iterate 3 refine go ?_
 refine piz (sX 89 [(10, some (.lp 0 0))] [bf 0 109 (eGGot_ref09 ({ fC := zGClass, fM := ({ fName := a3_0, fPure := a3_1, fRet := ({ fKind := a3_2, fClass := a3_3, fN := a3_4, fOwn := (⟨({ fKind := a3_5, fN := a3_6 } : GOwner), ({ fKind := a3_7, fN := a3_8 } : GOwner), ({ fKind := a3_9, fN := a3_10 } : GOwner), ({ fKind := a3_11, fN := a3_12 } : GOwner)⟩ : A4 GOwner) } : GType), fParams := y3.fV, fLocals := y13.fV, fBody := x83, fAt := a3_16 } : GMethod), fV := [], fN := [], fNext := w_i64 (x82 + 1), fF := zGFault } : GGot_ref09))] 1) [2] ?_
 cases hF
 exact post_retW hcx rfl (.cons _ _ _ _ (.agg _ _ _ _ _ 29 _ _ rfl rfl agg_109 rfl rfl rfl) .nil) rfl (.inl rfl)
end Go.Proofs.YtiefoagopfeibaaGreat
