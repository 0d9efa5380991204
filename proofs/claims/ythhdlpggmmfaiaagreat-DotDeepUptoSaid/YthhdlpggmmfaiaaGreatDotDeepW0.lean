/- A part of the proof that the law DotDeep gives true for every input. -/
import Derived.Test.YthhdlpggmmfaiaaGreatDotDeepT
import Derived.Test.YthhdlpggmmfaiaaGreatDotDeepB
import Derived.Test.YthhdlpggmmfaiaaGreatDotDeepS
import Derived.Test.YthhdlpggmmfaiaaGreatDotDeepX
import Derived.Test.YthhdlpggmmfaiaaGreatDotDeepI
/- Each Go function computes its plain function. -/
namespace Go.Proofs.YthhdlpggmmfaiaaGreat
open Go.RowKit Go.Abs
set_option maxRecDepth 100000
set_option maxHeartbeats 4000000
theorem ref10_uniques_ok {a0 : GMethod} {r : Int} (hF : ref10_uniques a0 = some r) : FZ 30 [.agg (eGMethod a0)] [.p (.int .i64 r)] := by
 unfold ref10_uniques at hF
 refine fn_of_body (n := 45) Tryz.func30 rfl rfl rfl fun w O => ?_
 refine go ?_
 refine rgp (bo 0) ?_
 iterate 9 refine go ?_
 obtain ⟨x34, hF, hK35⟩ := bs hF
 refine aw_for ((a0.fParams.length - 0 : Int).toNat + 1) (fun s1 => s1 = (sX 45 [(1, some (.lp 0 0)), pf 3 (.int .i64 x34)] [bf 0 40 (eGMethod a0)] 1)) ?_ ?_
 ·refine rnd_loop (α := Int × Int) (fun q => (sX 45 [(1, some (.lp 0 0)), pf 3 (.int .i64 q.1), pf 4 (.int .i64 q.2)] [bf 0 40 (eGMethod a0)] 1)) (fun k q => ref10_uniques_L1 a0 k q.1 q.2 = some x34) (0, 0) (impz [0]) hF (fun q h => by cases h) ?_
  clear hF
  rintro k ⟨x10, x11⟩ hF ih
  refine rnd_succ ?_
  iterate 8 refine go ?_
  refine cnd hF (fun hb23 hF => ?_) fun hb23 hF => ?_
  ·iterate 2 refine go ?_
   refine aw_seq ?_
   obtain ⟨x29, hF, hK31⟩ := bs hF
   refine ctx (sX 45 [(1, some (.lp 0 0)), pf 3 (.int .i64 x29), pf 4 (.int .i64 x11)] [bf 0 40 (eGMethod a0)] 1) ?_ ?_
   ·refine aw_block ?_
    iterate 4 refine go ?_
    obtain ⟨y26, h27, hF⟩ := bs hF
    refine rgp (ix (idx_map eGVar h27) slc_29) ?_
    iterate 2 refine go ?_
    refine rgp (op_arr_vp (k := .i64) (m := 0) (n := 4) rfl rfl rfl arr_35 rfl rfl rfl rfl) ?_
    iterate 4 refine go ?_
    refine cnd hF (fun hb28 hF => ?_) fun hb28 hF => ?_
    ·iterate 4 refine go ?_
     refine reg_nil ?_
     refine piz (sX 45 [(1, some (.lp 0 0)), pf 3 (.int .i64 (w_i64 (x10 + 1))), pf 4 (.int .i64 x11)] [bf 0 40 (eGMethod a0)] 1) [0] ?_
     refine go ?_
     cases hF
     exact pcz [0]
    iterate 2 refine go ?_
    cases hF
    exact pcz [0]
   have hF := hK31
   iterate 5 refine go ?_
   refine rnr ?_
   exact rnd_back (ih (x29, w_i64 (x11 + 1)) hF) (impz [0])
  refine aw_exit ?_
  iterate 2 refine post_then_exit ?_
  cases hF
  exact post_lp_break _ rfl (impz [0])
 rintro _ rfl
 have hF := hK35
 iterate 5 refine go ?_
 obtain ⟨x69, hF, hK70⟩ := bs hF
 refine aw_for ((a0.fLocals.length - 0 : Int).toNat + 1) (fun s1 => s1 = (sX 45 [pf 3 (.int .i64 x69)] [] 0)) ?_ ?_
 ·refine rnd_loop (α := Int × Int) (fun q => (sX 45 [(1, some (.lp 0 0)), pf 3 (.int .i64 q.1), pf 5 (.int .i64 q.2)] [bf 0 40 (eGMethod a0)] 1)) (fun k q => ref10_uniques_L2 a0 k q.1 q.2 = some x69) (x34, 0) (impz [0]) hF (fun q h => by cases h) ?_
  clear hF
  rintro k ⟨x45, x46⟩ hF ih
  refine rnd_succ ?_
  iterate 8 refine go ?_
  refine cnd hF (fun hb58 hF => ?_) fun hb58 hF => ?_
  ·iterate 2 refine go ?_
   refine aw_seq ?_
   obtain ⟨x64, hF, hK66⟩ := bs hF
   refine ctx (sX 45 [(1, some (.lp 0 0)), pf 3 (.int .i64 x64), pf 5 (.int .i64 x46)] [bf 0 40 (eGMethod a0)] 1) ?_ ?_
   ·refine aw_block ?_
    iterate 4 refine go ?_
    obtain ⟨y61, h62, hF⟩ := bs hF
    refine rgp (ix (idx_map eGVar h62) slc_29) ?_
    iterate 2 refine go ?_
    refine rgp (op_arr_vp (k := .i64) (m := 0) (n := 4) rfl rfl rfl arr_35 rfl rfl rfl rfl) ?_
    iterate 4 refine go ?_
    refine cnd hF (fun hb63 hF => ?_) fun hb63 hF => ?_
    ·iterate 4 refine go ?_
     refine reg_nil ?_
     refine piz (sX 45 [(1, some (.lp 0 0)), pf 3 (.int .i64 (w_i64 (x45 + 1))), pf 5 (.int .i64 x46)] [bf 0 40 (eGMethod a0)] 1) [0] ?_
     refine go ?_
     cases hF
     exact pcz [0]
    iterate 2 refine go ?_
    cases hF
    exact pcz [0]
   have hF := hK66
   iterate 5 refine go ?_
   refine rnr ?_
   exact rnd_back (ih (x64, w_i64 (x46 + 1)) hF) (impz [0])
  refine aw_exit ?_
  iterate 2 refine post_then_exit ?_
  cases hF
  exact post_lp_break _ rfl (impz [])
 rintro _ rfl
 have hF := hK70
 iterate 6 refine go ?_
 cases hF
 exact prt
theorem ref10_kids_ring : ∀ n : Nat, (∀ (a0 : GExpr) (a1 : Int) (r : Bool), ref10_kids n a0 a1 = some r → FZ 64 [.agg (eGExpr a0), .int .i64 a1] [.p (.bool r)]) := by
 intro n
 induction n with
 | zero => exact (fun _ _ _ h => by simp [ref10_kids] at h)
 | succ n ih =>
  have ref10_kids_ih := ih
  clear ih
  intro a0 a1 r hF
  unfold ref10_kids at hF
  revert hF ref10_kids_ih
  generalize ref10_kids n = ref10_kids_rec
  intro ref10_kids_ih hF
  refine fn_of_body (n := 29) Tryz.func64 rfl rfl rfl fun w O => ?_
  refine go ?_
  refine rgp (bo 0) ?_
  iterate 2 refine go ?_
  refine aw_seq ?_
  refine aw_seq ?_
  obtain ⟨x2, hF, hK4⟩ := bs hF
  refine ctx (sX 29 [pf 1 (.int .i64 a1), (2, some (.lp 0 0)), pf 13 (.bool x2)] [bf 0 46 (eGExpr a0)] 1) ?_ ?_
  ·iterate 4 refine go ?_
   rcases ie hF with ⟨hb1, hF⟩ | ⟨hb1, hF⟩
   ·refine rgo_t hb1 ?_
    iterate 3 refine rgo_t hb1 ?_
    refine rpt hb1 ?_
    cases hF
    exact rcz [0]
   iterate 2 refine gn hb1 ?_
   refine rgn hb1 (op_len_vs (n := a0.fKids.length) rfl rfl (lenR eLGExpr_map) slc_44 rfl rfl) ?_
   refine gn hb1 ?_
   refine rpf hb1 ?_
   cases hF
   exact rcz [0]
  have hF := hK4
  refine go ?_
  refine cnd hF (fun hb5 hF => ?_) fun hb5 hF => ?_
  ·iterate 5 refine go ?_
   cases hF
   exact prt
  iterate 6 refine go ?_
  obtain ⟨lr39, hF, hK40⟩ := bs hF
  refine aw_for ((a0.fKids.length - 0 : Int).toNat + 1) (fun s1 => ∃ q, lr39 = .next q ∧ s1 = (sX 29 [] [] 0)) ?_ ?_
  ·refine rnd_loop (α := Int) (fun q => (sX 29 [pf 1 (.int .i64 a1), (2, some (.lp 0 0)), pf 5 (.int .i64 q)] [bf 0 46 (eGExpr a0)] 1)) (fun k q => ref10_kids_L1 a0 a1 ref10_kids_rec k q = some lr39) 0 (impz [0]) hF (fun q h => by cases h) ?_
   clear hF
   rintro k x16 hF ih
   refine rnd_succ ?_
   iterate 5 refine go ?_
   refine rgp (op_len_vs (n := a0.fKids.length) rfl rfl (lenR eLGExpr_map) slc_44 rfl rfl) ?_
   iterate 2 refine go ?_
   refine cnd hF (fun hb28 hF => ?_) fun hb28 hF => ?_
   ·iterate 2 refine go ?_
    refine aw_seq ?_
    refine aw_block ?_
    iterate 4 refine go ?_
    obtain ⟨y33, h34, hF⟩ := bs hF
    refine rgp (ix (idxR eLGExpr_map h34) slc_44) ?_
    refine rgp (lw (eGExpr y33) agg_46) ?_
    iterate 2 refine go ?_
    obtain ⟨y35, h36, hF⟩ := bs hF
    refine rgp (cl 1 [.agg (eGExpr y33), .int .i64 (w_i64 (a1 - 1))] [.p (.bool y35)] (ref10_kids_ih _ _ _ h36)) ?_
    refine go ?_
    refine cnd hF (fun hb37 hF => ?_) fun hb37 hF => ?_
    ·iterate 7 refine go ?_
     refine post_lp_ret ?_
     cases hF
     have hF := elim_stop hK40
     refine go ?_
     cases hF
     exact prt
    iterate 7 refine go ?_
    refine rnr ?_
    exact rnd_back (ih (w_i64 (x16 + 1)) hF) (impz [0])
   refine aw_exit ?_
   iterate 2 refine post_then_exit ?_
   cases hF
   exact post_lp_break _ ⟨_, rfl, rfl⟩ (impz [])
  rintro _ ⟨⟨⟩, rfl, rfl⟩
  have hF := elim_next hK40
  clear hK40
  iterate 5 refine go ?_
  cases hF
  exact prt
theorem ref10_kids_ok {n : Nat} {a0 : GExpr} {a1 : Int} {r : Bool} (hF : ref10_kids n a0 a1 = some r) : FZ 64 [.agg (eGExpr a0), .int .i64 a1] [.p (.bool r)] := (ref10_kids_ring n) _ _ _ hF

theorem ref10_much_ring : ∀ n : Nat, (∀ (a0 : GStmt) (a1 : Int) (r : Bool), ref10_much n a0 a1 = some r → FZ 31 [.agg (eGStmt a0), .int .i64 a1] [.p (.bool r)]) := by
 intro n
 induction n with
 | zero => exact (fun _ _ _ h => by simp [ref10_much] at h)
 | succ n ih =>
  have ref10_much_ih := ih
  clear ih
  intro a0 a1 r hF
  unfold ref10_much at hF
  revert hF ref10_much_ih
  generalize ref10_much n = ref10_much_rec
  intro ref10_much_ih hF
  refine fn_of_body (n := 76) Tryz.func31 rfl rfl rfl fun w O => ?_
  refine go ?_
  refine rgp (bo 0) ?_
  iterate 2 refine go ?_
  refine aw_seq ?_
  refine aw_seq ?_
  obtain ⟨x7, hF, hK9⟩ := bs hF
  refine ctx (sX 76 [pf 1 (.int .i64 a1), (2, some (.lp 0 0)), pf 32 (.bool x7)] [bf 0 48 (eGStmt a0)] 1) ?_ ?_
  ·iterate 4 refine go ?_
   rcases ie hF with ⟨hb1, hF⟩ | ⟨hb1, hF⟩
   ·refine rgo_t hb1 ?_
    iterate 3 refine rgo_t hb1 ?_
    refine rpt hb1 ?_
    refine go ?_
    iterate 4 refine rgo_t rfl ?_
    refine rpt rfl ?_
    refine go ?_
    iterate 4 refine rgo_t rfl ?_
    refine rpt rfl ?_
    refine go ?_
    iterate 3 refine rgo_t rfl ?_
    refine rpt rfl ?_
    cases hF
    exact rcz [0]
   iterate 2 refine gn hb1 ?_
   refine rgn hb1 (op_len_vs (n := a0.fBody.length) rfl rfl (lenR eLGStmt_map) slc_38 rfl rfl) ?_
   refine gn hb1 ?_
   refine rpf hb1 ?_
   refine go ?_
   rcases ie hF with ⟨hb2, hF⟩ | ⟨hb2, hF⟩
   ·refine rgo_t hb2 ?_
    iterate 3 refine rgo_t hb2 ?_
    refine rpt hb2 ?_
    refine go ?_
    iterate 4 refine rgo_t rfl ?_
    refine rpt rfl ?_
    refine go ?_
    iterate 3 refine rgo_t rfl ?_
    refine rpt rfl ?_
    cases hF
    exact rcz [0]
   iterate 2 refine gn hb2 ?_
   refine rgn hb2 (op_len_vs (n := a0.fElse.length) rfl rfl (lenR eLGStmt_map) slc_38 rfl rfl) ?_
   refine gn hb2 ?_
   refine rpf hb2 ?_
   refine go ?_
   rcases ie hF with ⟨hb3, hF⟩ | ⟨hb3, hF⟩
   ·refine rgo_t hb3 ?_
    iterate 3 refine rgo_t hb3 ?_
    refine rpt hb3 ?_
    refine go ?_
    iterate 3 refine rgo_t rfl ?_
    refine rpt rfl ?_
    cases hF
    exact rcz [0]
   iterate 2 refine gn hb3 ?_
   refine rgn hb3 (op_len_vs (n := a0.fArgs.length) rfl rfl (lenR eLGExpr_map) slc_44 rfl rfl) ?_
   refine gn hb3 ?_
   refine rpf hb3 ?_
   refine go ?_
   rcases ie hF with ⟨hb4, hF⟩ | ⟨hb4, hF⟩
   ·refine rgo_t hb4 ?_
    iterate 2 refine rgo_t hb4 ?_
    refine rpt hb4 ?_
    cases hF
    exact rcz [0]
   refine gn hb4 ?_
   refine rgn hb4 (la (eGExpr a0.fE) agg_46) ?_
   obtain ⟨y5, h6, hF⟩ := bs hF
   refine rgn hb4 (cl 1 [.agg (eGExpr a0.fE), .int .i64 25] [.p (.bool y5)] (ref10_kids_ok h6)) ?_
   refine rpf hb4 ?_
   cases hF
   exact rcz [0]
  have hF := hK9
  refine go ?_
  refine cnd hF (fun hb10 hF => ?_) fun hb10 hF => ?_
  ·iterate 5 refine go ?_
   cases hF
   exact prt
  iterate 6 refine go ?_
  obtain ⟨lr44, hF, hK45⟩ := bs hF
  refine aw_for ((a0.fArgs.length - 0 : Int).toNat + 1) (fun s1 => ∃ q, lr44 = .next q ∧ s1 = (sX 76 [pf 1 (.int .i64 a1), (2, some (.lp 0 0))] [bf 0 48 (eGStmt a0)] 1)) ?_ ?_
  ·refine rnd_loop (α := Int) (fun q => (sX 76 [pf 1 (.int .i64 a1), (2, some (.lp 0 0)), pf 5 (.int .i64 q)] [bf 0 48 (eGStmt a0)] 1)) (fun k q => ref10_much_L1 a0 k q = some lr44) 0 (impz [0]) hF (fun q h => by cases h) ?_
   clear hF
   rintro k x21 hF ih
   refine rnd_succ ?_
   iterate 5 refine go ?_
   refine rgp (op_len_vs (n := a0.fArgs.length) rfl rfl (lenR eLGExpr_map) slc_44 rfl rfl) ?_
   iterate 2 refine go ?_
   refine cnd hF (fun hb33 hF => ?_) fun hb33 hF => ?_
   ·iterate 2 refine go ?_
    refine aw_seq ?_
    refine aw_block ?_
    iterate 4 refine go ?_
    obtain ⟨y38, h39, hF⟩ := bs hF
    refine rgp (ix (idxR eLGExpr_map h39) slc_44) ?_
    refine rgp (lw (eGExpr y38) agg_46) ?_
    obtain ⟨y40, h41, hF⟩ := bs hF
    refine rgp (cl 1 [.agg (eGExpr y38), .int .i64 25] [.p (.bool y40)] (ref10_kids_ok h41)) ?_
    refine go ?_
    refine cnd hF (fun hb42 hF => ?_) fun hb42 hF => ?_
    ·iterate 7 refine go ?_
     refine post_lp_ret ?_
     cases hF
     have hF := elim_stop hK45
     refine go ?_
     cases hF
     exact prt
    iterate 7 refine go ?_
    refine rnr ?_
    exact rnd_back (ih (w_i64 (x21 + 1)) hF) (impz [0])
   refine aw_exit ?_
   iterate 2 refine post_then_exit ?_
   cases hF
   exact post_lp_break _ ⟨_, rfl, rfl⟩ (impz [0])
  rintro _ ⟨⟨⟩, rfl, rfl⟩
  have hF := elim_next hK45
  clear hK45
  iterate 5 refine go ?_
  obtain ⟨lr79, hF, hK80⟩ := bs hF
  refine aw_for ((a0.fBody.length - 0 : Int).toNat + 1) (fun s1 => ∃ q, lr79 = .next q ∧ s1 = (sX 76 [pf 1 (.int .i64 a1), (2, some (.lp 0 0))] [bf 0 48 (eGStmt a0)] 1)) ?_ ?_
  ·refine rnd_loop (α := Int) (fun q => (sX 76 [pf 1 (.int .i64 a1), (2, some (.lp 0 0)), pf 6 (.int .i64 q)] [bf 0 48 (eGStmt a0)] 1)) (fun k q => ref10_much_L2 a0 a1 ref10_much_rec k q = some lr79) 0 (impz [0]) hF (fun q h => by cases h) ?_
   clear hF
   rintro k x56 hF ih
   refine rnd_succ ?_
   iterate 5 refine go ?_
   refine rgp (op_len_vs (n := a0.fBody.length) rfl rfl (lenR eLGStmt_map) slc_38 rfl rfl) ?_
   iterate 2 refine go ?_
   refine cnd hF (fun hb68 hF => ?_) fun hb68 hF => ?_
   ·iterate 2 refine go ?_
    refine aw_seq ?_
    refine aw_block ?_
    iterate 4 refine go ?_
    obtain ⟨y73, h74, hF⟩ := bs hF
    refine rgp (ix (idxR eLGStmt_map h74) slc_38) ?_
    refine rgp (lw (eGStmt y73) agg_48) ?_
    iterate 2 refine go ?_
    obtain ⟨y75, h76, hF⟩ := bs hF
    refine rgp (cl 1 [.agg (eGStmt y73), .int .i64 (w_i64 (a1 - 1))] [.p (.bool y75)] (ref10_much_ih _ _ _ h76)) ?_
    refine go ?_
    refine cnd hF (fun hb77 hF => ?_) fun hb77 hF => ?_
    ·iterate 7 refine go ?_
     refine post_lp_ret ?_
     cases hF
     have hF := elim_stop hK80
     refine go ?_
     cases hF
     exact prt
    iterate 7 refine go ?_
    refine rnr ?_
    exact rnd_back (ih (w_i64 (x56 + 1)) hF) (impz [0])
   refine aw_exit ?_
   iterate 2 refine post_then_exit ?_
   cases hF
   exact post_lp_break _ ⟨_, rfl, rfl⟩ (impz [0])
  rintro _ ⟨⟨⟩, rfl, rfl⟩
  have hF := elim_next hK80
  clear hK80
  iterate 5 refine go ?_
  obtain ⟨lr114, hF, hK115⟩ := bs hF
  refine aw_for ((a0.fElse.length - 0 : Int).toNat + 1) (fun s1 => ∃ q, lr114 = .next q ∧ s1 = (sX 76 [] [] 0)) ?_ ?_
  ·refine rnd_loop (α := Int) (fun q => (sX 76 [pf 1 (.int .i64 a1), (2, some (.lp 0 0)), pf 7 (.int .i64 q)] [bf 0 48 (eGStmt a0)] 1)) (fun k q => ref10_much_L3 a0 a1 ref10_much_rec k q = some lr114) 0 (impz [0]) hF (fun q h => by cases h) ?_
   clear hF
   rintro k x91 hF ih
   refine rnd_succ ?_
   iterate 5 refine go ?_
   refine rgp (op_len_vs (n := a0.fElse.length) rfl rfl (lenR eLGStmt_map) slc_38 rfl rfl) ?_
   iterate 2 refine go ?_
   refine cnd hF (fun hb103 hF => ?_) fun hb103 hF => ?_
   ·iterate 2 refine go ?_
    refine aw_seq ?_
    refine aw_block ?_
    iterate 4 refine go ?_
    obtain ⟨y108, h109, hF⟩ := bs hF
    refine rgp (ix (idxR eLGStmt_map h109) slc_38) ?_
    refine rgp (lw (eGStmt y108) agg_48) ?_
    iterate 2 refine go ?_
    obtain ⟨y110, h111, hF⟩ := bs hF
    refine rgp (cl 1 [.agg (eGStmt y108), .int .i64 (w_i64 (a1 - 1))] [.p (.bool y110)] (ref10_much_ih _ _ _ h111)) ?_
    refine go ?_
    refine cnd hF (fun hb112 hF => ?_) fun hb112 hF => ?_
    ·iterate 7 refine go ?_
     refine post_lp_ret ?_
     cases hF
     have hF := elim_stop hK115
     refine go ?_
     cases hF
     exact prt
    iterate 7 refine go ?_
    refine rnr ?_
    exact rnd_back (ih (w_i64 (x91 + 1)) hF) (impz [0])
   refine aw_exit ?_
   iterate 2 refine post_then_exit ?_
   cases hF
   exact post_lp_break _ ⟨_, rfl, rfl⟩ (impz [])
  rintro _ ⟨⟨⟩, rfl, rfl⟩
  have hF := elim_next hK115
  clear hK115
  iterate 5 refine go ?_
  cases hF
  exact prt
theorem ref10_much_ok {n : Nat} {a0 : GStmt} {a1 : Int} {r : Bool} (hF : ref10_much n a0 a1 = some r) : FZ 31 [.agg (eGStmt a0), .int .i64 a1] [.p (.bool r)] := (ref10_much_ring n) _ _ _ hF

theorem ref08_Size_ring : ∀ n : Nat, (∀ (a0 : GStmt) (r : Int), ref08_Size n a0 = some r → FZ 32 [.agg (eGStmt a0)] [.p (.int .i64 r)]) := by
 intro n
 induction n with
 | zero => exact (fun _ _ h => by simp [ref08_Size] at h)
 | succ n ih =>
  have ref08_Size_ih := ih
  clear ih
  intro a0 r hF
  unfold ref08_Size at hF
  revert hF ref08_Size_ih
  generalize ref08_Size n = ref08_Size_rec
  intro ref08_Size_ih hF
  refine fn_of_body (n := 37) Tryz.func32 rfl rfl rfl fun w O => ?_
  refine go ?_
  refine rgp (bo 0) ?_
  iterate 9 refine go ?_
  obtain ⟨x34, hF, hK35⟩ := bs hF
  refine aw_for ((a0.fBody.length - 0 : Int).toNat + 1) (fun s1 => s1 = (sX 37 [(1, some (.lp 0 0)), pf 3 (.int .i64 x34)] [bf 0 48 (eGStmt a0)] 1)) ?_ ?_
  ·refine rnd_loop (α := Int × Int) (fun q => (sX 37 [(1, some (.lp 0 0)), pf 3 (.int .i64 q.1), pf 4 (.int .i64 q.2)] [bf 0 48 (eGStmt a0)] 1)) (fun k q => ref08_Size_L1 a0 ref08_Size_rec k q.1 q.2 = some x34) (1, 0) (impz [0]) hF (fun q h => by cases h) ?_
   clear hF
   rintro k ⟨x10, x11⟩ hF ih
   refine rnd_succ ?_
   iterate 5 refine go ?_
   refine rgp (op_len_vs (n := a0.fBody.length) rfl rfl (lenR eLGStmt_map) slc_38 rfl rfl) ?_
   iterate 2 refine go ?_
   refine cnd hF (fun hb23 hF => ?_) fun hb23 hF => ?_
   ·iterate 2 refine go ?_
    refine aw_seq ?_
    refine aw_block ?_
    iterate 5 refine go ?_
    obtain ⟨y28, h29, hF⟩ := bs hF
    refine rgp (ix (idxR eLGStmt_map h29) slc_38) ?_
    refine rgp (lw (eGStmt y28) agg_48) ?_
    obtain ⟨y30, h31, hF⟩ := bs hF
    refine rgp (cl 1 [.agg (eGStmt y28)] [.p (.int .i64 y30)] (ref08_Size_ih _ _ h31)) ?_
    iterate 2 refine go ?_
    refine reg_nil ?_
    refine piz (sX 37 [(1, some (.lp 0 0)), pf 3 (.int .i64 (w_i64 (x10 + y30))), pf 4 (.int .i64 x11)] [bf 0 48 (eGStmt a0)] 1) [0] ?_
    iterate 6 refine go ?_
    refine rnr ?_
    exact rnd_back (ih (w_i64 (x10 + y30), w_i64 (x11 + 1)) hF) (impz [0])
   refine aw_exit ?_
   iterate 2 refine post_then_exit ?_
   cases hF
   exact post_lp_break _ rfl (impz [0])
  rintro _ rfl
  have hF := hK35
  iterate 5 refine go ?_
  obtain ⟨x69, hF, hK70⟩ := bs hF
  refine aw_for ((a0.fElse.length - 0 : Int).toNat + 1) (fun s1 => s1 = (sX 37 [pf 3 (.int .i64 x69)] [] 0)) ?_ ?_
  ·refine rnd_loop (α := Int × Int) (fun q => (sX 37 [(1, some (.lp 0 0)), pf 3 (.int .i64 q.1), pf 5 (.int .i64 q.2)] [bf 0 48 (eGStmt a0)] 1)) (fun k q => ref08_Size_L2 a0 ref08_Size_rec k q.1 q.2 = some x69) (x34, 0) (impz [0]) hF (fun q h => by cases h) ?_
   clear hF
   rintro k ⟨x45, x46⟩ hF ih
   refine rnd_succ ?_
   iterate 5 refine go ?_
   refine rgp (op_len_vs (n := a0.fElse.length) rfl rfl (lenR eLGStmt_map) slc_38 rfl rfl) ?_
   iterate 2 refine go ?_
   refine cnd hF (fun hb58 hF => ?_) fun hb58 hF => ?_
   ·iterate 2 refine go ?_
    refine aw_seq ?_
    refine aw_block ?_
    iterate 5 refine go ?_
    obtain ⟨y63, h64, hF⟩ := bs hF
    refine rgp (ix (idxR eLGStmt_map h64) slc_38) ?_
    refine rgp (lw (eGStmt y63) agg_48) ?_
    obtain ⟨y65, h66, hF⟩ := bs hF
    refine rgp (cl 1 [.agg (eGStmt y63)] [.p (.int .i64 y65)] (ref08_Size_ih _ _ h66)) ?_
    iterate 2 refine go ?_
    refine reg_nil ?_
    refine piz (sX 37 [(1, some (.lp 0 0)), pf 3 (.int .i64 (w_i64 (x45 + y65))), pf 5 (.int .i64 x46)] [bf 0 48 (eGStmt a0)] 1) [0] ?_
    iterate 6 refine go ?_
    refine rnr ?_
    exact rnd_back (ih (w_i64 (x45 + y65), w_i64 (x46 + 1)) hF) (impz [0])
   refine aw_exit ?_
   iterate 2 refine post_then_exit ?_
   cases hF
   exact post_lp_break _ rfl (impz [])
  rintro _ rfl
  have hF := hK70
  iterate 6 refine go ?_
  cases hF
  exact prt
theorem ref08_Size_ok {n : Nat} {a0 : GStmt} {r : Int} (hF : ref08_Size n a0 = some r) : FZ 32 [.agg (eGStmt a0)] [.p (.int .i64 r)] := (ref08_Size_ring n) _ _ hF

theorem ref10_Heavy_ok {a0 : List GClass} {r : Bool} (hF : ref10_Heavy a0 = some r) : FZ 7 [.vs 7 (List.map eGClass a0)] [.p (.bool r)] := by
 unfold ref10_Heavy at hF
 refine fn_of_body (n := 106) Tryz.func7 rfl rfl rfl fun w O => ?_
 iterate 10 refine go ?_
 obtain ⟨lr767, hF, hK768⟩ := bs hF
 refine aw_for ((a0.length - 0 : Int).toNat + 1) (fun s1 => ∃ q, lr767 = .next q ∧ s1 = (sX 106 [pf 3 (.int .i64 q)] [] 0)) ?_ ?_
 ·refine rnd_loop (α := Int × Int) (fun q => (sX 106 [pf 0 (.vs 7 (List.map eGClass a0)), pf 3 (.int .i64 q.1), pf 4 (.int .i64 q.2)] [] 0)) (fun k q => ref10_Heavy_L1 a0 k q.1 q.2 = some lr767) (0, 0) (impz []) hF (fun q h => by cases h) ?_
  clear hF
  rintro k ⟨x254, x255⟩ hF ih
  refine rnd_succ ?_
  iterate 7 refine go ?_
  refine cnd hF (fun hb511 hF => ?_) fun hb511 hF => ?_
  ·iterate 2 refine go ?_
   refine aw_seq ?_
   refine aw_block ?_
   iterate 3 refine go ?_
   obtain ⟨y514, h515, hF⟩ := bs hF
   refine rgp (ix (idx_map eGClass h515) slc_22) ?_
   refine rgp (lw (eGClass y514) agg_32) ?_
   refine rgp (al 0 (eGClass zGClass) zer_32) ?_
   iterate 2 refine go ?_
   refine aw_seq ?_
   refine aw_seq ?_
   obtain ⟨x520, hF, hK522⟩ := bs hF
   refine ctx (sX 106 [pf 0 (.vs 7 (List.map eGClass a0)), pf 3 (.int .i64 x254), pf 4 (.int .i64 x255), (5, some (.lp 0 0)), pf 45 (.bool x520)] [bf 0 32 (eGClass y514)] 1) ?_ ?_
   ·iterate 5 refine go ?_
    rcases ie hF with ⟨hb516, hF⟩ | ⟨hb516, hF⟩
    ·refine rgo_t hb516 ?_
     iterate 3 refine rgo_t hb516 ?_
     refine rpt hb516 ?_
     refine go ?_
     iterate 4 refine rgo_t rfl ?_
     refine rpt rfl ?_
     refine go ?_
     iterate 4 refine rgo_t rfl ?_
     refine rpt rfl ?_
     refine go ?_
     iterate 4 refine rgo_t rfl ?_
     refine rpt rfl ?_
     cases hF
     exact rcz [0]
    iterate 4 refine gn hb516 ?_
    refine rpf hb516 ?_
    refine go ?_
    rcases ie hF with ⟨hb517, hF⟩ | ⟨hb517, hF⟩
    ·refine rgo_t hb517 ?_
     iterate 3 refine rgo_t hb517 ?_
     refine rpt hb517 ?_
     refine go ?_
     iterate 4 refine rgo_t rfl ?_
     refine rpt rfl ?_
     refine go ?_
     iterate 4 refine rgo_t rfl ?_
     refine rpt rfl ?_
     cases hF
     exact rcz [0]
    iterate 4 refine gn hb517 ?_
    refine rpf hb517 ?_
    refine go ?_
    rcases ie hF with ⟨hb518, hF⟩ | ⟨hb518, hF⟩
    ·refine rgo_t hb518 ?_
     iterate 3 refine rgo_t hb518 ?_
     refine rpt hb518 ?_
     refine go ?_
     iterate 4 refine rgo_t rfl ?_
     refine rpt rfl ?_
     cases hF
     exact rcz [0]
    iterate 4 refine gn hb518 ?_
    refine rpf hb518 ?_
    refine go ?_
    rcases ie hF with ⟨hb519, hF⟩ | ⟨hb519, hF⟩
    ·refine rgo_t hb519 ?_
     iterate 3 refine rgo_t hb519 ?_
     refine rpt hb519 ?_
     cases hF
     exact rcz [0]
    iterate 4 refine gn hb519 ?_
    refine rpf hb519 ?_
    cases hF
    exact rcz [0]
   have hF := hK522
   refine go ?_
   refine cnd hF (fun hb523 hF => ?_) fun hb523 hF => ?_
   ·iterate 8 refine go ?_
    refine post_lp_ret ?_
    cases hF
    have hF := elim_stop hK768
    refine go ?_
    cases hF
    exact prt
   iterate 5 refine go ?_
   obtain ⟨lr762, hF, hK763⟩ := bs hF
   refine aw_for ((y514.fMethods.length - 0 : Int).toNat + 1) (fun s1 => ∃ q, lr762 = .next q ∧ s1 = (sX 106 [pf 0 (.vs 7 (List.map eGClass a0)), pf 3 (.int .i64 q), pf 4 (.int .i64 x255)] [] 0)) ?_ ?_
   ·refine rnd_loop (α := Int × Int) (fun q => (sX 106 [pf 0 (.vs 7 (List.map eGClass a0)), pf 3 (.int .i64 q.1), pf 4 (.int .i64 x255), (5, some (.lp 0 0)), pf 6 (.int .i64 q.2)] [bf 0 32 (eGClass y514)] 1)) (fun k q => ref10_Heavy_L2 y514 k q.1 q.2 = some lr762) (x254, 0) (impz [0]) hF (fun q h => by cases h) ?_
    clear hF
    rintro k ⟨x601, x602⟩ hF ih
    refine rnd_succ ?_
    iterate 8 refine go ?_
    refine cnd hF (fun hb682 hF => ?_) fun hb682 hF => ?_
    ·iterate 2 refine go ?_
     refine aw_seq ?_
     refine aw_block ?_
     iterate 4 refine go ?_
     obtain ⟨y685, h686, hF⟩ := bs hF
     refine rgp (ix (idx_map eGMethod h686) slc_30) ?_
     refine rgp (lw (eGMethod y685) agg_40) ?_
     refine rgp (al 1 (eGMethod zGMethod) zer_40) ?_
     iterate 2 refine go ?_
     refine aw_seq ?_
     refine aw_seq ?_
     obtain ⟨x692, hF, hK694⟩ := bs hF
     refine ctx (sX 106 [pf 0 (.vs 7 (List.map eGClass a0)), pf 3 (.int .i64 x601), pf 4 (.int .i64 x255), (5, some (.lp 0 0)), pf 6 (.int .i64 x602), (7, some (.lp 1 0)), pf 78 (.bool x692)] [bf 0 32 (eGClass y514), bf 1 40 (eGMethod y685)] 2) ?_ ?_
     ·iterate 6 refine go ?_
      rcases ie hF with ⟨hb687, hF⟩ | ⟨hb687, hF⟩
      ·refine rgo_t hb687 ?_
       iterate 3 refine rgo_t hb687 ?_
       refine rpt hb687 ?_
       refine go ?_
       iterate 4 refine rgo_t rfl ?_
       refine rpt rfl ?_
       refine go ?_
       iterate 3 refine rgo_t rfl ?_
       refine rpt rfl ?_
       cases hF
       exact rcz [0, 1]
      iterate 4 refine gn hb687 ?_
      refine rpf hb687 ?_
      refine go ?_
      rcases ie hF with ⟨hb688, hF⟩ | ⟨hb688, hF⟩
      ·refine rgo_t hb688 ?_
       iterate 3 refine rgo_t hb688 ?_
       refine rpt hb688 ?_
       refine go ?_
       iterate 3 refine rgo_t rfl ?_
       refine rpt rfl ?_
       cases hF
       exact rcz [0, 1]
      iterate 2 refine gn hb688 ?_
      refine rgn hb688 (op_len_vs (n := y685.fBody.length) rfl rfl (lenR eLGStmt_map) slc_38 rfl rfl) ?_
      refine gn hb688 ?_
      refine rpf hb688 ?_
      refine go ?_
      rcases ie hF with ⟨hb689, hF⟩ | ⟨hb689, hF⟩
      ·refine rgo_t hb689 ?_
       iterate 2 refine rgo_t hb689 ?_
       refine rpt hb689 ?_
       cases hF
       exact rcz [0, 1]
      refine rgn hb689 (la (eGMethod y685) agg_40) ?_
      obtain ⟨y690, h691, hF⟩ := bs hF
      refine rgn hb689 (cl 2 [.agg (eGMethod y685)] [.p (.int .i64 y690)] (ref10_uniques_ok h691)) ?_
      refine gn hb689 ?_
      refine rpf hb689 ?_
      cases hF
      exact rcz [0, 1]
     have hF := hK694
     refine go ?_
     refine cnd hF (fun hb695 hF => ?_) fun hb695 hF => ?_
     ·iterate 8 refine go ?_
      refine post_lp_ret ?_
      cases hF
      have hF := elim_stop hK763
      iterate 3 refine go ?_
      refine post_lp_ret ?_
      cases hF
      have hF := elim_stop hK768
      refine go ?_
      cases hF
      exact prt
     iterate 5 refine go ?_
     obtain ⟨lr757, hF, hK758⟩ := bs hF
     refine aw_for ((y685.fBody.length - 0 : Int).toNat + 1) (fun s1 => ∃ q, lr757 = .next q ∧ s1 = (sX 106 [pf 0 (.vs 7 (List.map eGClass a0)), pf 3 (.int .i64 q), pf 4 (.int .i64 x255), (5, some (.lp 0 0)), pf 6 (.int .i64 x602)] [bf 0 32 (eGClass y514)] 1)) ?_ ?_
     ·refine rnd_loop (α := Int × Int) (fun q => (sX 106 [pf 0 (.vs 7 (List.map eGClass a0)), pf 3 (.int .i64 q.1), pf 4 (.int .i64 x255), (5, some (.lp 0 0)), pf 6 (.int .i64 x602), (7, some (.lp 1 0)), pf 8 (.int .i64 q.2)] [bf 0 32 (eGClass y514), bf 1 40 (eGMethod y685)] 2)) (fun k q => ref10_Heavy_L3 y685 k q.1 q.2 = some lr757) (x601, 0) (impz [0, 1]) hF (fun q h => by cases h) ?_
      clear hF
      rintro k ⟨x714, x715⟩ hF ih
      refine rnd_succ ?_
      iterate 5 refine go ?_
      refine rgp (op_len_vs (n := y685.fBody.length) rfl rfl (lenR eLGStmt_map) slc_38 rfl rfl) ?_
      iterate 2 refine go ?_
      refine cnd hF (fun hb736 hF => ?_) fun hb736 hF => ?_
      ·iterate 2 refine go ?_
       refine aw_seq ?_
       refine aw_block ?_
       refine aw_seq ?_
       refine aw_seq ?_
       obtain ⟨x742, hF, hK744⟩ := bs hF
       refine ctx (sX 106 [pf 0 (.vs 7 (List.map eGClass a0)), pf 3 (.int .i64 x714), pf 4 (.int .i64 x255), (5, some (.lp 0 0)), pf 6 (.int .i64 x602), (7, some (.lp 1 0)), pf 8 (.int .i64 x715), pf 95 (.bool x742)] [bf 0 32 (eGClass y514), bf 1 40 (eGMethod y685)] 2) ?_ ?_
       ·iterate 4 refine go ?_
        rcases ie hF with ⟨hb737, hF⟩ | ⟨hb737, hF⟩
        ·refine rgo_t hb737 ?_
         iterate 5 refine rgo_t hb737 ?_
         refine rpt hb737 ?_
         cases hF
         exact rcz [0, 1]
        iterate 3 refine gn hb737 ?_
        obtain ⟨y738, h739, hF⟩ := bs hF
        refine rgn hb737 (ix (idxR eLGStmt_map h739) slc_38) ?_
        refine rgn hb737 (lw (eGStmt y738) agg_48) ?_
        obtain ⟨y740, h741, hF⟩ := bs hF
        refine rgn hb737 (cl 2 [.agg (eGStmt y738), .int .i64 25] [.p (.bool y740)] (ref10_much_ok h741)) ?_
        refine rpf hb737 ?_
        cases hF
        exact rcz [0, 1]
       have hF := hK744
       refine go ?_
       refine cnd hF (fun hb745 hF => ?_) fun hb745 hF => ?_
       ·iterate 8 refine go ?_
        refine post_lp_ret ?_
        cases hF
        have hF := elim_stop hK758
        iterate 3 refine go ?_
        refine post_lp_ret ?_
        cases hF
        have hF := elim_stop hK763
        iterate 3 refine go ?_
        refine post_lp_ret ?_
        cases hF
        have hF := elim_stop hK768
        refine go ?_
        cases hF
        exact prt
       iterate 7 refine go ?_
       obtain ⟨y750, h751, hF⟩ := bs hF
       refine rgp (ix (idxR eLGStmt_map h751) slc_38) ?_
       refine rgp (lw (eGStmt y750) agg_48) ?_
       obtain ⟨y752, h753, hF⟩ := bs hF
       refine rgp (cl 2 [.agg (eGStmt y750)] [.p (.int .i64 y752)] (ref08_Size_ok h753)) ?_
       iterate 2 refine go ?_
       refine reg_nil ?_
       refine piz (sX 106 [pf 0 (.vs 7 (List.map eGClass a0)), pf 3 (.int .i64 (w_i64 (x714 + y752))), pf 4 (.int .i64 x255), (5, some (.lp 0 0)), pf 6 (.int .i64 x602), (7, some (.lp 1 0)), pf 8 (.int .i64 x715)] [bf 0 32 (eGClass y514), bf 1 40 (eGMethod y685)] 2) [0, 1] ?_
       iterate 6 refine go ?_
       refine rnr ?_
       exact rnd_back (ih (w_i64 (x714 + y752), w_i64 (x715 + 1)) hF) (impz [0, 1])
      refine aw_exit ?_
      iterate 2 refine post_then_exit ?_
      cases hF
      exact post_lp_break _ ⟨_, rfl, rfl⟩ (impz [0])
     rintro _ ⟨x756, rfl, rfl⟩
     have hF := elim_next hK758
     clear hK758
     iterate 6 refine go ?_
     refine rnr ?_
     exact rnd_back (ih (x756, w_i64 (x602 + 1)) hF) (impz [0])
    refine aw_exit ?_
    iterate 2 refine post_then_exit ?_
    cases hF
    exact post_lp_break _ ⟨_, rfl, rfl⟩ (impz [])
   rintro _ ⟨x761, rfl, rfl⟩
   have hF := elim_next hK763
   clear hK763
   iterate 6 refine go ?_
   refine rnr ?_
   exact rnd_back (ih (x761, w_i64 (x255 + 1)) hF) (impz [])
  refine aw_exit ?_
  iterate 2 refine post_then_exit ?_
  cases hF
  exact post_lp_break _ ⟨_, rfl, rfl⟩ (impz [])
 rintro _ ⟨x766, rfl, rfl⟩
 have hF := elim_next hK768
 clear hK768
 iterate 7 refine go ?_
 cases hF
 exact prt
theorem law48_great_ok {a0 : List GCell} {r : Bool} (hF : law48_great a0 = some r) : FZ 15 [.vs 7 (List.map eGCell a0)] [.p (.bool r)] := by
 unfold law48_great at hF
 refine fn_of_body (n := 31) Tryz.func15 rfl rfl rfl fun w O => ?_
 iterate 7 refine go ?_
 obtain ⟨lr37, hF, hK38⟩ := bs hF
 refine aw_for ((a0.length - 0 : Int).toNat + 1) (fun s1 => ∃ q, lr37 = .next q ∧ s1 = (sX 31 [] [] 0)) ?_ ?_
 ·refine rnd_loop (α := Int) (fun q => (sX 31 [pf 0 (.vs 7 (List.map eGCell a0)), pf 3 (.int .i64 q)] [] 0)) (fun k q => law48_great_L1 a0 k q = some lr37) 0 (impz []) hF (fun q h => by cases h) ?_
  clear hF
  rintro k x12 hF ih
  refine rnd_succ ?_
  iterate 7 refine go ?_
  refine cnd hF (fun hb25 hF => ?_) fun hb25 hF => ?_
  ·iterate 2 refine go ?_
   refine aw_seq ?_
   refine aw_block ?_
   refine aw_seq ?_
   obtain ⟨x32, hF, hK34⟩ := bs hF
   refine ctx (sX 31 [pf 0 (.vs 7 (List.map eGCell a0)), pf 3 (.int .i64 x12), pf 30 (.bool x32)] [] 0) ?_ ?_
   ·iterate 5 refine go ?_
    rcases ie hF with ⟨hb26, hF⟩ | ⟨hb26, hF⟩
    ·refine rgo_t hb26 ?_
     iterate 6 refine rgo_t hb26 ?_
     refine rpt hb26 ?_
     refine go ?_
     iterate 7 refine rgo_t rfl ?_
     refine rpt rfl ?_
     cases hF
     exact rcz []
    iterate 2 (refine rgn hb26 (op_move rfl rfl rfl rfl) ?_)
    obtain ⟨y27, h28, hF⟩ := bs hF
    refine rgn hb26 (ix (idx_map eGCell h28) slc_56) ?_
    iterate 4 refine gn hb26 ?_
    refine rpf hb26 ?_
    refine go ?_
    rcases ie hF with ⟨hb29, hF⟩ | ⟨hb29, hF⟩
    ·refine rgo_t hb29 ?_
     iterate 6 refine rgo_t hb29 ?_
     refine rpt hb29 ?_
     cases hF
     exact rcz []
    iterate 2 (refine rgn hb29 (op_move rfl rfl rfl rfl) ?_)
    obtain ⟨y30, h31, hF⟩ := bs hF
    refine rgn hb29 (ix (idx_map eGCell h31) slc_56) ?_
    iterate 2 refine gn hb29 ?_
    refine rgn hb29 (op_len_str rfl rfl und_9 rfl rfl) ?_
    refine gn hb29 ?_
    refine rpf hb29 ?_
    cases hF
    exact rcz []
   have hF := hK34
   refine go ?_
   refine cnd hF (fun hb35 hF => ?_) fun hb35 hF => ?_
   ·iterate 7 refine go ?_
    refine post_lp_ret ?_
    cases hF
    have hF := elim_stop hK38
    refine go ?_
    cases hF
    exact prt
   iterate 7 refine go ?_
   refine rnr ?_
   exact rnd_back (ih (w_i64 (x12 + 1)) hF) (impz [])
  refine aw_exit ?_
  iterate 2 refine post_then_exit ?_
  cases hF
  exact post_lp_break _ ⟨_, rfl, rfl⟩ (impz [])
 rintro _ ⟨⟨⟩, rfl, rfl⟩
 have hF := elim_next hK38
 clear hK38
 iterate 5 refine go ?_
 cases hF
 exact prt
theorem ref36_Up_ok {a0 : List GCell} {a1 : Int} {r : Int} (hF : ref36_Up a0 a1 = some r) : FZ 53 [.vs 7 (List.map eGCell a0), .int .i64 a1] [.p (.int .i64 r)] := by
 unfold ref36_Up at hF
 refine fn_of_body (n := 20) Tryz.func53 rfl rfl rfl fun w O => ?_
 iterate 3 refine go ?_
 refine aw_seq ?_
 refine aw_seq ?_
 obtain ⟨x2, hF, hK4⟩ := bs hF
 refine ctx (sX 20 [pf 0 (.vs 7 (List.map eGCell a0)), pf 1 (.int .i64 a1), pf 12 (.bool x2)] [] 0) ?_ ?_
 ·iterate 4 refine go ?_
  rcases ie hF with ⟨hb1, hF⟩ | ⟨hb1, hF⟩
  ·refine rgo_t hb1 ?_
   iterate 3 refine rgo_t hb1 ?_
   refine rpt hb1 ?_
   cases hF
   exact rcz []
  iterate 2 (refine rgn hb1 (op_move rfl rfl rfl rfl) ?_)
  iterate 2 refine gn hb1 ?_
  refine rpf hb1 ?_
  cases hF
  exact rcz []
 have hF := hK4
 refine go ?_
 refine cnd hF (fun hb5 hF => ?_) fun hb5 hF => ?_
 ·iterate 5 refine go ?_
  cases hF
  exact prt
 iterate 6 refine go ?_
 obtain ⟨y6, h7, hF⟩ := bs hF
 refine rgp (ix (idx_map eGCell h7) slc_56) ?_
 refine go ?_
 refine rgp (op_arr_vp (k := .i64) (m := 0) (n := 4) rfl rfl rfl arr_61 rfl rfl rfl rfl) ?_
 iterate 4 refine go ?_
 cases hF
 exact prt
theorem ref36_way_ok {a0 : List GCell} {a1 : Int} {r : (List Int)} (hF : ref36_way a0 a1 = some r) : FZ 85 [.vs 7 (List.map eGCell a0), .int .i64 a1] [.own 3 1 (List.map eI r)] := by
 unfold ref36_way at hF
 refine fn_of_body (n := 26) Tryz.func85 rfl rfl rfl fun w O => ?_
 iterate 5 refine go ?_
 refine reg_imp (imp_nil_own 5 3 1 0 rfl rfl) ?_
 iterate 5 refine go ?_
 obtain ⟨x49, hF, hK50⟩ := bs hF
 refine aw_for (a0.length + 3) (fun s1 => s1 = (sX 26 [(5, some (.ls 0))] [(0, some (.row 3 1 (List.map eI x49)))] 1)) ?_ ?_
 ·refine rnd_loop (α := Int × (List Int) × Int) (fun q => (sX 26 [pf 0 (.vs 7 (List.map eGCell a0)), pf 1 (.int .i64 q.1), (5, some (.ls 0)), pf 6 (.int .i64 q.2.2)] [(0, some (.row 3 1 (List.map eI q.2.1)))] 1)) (fun k q => ref36_way_L1 a0 k q.1 q.2.1 q.2.2 = some x49) (a1, [], 0) (impz [0]) hF (fun q h => by cases h) ?_
  clear hF
  rintro k ⟨x14, x15, x16⟩ hF ih
  refine rnd_succ ?_
  refine aw_seq ?_
  refine aw_seq ?_
  obtain ⟨x34, hF, hK36⟩ := bs hF
  refine ctx (sX 26 [pf 0 (.vs 7 (List.map eGCell a0)), pf 1 (.int .i64 x14), (5, some (.ls 0)), pf 6 (.int .i64 x16), pf 15 (.bool x34)] [(0, some (.row 3 1 (List.map eI x15)))] 1) ?_ ?_
  ·iterate 7 refine go ?_
   rcases ie hF with ⟨hb33, hF⟩ | ⟨hb33, hF⟩
   ·iterate 2 refine gn hb33 ?_
    refine rpt hb33 ?_
    cases hF
    exact rcz [0]
   iterate 2 refine rgo_f hb33 ?_
   refine rpf hb33 ?_
   cases hF
   exact rcz [0]
  have hF := hK36
  refine go ?_
  refine cnd hF (fun hb37 hF => ?_) fun hb37 hF => ?_
  ·iterate 2 refine go ?_
   refine aw_seq ?_
   refine aw_block ?_
   iterate 3 refine go ?_
   refine rgp (op_lit (rows := List.map eI ([x14] : List Int)) (zs := [.int .i64 0]) rfl rfl slc_75 zer_3 (by exact ⟨rfl, trivial⟩) rfl rfl rfl rfl rfl rfl rfl rfl) ?_
   obtain ⟨u40, h41, hF⟩ := bs hF
   refine rgp (op_append 1 rfl rfl rfl rfl rfl slc_75 elm_3 zer_3 rfl rfl rfl (room_map (f := eI) (g := eI) h41) (List.map_append (f := eI) (l₁ := x15) (l₂ := [x14])).symm rfl rfl) ?_
   iterate 5 refine go ?_
   obtain ⟨y44, h45, hF⟩ := bs hF
   refine rgp (cl 2 [.vs 7 (List.map eGCell a0), .int .i64 x14] [.p (.int .i64 y44)] (ref36_Up_ok h45)) ?_
   refine go ?_
   refine reg_nil ?_
   refine piz (sX 26 [pf 0 (.vs 7 (List.map eGCell a0)), pf 1 (.int .i64 y44), (5, some (.ls 0)), pf 6 (.int .i64 x16)] [(0, some (.row 3 1 (List.map eI (x15 ++ [x14]))))] 1) [1] ?_
   iterate 6 refine go ?_
   refine rnr ?_
   exact rnd_back (ih (y44, (x15 ++ [x14]), w_i64 (x16 + 1)) hF) (impz [0])
  refine aw_exit ?_
  iterate 2 refine post_then_exit ?_
  cases hF
  exact post_lp_break _ rfl (impz [0])
 rintro _ rfl
 have hF := hK50
 iterate 6 refine go ?_
 cases hF
 exact post_ret rfl rfl (.cons _ _ _ _ _ (.tmp _ _ rfl) (.own _ _ _ _ rfl nolent3) .nil) (.inl rfl)
theorem ref36_Inside_ok {a0 : List GCell} {a1 : Int} {a2 : Int} {r : Bool} (hF : ref36_Inside a0 a1 a2 = some r) : FZ 54 [.vs 7 (List.map eGCell a0), .int .i64 a1, .int .i64 a2] [.p (.bool r)] := by
 unfold ref36_Inside at hF
 refine fn_of_body (n := 31) Tryz.func54 rfl rfl rfl fun w O => ?_
 iterate 3 refine go ?_
 refine aw_seq ?_
 refine aw_seq ?_
 obtain ⟨x2, hF, hK4⟩ := bs hF
 refine ctx (sX 31 [pf 0 (.vs 7 (List.map eGCell a0)), pf 1 (.int .i64 a1), pf 2 (.int .i64 a2), pf 15 (.bool x2)] [] 0) ?_ ?_
 ·iterate 5 refine go ?_
  rcases ie hF with ⟨hb1, hF⟩ | ⟨hb1, hF⟩
  ·refine rgo_t hb1 ?_
   refine rgo_t hb1 ?_
   refine rpt hb1 ?_
   cases hF
   exact rcz []
  iterate 2 refine gn hb1 ?_
  refine rpf hb1 ?_
  cases hF
  exact rcz []
 have hF := hK4
 refine go ?_
 refine cnd hF (fun hb5 hF => ?_) fun hb5 hF => ?_
 ·iterate 5 refine go ?_
  cases hF
  exact prt
 iterate 5 refine go ?_
 obtain ⟨y8, h9, hF⟩ := bs hF
 refine rgp (cl 0 [.vs 7 (List.map eGCell a0), .int .i64 a1] [.p (.vs 1 (List.map eI y8))] (Fn.frozen (ref36_way_ok h9))) ?_
 iterate 6 refine go ?_
 obtain ⟨lr31, hF, hK32⟩ := bs hF
 refine aw_for ((y8.length - 0 : Int).toNat + 1) (fun s1 => ∃ q, lr31 = .next q ∧ s1 = (sX 31 [] [] 0)) ?_ ?_
 ·refine rnd_loop (α := Int) (fun q => (sX 31 [pf 2 (.int .i64 a2), pf 7 (.vs 1 (List.map eI y8)), pf 8 (.int .i64 q)] [] 0)) (fun k q => ref36_Inside_L1 a2 y8 k q = some lr31) 0 (impz []) hF (fun q h => by cases h) ?_
  clear hF
  rintro k x16 hF ih
  refine rnd_succ ?_
  iterate 7 refine go ?_
  refine cnd hF (fun hb24 hF => ?_) fun hb24 hF => ?_
  ·iterate 2 refine go ?_
   refine aw_seq ?_
   refine aw_block ?_
   iterate 3 refine go ?_
   obtain ⟨y27, h28, hF⟩ := bs hF
   refine rgp (ix (idx_map eI h28) slc_75) ?_
   iterate 4 refine go ?_
   refine cnd hF (fun hb29 hF => ?_) fun hb29 hF => ?_
   ·iterate 7 refine go ?_
    refine post_lp_ret ?_
    cases hF
    have hF := elim_stop hK32
    refine go ?_
    cases hF
    exact prt
   iterate 7 refine go ?_
   refine rnr ?_
   exact rnd_back (ih (w_i64 (x16 + 1)) hF) (impz [])
  refine aw_exit ?_
  iterate 2 refine post_then_exit ?_
  cases hF
  exact post_lp_break _ ⟨_, rfl, rfl⟩ (impz [])
 rintro _ ⟨⟨⟩, rfl, rfl⟩
 have hF := elim_next hK32
 clear hK32
 iterate 5 refine go ?_
 cases hF
 exact prt
theorem ref36_Right_ok {a0 : List GCell} {a1 : Int} {r : Bool} (hF : ref36_Right a0 a1 = some r) : FZ 20 [.vs 7 (List.map eGCell a0), .int .i64 a1] [.p (.bool r)] := by
 unfold ref36_Right at hF
 refine fn_of_body (n := 72) Tryz.func20 rfl rfl rfl fun w O => ?_
 iterate 7 refine go ?_
 obtain ⟨lr322, hF, hK323⟩ := bs hF
 refine aw_for (a0.length + 1) (fun s1 => ∃ q, lr322 = .next q ∧ s1 = (sX 72 [] [] 0)) ?_ ?_
 ·refine rnd_loop (α := Int) (fun q => (sX 72 [pf 0 (.vs 7 (List.map eGCell a0)), pf 1 (.int .i64 a1), pf 5 (.int .i64 q)] [] 0)) (fun k q => ref36_Right_L1 a0 a1 k q = some lr322) 1 (impz []) hF (fun q h => by cases h) ?_
  clear hF
  rintro k x107 hF ih
  refine rnd_succ ?_
  iterate 7 refine go ?_
  refine cnd hF (fun hb215 hF => ?_) fun hb215 hF => ?_
  ·iterate 2 refine go ?_
   refine aw_seq ?_
   refine aw_block ?_
   iterate 8 refine go ?_
   obtain ⟨x249, hF, hK250⟩ := bs hF
   refine aw_for (a0.length + 1) (fun s1 => s1 = (sX 72 [pf 0 (.vs 7 (List.map eGCell a0)), pf 1 (.int .i64 a1), pf 5 (.int .i64 x107), pf 6 (.int .i64 x249)] [] 0)) ?_ ?_
   ·refine rnd_loop (α := Int × Int) (fun q => (sX 72 [pf 0 (.vs 7 (List.map eGCell a0)), pf 1 (.int .i64 a1), pf 5 (.int .i64 x107), pf 6 (.int .i64 q.1), pf 7 (.int .i64 q.2)] [] 0)) (fun k q => ref36_Right_L2 a0 k q.1 q.2 = some x249) (x107, 0) (impz []) hF (fun q h => by cases h) ?_
    clear hF
    rintro k ⟨x225, x226⟩ hF ih
    refine rnd_succ ?_
    refine aw_seq ?_
    refine aw_seq ?_
    obtain ⟨x239, hF, hK241⟩ := bs hF
    refine ctx (sX 72 [pf 0 (.vs 7 (List.map eGCell a0)), pf 1 (.int .i64 a1), pf 5 (.int .i64 x107), pf 6 (.int .i64 x225), pf 7 (.int .i64 x226), pf 24 (.bool x239)] [] 0) ?_ ?_
    ·iterate 6 refine go ?_
     rcases ie hF with ⟨hb238, hF⟩ | ⟨hb238, hF⟩
     ·iterate 2 refine gn hb238 ?_
      refine rpt hb238 ?_
      cases hF
      exact rcz []
     iterate 2 refine rgo_f hb238 ?_
     refine rpf hb238 ?_
     cases hF
     exact rcz []
    have hF := hK241
    refine go ?_
    refine cnd hF (fun hb242 hF => ?_) fun hb242 hF => ?_
    ·iterate 2 refine go ?_
     refine aw_seq ?_
     refine aw_block ?_
     iterate 3 refine go ?_
     obtain ⟨y245, h246, hF⟩ := bs hF
     refine rgp (cl 0 [.vs 7 (List.map eGCell a0), .int .i64 x225] [.p (.int .i64 y245)] (ref36_Up_ok h246)) ?_
     refine go ?_
     refine reg_nil ?_
     refine piz (sX 72 [pf 0 (.vs 7 (List.map eGCell a0)), pf 1 (.int .i64 a1), pf 5 (.int .i64 x107), pf 6 (.int .i64 y245), pf 7 (.int .i64 x226)] [] 0) [] ?_
     iterate 6 refine go ?_
     refine rnr ?_
     exact rnd_back (ih (y245, w_i64 (x226 + 1)) hF) (impz [])
    refine aw_exit ?_
    iterate 2 refine post_then_exit ?_
    cases hF
    exact post_lp_break _ rfl (impz [])
   rintro _ rfl
   have hF := hK250
   iterate 6 refine go ?_
   refine cnd hF (fun hb251 hF => ?_) fun hb251 hF => ?_
   ·iterate 8 refine go ?_
    refine post_lp_ret ?_
    cases hF
    have hF := elim_stop hK323
    refine go ?_
    cases hF
    exact prt
   iterate 6 refine go ?_
   obtain ⟨y254, h255, hF⟩ := bs hF
   refine rgp (ix (idx_map eGCell h255) slc_56) ?_
   refine go ?_
   refine rgp (lw ((eA4 eI) y254.fOwn) agg_61) ?_
   refine rgp (al 0 ((eA4 eI) (⟨0, 0, 0, 0⟩ : A4 Int)) zer_61) ?_
   iterate 5 refine go ?_
   obtain ⟨lr319, hF, hK320⟩ := bs hF
   refine aw_for (((4 : Int) - (0)).toNat + 1) (fun s1 => ∃ q, lr319 = .next q ∧ s1 = (sX 72 [pf 0 (.vs 7 (List.map eGCell a0)), pf 1 (.int .i64 a1), pf 5 (.int .i64 x107)] [] 0)) ?_ ?_
   ·refine rnd_loop (α := Int) (fun q => (sX 72 [pf 0 (.vs 7 (List.map eGCell a0)), pf 1 (.int .i64 a1), pf 5 (.int .i64 x107), (8, some (.lp 0 0)), pf 9 (.int .i64 q)] [bf 0 61 ((eA4 eI) y254.fOwn)] 1)) (fun k q => ref36_Right_L3 a0 a1 y254 k q = some lr319) 0 (impz [0]) hF (fun q h => by cases h) ?_
    clear hF
    rintro k x268 hF ih
    refine rnd_succ ?_
    iterate 5 refine go ?_
    refine cnd hF (fun hb294 hF => ?_) fun hb294 hF => ?_
    ·iterate 2 refine go ?_
     refine aw_seq ?_
     refine aw_block ?_
     refine aw_seq ?_
     obtain ⟨x314, hF, hK316⟩ := bs hF
     refine ctx (sX 72 [pf 0 (.vs 7 (List.map eGCell a0)), pf 1 (.int .i64 a1), pf 5 (.int .i64 x107), (8, some (.lp 0 0)), pf 9 (.int .i64 x268), pf 71 (.bool x314)] [bf 0 61 ((eA4 eI) y254.fOwn)] 1) ?_ ?_
     ·refine dr_start ⟨_, _, _⟩ rfl ?_
      refine dgo ?_
      obtain ⟨y297, h298, hF⟩ := bs hF
      refine dk 43 [(8, .lp 0 0), (42, .pv (.int .i64 x268))] (.lp 0 (0 + (x268 : Int).toNat * 1)) (fun m h => ⟨_, op_arr_lpN (l := (y254.fOwn).l) rfl h.1.1 h.1.2.1 arr_61 rfl h298 rfl rfl, rfl⟩) ?_
      refine dr_cons { need := [(43, .lp 0 (0 + (x268 : Int).toNat * 1))], hneed := [(0, .box 61 (bxv ((eA4 eI) y254.fOwn)))], dst := some 44, val := some (.pv (.int .i64 y297)) } (fun m h => step_on (guard_no rfl) (op_load_lp (v := .pv (.int .i64 y297)) rfl h.1.1 h.2.1.1 (arr_cellN (j := 0) (l := (y254.fOwn).l) (f := eI) rfl (fun _ => rfl) rfl h298 rfl) one_3 rfl rfl) rfl) ⟨⟨rfl, trivial⟩, ⟨rfl, trivial⟩, trivial⟩ ?_
      refine dgo ?_
      refine dk 46 [(45, .pv (.vs 7 (List.map eGCell a0)))] (.pv (.int .i64 (a0.length : Int))) (fun m h => ⟨_, op_len_vs (n := a0.length) rfl h.1.1 (List.length_map ..) slc_56 rfl rfl, rfl⟩) ?_
      refine dk 47 [(44, .pv (.int .i64 y297)), (46, .pv (.int .i64 (a0.length : Int)))] (.pv (.bool (decide (y297 > (a0.length : Int))))) (fun m h => ⟨_, op_int (k := .i64) (m := y297) (n := (a0.length : Int)) rfl h.1.1 h.1.2.1 rfl rfl rfl, rfl⟩) ?_
      refine dgo ?_
      rcases ie hF with ⟨hb299, hF⟩ | ⟨hb299, hF⟩
      ·refine dro_t hb299 ?_
       iterate 4 refine dro_t hb299 ?_
       iterate 6 refine dgo ?_
       refine dro_t hb299 ?_
       refine drpt hb299 ?_
       refine dgo ?_
       iterate 8 refine dro_t rfl ?_
       refine drpt rfl ?_
       refine dr_nil mixed rfl (by kernel_rfl) ?_
       refine piz (sX 72 [pf 0 (.vs 7 (List.map eGCell a0)), pf 1 (.int .i64 a1), pf 5 (.int .i64 x107), (8, some (.lp 0 0)), pf 9 (.int .i64 x268), pf 71 (.bool true)] [bf 0 61 ((eA4 eI) y254.fOwn)] 1) [0] ?_
       cases hF
       exact pcz [0]
      refine dkg hb299 49 [(9, .pv (.int .i64 x268))] (.pv (.int .i64 x268)) (fun m h => ⟨_, op_move rfl h.1.2.1 rfl rfl, rfl⟩) ?_
      obtain ⟨y300, h301, hF⟩ := bs hF
      refine dkg hb299 50 [(8, .lp 0 0), (49, .pv (.int .i64 x268))] (.lp 0 (0 + (x268 : Int).toNat * 1)) (fun m h => ⟨_, op_arr_lpN (l := (y254.fOwn).l) rfl h.1.2.1 h.1.2.2.1 arr_61 rfl h301 rfl rfl, rfl⟩) ?_
      refine dr_cons { need := [(48, .pv (.bool (decide (y297 > (a0.length : Int))))), (50, .lp 0 (0 + (x268 : Int).toNat * 1))], hneed := [(0, .box 61 (bxv ((eA4 eI) y254.fOwn)))], dst := some 51, val := some (.pv (.int .i64 y300)) } (fun m h => step_on (guard_on rfl rfl rfl h.1.1 hb299) (op_load_lp (v := .pv (.int .i64 y300)) rfl h.1.2.1 h.2.1.1 (arr_cellN (j := 0) (l := (y254.fOwn).l) (f := eI) rfl (fun _ => rfl) rfl h301 rfl) one_3 rfl rfl) rfl) ⟨⟨rfl, rfl, trivial⟩, ⟨rfl, trivial⟩, trivial⟩ ?_
      refine dgn hb299 ?_
      refine dkg hb299 53 [(52, .pv (.bool (decide (y300 < 0))))] (.pv (.bool (decide (y300 < 0)))) (fun m h => ⟨_, op_move rfl h.1.2.1 rfl rfl, rfl⟩) ?_
      rcases ie hF with ⟨hb302, hF⟩ | ⟨hb302, hF⟩
      ·refine dkg hb302 54 [(9, .pv (.int .i64 x268))] (.pv (.int .i64 x268)) (fun m h => ⟨_, op_move rfl h.1.2.1 rfl rfl, rfl⟩) ?_
       obtain ⟨y303, h304, hF⟩ := bs hF
       refine dkg hb302 55 [(8, .lp 0 0), (54, .pv (.int .i64 x268))] (.lp 0 (0 + (x268 : Int).toNat * 1)) (fun m h => ⟨_, op_arr_lpN (l := (y254.fOwn).l) rfl h.1.2.1 h.1.2.2.1 arr_61 rfl h304 rfl rfl, rfl⟩) ?_
       refine dr_cons { need := [(53, .pv (.bool (decide (y300 < 0)))), (55, .lp 0 (0 + (x268 : Int).toNat * 1))], hneed := [(0, .box 61 (bxv ((eA4 eI) y254.fOwn)))], dst := some 56, val := some (.pv (.int .i64 y303)) } (fun m h => step_on (guard_on rfl rfl rfl h.1.1 hb302) (op_load_lp (v := .pv (.int .i64 y303)) rfl h.1.2.1 h.2.1.1 (arr_cellN (j := 0) (l := (y254.fOwn).l) (f := eI) rfl (fun _ => rfl) rfl h304 rfl) one_3 rfl rfl) rfl) ⟨⟨rfl, rfl, trivial⟩, ⟨rfl, trivial⟩, trivial⟩ ?_
       refine dkg hb302 57 [(1, .pv (.int .i64 a1))] (.pv (.int .i64 a1)) (fun m h => ⟨_, op_move rfl h.1.2.1 rfl rfl, rfl⟩) ?_
       refine dkg hb302 58 [(57, .pv (.int .i64 a1))] (.pv (.int .i64 (w_i64 (0 - a1)))) (fun m h => ⟨_, op_neg rfl h.1.2.1 rfl rfl, rfl⟩) ?_
       refine dkg hb302 59 [(56, .pv (.int .i64 y303)), (58, .pv (.int .i64 (w_i64 (0 - a1))))] (.pv (.bool (decide (y303 < (w_i64 (0 - a1)))))) (fun m h => ⟨_, op_int (k := .i64) (m := y303) (n := w_i64 (0 - a1)) rfl h.1.2.1 h.1.2.2.1 rfl rfl rfl, rfl⟩) ?_
       refine dkg hb299 60 [(53, .pv (.bool (decide (y300 < 0)))), (59, .pv (.bool (decide (y303 < (w_i64 (0 - a1))))))] (.pv (.bool (decide (y303 < (w_i64 (0 - a1)))))) (fun m h => ⟨_, op_pick_t rfl h.1.2.1 hb302 h.1.2.2.1 rfl rfl, rfl⟩) ?_
       refine dk 61 [(48, .pv (.bool (decide (y297 > (a0.length : Int))))), (60, .pv (.bool (decide (y303 < (w_i64 (0 - a1))))))] (.pv (.bool (decide (y303 < (w_i64 (0 - a1)))))) (fun m h => ⟨_, op_pick_f rfl h.1.1 hb299 h.1.2.1 rfl rfl, rfl⟩) ?_
       refine dgo ?_
       rcases ie hF with ⟨hb305, hF⟩ | ⟨hb305, hF⟩
       ·refine dro_t hb305 ?_
        iterate 7 refine dro_t hb305 ?_
        refine drpt hb305 ?_
        refine dr_nil mixed rfl (by kernel_rfl) ?_
        refine piz (sX 72 [pf 0 (.vs 7 (List.map eGCell a0)), pf 1 (.int .i64 a1), pf 5 (.int .i64 x107), (8, some (.lp 0 0)), pf 9 (.int .i64 x268), pf 71 (.bool true)] [bf 0 61 ((eA4 eI) y254.fOwn)] 1) [0] ?_
        cases hF
        exact pcz [0]
       refine dkg hb305 63 [(0, .pv (.vs 7 (List.map eGCell a0)))] (.pv (.vs 7 (List.map eGCell a0))) (fun m h => ⟨_, op_move rfl h.1.2.1 rfl rfl, rfl⟩) ?_
       refine dkg hb305 64 [(8, .lp 0 0)] (.lp 0 0) (fun m h => ⟨_, op_arr_lp (k := .i64) (m := 0) (n := 4) rfl h.1.2.1 rfl arr_61 rfl rfl rfl rfl, rfl⟩) ?_
       refine dgn hb305 ?_
       refine dkg hb305 66 [(9, .pv (.int .i64 x268))] (.pv (.int .i64 x268)) (fun m h => ⟨_, op_move rfl h.1.2.1 rfl rfl, rfl⟩) ?_
       obtain ⟨y306, h307, hF⟩ := bs hF
       refine dkg hb305 67 [(8, .lp 0 0), (66, .pv (.int .i64 x268))] (.lp 0 (0 + (x268 : Int).toNat * 1)) (fun m h => ⟨_, op_arr_lpN (l := (y254.fOwn).l) rfl h.1.2.1 h.1.2.2.1 arr_61 rfl h307 rfl rfl, rfl⟩) ?_
       refine dr_cons { need := [(62, .pv (.bool (decide (y303 < (w_i64 (0 - a1)))))), (67, .lp 0 (0 + (x268 : Int).toNat * 1))], hneed := [(0, .box 61 (bxv ((eA4 eI) y254.fOwn)))], dst := some 68, val := some (.pv (.int .i64 y306)) } (fun m h => step_on (guard_on rfl rfl rfl h.1.1 hb305) (op_load_lp (v := .pv (.int .i64 y306)) rfl h.1.2.1 h.2.1.1 (arr_cellN (j := 0) (l := (y254.fOwn).l) (f := eI) rfl (fun _ => rfl) rfl h307 rfl) one_3 rfl rfl) rfl) ⟨⟨rfl, rfl, trivial⟩, ⟨rfl, trivial⟩, trivial⟩ ?_
       obtain ⟨y308, h309, hF⟩ := bs hF
       refine dkg hb305 69 [(68, .pv (.int .i64 y306)), (65, .pv (.int .i64 y254.fOwn.a0)), (63, .pv (.vs 7 (List.map eGCell a0)))] (.pv (.bool y308)) (fun m h => ⟨_, op_call 1 rfl (caps := []) (args := [.vs 7 (List.map eGCell a0), .int .i64 y254.fOwn.a0, .int .i64 y306]) (rs := [.p (.bool y308)]) rfl rfl (evl_cons h.1.2.2.2.1 (evl_cons h.1.2.2.1 (evl_cons h.1.2.1 evl_nil))) cal_54 (ref36_Inside_ok h309) rfl rfl rfl, rfl⟩) ?_
       refine dkg hb305 70 [(69, .pv (.bool y308))] (.pv (.bool (!y308))) (fun m h => ⟨_, op_not rfl h.1.2.1 rfl rfl, rfl⟩) ?_
       refine dk 71 [(62, .pv (.bool (decide (y303 < (w_i64 (0 - a1)))))), (70, .pv (.bool (!y308)))] (.pv (.bool (!y308))) (fun m h => ⟨_, op_pick_f rfl h.1.1 hb305 h.1.2.1 rfl rfl, rfl⟩) ?_
       refine dr_nil mixed rfl (by kernel_rfl) ?_
       refine piz (sX 72 [pf 0 (.vs 7 (List.map eGCell a0)), pf 1 (.int .i64 a1), pf 5 (.int .i64 x107), (8, some (.lp 0 0)), pf 9 (.int .i64 x268), pf 71 (.bool (!y308))] [bf 0 61 ((eA4 eI) y254.fOwn)] 1) [0] ?_
       cases hF
       exact pcz [0]
      iterate 6 refine dro_f hb302 ?_
      refine dkg hb299 60 [(53, .pv (.bool (decide (y300 < 0))))] (.pv (.bool false)) (fun m h => ⟨_, op_pick_f rfl h.1.2.1 hb302 rfl rfl rfl, rfl⟩) ?_
      refine dk 61 [(48, .pv (.bool (decide (y297 > (a0.length : Int))))), (60, .pv (.bool false))] (.pv (.bool false)) (fun m h => ⟨_, op_pick_f rfl h.1.1 hb299 h.1.2.1 rfl rfl, rfl⟩) ?_
      refine dgo ?_
      refine dkg rfl 63 [(0, .pv (.vs 7 (List.map eGCell a0)))] (.pv (.vs 7 (List.map eGCell a0))) (fun m h => ⟨_, op_move rfl h.1.2.1 rfl rfl, rfl⟩) ?_
      refine dkg rfl 64 [(8, .lp 0 0)] (.lp 0 0) (fun m h => ⟨_, op_arr_lp (k := .i64) (m := 0) (n := 4) rfl h.1.2.1 rfl arr_61 rfl rfl rfl rfl, rfl⟩) ?_
      refine dgn rfl ?_
      refine dkg rfl 66 [(9, .pv (.int .i64 x268))] (.pv (.int .i64 x268)) (fun m h => ⟨_, op_move rfl h.1.2.1 rfl rfl, rfl⟩) ?_
      obtain ⟨y310, h311, hF⟩ := bs hF
      refine dkg rfl 67 [(8, .lp 0 0), (66, .pv (.int .i64 x268))] (.lp 0 (0 + (x268 : Int).toNat * 1)) (fun m h => ⟨_, op_arr_lpN (l := (y254.fOwn).l) rfl h.1.2.1 h.1.2.2.1 arr_61 rfl h311 rfl rfl, rfl⟩) ?_
      refine dr_cons { need := [(62, .pv (.bool false)), (67, .lp 0 (0 + (x268 : Int).toNat * 1))], hneed := [(0, .box 61 (bxv ((eA4 eI) y254.fOwn)))], dst := some 68, val := some (.pv (.int .i64 y310)) } (fun m h => step_on (guard_on rfl rfl rfl h.1.1 rfl) (op_load_lp (v := .pv (.int .i64 y310)) rfl h.1.2.1 h.2.1.1 (arr_cellN (j := 0) (l := (y254.fOwn).l) (f := eI) rfl (fun _ => rfl) rfl h311 rfl) one_3 rfl rfl) rfl) ⟨⟨rfl, rfl, trivial⟩, ⟨rfl, trivial⟩, trivial⟩ ?_
      obtain ⟨y312, h313, hF⟩ := bs hF
      refine dkg rfl 69 [(68, .pv (.int .i64 y310)), (65, .pv (.int .i64 y254.fOwn.a0)), (63, .pv (.vs 7 (List.map eGCell a0)))] (.pv (.bool y312)) (fun m h => ⟨_, op_call 1 rfl (caps := []) (args := [.vs 7 (List.map eGCell a0), .int .i64 y254.fOwn.a0, .int .i64 y310]) (rs := [.p (.bool y312)]) rfl rfl (evl_cons h.1.2.2.2.1 (evl_cons h.1.2.2.1 (evl_cons h.1.2.1 evl_nil))) cal_54 (ref36_Inside_ok h313) rfl rfl rfl, rfl⟩) ?_
      refine dkg rfl 70 [(69, .pv (.bool y312))] (.pv (.bool (!y312))) (fun m h => ⟨_, op_not rfl h.1.2.1 rfl rfl, rfl⟩) ?_
      refine dk 71 [(62, .pv (.bool false)), (70, .pv (.bool (!y312)))] (.pv (.bool (!y312))) (fun m h => ⟨_, op_pick_f rfl h.1.1 rfl h.1.2.1 rfl rfl, rfl⟩) ?_
      refine dr_nil mixed rfl (by kernel_rfl) ?_
      refine piz (sX 72 [pf 0 (.vs 7 (List.map eGCell a0)), pf 1 (.int .i64 a1), pf 5 (.int .i64 x107), (8, some (.lp 0 0)), pf 9 (.int .i64 x268), pf 71 (.bool (!y312))] [bf 0 61 ((eA4 eI) y254.fOwn)] 1) [0] ?_
      cases hF
      exact pcz [0]
     have hF := hK316
     refine go ?_
     refine cnd hF (fun hb317 hF => ?_) fun hb317 hF => ?_
     ·iterate 7 refine go ?_
      refine post_lp_ret ?_
      cases hF
      have hF := elim_stop hK320
      iterate 3 refine go ?_
      refine post_lp_ret ?_
      cases hF
      have hF := elim_stop hK323
      refine go ?_
      cases hF
      exact prt
     iterate 7 refine go ?_
     refine rnr ?_
     exact rnd_back (ih (w_i64 (x268 + 1)) hF) (impz [0])
    refine aw_exit ?_
    iterate 2 refine post_then_exit ?_
    cases hF
    exact post_lp_break _ ⟨_, rfl, rfl⟩ (impz [])
   rintro _ ⟨⟨⟩, rfl, rfl⟩
   have hF := elim_next hK320
   clear hK320
   iterate 6 refine go ?_
   refine rnr ?_
   exact rnd_back (ih (w_i64 (x107 + 1)) hF) (impz [])
  refine aw_exit ?_
  iterate 2 refine post_then_exit ?_
  cases hF
  exact post_lp_break _ ⟨_, rfl, rfl⟩ (impz [])
 rintro _ ⟨⟨⟩, rfl, rfl⟩
 have hF := elim_next hK323
 clear hK323
 iterate 5 refine go ?_
 cases hF
 exact prt
theorem law48_bushy_ok {a0 : List GCell} {r : Bool} (hF : law48_bushy a0 = some r) : FZ 19 [.vs 7 (List.map eGCell a0)] [.p (.bool r)] := by
 unfold law48_bushy at hF
 refine fn_of_body (n := 6) Tryz.func19 rfl rfl rfl fun w O => ?_
 iterate 5 refine go ?_
 obtain ⟨y1, h2, hF⟩ := bs hF
 refine rgp (cl 0 [.vs 7 (List.map eGCell a0), .int .i64 4096] [.p (.bool y1)] (ref36_Right_ok h2)) ?_
 iterate 4 refine go ?_
 cases hF
 exact prt
theorem ref02_Blank_ok {a0 : Int} {r : Bool} (hF : ref02_Blank a0 = some r) : FZ 126 [.int .u8 a0] [.p (.bool r)] := by
 unfold ref02_Blank at hF
 refine fn_of_body (n := 17) Tryz.func126 rfl rfl rfl fun w O => ?_
 iterate 7 refine go ?_
 rcases ie hF with ⟨hb1, hF⟩ | ⟨hb1, hF⟩
 ·cases hF
 iterate 2 refine gn hb1 ?_
 refine rpf hb1 ?_
 refine go ?_
 rcases ie hF with ⟨hb2, hF⟩ | ⟨hb2, hF⟩
 ·cases hF
 iterate 2 refine gn hb2 ?_
 refine rpf hb2 ?_
 refine go ?_
 rcases ie hF with ⟨hb3, hF⟩ | ⟨hb3, hF⟩
 ·cases hF
 iterate 2 refine gn hb3 ?_
 refine rpf hb3 ?_
 iterate 3 refine go ?_
 cases hF
 exact prt
theorem ref03_skip_ok {a0 : List UInt8} {r : Int} (hF : ref03_skip a0 = some r) : FZ 96 [.str a0] [.p (.int .i64 r)] := by
 unfold ref03_skip at hF
 refine fn_of_body (n := 46) Tryz.func96 rfl rfl rfl fun w O => ?_
 iterate 6 refine go ?_
 refine aw_seq ?_
 obtain ⟨lr53, hF, hK54⟩ := bs hF
 refine aw_for (a0.length + 64) (fun s1 => ∃ q, lr53 = .next q ∧ s1 = (sX 46 [pf 3 (.int .i64 q)] [] 0)) ?_ ?_
 ·refine rnd_loop (α := Int) (fun q => (sX 46 [pf 0 (.str a0), pf 3 (.int .i64 q)] [] 0)) (fun k q => ref03_skip_L1 a0 k q = some lr53) 0 (impz []) hF (fun q h => by cases h) ?_
  clear hF
  rintro k x17 hF ih
  refine rnd_succ ?_
  iterate 4 refine go ?_
  refine rgp (op_len_str rfl rfl und_9 rfl rfl) ?_
  iterate 2 refine go ?_
  refine cnd hF (fun hb35 hF => ?_) fun hb35 hF => ?_
  ·iterate 2 refine go ?_
   refine aw_block ?_
   iterate 4 refine go ?_
   obtain ⟨y40, h41, hF⟩ := bs hF
   refine rgp (op_index_str (k := .i64) rfl rfl rfl h41 und_9 rfl rfl) ?_
   obtain ⟨y42, h43, hF⟩ := bs hF
   refine rgp (cl 0 [.int .u8 (y40.toNat : Int)] [.p (.bool y42)] (ref02_Blank_ok h43)) ?_
   refine go ?_
   refine cnd hF (fun hb44 hF => ?_) fun hb44 hF => ?_
   ·iterate 5 refine go ?_
    refine aw_exit ?_
    refine post_then_exit ?_
    refine post_block_exit ?_
    refine post_round ?_
    exact rnd_back (ih (w_i64 (x17 + 1)) hF) (impz [])
   iterate 2 refine go ?_
   refine aw_seq ?_
   refine aw_seq ?_
   obtain ⟨p49, hF, hK50⟩ := bs hF
   refine ctx (sX 46 [pf 3 (.int .i64 x17), pf 31 (.bool true)] [] 0) ?_ ?_
   ·iterate 4 refine go ?_
    refine rgp (op_len_str rfl rfl und_9 rfl rfl) ?_
    iterate 2 refine go ?_
    rcases ie hF with ⟨hb45, hF⟩ | ⟨hb45, hF⟩
    ·refine rgo_t hb45 ?_
     iterate 3 refine rgo_t hb45 ?_
     refine rpt hb45 ?_
     refine go ?_
     iterate 5 refine rgo_t rfl ?_
     refine rpt rfl ?_
     cases hF
     exact rcz []
    iterate 2 (refine rgn hb45 (op_move rfl rfl rfl rfl) ?_)
    obtain ⟨y46, h47, hF⟩ := bs hF
    refine rgn hb45 (op_index_str (k := .i64) rfl rfl rfl h47 und_9 rfl rfl) ?_
    refine gn hb45 ?_
    refine rpf hb45 ?_
    refine go ?_
    rcases ie hF with ⟨hb48, hF⟩ | ⟨hb48, hF⟩
    ·refine rgo_t hb48 ?_
     iterate 4 refine rgo_t hb48 ?_
     refine rpt hb48 ?_
     cases hF
     exact rcz []
    cases hF
   have hF := hK50
   refine go ?_
   refine aw_cond_t rfl rfl ?_
   iterate 8 refine go ?_
   refine post_lp_ret ?_
   cases hF
   have hF := elim_stop hK54
   refine go ?_
   cases hF
   exact prt
  refine aw_exit ?_
  iterate 2 refine post_then_exit ?_
  cases hF
  exact post_lp_break _ ⟨_, rfl, rfl⟩ (impz [])
 rintro _ ⟨x52, rfl, rfl⟩
 have hF := elim_next hK54
 clear hK54
 iterate 6 refine go ?_
 cases hF
 exact prt
theorem ref02_Letter_ok {a0 : Int} {r : Bool} (hF : ref02_Letter a0 = some r) : FZ 90 [.int .u8 a0] [.p (.bool r)] := by
 unfold ref02_Letter at hF
 refine fn_of_body (n := 17) Tryz.func90 rfl rfl rfl fun w O => ?_
 iterate 7 refine go ?_
 rcases ie hF with ⟨hb1, hF⟩ | ⟨hb1, hF⟩
 ·iterate 2 refine gn hb1 ?_
  refine rpt hb1 ?_
  refine go ?_
  rcases ie hF with ⟨hb2, hF⟩ | ⟨hb2, hF⟩
  ·refine rgo_t hb2 ?_
   iterate 2 refine rgo_t hb2 ?_
   iterate 2 refine go ?_
   refine rgo_t hb2 ?_
   refine rpt hb2 ?_
   iterate 3 refine go ?_
   cases hF
   exact prt
  iterate 3 refine gn hb2 ?_
  rcases ie hF with ⟨hb3, hF⟩ | ⟨hb3, hF⟩
  ·iterate 2 refine gn hb3 ?_
   refine rgn hb2 (op_pick_t rfl rfl hb3 rfl rfl rfl) ?_
   refine rpf hb2 ?_
   iterate 3 refine go ?_
   cases hF
   exact prt
  iterate 2 refine rgo_f hb3 ?_
  refine rgn hb2 (op_pick_f rfl rfl hb3 rfl rfl rfl) ?_
  refine rpf hb2 ?_
  iterate 3 refine go ?_
  cases hF
  exact prt
 iterate 2 refine rgo_f hb1 ?_
 refine rpf hb1 ?_
 refine go ?_
 iterate 3 refine gn rfl ?_
 rcases ie hF with ⟨hb4, hF⟩ | ⟨hb4, hF⟩
 ·iterate 2 refine gn hb4 ?_
  refine rgn rfl (op_pick_t rfl rfl hb4 rfl rfl rfl) ?_
  refine rpf rfl ?_
  iterate 3 refine go ?_
  cases hF
  exact prt
 iterate 2 refine rgo_f hb4 ?_
 refine rgn rfl (op_pick_f rfl rfl hb4 rfl rfl rfl) ?_
 refine rpf rfl ?_
 iterate 3 refine go ?_
 cases hF
 exact prt
theorem ref02_Digit_ok {a0 : Int} {r : Bool} (hF : ref02_Digit a0 = some r) : FZ 92 [.int .u8 a0] [.p (.bool r)] := by
 unfold ref02_Digit at hF
 refine fn_of_body (n := 9) Tryz.func92 rfl rfl rfl fun w O => ?_
 iterate 7 refine go ?_
 rcases ie hF with ⟨hb1, hF⟩ | ⟨hb1, hF⟩
 ·iterate 2 refine gn hb1 ?_
  refine rpt hb1 ?_
  iterate 3 refine go ?_
  cases hF
  exact prt
 iterate 2 refine rgo_f hb1 ?_
 refine rpf hb1 ?_
 iterate 3 refine go ?_
 cases hF
 exact prt
theorem ref02_Words_ok  {r : (List (List UInt8))} (hF : ref02_Words = some r) : FZ 122 [] [.p (.vs 1 (List.map eS r))] := by
 unfold ref02_Words at hF
 refine fn_of_body (n := 2) Tryz.func122 rfl rfl rfl fun w O => ?_
 iterate 4 refine go ?_
 refine rgp (op_lit (rows := List.map eS ([[99, 108, 97, 115, 115], [101, 120, 116, 101, 110, 100, 115], [114, 101, 112], [112, 101, 101, 114], [119, 111, 114, 108, 100], [97, 110, 121], [117, 110, 105, 113, 117, 101], [112, 117, 114, 101], [118, 111, 105, 100], [105, 110, 116], [105, 102], [101, 108, 115, 101], [119, 104, 105, 108, 101], [114, 101, 116, 117, 114, 110], [110, 101, 119], [109, 111, 118, 101], [100, 101, 108, 101, 116, 101], [116, 104, 105, 115], [110, 117, 108, 108], [105, 110, 112, 117, 116], [110, 105, 108], [115, 97, 109, 101], [99, 97, 115, 116]] : List (List UInt8))) (zs := [.str []]) rfl rfl slc_23 zer_9 (by exact ⟨rfl, trivial⟩) rfl rfl rfl rfl rfl rfl rfl rfl) ?_
 iterate 3 refine go ?_
 cases hF
 exact prt
theorem ref02_Find_ok {a0 : List UInt8} {r : Int} (hF : ref02_Find a0 = some r) : FZ 91 [.str a0] [.p (.int .i64 r)] := by
 unfold ref02_Find at hF
 refine fn_of_body (n := 20) Tryz.func91 rfl rfl rfl fun w O => ?_
 iterate 4 refine go ?_
 obtain ⟨y3, h4, hF⟩ := bs hF
 refine rgp (cl 0 [] [.p (.vs 1 (List.map eS y3))] (ref02_Words_ok h4)) ?_
 iterate 6 refine go ?_
 obtain ⟨lr26, hF, hK27⟩ := bs hF
 refine aw_for ((y3.length - 0 : Int).toNat + 1) (fun s1 => ∃ q, lr26 = .next q ∧ s1 = (sX 20 [] [] 0)) ?_ ?_
 ·refine rnd_loop (α := Int) (fun q => (sX 20 [pf 0 (.str a0), pf 3 (.vs 1 (List.map eS y3)), pf 4 (.int .i64 q)] [] 0)) (fun k q => ref02_Find_L1 a0 y3 k q = some lr26) 0 (impz []) hF (fun q h => by cases h) ?_
  clear hF
  rintro k x11 hF ih
  refine rnd_succ ?_
  iterate 7 refine go ?_
  refine cnd hF (fun hb19 hF => ?_) fun hb19 hF => ?_
  ·iterate 2 refine go ?_
   refine aw_seq ?_
   refine aw_block ?_
   iterate 3 refine go ?_
   obtain ⟨y22, h23, hF⟩ := bs hF
   refine rgp (ix (idx_map eS h23) slc_23) ?_
   iterate 2 refine go ?_
   refine rgp (op_str rfl rfl rfl rfl rfl rfl) ?_
   refine go ?_
   refine cnd hF (fun hb24 hF => ?_) fun hb24 hF => ?_
   ·iterate 9 refine go ?_
    refine post_lp_ret ?_
    cases hF
    have hF := elim_stop hK27
    refine go ?_
    cases hF
    exact prt
   iterate 7 refine go ?_
   refine rnr ?_
   exact rnd_back (ih (w_i64 (x11 + 1)) hF) (impz [])
  refine aw_exit ?_
  iterate 2 refine post_then_exit ?_
  cases hF
  exact post_lp_break _ ⟨_, rfl, rfl⟩ (impz [])
 rintro _ ⟨⟨⟩, rfl, rfl⟩
 have hF := elim_next hK27
 clear hK27
 iterate 5 refine go ?_
 cases hF
 exact prt
theorem ref03_sign_ok {a0 : List UInt8} {r : (List UInt8)} (hF : ref03_sign a0 = some r) : FZ 127 [.str a0] [.p (.str r)] := by
 unfold ref03_sign at hF
 refine fn_of_body (n := 38) Tryz.func127 rfl rfl rfl fun w O => ?_
 iterate 3 refine go ?_
 refine aw_seq ?_
 refine aw_seq ?_
 obtain ⟨x7, hF, hK9⟩ := bs hF
 refine ctx (sX 38 [pf 0 (.str a0), pf 17 (.bool x7)] [] 0) ?_ ?_
 ·iterate 2 refine go ?_
  refine rgp (op_len_str rfl rfl und_9 rfl rfl) ?_
  iterate 2 refine go ?_
  rcases ie hF with ⟨hb1, hF⟩ | ⟨hb1, hF⟩
  ·refine gn hb1 ?_
   obtain ⟨y2, h3, hF⟩ := bs hF
   refine rgn hb1 (op_slice_str (nl := none) (nh := (some 2)) rfl rfl rfl rfl und_9 h3 rfl rfl) ?_
   refine rgn hb1 (op_str rfl rfl rfl rfl rfl rfl) ?_
   refine gn hb1 ?_
   rcases ie hF with ⟨hb4, hF⟩ | ⟨hb4, hF⟩
   ·cases hF
   refine gn hb4 ?_
   obtain ⟨y5, h6, hF⟩ := bs hF
   refine rgn hb4 (op_slice_str (nl := none) (nh := (some 2)) rfl rfl rfl rfl und_9 h6 rfl rfl) ?_
   refine rgn hb4 (op_str rfl rfl rfl rfl rfl rfl) ?_
   refine rgn hb1 (op_pick_f rfl rfl hb4 rfl rfl rfl) ?_
   refine rpt hb1 ?_
   cases hF
   exact rcz []
  iterate 4 refine rgo_f hb1 ?_
  iterate 3 refine go ?_
  refine rgo_f hb1 ?_
  refine rpf hb1 ?_
  cases hF
  exact rcz []
 have hF := hK9
 refine go ?_
 refine cnd hF (fun hb10 hF => ?_) fun hb10 hF => ?_
 ·cases hF
 iterate 9 refine go ?_
 obtain ⟨lr59, hF, hK60⟩ := bs hF
 refine aw_for (a0.length + 64) (fun s1 => ∃ q, lr59 = .next q ∧ s1 = (sX 38 [] [] 0)) ?_ ?_
 ·refine rnd_loop (α := Int) (fun q => (sX 38 [pf 0 (.str a0), pf 3 (.str [123, 125, 40, 41, 60, 62, 44, 59, 46, 61, 43, 45, 42, 33]), pf 4 (.int .i64 q)] [] 0)) (fun k q => ref03_sign_L1 a0 k q = some lr59) 0 (impz []) hF (fun q h => by cases h) ?_
  clear hF
  rintro k x26 hF ih
  refine rnd_succ ?_
  refine aw_seq ?_
  refine aw_seq ?_
  obtain ⟨p44, hF, hK45⟩ := bs hF
  refine ctx (sX 38 [pf 0 (.str a0), pf 3 (.str [123, 125, 40, 41, 60, 62, 44, 59, 46, 61, 43, 45, 42, 33]), pf 4 (.int .i64 x26), pf 27 (.bool (!(a0 == [])))] [] 0) ?_ ?_
  ·iterate 3 refine go ?_
   refine rgp (op_len_str rfl rfl und_9 rfl rfl) ?_
   iterate 2 refine go ?_
   rcases ie hF with ⟨hb43, hF⟩ | ⟨hb43, hF⟩
   ·refine gn hb43 ?_
    refine rgn hb43 (op_str rfl rfl rfl rfl rfl rfl) ?_
    refine rpt hb43 ?_
    cases hF
    exact rcz []
   cases hF
  have hF := hK45
  refine go ?_
  refine cnd hF (fun hb46 hF => ?_) fun hb46 hF => ?_
  ·iterate 2 refine go ?_
   refine aw_seq ?_
   refine aw_block ?_
   refine aw_seq ?_
   refine dr_start ⟨_, _, _⟩ rfl ?_
   iterate 2 refine dgo ?_
   obtain ⟨y51, h52, hF⟩ := bs hF
   refine dk 32 [(30, .pv (.str [123, 125, 40, 41, 60, 62, 44, 59, 46, 61, 43, 45, 42, 33])), (31, .pv (.int .i64 x26))] (.pv (.int .u8 (y51.toNat : Int))) (fun m h => ⟨_, op_index_str (k := .i64) rfl h.1.1 h.1.2.1 h52 und_9 rfl rfl, rfl⟩) ?_
   refine dgo ?_
   obtain ⟨y53, h54, hF⟩ := bs hF
   refine dk 34 [(33, .pv (.str a0))] (.pv (.int .u8 (y53.toNat : Int))) (fun m h => ⟨_, op_index_str (k := .i64) rfl h.1.1 rfl h54 und_9 rfl rfl, rfl⟩) ?_
   refine dk 35 [(32, .pv (.int .u8 (y51.toNat : Int))), (34, .pv (.int .u8 (y53.toNat : Int)))] (.pv (.bool ((y51.toNat : Int) == (y53.toNat : Int)))) (fun m h => ⟨_, op_int (k := .u8) (m := (y51.toNat : Int)) (n := (y53.toNat : Int)) rfl h.1.1 h.1.2.1 rfl rfl rfl, rfl⟩) ?_
   refine dr_nil mixed rfl (by kernel_rfl) ?_
   refine piz (sX 38 [pf 0 (.str a0), pf 3 (.str [123, 125, 40, 41, 60, 62, 44, 59, 46, 61, 43, 45, 42, 33]), pf 4 (.int .i64 x26), pf 35 (.bool ((y51.toNat : Int) == (y53.toNat : Int)))] [] 0) [] ?_
   refine go ?_
   refine cnd hF (fun hb55 hF => ?_) fun hb55 hF => ?_
   ·iterate 2 refine go ?_
    obtain ⟨y56, h57, hF⟩ := bs hF
    refine rgp (op_slice_str (nl := none) (nh := (some 1)) rfl rfl rfl rfl und_9 h57 rfl rfl) ?_
    iterate 6 refine go ?_
    refine post_lp_ret ?_
    cases hF
    have hF := elim_stop hK60
    refine go ?_
    cases hF
    exact prt
   iterate 7 refine go ?_
   refine rnr ?_
   exact rnd_back (ih (w_i64 (x26 + 1)) hF) (impz [])
  refine aw_exit ?_
  iterate 2 refine post_then_exit ?_
  cases hF
  exact post_lp_break _ ⟨_, rfl, rfl⟩ (impz [])
 rintro _ ⟨⟨⟩, rfl, rfl⟩
 have hF := elim_next hK60
 clear hK60
 iterate 5 refine go ?_
 cases hF
 exact prt
theorem ref03_one_ok {a0 : List UInt8} {r : GToken} (hF : ref03_one a0 = some r) : FZ 97 [.str a0] [.p (.agg (eGToken r))] := by
 unfold ref03_one at hF
 refine fn_of_body (n := 64) Tryz.func97 rfl rfl rfl fun w O => ?_
 refine go ?_
 refine rgp (al 0 (eGToken zGToken) zer_149) ?_
 iterate 7 refine go ?_
 obtain ⟨y5, h6, hF⟩ := bs hF
 refine rgp (op_index_str (k := .i64) rfl rfl rfl h6 und_9 rfl rfl) ?_
 obtain ⟨y7, h8, hF⟩ := bs hF
 refine rgp (cl 1 [.int .u8 (y5.toNat : Int)] [.p (.bool y7)] (ref02_Letter_ok h8)) ?_
 refine go ?_
 refine cnd hF (fun hb9 hF => ?_) fun hb9 hF => ?_
 ·refine aw_seq ?_
  obtain ⟨x55, hF, hK56⟩ := bs hF
  refine aw_for (a0.length + 64) (fun s1 => s1 = (sX 64 [pf 0 (.str a0), (2, some (.lp 0 0)), pf 3 (.int .i64 x55)] [bf 0 149 (eGToken zGToken)] 1)) ?_ ?_
  ·refine rnd_loop (α := Int) (fun q => (sX 64 [pf 0 (.str a0), (2, some (.lp 0 0)), pf 3 (.int .i64 q)] [bf 0 149 (eGToken zGToken)] 1)) (fun k q => ref03_one_L1 a0 k q = some x55) 0 (impz [0]) hF (fun q h => by cases h) ?_
   clear hF
   rintro k x24 hF ih
   refine rnd_succ ?_
   refine aw_seq ?_
   refine aw_seq ?_
   obtain ⟨x50, hF, hK52⟩ := bs hF
   refine ctx (sX 64 [pf 0 (.str a0), (2, some (.lp 0 0)), pf 3 (.int .i64 x24), pf 22 (.bool x50)] [bf 0 149 (eGToken zGToken)] 1) ?_ ?_
   ·iterate 3 refine go ?_
    refine rgp (op_len_str rfl rfl und_9 rfl rfl) ?_
    iterate 2 refine go ?_
    rcases ie hF with ⟨hb40, hF⟩ | ⟨hb40, hF⟩
    ·iterate 2 refine gn hb40 ?_
     obtain ⟨y41, h42, hF⟩ := bs hF
     refine rgn hb40 (op_index_str (k := .i64) rfl rfl rfl h42 und_9 rfl rfl) ?_
     obtain ⟨y43, h44, hF⟩ := bs hF
     refine rgn hb40 (cl 1 [.int .u8 (y41.toNat : Int)] [.p (.bool y43)] (ref02_Letter_ok h44)) ?_
     refine gn hb40 ?_
     rcases ie hF with ⟨hb45, hF⟩ | ⟨hb45, hF⟩
     ·refine rgo_t hb45 ?_
      iterate 3 refine rgo_t hb45 ?_
      refine rgn hb40 (op_pick_t rfl rfl hb45 rfl rfl rfl) ?_
      refine rpt hb40 ?_
      cases hF
      exact rcz [0]
     iterate 2 (refine rgn hb45 (op_move rfl rfl rfl rfl) ?_)
     obtain ⟨y46, h47, hF⟩ := bs hF
     refine rgn hb45 (op_index_str (k := .i64) rfl rfl rfl h47 und_9 rfl rfl) ?_
     obtain ⟨y48, h49, hF⟩ := bs hF
     refine rgn hb45 (cl 1 [.int .u8 (y46.toNat : Int)] [.p (.bool y48)] (ref02_Digit_ok h49)) ?_
     refine rgn hb40 (op_pick_f rfl rfl hb45 rfl rfl rfl) ?_
     refine rpt hb40 ?_
     cases hF
     exact rcz [0]
    cases hF
   have hF := hK52
   refine go ?_
   refine cnd hF (fun hb53 hF => ?_) fun hb53 hF => ?_
   ·iterate 2 refine go ?_
    refine aw_block ?_
    iterate 4 refine go ?_
    refine reg_nil ?_
    refine piz (sX 64 [pf 0 (.str a0), (2, some (.lp 0 0)), pf 3 (.int .i64 (w_i64 (x24 + 1)))] [bf 0 149 (eGToken zGToken)] 1) [0] ?_
    refine go ?_
    refine post_round ?_
    exact rnd_back (ih (w_i64 (x24 + 1)) hF) (impz [0])
   refine aw_exit ?_
   iterate 2 refine post_then_exit ?_
   cases hF
   exact post_lp_break _ rfl (impz [0])
  rintro _ rfl
  have hF := hK56
  iterate 5 refine go ?_
  obtain ⟨y61, h62, hF⟩ := bs hF
  refine rgp (op_slice_str (nl := none) (nh := (some x55)) rfl rfl rfl rfl und_9 h62 rfl rfl) ?_
  obtain ⟨y63, h64, hF⟩ := bs hF
  refine rgp (cl 1 [.str y61] [.p (.int .i64 y63)] (ref02_Find_ok h64)) ?_
  iterate 2 refine go ?_
  refine cnd hF (fun hb65 hF => ?_) fun hb65 hF => ?_
  ·iterate 3 refine go ?_
   obtain ⟨y66, h67, hF⟩ := bs hF
   refine rgp (op_slice_str (nl := none) (nh := (some x55)) rfl rfl rfl rfl und_9 h67 rfl rfl) ?_
   refine rgp (bd ((eGToken zGToken)) (eGToken ({ fKind := 3, fText := y66, fAt := 0 } : GToken)) zer_149 plc_149) ?_
   iterate 5 refine go ?_
   cases hF
   exact post_ret rfl rfl (.cons _ _ _ _ _ (.agg _ _ _ _ _ 3 _ _ rfl rfl agg_149 rfl rfl rfl) (.p _) .nil) (.inl rfl)
  iterate 5 refine go ?_
  obtain ⟨y68, h69, hF⟩ := bs hF
  refine rgp (op_slice_str (nl := none) (nh := (some x55)) rfl rfl rfl rfl und_9 h69 rfl rfl) ?_
  refine rgp (bd ((eGToken zGToken)) (eGToken ({ fKind := 1, fText := y68, fAt := 0 } : GToken)) zer_149 plc_149) ?_
  iterate 4 refine go ?_
  cases hF
  exact post_ret rfl rfl (.cons _ _ _ _ _ (.agg _ _ _ _ _ 3 _ _ rfl rfl agg_149 rfl rfl rfl) (.p _) .nil) (.inl rfl)
 iterate 5 refine go ?_
 obtain ⟨y74, h75, hF⟩ := bs hF
 refine rgp (op_index_str (k := .i64) rfl rfl rfl h75 und_9 rfl rfl) ?_
 obtain ⟨y76, h77, hF⟩ := bs hF
 refine rgp (cl 1 [.int .u8 (y74.toNat : Int)] [.p (.bool y76)] (ref02_Digit_ok h77)) ?_
 refine go ?_
 refine cnd hF (fun hb78 hF => ?_) fun hb78 hF => ?_
 ·cases hF
 iterate 5 refine go ?_
 obtain ⟨y81, h82, hF⟩ := bs hF
 refine rgp (cl 1 [.str a0] [.p (.str y81)] (ref03_sign_ok h82)) ?_
 refine rgp (op_str rfl rfl rfl rfl rfl rfl) ?_
 refine go ?_
 refine cnd hF (fun hb83 hF => ?_) fun hb83 hF => ?_
 ·iterate 2 refine go ?_
  obtain ⟨y84, h85, hF⟩ := bs hF
  refine rgp (cl 1 [.str a0] [.p (.str y84)] (ref03_sign_ok h85)) ?_
  refine rgp (bd ((eGToken zGToken)) (eGToken ({ fKind := 4, fText := y84, fAt := 0 } : GToken)) zer_149 plc_149) ?_
  iterate 4 refine go ?_
  cases hF
  exact post_ret rfl rfl (.cons _ _ _ _ _ (.agg _ _ _ _ _ 3 _ _ rfl rfl agg_149 rfl rfl rfl) (.p _) .nil) (.inl rfl)
 cases hF
theorem ref02_Number_ok {a0 : List UInt8} {r : Int × Bool} (hF : ref02_Number a0 = some r) : FZ 98 [.str a0] [.p (.int .i64 r.1), .p (.bool r.2)] := by
 unfold ref02_Number at hF
 refine fn_of_body (n := 44) Tryz.func98 rfl rfl rfl fun w O => ?_
 iterate 4 refine go ?_
 refine aw_seq ?_
 refine aw_seq ?_
 obtain ⟨p6, hF, hK7⟩ := bs hF
 refine ctx (sX 44 [pf 0 (.str a0), pf 23 (.bool false)] [] 0) ?_ ?_
 ·iterate 2 refine go ?_
  refine rgp (op_len_str rfl rfl und_9 rfl rfl) ?_
  iterate 2 refine go ?_
  rcases ie hF with ⟨hb1, hF⟩ | ⟨hb1, hF⟩
  ·cases hF
  refine gn hb1 ?_
  refine rgn hb1 (op_len_str rfl rfl und_9 rfl rfl) ?_
  refine gn hb1 ?_
  refine rpf hb1 ?_
  refine go ?_
  rcases ie hF with ⟨hb2, hF⟩ | ⟨hb2, hF⟩
  ·cases hF
  refine gn hb2 ?_
  obtain ⟨y3, h4, hF⟩ := bs hF
  refine rgn hb2 (op_index_str (k := .i64) rfl rfl rfl h4 und_9 rfl rfl) ?_
  iterate 2 refine gn hb2 ?_
  rcases ie hF with ⟨hb5, hF⟩ | ⟨hb5, hF⟩
  ·cases hF
  iterate 3 refine rgo_f hb5 ?_
  refine rgn hb2 (op_pick_f rfl rfl hb5 rfl rfl rfl) ?_
  refine rpf hb2 ?_
  cases hF
  exact rcz []
 have hF := hK7
 refine go ?_
 refine aw_cond_f rfl rfl ?_
 iterate 9 refine go ?_
 obtain ⟨lr38, hF, hK39⟩ := bs hF
 refine aw_for ((a0.length - 0 : Int).toNat + 1) (fun s1 => ∃ q, lr38 = .next q ∧ s1 = (sX 44 [pf 4 (.int .i64 0)] [] 0)) ?_ ?_
 ·refine rnd_loop (α := Unit) (fun q => (sX 44 [pf 0 (.str a0), pf 4 (.int .i64 0), pf 5 (.int .i64 0)] [] 0)) (fun k q => ref02_Number_L1 a0 k = some lr38) () (impz []) hF (fun q h => by cases h) ?_
  clear hF
  rintro k ⟨⟩ hF ih
  refine rnd_succ ?_
  iterate 4 refine go ?_
  refine rgp (op_len_str rfl rfl und_9 rfl rfl) ?_
  iterate 2 refine go ?_
  refine cnd hF (fun hb28 hF => ?_) fun hb28 hF => ?_
  ·iterate 2 refine go ?_
   refine aw_seq ?_
   refine aw_block ?_
   iterate 4 refine go ?_
   obtain ⟨y33, h34, hF⟩ := bs hF
   refine rgp (op_index_str (k := .i64) rfl rfl rfl h34 und_9 rfl rfl) ?_
   obtain ⟨y35, h36, hF⟩ := bs hF
   refine rgp (cl 0 [.int .u8 (y33.toNat : Int)] [.p (.bool y35)] (ref02_Digit_ok h36)) ?_
   iterate 2 refine go ?_
   refine cnd hF (fun hb37 hF => ?_) fun hb37 hF => ?_
   ·iterate 9 refine go ?_
    refine post_lp_ret ?_
    cases hF
    have hF := elim_stop hK39
    refine go ?_
    cases hF
    exact post_ret rfl rfl (.cons _ _ _ _ _ (.tmp _ _ rfl) (.p _) (.cons _ _ _ _ _ (.tmp _ _ rfl) (.p _) .nil)) (.inl rfl)
   cases hF
  refine aw_exit ?_
  iterate 2 refine post_then_exit ?_
  cases hF
  exact post_lp_break _ ⟨_, rfl, rfl⟩ (impz [])
 rintro _ ⟨⟨⟩, rfl, rfl⟩
 have hF := elim_next hK39
 clear hK39
 iterate 7 refine go ?_
 cases hF
 exact post_ret rfl rfl (.cons _ _ _ _ _ (.tmp _ _ rfl) (.p _) (.cons _ _ _ _ _ (.tmp _ _ rfl) (.p _) .nil)) (.inl rfl)
theorem ref03_Of_ok {a0 : List UInt8} {r : (List GToken) × GFault} (hF : ref03_Of a0 = some r) : FZ 69 [.str a0] [.own 149 3 (List.map eGToken r.1), .p (.agg (eGFault r.2))] := by
 unfold ref03_Of at hF
 refine fn_of_body (n := 78) Tryz.func69 rfl rfl rfl fun w O => ?_
 iterate 2 refine go ?_
 refine rgp (al 0 (eGFault zGFault) zer_73) ?_
 iterate 4 refine go ?_
 refine rgp (op_len_str rfl rfl und_9 rfl rfl) ?_
 iterate 2 refine go ?_
 refine cnd hF (fun hb1 hF => ?_) fun hb1 hF => ?_
 ·cases hF
 iterate 4 refine go ?_
 refine reg_imp (imp_nil_own 4 149 3 1 rfl rfl) ?_
 iterate 3 refine go ?_
 obtain ⟨y4, h5, hF⟩ := bs hF
 refine rgp (cl 2 [.str a0] [.p (.int .i64 y4)] (ref03_skip_ok h5)) ?_
 iterate 2 refine go ?_
 refine aw_seq ?_
 obtain ⟨x96, hF, hK97⟩ := bs hF
 refine aw_for ((((a0.length : Int) : Int) - (y4)).toNat + 1) (fun s1 => s1 = (sX 78 [pf 0 (.str a0), (3, some (.lp 0 0)), (4, some (.ls 1))] [bf 0 73 (eGFault zGFault), (1, some (.row 149 3 (List.map eGToken x96)))] 2)) ?_ ?_
 ·refine rnd_loop (α := (List GToken) × Int) (fun q => (sX 78 [pf 0 (.str a0), (3, some (.lp 0 0)), (4, some (.ls 1)), pf 5 (.int .i64 q.2)] [bf 0 73 (eGFault zGFault), (1, some (.row 149 3 (List.map eGToken q.1)))] 2)) (fun k q => ref03_Of_L1 a0 k q.1 q.2 = some x96) ([], y4) (impz [0, 1]) hF (fun q h => by cases h) ?_
  clear hF
  rintro k ⟨x34, x35⟩ hF ih
  refine rnd_succ ?_
  iterate 4 refine go ?_
  refine rgp (op_len_str rfl rfl und_9 rfl rfl) ?_
  iterate 2 refine go ?_
  refine cnd hF (fun hb66 hF => ?_) fun hb66 hF => ?_
  ·iterate 2 refine go ?_
   refine aw_block ?_
   iterate 3 refine go ?_
   obtain ⟨y71, h72, hF⟩ := bs hF
   refine rgp (op_slice_str (nl := (some x35)) (nh := none) rfl rfl rfl rfl und_9 h72 rfl rfl) ?_
   obtain ⟨y73, h74, hF⟩ := bs hF
   refine rgp (cl 2 [.str y71] [.p (.agg (eGToken y73))] (ref03_one_ok h74)) ?_
   refine rgp (al 2 (eGToken zGToken) zer_149) ?_
   iterate 13 refine go ?_
   refine cnd hF (fun hb75 hF => ?_) fun hb75 hF => ?_
   ·cases hF
   iterate 5 refine go ?_
   obtain ⟨y78, h79, hF⟩ := bs hF
   refine rgp (cl 3 [.str (({ y73 with fAt := x35 } : GToken).fText)] [.p (.int .i64 y78.1), .p (.bool y78.2)] (ref02_Number_ok h79)) ?_
   refine go ?_
   iterate 2 (refine rgp (op_extract rfl rfl rfl rfl rfl) ?_)
   iterate 3 refine go ?_
   refine aw_seq ?_
   refine aw_seq ?_
   obtain ⟨p84, hF, hK85⟩ := bs hF
   refine ctx (sX 78 [pf 0 (.str a0), (3, some (.lp 0 0)), (4, some (.ls 1)), pf 5 (.int .i64 x35), (6, some (.lp 2 0)), pf 53 (.bool false)] [bf 0 73 (eGFault zGFault), (1, some (.row 149 3 (List.map eGToken x34))), bf 2 149 (eGToken ({ y73 with fAt := x35 } : GToken))] 3) ?_ ?_
   ·iterate 5 refine go ?_
    rcases ie hF with ⟨hb80, hF⟩ | ⟨hb80, hF⟩
    ·iterate 2 refine gn hb80 ?_
     refine rgn hb80 (op_len_str rfl rfl und_9 rfl rfl) ?_
     refine gn hb80 ?_
     refine rpt hb80 ?_
     refine go ?_
     rcases ie hF with ⟨hb81, hF⟩ | ⟨hb81, hF⟩
     ·cases hF
     iterate 4 refine gn hb81 ?_
     rcases ie hF with ⟨hb82, hF⟩ | ⟨hb82, hF⟩
     ·cases hF
     iterate 2 refine rgo_f hb82 ?_
     refine rgn hb81 (op_pick_f rfl rfl hb82 rfl rfl rfl) ?_
     refine rpf hb81 ?_
     cases hF
     exact rcz [0, 1, 2]
    iterate 4 refine rgo_f hb80 ?_
    refine rpf hb80 ?_
    refine go ?_
    iterate 4 refine gn rfl ?_
    rcases ie hF with ⟨hb83, hF⟩ | ⟨hb83, hF⟩
    ·cases hF
    iterate 2 refine rgo_f hb83 ?_
    refine rgn rfl (op_pick_f rfl rfl hb83 rfl rfl rfl) ?_
    refine rpf rfl ?_
    cases hF
    exact rcz [0, 1, 2]
   have hF := hK85
   refine go ?_
   refine aw_cond_f rfl rfl ?_
   iterate 4 refine go ?_
   refine rgp (la (eGToken ({ y73 with fAt := x35 } : GToken)) agg_149) ?_
   refine rgp (op_lit (rows := List.map eGToken ([({ y73 with fAt := x35 } : GToken)] : List GToken)) (zs := (eGToken zGToken)) rfl rfl slc_145 zer_149 (by exact ⟨rfl, rfl, rfl, trivial⟩) rfl rfl rfl rfl rfl rfl rfl rfl) ?_
   obtain ⟨u88, h89, hF⟩ := bs hF
   refine rgp (op_append 3 rfl rfl rfl rfl rfl slc_145 elm_149 zer_149 rfl rfl rfl (room_map (f := eGToken) (g := eGToken) h89) (List.map_append (f := eGToken) (l₁ := x34) (l₂ := [({ y73 with fAt := x35 } : GToken)])).symm rfl rfl) ?_
   iterate 6 refine go ?_
   refine rgp (op_len_str rfl rfl und_9 rfl rfl) ?_
   iterate 7 refine go ?_
   obtain ⟨y90, h91, hF⟩ := bs hF
   refine rgp (op_slice_str (nl := (some (w_i64 (x35 + ((({ y73 with fAt := x35 } : GToken).fText).length : Int))))) (nh := none) rfl rfl rfl rfl und_9 h91 rfl rfl) ?_
   obtain ⟨y92, h93, hF⟩ := bs hF
   refine rgp (cl 4 [.str y90] [.p (.int .i64 y92)] (ref03_skip_ok h93)) ?_
   iterate 2 refine go ?_
   refine reg_nil ?_
   refine piz (sX 78 [pf 0 (.str a0), (3, some (.lp 0 0)), (4, some (.ls 1)), pf 5 (.int .i64 (w_i64 ((w_i64 (x35 + ((({ y73 with fAt := x35 } : GToken).fText).length : Int))) + y92)))] [bf 0 73 (eGFault zGFault), (1, some (.row 149 3 (List.map eGToken (x34 ++ [({ y73 with fAt := x35 } : GToken)]))))] 2) [0, 3] ?_
   refine go ?_
   refine post_round ?_
   exact rnd_back (ih ((x34 ++ [({ y73 with fAt := x35 } : GToken)]), w_i64 ((w_i64 (x35 + ((({ y73 with fAt := x35 } : GToken).fText).length : Int))) + y92)) hF) (impz [0, 1])
  refine aw_exit ?_
  iterate 2 refine post_then_exit ?_
  cases hF
  exact post_lp_break _ rfl (impz [0, 1])
 rintro _ rfl
 have hF := hK97
 iterate 4 refine go ?_
 refine rgp (op_len_str rfl rfl und_9 rfl rfl) ?_
 refine rgp (bd ((eGToken zGToken)) (eGToken ({ fKind := 0, fText := [], fAt := (a0.length : Int) } : GToken)) zer_149 plc_149) ?_
 refine rgp (op_lit (rows := List.map eGToken ([({ fKind := 0, fText := [], fAt := (a0.length : Int) } : GToken)] : List GToken)) (zs := (eGToken zGToken)) rfl rfl slc_145 zer_149 (by exact ⟨rfl, rfl, rfl, trivial⟩) rfl rfl rfl rfl rfl rfl rfl rfl) ?_
 obtain ⟨u98, h99, hF⟩ := bs hF
 refine rgp (op_append 2 rfl rfl rfl rfl rfl slc_145 elm_149 zer_149 rfl rfl rfl (room_map (f := eGToken) (g := eGToken) h99) (List.map_append (f := eGToken) (l₁ := x96) (l₂ := [({ fKind := 0, fText := [], fAt := (a0.length : Int) } : GToken)])).symm rfl rfl) ?_
 refine rgp (bd ((eGFault zGFault)) (eGFault ({ fErr := 0, fAt := 0 } : GFault)) zer_73 plc_73) ?_
 iterate 4 refine go ?_
 cases hF
 exact post_ret rfl rfl (.cons _ _ _ _ _ (.tmp _ _ rfl) (.own _ _ _ _ rfl nolent3) (.cons _ _ _ _ _ (.agg _ _ _ _ _ 2 _ _ rfl rfl agg_73 rfl rfl rfl) (.p _) .nil)) (.inl rfl)
theorem ref06_Tok_ok {a0 : List GToken} {a1 : Int} {r : GToken} (hF : ref06_Tok a0 a1 = some r) : FZ 99 [.vs 3 (List.map eGToken a0), .int .i64 a1] [.p (.agg (eGToken r))] := by
 unfold ref06_Tok at hF
 refine fn_of_body (n := 29) Tryz.func99 rfl rfl rfl fun w O => ?_
 refine go ?_
 refine rgp (al 0 (eGToken zGToken) zer_149) ?_
 refine go ?_
 refine aw_seq ?_
 refine aw_seq ?_
 obtain ⟨p2, hF, hK3⟩ := bs hF
 refine ctx (sX 29 [pf 0 (.vs 3 (List.map eGToken a0)), pf 1 (.int .i64 a1), (4, some (.lp 0 0)), pf 12 (.bool (decide (a1 < (a0.length : Int))))] [bf 0 149 (eGToken zGToken)] 1) ?_ ?_
 ·iterate 4 refine go ?_
  rcases ie hF with ⟨hb1, hF⟩ | ⟨hb1, hF⟩
  ·iterate 4 refine gn hb1 ?_
   refine rpt hb1 ?_
   cases hF
   exact rcz [0]
  cases hF
 have hF := hK3
 refine go ?_
 refine cnd hF (fun hb4 hF => ?_) fun hb4 hF => ?_
 ·iterate 3 refine go ?_
  obtain ⟨y5, h6, hF⟩ := bs hF
  refine rgp (ix (idx_map eGToken h6) slc_145) ?_
  refine rgp (lw (eGToken y5) agg_149) ?_
  iterate 4 refine go ?_
  cases hF
  exact post_ret rfl rfl (.cons _ _ _ _ _ (.agg _ _ _ _ _ 3 _ _ rfl rfl agg_149 rfl rfl rfl) (.p _) .nil) (.inl rfl)
 cases hF
theorem ref09_tok_ok {a0 : List GToken} {a1 : Int} {r : GToken} (hF : ref09_tok a0 a1 = some r) : FZ 70 [.vs 3 (List.map eGToken a0), .int .i64 a1] [.p (.agg (eGToken r))] := by
 unfold ref09_tok at hF
 refine fn_of_body (n := 8) Tryz.func70 rfl rfl rfl fun w O => ?_
 refine go ?_
 refine rgp (al 0 (eGToken zGToken) zer_149) ?_
 iterate 4 refine go ?_
 obtain ⟨y1, h2, hF⟩ := bs hF
 refine rgp (cl 1 [.vs 3 (List.map eGToken a0), .int .i64 a1] [.p (.agg (eGToken y1))] (ref06_Tok_ok h2)) ?_
 iterate 3 refine go ?_
 cases hF
 exact post_ret rfl rfl (.cons _ _ _ _ _ (.agg _ _ _ _ _ 3 _ _ rfl rfl agg_149 rfl rfl rfl) (.p _) .nil) (.inl rfl)
theorem ref03_Is_ok {a0 : GToken} {a1 : List UInt8} {r : Bool} (hF : ref03_Is a0 a1 = some r) : FZ 100 [.agg (eGToken a0), .str a1] [.p (.bool r)] := by
 unfold ref03_Is at hF
 refine fn_of_body (n := 19) Tryz.func100 rfl rfl rfl fun w O => ?_
 refine go ?_
 refine rgp (bo 0) ?_
 iterate 7 refine go ?_
 rcases ie hF with ⟨hb1, hF⟩ | ⟨hb1, hF⟩
 ·refine rgo_t hb1 ?_
  iterate 2 refine rgo_t hb1 ?_
  refine rpt hb1 ?_
  refine go ?_
  iterate 3 refine gn rfl ?_
  refine rgn rfl (op_str rfl rfl rfl rfl rfl rfl) ?_
  refine rpt rfl ?_
  iterate 3 refine go ?_
  cases hF
  exact prt
 iterate 3 refine gn hb1 ?_
 refine rpf hb1 ?_
 refine go ?_
 rcases ie hF with ⟨hb2, hF⟩ | ⟨hb2, hF⟩
 ·iterate 3 refine gn hb2 ?_
  refine rgn hb2 (op_str rfl rfl rfl rfl rfl rfl) ?_
  refine rpt hb2 ?_
  iterate 3 refine go ?_
  cases hF
  exact prt
 iterate 4 refine rgo_f hb2 ?_
 refine rpf hb2 ?_
 iterate 3 refine go ?_
 cases hF
 exact prt
theorem ref09_is_ok {a0 : List GToken} {a1 : Int} {a2 : List UInt8} {r : Bool} (hF : ref09_is a0 a1 a2 = some r) : FZ 71 [.vs 3 (List.map eGToken a0), .int .i64 a1, .str a2] [.p (.bool r)] := by
 unfold ref09_is at hF
 refine fn_of_body (n := 12) Tryz.func71 rfl rfl rfl fun w O => ?_
 iterate 6 refine go ?_
 obtain ⟨y1, h2, hF⟩ := bs hF
 refine rgp (cl 0 [.vs 3 (List.map eGToken a0), .int .i64 a1] [.p (.agg (eGToken y1))] (ref06_Tok_ok h2)) ?_
 refine go ?_
 obtain ⟨y3, h4, hF⟩ := bs hF
 refine rgp (cl 0 [.agg (eGToken y1), .str a2] [.p (.bool y3)] (ref03_Is_ok h4)) ?_
 iterate 3 refine go ?_
 cases hF
 exact prt
theorem ref09_Stmts_ok {a0 : GClass} {r : Int} (hF : ref09_Stmts a0 = some r) : FZ 34 [.agg (eGClass a0)] [.p (.int .i64 r)] := by
 unfold ref09_Stmts at hF
 refine fn_of_body (n := 37) Tryz.func34 rfl rfl rfl fun w O => ?_
 refine go ?_
 refine rgp (bo 0) ?_
 iterate 9 refine go ?_
 obtain ⟨x193, hF, hK194⟩ := bs hF
 refine aw_for ((a0.fMethods.length - 0 : Int).toNat + 1) (fun s1 => s1 = (sX 37 [pf 3 (.int .i64 x193)] [] 0)) ?_ ?_
 ·refine rnd_loop (α := Int × Int) (fun q => (sX 37 [(1, some (.lp 0 0)), pf 3 (.int .i64 q.1), pf 4 (.int .i64 q.2)] [bf 0 32 (eGClass a0)] 1)) (fun k q => ref09_Stmts_L1 a0 k q.1 q.2 = some x193) (0, 0) (impz [0]) hF (fun q h => by cases h) ?_
  clear hF
  rintro k ⟨x63, x64⟩ hF ih
  refine rnd_succ ?_
  iterate 8 refine go ?_
  refine cnd hF (fun hb129 hF => ?_) fun hb129 hF => ?_
  ·iterate 2 refine go ?_
   refine aw_seq ?_
   refine aw_block ?_
   iterate 3 refine go ?_
   obtain ⟨x187, hF, hK188⟩ := bs hF
   refine aw_for (Option.getD (Option.bind (idx a0.fMethods x64) fun (y189 : GMethod) => some ((y189.fBody.length - 0 : Int).toNat + 1)) 1) (fun s1 => s1 = (sX 37 [(1, some (.lp 0 0)), pf 3 (.int .i64 x187), pf 4 (.int .i64 x64)] [bf 0 32 (eGClass a0)] 1)) ?_ ?_
   ·refine rnd_loop (α := Int × Int) (fun q => (sX 37 [(1, some (.lp 0 0)), pf 3 (.int .i64 q.1), pf 4 (.int .i64 x64), pf 5 (.int .i64 q.2)] [bf 0 32 (eGClass a0)] 1)) (fun k q => ref09_Stmts_L2 a0 x64 k q.1 q.2 = some x187) (x63, 0) (impz [0]) hF (fun q h => by cases h) ?_
    clear hF
    rintro k ⟨x147, x148⟩ hF ih
    refine rnd_succ ?_
    iterate 6 refine go ?_
    obtain ⟨y170, h171, hF⟩ := bs hF
    refine rgp (ix (idx_map eGMethod h171) slc_30) ?_
    iterate 2 refine go ?_
    refine rgp (op_len_vs (n := y170.fBody.length) rfl rfl (lenR eLGStmt_map) slc_38 rfl rfl) ?_
    iterate 2 refine go ?_
    refine cnd hF (fun hb172 hF => ?_) fun hb172 hF => ?_
    ·iterate 2 refine go ?_
     refine aw_seq ?_
     refine aw_block ?_
     iterate 5 refine go ?_
     obtain ⟨y179, h180, hF⟩ := bs hF
     refine rgp (ix (idx_map eGMethod h180) slc_30) ?_
     iterate 3 refine go ?_
     obtain ⟨y181, h182, hF⟩ := bs hF
     refine rgp (ix (idxR eLGStmt_map h182) slc_38) ?_
     refine rgp (lw (eGStmt y181) agg_48) ?_
     obtain ⟨y183, h184, hF⟩ := bs hF
     refine rgp (cl 1 [.agg (eGStmt y181)] [.p (.int .i64 y183)] (ref08_Size_ok h184)) ?_
     iterate 2 refine go ?_
     refine reg_nil ?_
     refine piz (sX 37 [(1, some (.lp 0 0)), pf 3 (.int .i64 (w_i64 (x147 + y183))), pf 4 (.int .i64 x64), pf 5 (.int .i64 x148)] [bf 0 32 (eGClass a0)] 1) [0] ?_
     iterate 6 refine go ?_
     refine rnr ?_
     exact rnd_back (ih (w_i64 (x147 + y183), w_i64 (x148 + 1)) hF) (impz [0])
    refine aw_exit ?_
    iterate 2 refine post_then_exit ?_
    cases hF
    exact post_lp_break _ rfl (impz [0])
   rintro _ rfl
   have hF := hK188
   iterate 6 refine go ?_
   refine rnr ?_
   exact rnd_back (ih (x187, w_i64 (x64 + 1)) hF) (impz [0])
  refine aw_exit ?_
  iterate 2 refine post_then_exit ?_
  cases hF
  exact post_lp_break _ rfl (impz [])
 rintro _ rfl
 have hF := hK194
 iterate 6 refine go ?_
 cases hF
 exact prt
theorem ref07_word_ok {a0 : GToken} {r : GOwner} (hF : ref07_word a0 = some r) : FZ 145 [.agg (eGToken a0)] [.p (.agg (eGOwner r))] := by
 unfold ref07_word at hF
 refine fn_of_body (n := 29) Tryz.func145 rfl rfl rfl fun w O => ?_
 refine go ?_
 refine rgp (bo 0) ?_
 refine rgp (al 1 (eGOwner zGOwner) zer_34) ?_
 iterate 2 refine go ?_
 refine rgp (op_lit (rows := List.map eS ([[114, 101, 112], [112, 101, 101, 114], [], [119, 111, 114, 108, 100], [97, 110, 121], [117, 110, 105, 113, 117, 101]] : List (List UInt8))) (zs := [.str []]) rfl rfl slc_23 zer_9 (by exact ⟨rfl, trivial⟩) rfl rfl rfl rfl rfl rfl rfl rfl) ?_
 iterate 6 refine go ?_
 obtain ⟨lr52, hF, hK53⟩ := bs hF
 refine aw_for (((([[114, 101, 112], [112, 101, 101, 114], [], [119, 111, 114, 108, 100], [97, 110, 121], [117, 110, 105, 113, 117, 101]].length : Int) : Int) - (0)).toNat + 1) (fun s1 => s1 = (sX 29 [(2, some (.lp 0 0))] [bf 0 34 (eGOwner zGOwner)] 1)) ?_ ?_
 ·refine rnd_loop (α := Int) (fun q => (sX 29 [(1, some (.lp 0 0)), (2, some (.lp 1 0)), pf 3 (.vs 1 (List.map eS [[114, 101, 112], [112, 101, 101, 114], [], [119, 111, 114, 108, 100], [97, 110, 121], [117, 110, 105, 113, 117, 101]])), pf 4 (.int .i64 q)] [bf 0 149 (eGToken a0), bf 1 34 (eGOwner zGOwner)] 2)) (fun k q => ref07_word_L1 a0 k q = some lr52) 0 (impz [0, 1]) hF (fun q h => by cases h) ?_
  clear hF
  rintro k x17 hF ih
  refine rnd_succ ?_
  iterate 7 refine go ?_
  refine cnd hF (fun hb35 hF => ?_) fun hb35 hF => ?_
  ·iterate 2 refine go ?_
   refine aw_seq ?_
   refine aw_block ?_
   refine aw_seq ?_
   obtain ⟨x47, hF, hK49⟩ := bs hF
   refine ctx (sX 29 [(1, some (.lp 0 0)), (2, some (.lp 1 0)), pf 3 (.vs 1 (List.map eS [[114, 101, 112], [112, 101, 101, 114], [], [119, 111, 114, 108, 100], [97, 110, 121], [117, 110, 105, 113, 117, 101]])), pf 4 (.int .i64 x17), pf 24 (.bool x47)] [bf 0 149 (eGToken a0), bf 1 34 (eGOwner zGOwner)] 2) ?_ ?_
   ·refine dr_start ⟨_, _, _⟩ rfl ?_
    refine dr_cons { need := [(1, .lp 0 0)], hneed := [(0, .box 149 (bxv (eGToken a0)))], dst := some 12, val := some (.pv (.agg (eGToken a0))) } (fun m h => step_on (guard_no rfl) (op_load_lp_agg (ps := eGToken a0) rfl h.1.1 h.2.1.1 rfl rfl rfl agg_149 rfl rfl) rfl) ⟨⟨rfl, trivial⟩, ⟨rfl, trivial⟩, trivial⟩ ?_
    iterate 2 refine dgo ?_
    obtain ⟨y40, h41, hF⟩ := bs hF
    refine dk 15 [(13, .pv (.vs 1 (List.map eS [[114, 101, 112], [112, 101, 101, 114], [], [119, 111, 114, 108, 100], [97, 110, 121], [117, 110, 105, 113, 117, 101]]))), (14, .pv (.int .i64 x17))] (.pv (.vp (eS y40))) (fun m h => ⟨_, op_index_vs (k := .i64) rfl h.1.1 h.1.2.1 (idx_map eS h41) slc_23 rfl rfl, rfl⟩) ?_
    refine dk 16 [(15, .pv (.vp (eS y40)))] (.pv (.str y40)) (fun m h => ⟨_, op_load_vp (p := .str y40) rfl h.1.1 rfl one_9 rfl rfl, rfl⟩) ?_
    obtain ⟨y42, h43, hF⟩ := bs hF
    refine dk 17 [(16, .pv (.str y40)), (12, .pv (.agg (eGToken a0)))] (.pv (.bool y42)) (fun m h => ⟨_, op_call 2 rfl (caps := []) (args := [.agg (eGToken a0), .str y40]) (rs := [.p (.bool y42)]) rfl rfl (evl_cons h.1.2.1 (evl_cons h.1.1 evl_nil)) cal_100 (ref03_Is_ok h43) rfl rfl rfl, rfl⟩) ?_
    refine dgo ?_
    rcases ie hF with ⟨hb44, hF⟩ | ⟨hb44, hF⟩
    ·refine dkg hb44 19 [(3, .pv (.vs 1 (List.map eS [[114, 101, 112], [112, 101, 101, 114], [], [119, 111, 114, 108, 100], [97, 110, 121], [117, 110, 105, 113, 117, 101]])))] (.pv (.vs 1 (List.map eS [[114, 101, 112], [112, 101, 101, 114], [], [119, 111, 114, 108, 100], [97, 110, 121], [117, 110, 105, 113, 117, 101]]))) (fun m h => ⟨_, op_move rfl h.1.2.1 rfl rfl, rfl⟩) ?_
     refine dkg hb44 20 [(4, .pv (.int .i64 x17))] (.pv (.int .i64 x17)) (fun m h => ⟨_, op_move rfl h.1.2.1 rfl rfl, rfl⟩) ?_
     obtain ⟨y45, h46, hF⟩ := bs hF
     refine dkg hb44 21 [(19, .pv (.vs 1 (List.map eS [[114, 101, 112], [112, 101, 101, 114], [], [119, 111, 114, 108, 100], [97, 110, 121], [117, 110, 105, 113, 117, 101]]))), (20, .pv (.int .i64 x17))] (.pv (.vp (eS y45))) (fun m h => ⟨_, op_index_vs (k := .i64) rfl h.1.2.1 h.1.2.2.1 (idx_map eS h46) slc_23 rfl rfl, rfl⟩) ?_
     refine dkg hb44 22 [(21, .pv (.vp (eS y45)))] (.pv (.str y45)) (fun m h => ⟨_, op_load_vp (p := .str y45) rfl h.1.2.1 rfl one_9 rfl rfl, rfl⟩) ?_
     refine dkg hb44 23 [(22, .pv (.str y45))] (.pv (.bool (!(y45 == [])))) (fun m h => ⟨_, op_str rfl h.1.2.1 rfl rfl rfl rfl, rfl⟩) ?_
     refine dk 24 [(18, .pv (.bool y42)), (23, .pv (.bool (!(y45 == []))))] (.pv (.bool (!(y45 == [])))) (fun m h => ⟨_, op_pick_t rfl h.1.1 hb44 h.1.2.1 rfl rfl, rfl⟩) ?_
     refine dr_nil mixed rfl (by kernel_rfl) ?_
     refine piz (sX 29 [(1, some (.lp 0 0)), (2, some (.lp 1 0)), pf 3 (.vs 1 (List.map eS [[114, 101, 112], [112, 101, 101, 114], [], [119, 111, 114, 108, 100], [97, 110, 121], [117, 110, 105, 113, 117, 101]])), pf 4 (.int .i64 x17), pf 24 (.bool (!(y45 == [])))] [bf 0 149 (eGToken a0), bf 1 34 (eGOwner zGOwner)] 2) [0, 1] ?_
     cases hF
     exact pcz [0, 1]
    iterate 5 refine dro_f hb44 ?_
    refine drpf hb44 ?_
    refine dr_nil mixed rfl (by kernel_rfl) ?_
    refine piz (sX 29 [(1, some (.lp 0 0)), (2, some (.lp 1 0)), pf 3 (.vs 1 (List.map eS [[114, 101, 112], [112, 101, 101, 114], [], [119, 111, 114, 108, 100], [97, 110, 121], [117, 110, 105, 113, 117, 101]])), pf 4 (.int .i64 x17), pf 24 (.bool false)] [bf 0 149 (eGToken a0), bf 1 34 (eGOwner zGOwner)] 2) [0, 1] ?_
    cases hF
    exact pcz [0, 1]
   have hF := hK49
   refine go ?_
   refine cnd hF (fun hb50 hF => ?_) fun hb50 hF => ?_
   ·cases hF
   iterate 7 refine go ?_
   refine rnr ?_
   exact rnd_back (ih (w_i64 (x17 + 1)) hF) (impz [0, 1])
  refine aw_exit ?_
  iterate 2 refine post_then_exit ?_
  cases hF
  exact post_lp_break _ rfl (impz [1])
 rintro _ rfl
 have hF := hK53
 iterate 2 refine go ?_
 refine rgp (bd ((eGOwner zGOwner)) (eGOwner ({ fKind := 0, fN := 0 } : GOwner)) zer_34 plc_34) ?_
 iterate 3 refine go ?_
 cases hF
 exact post_ret rfl rfl (.cons _ _ _ _ _ (.agg _ _ _ _ _ 2 _ _ rfl rfl agg_34 rfl rfl rfl) (.p _) .nil) (.inl rfl)
theorem ref07_ahead_ok {a0 : List GToken} {a1 : Int} {a2 : Bool} {r : Bool} (hF : ref07_ahead a0 a1 a2 = some r) : FZ 147 [.vs 3 (List.map eGToken a0), .int .i64 a1, .bool a2] [.p (.bool r)] := by
 unfold ref07_ahead at hF
 refine fn_of_body (n := 41) Tryz.func147 rfl rfl rfl fun w O => ?_
 iterate 7 refine go ?_
 obtain ⟨y5, h6, hF⟩ := bs hF
 refine rgp (cl 0 [.vs 3 (List.map eGToken a0), .int .i64 (w_i64 (a1 + 1))] [.p (.agg (eGToken y5))] (ref06_Tok_ok h6)) ?_
 iterate 3 refine go ?_
 obtain ⟨y7, h8, hF⟩ := bs hF
 refine rgp (cl 0 [.vs 3 (List.map eGToken a0), .int .i64 (w_i64 (a1 + 2))] [.p (.agg (eGToken y7))] (ref06_Tok_ok h8)) ?_
 refine rgp (al 0 (eGToken zGToken) zer_149) ?_
 refine rgp (al 1 (eGToken zGToken) zer_149) ?_
 iterate 8 refine go ?_
 rcases ie hF with ⟨hb9, hF⟩ | ⟨hb9, hF⟩
 ·iterate 3 refine gn hb9 ?_
  rcases ie hF with ⟨hb10, hF⟩ | ⟨hb10, hF⟩
  ·cases hF
  iterate 3 refine gn hb10 ?_
  refine rgn hb9 (op_pick_f rfl rfl hb10 rfl rfl rfl) ?_
  refine gn hb9 ?_
  rcases ie hF with ⟨hb11, hF⟩ | ⟨hb11, hF⟩
  ·cases hF
  refine rgn hb11 (la (eGToken y7) agg_149) ?_
  obtain ⟨y12, h13, hF⟩ := bs hF
  refine rgn hb11 (cl 2 [.agg (eGToken y7), .str [60]] [.p (.bool y12)] (ref03_Is_ok h13)) ?_
  refine rgn hb9 (op_pick_f rfl rfl hb11 rfl rfl rfl) ?_
  refine gn hb9 ?_
  rcases ie hF with ⟨hb14, hF⟩ | ⟨hb14, hF⟩
  ·cases hF
  refine rgn hb14 (la (eGToken y7) agg_149) ?_
  obtain ⟨y15, h16, hF⟩ := bs hF
  refine rgn hb14 (cl 2 [.agg (eGToken y7), .str [116, 104, 105, 115]] [.p (.bool y15)] (ref03_Is_ok h16)) ?_
  refine rgn hb9 (op_pick_f rfl rfl hb14 rfl rfl rfl) ?_
  refine gn hb9 ?_
  rcases ie hF with ⟨hb17, hF⟩ | ⟨hb17, hF⟩
  ·cases hF
  refine rgn hb17 (la (eGToken y7) agg_149) ?_
  obtain ⟨y18, h19, hF⟩ := bs hF
  refine rgn hb17 (cl 2 [.agg (eGToken y7), .str [110, 117, 108, 108]] [.p (.bool y18)] (ref03_Is_ok h19)) ?_
  refine rgn hb9 (op_pick_f rfl rfl hb17 rfl rfl rfl) ?_
  refine rpt hb9 ?_
  iterate 3 refine go ?_
  cases hF
  exact prt
 cases hF
theorem ref07_Parse_ok {a0 : List GToken} {a1 : Int} {a2 : List (List UInt8)} {a3 : Bool} {r : GGot_ref07} (hF : ref07_Parse a0 a1 a2 a3 = some r) : FZ 129 [.vs 3 (List.map eGToken a0), .int .i64 a1, .vs 1 (List.map eS a2), .bool a3] [.p (.agg (eGGot_ref07 r))] := by
 unfold ref07_Parse at hF
 refine fn_of_body (n := 121) Tryz.func129 rfl rfl rfl fun w O => ?_
 refine go ?_
 refine rgp (al 0 (eGGot_ref07 zGGot_ref07) zer_216) ?_
 iterate 4 refine go ?_
 obtain ⟨y3, h4, hF⟩ := bs hF
 refine rgp (cl 1 [.vs 3 (List.map eGToken a0), .int .i64 a1] [.p (.agg (eGToken y3))] (ref06_Tok_ok h4)) ?_
 refine rgp (al 1 (eGToken zGToken) zer_149) ?_
 iterate 4 refine go ?_
 refine rgp (la (eGToken y3) agg_149) ?_
 obtain ⟨y7, h8, hF⟩ := bs hF
 refine rgp (cl 2 [.agg (eGToken y3), .str [118, 111, 105, 100]] [.p (.bool y7)] (ref03_Is_ok h8)) ?_
 refine go ?_
 refine cnd hF (fun hb9 hF => ?_) fun hb9 hF => ?_
 ·cases hF
 iterate 4 refine go ?_
 refine rgp (la (eGToken y3) agg_149) ?_
 obtain ⟨y12, h13, hF⟩ := bs hF
 refine rgp (cl 2 [.agg (eGToken y3), .str [105, 110, 116]] [.p (.bool y12)] (ref03_Is_ok h13)) ?_
 refine go ?_
 refine cnd hF (fun hb14 hF => ?_) fun hb14 hF => ?_
 ·refine go ?_
  refine rgp (bd ((eGType zGType)) (eGType ({ fKind := 1, fClass := [], fN := 0, fOwn := (⟨zGOwner, zGOwner, zGOwner, zGOwner⟩ : A4 GOwner) } : GType)) zer_37 plc_37) ?_
  iterate 2 refine go ?_
  refine rgp (bd ((eGGot_ref07 zGGot_ref07)) (eGGot_ref07 ({ fL := [], fT := ({ fKind := 1, fClass := [], fN := 0, fOwn := (⟨zGOwner, zGOwner, zGOwner, zGOwner⟩ : A4 GOwner) } : GType), fV := zGVar, fNext := w_i64 (a1 + 1), fF := zGFault } : GGot_ref07)) zer_216 plc_216) ?_
  iterate 4 refine go ?_
  cases hF
  exact post_ret rfl rfl (.cons _ _ _ _ _ (.agg _ _ _ _ _ 28 _ _ rfl rfl agg_216 rfl rfl rfl) (.p _) .nil) (.inl rfl)
 iterate 3 refine go ?_
 refine rgp (bd ((eGType zGType)) (eGType ({ fKind := 2, fClass := [], fN := 0, fOwn := (⟨zGOwner, zGOwner, zGOwner, zGOwner⟩ : A4 GOwner) } : GType)) zer_37 plc_37) ?_
 refine rgp (al 2 (eGType zGType) zer_37) ?_
 iterate 3 refine go ?_
 refine rgp (bd ((eGOwner zGOwner)) (eGOwner ({ fKind := 7, fN := 0 } : GOwner)) zer_34 plc_34) ?_
 refine go ?_
 refine rgp (op_arr_lp (k := .i64) (m := 0) (n := 4) rfl rfl rfl arr_35 rfl rfl rfl rfl) ?_
 iterate 4 refine go ?_
 refine rgp (la (eGToken y3) agg_149) ?_
 obtain ⟨y17, h18, hF⟩ := bs hF
 refine rgp (cl 3 [.agg (eGToken y3)] [.p (.agg (eGOwner y17))] (ref07_word_ok h18)) ?_
 refine rgp (op_field1 (p := .int .i64 y17.fKind) rfl rfl ftb_34_0 one_3 rfl rfl rfl) ?_
 iterate 2 refine go ?_
 refine cnd hF (fun hb19 hF => ?_) fun hb19 hF => ?_
 ·cases hF
 refine aw_seq ?_
 obtain ⟨x23, hF, hK25⟩ := bs hF
 refine ctx (sX 121 [pf 0 (.vs 3 (List.map eGToken a0)), pf 1 (.int .i64 a1), (8, some (.lp 0 0)), (10, some (.lp 1 0)), pf 50 (.bool x23)] [bf 0 216 (eGGot_ref07 zGGot_ref07), bf 1 37 (eGType ({ ({ fKind := 2, fClass := [], fN := 0, fOwn := (⟨zGOwner, zGOwner, zGOwner, zGOwner⟩ : A4 GOwner) } : GType) with fOwn := ({ ({ fKind := 2, fClass := [], fN := 0, fOwn := (⟨zGOwner, zGOwner, zGOwner, zGOwner⟩ : A4 GOwner) } : GType).fOwn with a0 := ({ fKind := 7, fN := 0 } : GOwner) } : A4 GOwner) } : GType))] 2) ?_ ?_
 ·iterate 5 refine go ?_
  rcases ie hF with ⟨hb20, hF⟩ | ⟨hb20, hF⟩
  ·refine gn hb20 ?_
   iterate 2 (refine rgn hb20 (op_move rfl rfl rfl rfl) ?_)
   obtain ⟨y21, h22, hF⟩ := bs hF
   refine rgn hb20 (cl 3 [.vs 3 (List.map eGToken a0), .int .i64 a1, .bool a3] [.p (.bool y21)] (ref07_ahead_ok h22)) ?_
   refine rpt hb20 ?_
   cases hF
   exact rcz [0, 2]
  cases hF
 have hF := hK25
 refine go ?_
 refine cnd hF (fun hb26 hF => ?_) fun hb26 hF => ?_
 ·cases hF
 iterate 5 refine go ?_
 obtain ⟨y29, h30, hF⟩ := bs hF
 refine rgp (cl 2 [.vs 3 (List.map eGToken a0), .int .i64 a1] [.p (.agg (eGToken y29))] (ref06_Tok_ok h30)) ?_
 refine rgp (al 2 (eGToken zGToken) zer_149) ?_
 iterate 8 refine go ?_
 refine cnd hF (fun hb31 hF => ?_) fun hb31 hF => ?_
 ·cases hF
 iterate 17 refine go ?_
 obtain ⟨y36, h37, hF⟩ := bs hF
 refine rgp (cl 3 [.vs 3 (List.map eGToken a0), .int .i64 (w_i64 (a1 + 1))] [.p (.agg (eGToken y36))] (ref06_Tok_ok h37)) ?_
 obtain ⟨y38, h39, hF⟩ := bs hF
 refine rgp (cl 3 [.agg (eGToken y36), .str [60]] [.p (.bool y38)] (ref03_Is_ok h39)) ?_
 iterate 2 refine go ?_
 refine cnd hF (fun hb40 hF => ?_) fun hb40 hF => ?_
 ·refine go ?_
  refine rgp (la (eGType ({ ({ ({ fKind := 2, fClass := [], fN := 0, fOwn := (⟨zGOwner, zGOwner, zGOwner, zGOwner⟩ : A4 GOwner) } : GType) with fOwn := ({ ({ fKind := 2, fClass := [], fN := 0, fOwn := (⟨zGOwner, zGOwner, zGOwner, zGOwner⟩ : A4 GOwner) } : GType).fOwn with a0 := ({ fKind := 7, fN := 0 } : GOwner) } : A4 GOwner) } : GType) with fClass := y29.fText } : GType)) agg_37) ?_
  refine go ?_
  refine rgp (bd ((eGGot_ref07 zGGot_ref07)) (eGGot_ref07 ({ fL := [], fT := ({ ({ ({ fKind := 2, fClass := [], fN := 0, fOwn := (⟨zGOwner, zGOwner, zGOwner, zGOwner⟩ : A4 GOwner) } : GType) with fOwn := ({ ({ fKind := 2, fClass := [], fN := 0, fOwn := (⟨zGOwner, zGOwner, zGOwner, zGOwner⟩ : A4 GOwner) } : GType).fOwn with a0 := ({ fKind := 7, fN := 0 } : GOwner) } : A4 GOwner) } : GType) with fClass := y29.fText } : GType), fV := zGVar, fNext := w_i64 (a1 + 1), fF := zGFault } : GGot_ref07)) zer_216 plc_216) ?_
  iterate 4 refine go ?_
  cases hF
  exact post_ret rfl rfl (.cons _ _ _ _ _ (.agg _ _ _ _ _ 28 _ _ rfl rfl agg_216 rfl rfl rfl) (.p _) .nil) (.inl rfl)
 cases hF
theorem ref09_member_ok {a0 : List GToken} {a1 : Int} {a2_0 : List UInt8} {a2_1 : List (List UInt8)} {a2_2 : List UInt8} {a2_3 : List GOwner} {a2_6 : Int} {a3 : Int} {b0 : List GVar} {b1 : List GMethod} {r : (List UInt8) × (List (List UInt8)) × (List UInt8) × (List GOwner) × (List GVar) × (List GMethod) × Int × (List UInt8) × Bool × Int × (List UInt8) × Int × Int × Int × Int × Int × Int × Int × Int × Int × (List GVar) × (List GVar) × (List GStmt) × Int × (List GVar) × (List (List UInt8)) × Int × Int × Int} (hF : ref09_member a0 a1 a2_0 a2_1 a2_2 a2_3 a2_6 a3 b0 b1 = some r) : Abs.FnW globs_Tryz Tryz.prog 104 [.pv (.vs 3 (List.map eGToken a0)), .pv (.int .i64 a1), .agg [.pv (.str a2_0), .pv (.vs 1 (List.map eS a2_1)), .pv (.str a2_2), .pv (.vs 2 (List.map eGOwner a2_3)), .ls 0, .ls 1, .pv (.int .i64 a2_6)], .pv (.int .i64 a3)] [(0, some (.row 66 13 (List.map eGVar b0))), (1, some (.row 40 17 (List.map eGMethod b1)))] 2 [] [.agg [.pv (.str r.1), .pv (.vs 1 (List.map eS r.2.1)), .pv (.str r.2.2.1), .pv (.vs 2 (List.map eGOwner r.2.2.2.1)), .ls 1, .ls 2, .pv (.int .i64 r.2.2.2.2.2.2.1), .pv (.str r.2.2.2.2.2.2.2.1), .pv (.bool r.2.2.2.2.2.2.2.2.1), .pv (.int .i64 r.2.2.2.2.2.2.2.2.2.1), .pv (.str r.2.2.2.2.2.2.2.2.2.2.1), .pv (.int .i64 r.2.2.2.2.2.2.2.2.2.2.2.1), .pv (.int .i64 r.2.2.2.2.2.2.2.2.2.2.2.2.1), .pv (.int .i64 r.2.2.2.2.2.2.2.2.2.2.2.2.2.1), .pv (.int .i64 r.2.2.2.2.2.2.2.2.2.2.2.2.2.2.1), .pv (.int .i64 r.2.2.2.2.2.2.2.2.2.2.2.2.2.2.2.1), .pv (.int .i64 r.2.2.2.2.2.2.2.2.2.2.2.2.2.2.2.2.1), .pv (.int .i64 r.2.2.2.2.2.2.2.2.2.2.2.2.2.2.2.2.2.1), .pv (.int .i64 r.2.2.2.2.2.2.2.2.2.2.2.2.2.2.2.2.2.2.1), .pv (.int .i64 r.2.2.2.2.2.2.2.2.2.2.2.2.2.2.2.2.2.2.2.1), .pv (.vs 13 (List.map eGVar r.2.2.2.2.2.2.2.2.2.2.2.2.2.2.2.2.2.2.2.2.1)), .pv (.vs 13 (List.map eGVar r.2.2.2.2.2.2.2.2.2.2.2.2.2.2.2.2.2.2.2.2.2.1)), .ls 3, .pv (.int .i64 r.2.2.2.2.2.2.2.2.2.2.2.2.2.2.2.2.2.2.2.2.2.2.2.1), .pv (.vs 13 (List.map eGVar r.2.2.2.2.2.2.2.2.2.2.2.2.2.2.2.2.2.2.2.2.2.2.2.2.1)), .pv (.vs 1 (List.map eS r.2.2.2.2.2.2.2.2.2.2.2.2.2.2.2.2.2.2.2.2.2.2.2.2.2.1)), .pv (.int .i64 r.2.2.2.2.2.2.2.2.2.2.2.2.2.2.2.2.2.2.2.2.2.2.2.2.2.2.1), .pv (.int .i64 r.2.2.2.2.2.2.2.2.2.2.2.2.2.2.2.2.2.2.2.2.2.2.2.2.2.2.2.1), .pv (.int .i64 r.2.2.2.2.2.2.2.2.2.2.2.2.2.2.2.2.2.2.2.2.2.2.2.2.2.2.2.2)]] [(0, some (.box 153 [.pv (.str r.1), .pv (.vs 1 (List.map eS r.2.1)), .pv (.str r.2.2.1), .pv (.vs 2 (List.map eGOwner r.2.2.2.1)), .ls 1, .ls 2, .pv (.int .i64 r.2.2.2.2.2.2.1), .pv (.str r.2.2.2.2.2.2.2.1), .pv (.bool r.2.2.2.2.2.2.2.2.1), .pv (.int .i64 r.2.2.2.2.2.2.2.2.2.1), .pv (.str r.2.2.2.2.2.2.2.2.2.2.1), .pv (.int .i64 r.2.2.2.2.2.2.2.2.2.2.2.1), .pv (.int .i64 r.2.2.2.2.2.2.2.2.2.2.2.2.1), .pv (.int .i64 r.2.2.2.2.2.2.2.2.2.2.2.2.2.1), .pv (.int .i64 r.2.2.2.2.2.2.2.2.2.2.2.2.2.2.1), .pv (.int .i64 r.2.2.2.2.2.2.2.2.2.2.2.2.2.2.2.1), .pv (.int .i64 r.2.2.2.2.2.2.2.2.2.2.2.2.2.2.2.2.1), .pv (.int .i64 r.2.2.2.2.2.2.2.2.2.2.2.2.2.2.2.2.2.1), .pv (.int .i64 r.2.2.2.2.2.2.2.2.2.2.2.2.2.2.2.2.2.2.1), .pv (.int .i64 r.2.2.2.2.2.2.2.2.2.2.2.2.2.2.2.2.2.2.2.1), .pv (.vs 13 (List.map eGVar r.2.2.2.2.2.2.2.2.2.2.2.2.2.2.2.2.2.2.2.2.1)), .pv (.vs 13 (List.map eGVar r.2.2.2.2.2.2.2.2.2.2.2.2.2.2.2.2.2.2.2.2.2.1)), .ls 3, .pv (.int .i64 r.2.2.2.2.2.2.2.2.2.2.2.2.2.2.2.2.2.2.2.2.2.2.2.1), .pv (.vs 13 (List.map eGVar r.2.2.2.2.2.2.2.2.2.2.2.2.2.2.2.2.2.2.2.2.2.2.2.2.1)), .pv (.vs 1 (List.map eS r.2.2.2.2.2.2.2.2.2.2.2.2.2.2.2.2.2.2.2.2.2.2.2.2.2.1)), .pv (.int .i64 r.2.2.2.2.2.2.2.2.2.2.2.2.2.2.2.2.2.2.2.2.2.2.2.2.2.2.1), .pv (.int .i64 r.2.2.2.2.2.2.2.2.2.2.2.2.2.2.2.2.2.2.2.2.2.2.2.2.2.2.2.1), .pv (.int .i64 r.2.2.2.2.2.2.2.2.2.2.2.2.2.2.2.2.2.2.2.2.2.2.2.2.2.2.2.2)])), (1, some (.row 66 13 (List.map eGVar r.2.2.2.2.1))), (2, some (.row 40 17 (List.map eGMethod r.2.2.2.2.2.1))), (3, some (.row 48 23 (eLGStmt r.2.2.2.2.2.2.2.2.2.2.2.2.2.2.2.2.2.2.2.2.2.2.1)))] 4 := by
 unfold ref09_member at hF
 refine fnW_of_body (n := 131) (m := 2) [] Tryz.func104 rfl rfl rfl ?_
 intro c w O θ hcx
 refine go ?_
 refine rgp (bo 2) ?_
 refine rgp (al 3 (eGGot_ref09 zGGot_ref09) zer_153) ?_
 iterate 4 refine go ?_
 obtain ⟨y3, h4, hF⟩ := bs hF
 refine rgp (cl 4 [.vs 3 (List.map eGToken a0), .int .i64 a1] [.p (.agg (eGToken y3))] (ref09_tok_ok h4)) ?_
 refine rgp (op_field1 (p := .int .i64 y3.fAt) rfl rfl ftb_149_2 one_3 rfl rfl rfl) ?_
 iterate 6 refine go ?_
 obtain ⟨y7, h8, hF⟩ := bs hF
 refine rgp (cl 4 [.vs 3 (List.map eGToken a0), .int .i64 a1, .str [112, 117, 114, 101]] [.p (.bool y7)] (ref09_is_ok h8)) ?_
 refine rgp (op_buildM (zs := [.str zGMethod.fName, .bool zGMethod.fPure, .int .i64 zGMethod.fRet.fKind, .str zGMethod.fRet.fClass, .int .i64 zGMethod.fRet.fN, .int .i64 zGMethod.fRet.fOwn.a0.fKind, .int .i64 zGMethod.fRet.fOwn.a0.fN, .int .i64 zGMethod.fRet.fOwn.a1.fKind, .int .i64 zGMethod.fRet.fOwn.a1.fN, .int .i64 zGMethod.fRet.fOwn.a2.fKind, .int .i64 zGMethod.fRet.fOwn.a2.fN, .int .i64 zGMethod.fRet.fOwn.a3.fKind, .int .i64 zGMethod.fRet.fOwn.a3.fN, .vs 13 (List.map eGVar zGMethod.fParams), .vs 13 (List.map eGVar zGMethod.fLocals), .nils, .int .i64 zGMethod.fAt]) (r := [.pv (.str zGMethod.fName), .pv (.bool y7), .pv (.int .i64 zGMethod.fRet.fKind), .pv (.str zGMethod.fRet.fClass), .pv (.int .i64 zGMethod.fRet.fN), .pv (.int .i64 zGMethod.fRet.fOwn.a0.fKind), .pv (.int .i64 zGMethod.fRet.fOwn.a0.fN), .pv (.int .i64 zGMethod.fRet.fOwn.a1.fKind), .pv (.int .i64 zGMethod.fRet.fOwn.a1.fN), .pv (.int .i64 zGMethod.fRet.fOwn.a2.fKind), .pv (.int .i64 zGMethod.fRet.fOwn.a2.fN), .pv (.int .i64 zGMethod.fRet.fOwn.a3.fKind), .pv (.int .i64 zGMethod.fRet.fOwn.a3.fN), .pv (.vs 13 (List.map eGVar zGMethod.fParams)), .pv (.vs 13 (List.map eGVar zGMethod.fLocals)), .pv .nils, .pv (.int .i64 y3.fAt)]) rfl zer_40 (by exact ⟨rfl, rfl, rfl, rfl, rfl, rfl, rfl, rfl, rfl, rfl, rfl, rfl, rfl, trivial, trivial, rfl, rfl, trivial⟩) plc_40 rfl rfl rfl rfl) ?_
 refine rgp (al 4 (eGMethod zGMethod) zer_40) ?_
 refine go ?_
 refine reg_imp (imp_nil_box 4 15 40 48 23 5 rfl rfl rfl) ?_
 iterate 6 refine go ?_
 refine cnd hF (fun hb9 hF => ?_) fun hb9 hF => ?_
 ·cases hF
 iterate 7 refine go ?_
 obtain ⟨y12, h13, hF⟩ := bs hF
 refine rgp (cl 6 [.vs 3 (List.map eGToken a0), .int .i64 a1, .vs 1 (List.map eS a2_1), .bool true] [.p (.agg (eGGot_ref07 y12))] (ref07_Parse_ok h13)) ?_
 refine rgp (al 6 (eGGot_ref07 zGGot_ref07) zer_216) ?_
 iterate 9 refine go ?_
 refine cnd hF (fun hb14 hF => ?_) fun hb14 hF => ?_
 ·cases hF
 iterate 6 refine go ?_
 obtain ⟨y17, h18, hF⟩ := bs hF
 refine rgp (cl 7 [.vs 3 (List.map eGToken a0), .int .i64 y12.fNext] [.p (.agg (eGToken y17))] (ref09_tok_ok h18)) ?_
 refine rgp (al 7 (eGToken zGToken) zer_149) ?_
 iterate 8 refine go ?_
 refine cnd hF (fun hb19 hF => ?_) fun hb19 hF => ?_
 ·cases hF
 iterate 4 refine go ?_
 refine rgp (la (eGType y12.fT) agg_37) ?_
 iterate 19 refine go ?_
 obtain ⟨y22, h23, hF⟩ := bs hF
 refine rgp (cl 8 [.vs 3 (List.map eGToken a0), .int .i64 (w_i64 (y12.fNext + 1)), .str [40]] [.p (.bool y22)] (ref09_is_ok h23)) ?_
 refine reg_nil ?_
 refine piz (sX 131 [pf 0 (.vs 3 (List.map eGToken a0)), pf 1 (.int .i64 (w_i64 (y12.fNext + 1))), (6, some (.lp 0 0)), (8, some (.lp 3 0)), pf 9 (.int .i64 y3.fAt), (10, some (.lp 4 0)), (11, some (.lp 6 0)), pf 61 (.bool y22)] [(0, some (.box 32 [.pv (.str a2_0), .pv (.vs 1 (List.map eS a2_1)), .pv (.str a2_2), .pv (.vs 2 (List.map eGOwner a2_3)), .ls 1, .ls 2, .pv (.int .i64 a2_6)])), (1, some (.row 66 13 (List.map eGVar b0))), (2, some (.row 40 17 (List.map eGMethod b1))), bf 3 153 (eGGot_ref09 zGGot_ref09), (4, some (.box 40 [.pv (.str y17.fText), .pv (.bool y7), .pv (.int .i64 y12.fT.fKind), .pv (.str y12.fT.fClass), .pv (.int .i64 y12.fT.fN), .pv (.int .i64 y12.fT.fOwn.a0.fKind), .pv (.int .i64 y12.fT.fOwn.a0.fN), .pv (.int .i64 y12.fT.fOwn.a1.fKind), .pv (.int .i64 y12.fT.fOwn.a1.fN), .pv (.int .i64 y12.fT.fOwn.a2.fKind), .pv (.int .i64 y12.fT.fOwn.a2.fN), .pv (.int .i64 y12.fT.fOwn.a3.fKind), .pv (.int .i64 y12.fT.fOwn.a3.fN), .pv (.vs 13 (List.map eGVar zGMethod.fParams)), .pv (.vs 13 (List.map eGVar zGMethod.fLocals)), .ls 5, .pv (.int .i64 y3.fAt)])), (5, some (.row 48 23 (eLGStmt []))), bf 6 216 (eGGot_ref07 y12)] 7) [2, 0, 1, 3, 4, 5, 6] ?_
 refine go ?_
 refine cnd hF (fun hb24 hF => ?_) fun hb24 hF => ?_
 ·cases hF
 iterate 2 refine go ?_
 refine aw_seq ?_
 refine aw_seq ?_
 obtain ⟨p30, hF, hK31⟩ := bs hF
 refine ctx (sX 131 [pf 1 (.int .i64 (w_i64 (y12.fNext + 1))), (6, some (.lp 0 0)), (8, some (.lp 3 0)), pf 9 (.int .i64 y3.fAt), (10, some (.lp 4 0)), pf 105 (.bool (y12.fT.fKind == 0))] [(0, some (.box 32 [.pv (.str a2_0), .pv (.vs 1 (List.map eS a2_1)), .pv (.str a2_2), .pv (.vs 2 (List.map eGOwner a2_3)), .ls 1, .ls 2, .pv (.int .i64 a2_6)])), (1, some (.row 66 13 (List.map eGVar b0))), (2, some (.row 40 17 (List.map eGMethod b1))), bf 3 153 (eGGot_ref09 zGGot_ref09), (4, some (.box 40 [.pv (.str y17.fText), .pv (.bool y7), .pv (.int .i64 y12.fT.fKind), .pv (.str y12.fT.fClass), .pv (.int .i64 y12.fT.fN), .pv (.int .i64 y12.fT.fOwn.a0.fKind), .pv (.int .i64 y12.fT.fOwn.a0.fN), .pv (.int .i64 y12.fT.fOwn.a1.fKind), .pv (.int .i64 y12.fT.fOwn.a1.fN), .pv (.int .i64 y12.fT.fOwn.a2.fKind), .pv (.int .i64 y12.fT.fOwn.a2.fN), .pv (.int .i64 y12.fT.fOwn.a3.fKind), .pv (.int .i64 y12.fT.fOwn.a3.fN), .pv (.vs 13 (List.map eGVar zGMethod.fParams)), .pv (.vs 13 (List.map eGVar zGMethod.fLocals)), .ls 5, .pv (.int .i64 y3.fAt)])), (5, some (.row 48 23 (eLGStmt [])))] 6) ?_ ?_
 ·iterate 3 refine go ?_
  obtain ⟨y27, h28, hF⟩ := bs hF
  refine rgp (cl 7 [.vs 3 (List.map eGToken a0), .int .i64 (w_i64 (y12.fNext + 1)), .str [59]] [.p (.bool y27)] (ref09_is_ok h28)) ?_
  iterate 2 refine go ?_
  rcases ie hF with ⟨hb29, hF⟩ | ⟨hb29, hF⟩
  ·cases hF
  iterate 2 refine gn hb29 ?_
  refine rpf hb29 ?_
  refine go ?_
  iterate 4 refine gn hb9 ?_
  refine rpf hb9 ?_
  cases hF
  exact rcz [0, 1, 2, 3, 4, 5]
 have hF := hK31
 refine go ?_
 refine cnd hF (fun hb32 hF => ?_) fun hb32 hF => ?_
 ·cases hF
 iterate 6 refine go ?_
 refine rgp (op_len_ls (n := b0.length) rfl rfl rfl (List.length_map ..) slc_29 rfl rfl) ?_
 iterate 2 refine go ?_
 refine cnd hF (fun hb33 hF => ?_) fun hb33 hF => ?_
 ·cases hF
 iterate 8 refine go ?_
 refine rgp (la (eGType y12.fT) agg_37) ?_
 refine go ?_
 refine rgp (bd ((eGVar zGVar)) (eGVar ({ fName := y17.fText, fType := y12.fT, fAt := y3.fAt } : GVar)) zer_66 plc_66) ?_
 refine rgp (op_lit (rows := List.map eGVar ([({ fName := y17.fText, fType := y12.fT, fAt := y3.fAt } : GVar)] : List GVar)) (zs := (eGVar zGVar)) rfl rfl slc_29 zer_66 (by exact ⟨rfl, rfl, rfl, rfl, rfl, rfl, rfl, rfl, rfl, rfl, rfl, rfl, rfl, trivial⟩) rfl rfl rfl rfl rfl rfl rfl rfl) ?_
 obtain ⟨u36, h37, hF⟩ := bs hF
 refine rgp (op_append 6 rfl rfl rfl rfl rfl slc_29 elm_66 zer_66 rfl rfl rfl (room_map (f := eGVar) (g := eGVar) h37) (List.map_append (f := eGVar) (l₁ := b0) (l₂ := [({ fName := y17.fText, fType := y12.fT, fAt := y3.fAt } : GVar)])).symm rfl rfl) ?_
 refine reg_imp (imp_any 0 4 rfl) ?_
 iterate 4 refine go ?_
 refine rgp (op_load_lp_aggM (cs := [.pv (.str a2_0), .pv (.vs 1 (List.map eS a2_1)), .pv (.str a2_2), .pv (.vs 2 (List.map eGOwner a2_3)), .ls 6, .ls 2, .pv (.int .i64 a2_6)]) rfl rfl rfl rfl rfl agg_32 rfl rfl) ?_
 iterate 2 refine go ?_
 refine rgp (op_buildM (zs := [.str zGGot_ref09.fC.fName, .vs 1 (List.map eS zGGot_ref09.fC.fParams), .str zGGot_ref09.fC.fSuper, .vs 2 (List.map eGOwner zGGot_ref09.fC.fAbove), .nils, .nils, .int .i64 zGGot_ref09.fC.fAt, .str zGGot_ref09.fM.fName, .bool zGGot_ref09.fM.fPure, .int .i64 zGGot_ref09.fM.fRet.fKind, .str zGGot_ref09.fM.fRet.fClass, .int .i64 zGGot_ref09.fM.fRet.fN, .int .i64 zGGot_ref09.fM.fRet.fOwn.a0.fKind, .int .i64 zGGot_ref09.fM.fRet.fOwn.a0.fN, .int .i64 zGGot_ref09.fM.fRet.fOwn.a1.fKind, .int .i64 zGGot_ref09.fM.fRet.fOwn.a1.fN, .int .i64 zGGot_ref09.fM.fRet.fOwn.a2.fKind, .int .i64 zGGot_ref09.fM.fRet.fOwn.a2.fN, .int .i64 zGGot_ref09.fM.fRet.fOwn.a3.fKind, .int .i64 zGGot_ref09.fM.fRet.fOwn.a3.fN, .vs 13 (List.map eGVar zGGot_ref09.fM.fParams), .vs 13 (List.map eGVar zGGot_ref09.fM.fLocals), .nils, .int .i64 zGGot_ref09.fM.fAt, .vs 13 (List.map eGVar zGGot_ref09.fV), .vs 1 (List.map eS zGGot_ref09.fN), .int .i64 zGGot_ref09.fNext, .int .i64 zGGot_ref09.fF.fErr, .int .i64 zGGot_ref09.fF.fAt]) (r := [.pv (.str a2_0), .pv (.vs 1 (List.map eS a2_1)), .pv (.str a2_2), .pv (.vs 2 (List.map eGOwner a2_3)), .ls 6, .ls 2, .pv (.int .i64 a2_6), .pv (.str zGGot_ref09.fM.fName), .pv (.bool zGGot_ref09.fM.fPure), .pv (.int .i64 zGGot_ref09.fM.fRet.fKind), .pv (.str zGGot_ref09.fM.fRet.fClass), .pv (.int .i64 zGGot_ref09.fM.fRet.fN), .pv (.int .i64 zGGot_ref09.fM.fRet.fOwn.a0.fKind), .pv (.int .i64 zGGot_ref09.fM.fRet.fOwn.a0.fN), .pv (.int .i64 zGGot_ref09.fM.fRet.fOwn.a1.fKind), .pv (.int .i64 zGGot_ref09.fM.fRet.fOwn.a1.fN), .pv (.int .i64 zGGot_ref09.fM.fRet.fOwn.a2.fKind), .pv (.int .i64 zGGot_ref09.fM.fRet.fOwn.a2.fN), .pv (.int .i64 zGGot_ref09.fM.fRet.fOwn.a3.fKind), .pv (.int .i64 zGGot_ref09.fM.fRet.fOwn.a3.fN), .pv (.vs 13 (List.map eGVar zGGot_ref09.fM.fParams)), .pv (.vs 13 (List.map eGVar zGGot_ref09.fM.fLocals)), .pv .nils, .pv (.int .i64 zGGot_ref09.fM.fAt), .pv (.vs 13 (List.map eGVar zGGot_ref09.fV)), .pv (.vs 1 (List.map eS zGGot_ref09.fN)), .pv (.int .i64 (w_i64 ((w_i64 (y12.fNext + 1)) + 1))), .pv (.int .i64 zGGot_ref09.fF.fErr), .pv (.int .i64 zGGot_ref09.fF.fAt)]) rfl zer_153 (by exact ⟨rfl, trivial, rfl, trivial, rfl, rfl, rfl, rfl, rfl, rfl, rfl, rfl, rfl, rfl, rfl, rfl, rfl, rfl, rfl, rfl, trivial, trivial, rfl, rfl, trivial, trivial, rfl, rfl, rfl, trivial⟩) plc_153 rfl rfl rfl rfl) ?_
 refine go ?_
 refine reg_imp (imp_nil_box 3 22 153 48 23 7 rfl rfl rfl) ?_
 iterate 2 refine go ?_
 refine piz (sX 131 [(8, some (.lp 0 0))] [(0, some (.box 153 [.pv (.str a2_0), .pv (.vs 1 (List.map eS a2_1)), .pv (.str a2_2), .pv (.vs 2 (List.map eGOwner a2_3)), .ls 1, .ls 2, .pv (.int .i64 a2_6), .pv (.str zGGot_ref09.fM.fName), .pv (.bool zGGot_ref09.fM.fPure), .pv (.int .i64 zGGot_ref09.fM.fRet.fKind), .pv (.str zGGot_ref09.fM.fRet.fClass), .pv (.int .i64 zGGot_ref09.fM.fRet.fN), .pv (.int .i64 zGGot_ref09.fM.fRet.fOwn.a0.fKind), .pv (.int .i64 zGGot_ref09.fM.fRet.fOwn.a0.fN), .pv (.int .i64 zGGot_ref09.fM.fRet.fOwn.a1.fKind), .pv (.int .i64 zGGot_ref09.fM.fRet.fOwn.a1.fN), .pv (.int .i64 zGGot_ref09.fM.fRet.fOwn.a2.fKind), .pv (.int .i64 zGGot_ref09.fM.fRet.fOwn.a2.fN), .pv (.int .i64 zGGot_ref09.fM.fRet.fOwn.a3.fKind), .pv (.int .i64 zGGot_ref09.fM.fRet.fOwn.a3.fN), .pv (.vs 13 (List.map eGVar zGGot_ref09.fM.fParams)), .pv (.vs 13 (List.map eGVar zGGot_ref09.fM.fLocals)), .ls 3, .pv (.int .i64 zGGot_ref09.fM.fAt), .pv (.vs 13 (List.map eGVar zGGot_ref09.fV)), .pv (.vs 1 (List.map eS zGGot_ref09.fN)), .pv (.int .i64 (w_i64 ((w_i64 (y12.fNext + 1)) + 1))), .pv (.int .i64 zGGot_ref09.fF.fErr), .pv (.int .i64 zGGot_ref09.fF.fAt)])), (1, some (.row 66 13 (List.map eGVar (b0 ++ [({ fName := y17.fText, fType := y12.fT, fAt := y3.fAt } : GVar)])))), (2, some (.row 40 17 (List.map eGMethod b1))), (3, some (.row 48 23 (eLGStmt [])))] 4) [3, 6, 2, 7] ?_
 cases hF
 exact post_retW hcx rfl (.cons _ _ _ _ (.aggM _ _ _ _ _ 29 _ _ rfl rfl agg_153 rfl rfl) .nil) rfl (.inl rfl)
end Go.Proofs.YthhdlpggmmfaiaaGreat
