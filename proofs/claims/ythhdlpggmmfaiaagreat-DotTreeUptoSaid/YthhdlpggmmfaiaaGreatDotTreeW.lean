/- A part of the proof that the law DotTree gives true for every input. -/
import Derived.Test.YthhdlpggmmfaiaaGreatDotTreeT
import Derived.Test.YthhdlpggmmfaiaaGreatDotTreeB
import Derived.Test.YthhdlpggmmfaiaaGreatDotTreeS
import Derived.Test.YthhdlpggmmfaiaaGreatDotTreeX
import Derived.Test.YthhdlpggmmfaiaaGreatDotTreeI
import Derived.Test.YthhdlpggmmfaiaaGreatDotTreeW0
/- Each Go function computes its plain function. -/
namespace Go.Proofs.YthhdlpggmmfaiaaGreat
open Go.RowKit Go.Abs
set_option maxRecDepth 100000
set_option maxHeartbeats 4000000
theorem word_Digits_ok {a0 : Int} {r : (List UInt8)} (hF : word_Digits a0 = some r) : FZ 49 [.int .i64 a0] [.p (.str r)] := by
 unfold word_Digits at hF
 refine fn_of_body (n := 38) Tryz.func49 rfl rfl rfl fun w O => ?_
 iterate 5 refine go ?_
 refine rgp (op_convInt rfl rfl und_3 und_93 rfl rfl) ?_
 iterate 2 refine go ?_
 refine aw_seq ?_
 obtain ⟨x2, hF, hK4⟩ := bs hF
 refine ctx (sX 38 [pf 0 (.int .i64 a0), pf 3 (.int .u64 x2)] [] 0) ?_ ?_
 ·iterate 4 refine go ?_
  refine cnd hF (fun hb1 hF => ?_) fun hb1 hF => ?_
  ·iterate 2 refine go ?_
   refine rgp (op_neg rfl rfl rfl rfl) ?_
   refine go ?_
   cases hF
   exact rcz []
  refine go ?_
  cases hF
  exact pcz []
 have hF := hK4
 iterate 3 refine go ?_
 refine reg_imp (imp_nil_own 4 5 1 0 rfl rfl) ?_
 iterate 5 refine go ?_
 refine rgp (op_int2 (k := .u64) (m := x2) (n := 10) rfl rfl rfl (rem_op (by decide)) rfl rfl) ?_
 refine go ?_
 refine rgp (op_convInt rfl rfl und_93 und_5 rfl rfl) ?_
 refine rgp (op_lit (rows := List.map eI_u8 ([w_u8 (w_u64 (48 + (Int.tmod x2 10)))] : List Int)) (zs := [.int .u8 0]) rfl rfl slc_111 zer_5 (by exact ⟨rfl, trivial⟩) rfl rfl rfl rfl rfl rfl rfl rfl) ?_
 obtain ⟨u7, h8, hF⟩ := bs hF
 refine rgp (op_append 1 rfl rfl rfl rfl rfl slc_111 elm_5 zer_5 rfl rfl rfl (room_map (f := eI_u8) (g := eI_u8) h8) (List.map_append (f := eI_u8) (l₁ := []) (l₂ := [w_u8 (w_u64 (48 + (Int.tmod x2 10)))])).symm rfl rfl) ?_
 iterate 2 refine go ?_
 obtain ⟨x24, hF, hK25⟩ := bs hF
 refine aw_for 21 (fun s1 => s1 = (sX 38 [pf 0 (.int .i64 a0), (4, some (.ls 0))] [(0, some (.row 5 1 (List.map eI_u8 x24)))] 1)) ?_ ?_
 ·refine rnd_loop (α := Int × (List Int)) (fun q => (sX 38 [pf 0 (.int .i64 a0), pf 3 (.int .u64 q.1), (4, some (.ls 0))] [(0, some (.row 5 1 (List.map eI_u8 q.2)))] 1)) (fun k q => word_Digits_L1 k q.1 q.2 = some x24) (x2, ([] ++ [w_u8 (w_u64 (48 + (Int.tmod x2 10)))])) (impz [1]) hF (fun q h => by cases h) ?_
  clear hF
  rintro k ⟨x12, x13⟩ hF ih
  refine rnd_succ ?_
  iterate 5 refine go ?_
  refine cnd hF (fun hb19 hF => ?_) fun hb19 hF => ?_
  ·iterate 2 refine go ?_
   refine aw_seq ?_
   refine aw_block ?_
   iterate 2 refine go ?_
   refine rgp (op_int2 (k := .u64) (m := x12) (n := 10) rfl rfl rfl (quo_op (by decide)) rfl rfl) ?_
   refine go ?_
   refine reg_nil ?_
   refine piz (sX 38 [pf 0 (.int .i64 a0), pf 3 (.int .u64 (w_u64 (Int.tdiv x12 10))), (4, some (.ls 0))] [(0, some (.row 5 1 (List.map eI_u8 x13)))] 1) [0] ?_
   iterate 5 refine go ?_
   refine rgp (op_int2 (k := .u64) (m := w_u64 (Int.tdiv x12 10)) (n := 10) rfl rfl rfl (rem_op (by decide)) rfl rfl) ?_
   refine go ?_
   refine rgp (op_convInt rfl rfl und_93 und_5 rfl rfl) ?_
   refine rgp (op_lit (rows := List.map eI_u8 ([w_u8 (w_u64 (48 + (Int.tmod (w_u64 (Int.tdiv x12 10)) 10)))] : List Int)) (zs := [.int .u8 0]) rfl rfl slc_111 zer_5 (by exact ⟨rfl, trivial⟩) rfl rfl rfl rfl rfl rfl rfl rfl) ?_
   obtain ⟨u20, h21, hF⟩ := bs hF
   refine rgp (op_append 1 rfl rfl rfl rfl rfl slc_111 elm_5 zer_5 rfl rfl rfl (room_map (f := eI_u8) (g := eI_u8) h21) (List.map_append (f := eI_u8) (l₁ := x13) (l₂ := [w_u8 (w_u64 (48 + (Int.tmod (w_u64 (Int.tdiv x12 10)) 10)))])).symm rfl rfl) ?_
   refine go ?_
   refine rnr ?_
   exact rnd_back (ih (w_u64 (Int.tdiv x12 10), (x13 ++ [w_u8 (w_u64 (48 + (Int.tmod (w_u64 (Int.tdiv x12 10)) 10)))])) hF) (impz [1])
  refine aw_exit ?_
  iterate 2 refine post_then_exit ?_
  cases hF
  exact post_lp_break _ rfl (impz [0])
 rintro _ rfl
 have hF := hK25
 refine go ?_
 refine aw_seq ?_
 obtain ⟨x29, hF, hK31⟩ := bs hF
 refine ctx (sX 38 [(4, some (.ls 0))] [(0, some (.row 5 1 (List.map eI_u8 x29)))] 1) ?_ ?_
 ·iterate 4 refine go ?_
  refine cnd hF (fun hb26 hF => ?_) fun hb26 hF => ?_
  ·iterate 2 refine go ?_
   refine rgp (op_lit (rows := List.map eI_u8 ([45] : List Int)) (zs := [.int .u8 0]) rfl rfl slc_111 zer_5 (by exact ⟨rfl, trivial⟩) rfl rfl rfl rfl rfl rfl rfl rfl) ?_
   obtain ⟨u27, h28, hF⟩ := bs hF
   refine rgp (op_append 1 rfl rfl rfl rfl rfl slc_111 elm_5 zer_5 rfl rfl rfl (room_map (f := eI_u8) (g := eI_u8) h28) (List.map_append (f := eI_u8) (l₁ := x24) (l₂ := [45])).symm rfl rfl) ?_
   refine go ?_
   cases hF
   exact rcz [1]
  refine go ?_
  cases hF
  exact pcz [0]
 have hF := hK31
 iterate 3 refine go ?_
 obtain ⟨y32, h33, hF⟩ := bs hF
 refine rgp (op_callW (args := [.ls 0]) [0] [0] [] 1 rfl rfl rfl rfl rfl cal_82 (slices_Reverse_byte_w_ok h33) rfl (by decide) ⟨rfl, trivial⟩ rfl (by decide) ⟨.inl rfl, trivial⟩ (by kernel_rfl) (by kernel_rfl) rfl rfl rfl rfl) ?_
 iterate 3 refine go ?_
 refine reg_imp (imp_freeze [(0, some (.row 5 1 (List.map eI_u8 y32)))] [(4, some (.pv (.vs 1 (List.map eI_u8 y32)))), (36, some (.pv (.vs 1 (List.map eI_u8 y32))))] (FzH.spec ⟨rfl, trivial⟩) ⟨⟨_, rfl, rfl⟩, ⟨_, rfl, rfl⟩, trivial⟩) ?_
 refine rgp (op_bytesStr (E := eI_u8) rfl rfl rfl und_111 und_5 und_9 rfl rfl) ?_
 iterate 3 refine go ?_
 cases hF
 exact prt
theorem above_up_ok {a0 : List GClass} {a1 : List UInt8} {r : (List GClass) × (List UInt8)} (hF : above_up a0 a1 = some r) : FZ 117 [.vs 7 (List.map eGClass a0), .str a1] [.clo 138 [.vp ((eL 7 eGClass) r.1)] 9 [.str r.2] []] := by
 unfold above_up at hF
 refine fn_of_body (n := 6) Tryz.func117 rfl rfl rfl fun w O => ?_
 refine go ?_
 refine rgp (bo 0) ?_
 refine rgp (bo 1) ?_
 iterate 3 refine go ?_
 refine rgp (op_makeFunc rfl rfl rfl rfl) ?_
 iterate 3 refine go ?_
 refine post_imp (imp_freeze_cap 4 0 [.pv (.vp ((eL 7 eGClass) a0)), .lp 1 0] rfl rfl rfl rfl ⟨.inr ⟨rfl, rfl⟩, .inl rfl, trivial⟩) ?_
 cases hF
 exact post_ret rfl rfl (.cons _ _ _ _ _ (.tmp _ _ rfl) (.clo 138 [.vp ((eL 7 eGClass) a0)] [] 1 9 [.str a1] rfl nolent3) .nil) (.inl rfl)
theorem slices_IndexFunc_api_Class_ok {a0 : List GClass} {q1 : GClass → Option Bool} {r : Int} {q1_f : Nat} {q1_c : List PV} (q1_b : callB Tryz.prog q1_f = true) (q1_h : ∀ (x0 : GClass) (r : Bool), q1 x0 = some r → FZ q1_f ([.agg (eGClass x0)] ++ q1_c) [.p (.bool r)]) (hF : slices_IndexFunc_api_Class a0 q1 = some r) : FZ 158 [.vs 7 (List.map eGClass a0), .fn q1_f q1_c] [.p (.int .i64 r)] := by
 unfold slices_IndexFunc_api_Class at hF
 refine fn_of_body (n := 19) Tryz.func158 rfl rfl rfl fun w O => ?_
 iterate 9 refine go ?_
 obtain ⟨lr34, hF, hK35⟩ := bs hF
 refine aw_for ((a0.length - 0 : Int).toNat + 1) (fun s1 => ∃ q, lr34 = .next q ∧ s1 = (sX 19 [] [] 0)) ?_ ?_
 ·refine rnd_loop (α := Int) (fun q => (sX 19 [pf 0 (.vs 7 (List.map eGClass a0)), pf 1 (.fn q1_f q1_c), pf 7 (.int .i64 (a0.length : Int)), pf 8 (.int .i64 q)] [] 0)) (fun k q => slices_IndexFunc_api_Class_L1 a0 q1 k q = some lr34) 0 (impz []) hF (fun q h => by cases h) ?_
  clear hF
  rintro k x11 hF ih
  refine rnd_succ ?_
  iterate 3 refine go ?_
  refine aw_seq ?_
  refine cnd hF (fun hb23 hF => ?_) fun hb23 hF => ?_
  ·iterate 2 refine go ?_
   refine aw_seq ?_
   refine aw_block ?_
   iterate 8 refine go ?_
   obtain ⟨y28, h29, hF⟩ := bs hF
   refine rgp (ix (idx_map eGClass h29) slc_22) ?_
   refine rgp (lw (eGClass y28) agg_32) ?_
   obtain ⟨y30, h31, hF⟩ := bs hF
   refine rgp (op_call 0 rfl (caps := q1_c) (args := [.agg (eGClass y28)]) (rs := [.p (.bool y30)]) rfl rfl rfl q1_b (q1_h y28 _ h31) rfl rfl rfl) ?_
   refine go ?_
   refine cnd hF (fun hb32 hF => ?_) fun hb32 hF => ?_
   ·iterate 8 refine go ?_
    refine post_lp_ret ?_
    cases hF
    have hF := elim_stop hK35
    refine go ?_
    cases hF
    exact prt
   iterate 6 refine go ?_
   refine rnr ?_
   exact rnd_back (ih (w_i64 (x11 + 1)) hF) (impz [])
  refine aw_exit ?_
  iterate 2 refine post_then_exit ?_
  cases hF
  exact post_lp_break _ ⟨_, rfl, rfl⟩ (impz [])
 rintro _ ⟨⟨⟩, rfl, rfl⟩
 have hF := elim_next hK35
 clear hK35
 iterate 5 refine go ?_
 cases hF
 exact prt
theorem table_Find_1_ok {a0 : GClass} {c0 : List UInt8} {r : Bool} (hF : table_Find_1 a0 c0 = some r) : FZ 159 [.agg (eGClass a0), .vp (eS c0)] [.p (.bool r)] := by
 unfold table_Find_1 at hF
 refine fn_of_body (n := 8) Tryz.func159 rfl rfl rfl fun w O => ?_
 refine go ?_
 refine rgp (bo 0) ?_
 iterate 6 refine go ?_
 refine rgp (op_str rfl rfl rfl rfl rfl rfl) ?_
 iterate 3 refine go ?_
 cases hF
 exact prt
theorem table_Find_ok {a0 : List GClass} {a1 : List UInt8} {r : Int} (hF : table_Find a0 a1 = some r) : FZ 139 [.vs 7 (List.map eGClass a0), .str a1] [.p (.int .i64 r)] := by
 unfold table_Find at hF
 refine fn_of_body (n := 8) Tryz.func139 rfl rfl rfl fun w O => ?_
 refine go ?_
 refine rgp (bo 0) ?_
 iterate 4 refine go ?_
 refine rgp (op_makeFunc rfl rfl rfl rfl) ?_
 obtain ⟨y2, h3, hF⟩ := bs hF
 refine rgp (op_callB 1 rfl (caps := []) (args := [.vs 7 (List.map eGClass a0), .fn 159 [.vp (eS a1)]]) [(0, some (.box 9 [.pv (.str a1)]))] rfl rfl rfl (FzH.spec ⟨rfl, trivial⟩) rfl rfl cal_158 (slices_IndexFunc_api_Class_ok (q1_f := 159) (q1_c := [.vp (eS a1)]) (q1_b := cal_159) (q1_h := fun _ r h => (table_Find_1_ok h)) h3) rfl rfl rfl) ?_
 iterate 3 refine go ?_
 cases hF
 exact prt
theorem above_up_1_it {rows : List (Int)} {sp : Nat} {c0 : List GClass} {c1 : List UInt8} (hF : above_up_1 rows sp c0 c1 = some (min (sp + 1) rows.length)) : It globs_Tryz Tryz.prog 138 1 [.vp ((eL 7 eGClass) c0)] (some (9, [.str c1])) [] (rows.map (fun z : Int => ([.int .i64 z] : List PV))) sp := by
 unfold above_up_1 at hF
 refine it_of_body (n := 29) Tryz.func138 rfl rfl rfl ?_
 intro l c hcx
 iterate 5 refine go ?_
 refine reg_nil ?_
 refine piz (sX 29 [pf 0 (.yld l), pf 1 (.vp ((eL 7 eGClass) c0)), (2, some (.lp 0 0)), pf 7 (.int .i64 (w_i64 ((c0.length : Int) + 1))), pf 8 (.int .i64 0)] [(0, some (.box 9 [.pv (.str c1)]))] 1) [0] ?_
 refine go ?_
 obtain ⟨lr65, hF, hK66⟩ := bs hF
 refine aw_for ((((w_i64 ((c0.length : Int) + 1)) : Int) - (0)).toNat + 1) (fun s1 => ∃ q, lr65 = .next q ∧ s1 = ⟨29, [], [], 0, [], [], q, []⟩) ?_ ?_
 ·refine rnd_loop (α := Nat × (List UInt8) × Int) (fun q => ⟨29, [(0, some (.pv (.yld l))), (1, some (.pv (.vp ((eL 7 eGClass) c0)))), (2, some (.lp 0 0)), (7, some (.pv (.int .i64 (w_i64 ((c0.length : Int) + 1))))), (8, some (.pv (.int .i64 q.2.2)))], [(0, some (.box 9 [.pv (.str q.2.1)]))], 1, [], [], q.1, []⟩) (fun k q => above_up_1_L1 c0 sp rows k q.1 q.2.1 q.2.2 = some lr65) (0, c1, 0) (impz [0]) hF (fun q h => by cases h) ?_
  clear hF
  rintro k ⟨x19, x20, x21⟩ hF ih
  refine rnd_succ ?_
  iterate 2 refine go ?_
  refine reg_nil ?_
  refine piz ⟨29, [(0, some (.pv (.yld l))), (1, some (.pv (.vp ((eL 7 eGClass) c0)))), (2, some (.lp 0 0)), (7, some (.pv (.int .i64 (w_i64 ((c0.length : Int) + 1))))), (8, some (.pv (.int .i64 x21))), (9, some (.pv (.bool (decide (x21 < (w_i64 ((c0.length : Int) + 1)))))))], [(0, some (.box 9 [.pv (.str x20)]))], 1, [], [], x19, []⟩ [0] ?_
  refine go ?_
  refine aw_seq ?_
  refine cnd hF (fun hb43 hF => ?_) fun hb43 hF => ?_
  ·iterate 2 refine go ?_
   refine aw_seq ?_
   refine aw_block ?_
   iterate 3 refine go ?_
   obtain ⟨y46, h47, hF⟩ := bs hF
   refine rgp (cl 1 [.vs 7 (List.map eGClass c0), .str x20] [.p (.int .i64 y46)] (table_Find_ok h47)) ?_
   refine go ?_
   refine reg_nil ?_
   refine piz ⟨29, [(0, some (.pv (.yld l))), (1, some (.pv (.vp ((eL 7 eGClass) c0)))), (2, some (.lp 0 0)), (4, some (.pv (.int .i64 y46))), (7, some (.pv (.int .i64 (w_i64 ((c0.length : Int) + 1))))), (8, some (.pv (.int .i64 x21)))], [(0, some (.box 9 [.pv (.str x20)]))], 1, [], [], x19, []⟩ [0] ?_
   refine go ?_
   refine aw_seq ?_
   refine aw_seq ?_
   obtain ⟨p53, hF, hK54⟩ := bs hF
   obtain ⟨x51, x52⟩ := p53
   refine ctx ⟨29, [(0, some (.pv (.yld l))), (1, some (.pv (.vp ((eL 7 eGClass) c0)))), (2, some (.lp 0 0)), (4, some (.pv (.int .i64 y46))), (7, some (.pv (.int .i64 (w_i64 ((c0.length : Int) + 1))))), (8, some (.pv (.int .i64 x21))), (20, some (.pv (.bool x52)))], [(0, some (.box 9 [.pv (.str x20)]))], 1, [], [], x51, []⟩ ?_ ?_
   ·iterate 4 refine go ?_
    rcases ie hF with ⟨hb48, hF⟩ | ⟨hb48, hF⟩
    ·refine rgo_t hb48 ?_
     iterate 3 refine rgo_t hb48 ?_
     refine rpt hb48 ?_
     cases hF
     exact rcz [0]
    iterate 2 (refine rgn hb48 (op_move rfl rfl rfl rfl) ?_)
    obtain ⟨u49, h50, hF⟩ := bs hF
    refine rgn hb48 (op_yield (row := (fun z : Int => ([.int .i64 z] : List PV)) y46) hcx rfl rfl rfl rfl (yck_row (fun z : Int => ([.int .i64 z] : List PV)) h50) (yck_spec h50).2 rfl rfl) ?_
    refine gn hb48 ?_
    refine rpf hb48 ?_
    cases hF
    exact rcz [0]
   have hF := hK54
   refine go ?_
   refine cnd hF (fun hb55 hF => ?_) fun hb55 hF => ?_
   ·iterate 5 refine go ?_
    refine post_lp_ret ?_
    cases hF
    have hF := elim_stop hK66
    exact post_it (it_len hF) rfl (.inl rfl)
   iterate 5 refine go ?_
   obtain ⟨y58, h59, hF⟩ := bs hF
   refine rgp (ix (idx_map eGClass h59) slc_22) ?_
   iterate 3 refine go ?_
   refine reg_nil ?_
   refine piz ⟨29, [(0, some (.pv (.yld l))), (1, some (.pv (.vp ((eL 7 eGClass) c0)))), (2, some (.lp 0 0)), (7, some (.pv (.int .i64 (w_i64 ((c0.length : Int) + 1))))), (8, some (.pv (.int .i64 x21)))], [(0, some (.box 9 [.pv (.str y58.fSuper)]))], 1, [], [], x51, []⟩ [0] ?_
   iterate 3 refine go ?_
   refine rgp (op_str rfl rfl rfl rfl rfl rfl) ?_
   refine reg_nil ?_
   refine piz ⟨29, [(0, some (.pv (.yld l))), (1, some (.pv (.vp ((eL 7 eGClass) c0)))), (2, some (.lp 0 0)), (7, some (.pv (.int .i64 (w_i64 ((c0.length : Int) + 1))))), (8, some (.pv (.int .i64 x21))), (27, some (.pv (.bool (y58.fSuper == []))))], [(0, some (.box 9 [.pv (.str y58.fSuper)]))], 1, [], [], x51, []⟩ [0] ?_
   refine go ?_
   refine cnd hF (fun hb60 hF => ?_) fun hb60 hF => ?_
   ·iterate 4 refine go ?_
    refine post_lp_ret ?_
    cases hF
    have hF := elim_stop hK66
    exact post_it (it_len hF) rfl (.inl rfl)
   iterate 6 refine go ?_
   refine rnr ?_
   exact rnd_back (ih (x51, y58.fSuper, w_i64 (x21 + 1)) hF) (impz [0])
  refine aw_exit ?_
  iterate 2 refine post_then_exit ?_
  cases hF
  exact post_lp_break _ ⟨_, rfl, rfl⟩ (impz [])
 rintro _ ⟨x64, rfl, rfl⟩
 have hF := elim_next hK66
 clear hK66
 exact post_it (it_len hF) rfl (.inr rfl)

theorem slices_Index_int_ok {a0 : List Int} {a1 : Int} {r : Int} (hF : slices_Index_int a0 a1 = some r) : FZ 140 [.vs 1 (List.map eI a0), .int .i64 a1] [.p (.int .i64 r)] := by
 unfold slices_Index_int at hF
 refine fn_of_body (n := 19) Tryz.func140 rfl rfl rfl fun w O => ?_
 iterate 9 refine go ?_
 obtain ⟨lr22, hF, hK23⟩ := bs hF
 refine aw_for ((a0.length - 0 : Int).toNat + 1) (fun s1 => ∃ q, lr22 = .next q ∧ s1 = (sX 19 [] [] 0)) ?_ ?_
 ·refine rnd_loop (α := Int) (fun q => (sX 19 [pf 0 (.vs 1 (List.map eI a0)), pf 1 (.int .i64 a1), pf 7 (.int .i64 (a0.length : Int)), pf 8 (.int .i64 q)] [] 0)) (fun k q => slices_Index_int_L1 a0 a1 k q = some lr22) 0 (impz []) hF (fun q h => by cases h) ?_
  clear hF
  rintro k x7 hF ih
  refine rnd_succ ?_
  iterate 3 refine go ?_
  refine aw_seq ?_
  refine cnd hF (fun hb15 hF => ?_) fun hb15 hF => ?_
  ·iterate 2 refine go ?_
   refine aw_seq ?_
   refine aw_block ?_
   iterate 8 refine go ?_
   obtain ⟨y18, h19, hF⟩ := bs hF
   refine rgp (ix (idx_map eI h19) slc_75) ?_
   iterate 3 refine go ?_
   refine cnd hF (fun hb20 hF => ?_) fun hb20 hF => ?_
   ·iterate 8 refine go ?_
    refine post_lp_ret ?_
    cases hF
    have hF := elim_stop hK23
    refine go ?_
    cases hF
    exact prt
   iterate 6 refine go ?_
   refine rnr ?_
   exact rnd_back (ih (w_i64 (x7 + 1)) hF) (impz [])
  refine aw_exit ?_
  iterate 2 refine post_then_exit ?_
  cases hF
  exact post_lp_break _ ⟨_, rfl, rfl⟩ (impz [])
 rintro _ ⟨⟨⟩, rfl, rfl⟩
 have hF := elim_next hK23
 clear hK23
 iterate 5 refine go ?_
 cases hF
 exact prt
theorem slices_Contains_int_ok {a0 : List Int} {a1 : Int} {r : Bool} (hF : slices_Contains_int a0 a1 = some r) : FZ 118 [.vs 1 (List.map eI a0), .int .i64 a1] [.p (.bool r)] := by
 unfold slices_Contains_int at hF
 refine fn_of_body (n := 9) Tryz.func118 rfl rfl rfl fun w O => ?_
 iterate 6 refine go ?_
 obtain ⟨y1, h2, hF⟩ := bs hF
 refine rgp (cl 0 [.vs 1 (List.map eI a0), .int .i64 a1] [.p (.int .i64 y1)] (slices_Index_int_ok h2)) ?_
 iterate 4 refine go ?_
 cases hF
 exact prt
theorem above_Chain_ok {a0 : List GClass} {a1 : List UInt8} {r : (List Int)} (hF : above_Chain a0 a1 = some r) : FZ 87 [.vs 7 (List.map eGClass a0), .str a1] [.own 3 1 (List.map eI r)] := by
 unfold above_Chain at hF
 refine fn_of_body (n := 19) Tryz.func87 rfl rfl rfl fun w O => ?_
 iterate 4 refine go ?_
 refine rgp (al 0 [.nils] zer_75) ?_
 refine reg_imp (imp_nil_box 0 0 75 3 1 1 rfl rfl rfl) ?_
 iterate 5 refine go ?_
 obtain ⟨y3, h4, hF⟩ := bs hF
 refine rgp (cl 2 [.vs 7 (List.map eGClass a0), .str a1] [.clo 138 [.vp ((eL 7 eGClass) y3.1)] 9 [.str y3.2] []] (above_up_ok h4)) ?_
 refine go ?_
 refine aw_block ?_
 refine aw_imp (s' := (sX 19 [(5, some (.lp 0 0)), (9, some (.fn 138 [.pv (.vp ((eL 7 eGClass) y3.1)), .lp 2 0]))] [(0, some (.box 75 [.ls 1])), (1, some (.row 3 1 (List.map eI []))), (2, some (.box 9 [.pv (.str y3.2)]))] 3)) (impz [0, 1, 2]) ?_
 obtain ⟨rows33, hR34, hF⟩ := bs hF
 obtain ⟨lr35, hL36, hF⟩ := bs hF
 refine aw_rangeFunc (X := Int) (Q := (List Int)) (E := (List Int)) (pre := [.vp ((eL 7 eGClass) y3.1)]) (bx := (some (9, [.str y3.2]))) (post := []) (kt := [5]) (psl := [10]) (some 2) (fun z : Int => ([.int .i64 z] : List PV)) rows33 above_Chain_B1 [] lr35 hL36 (fun q => (sX 19 [(5, some (.lp 0 0))] [(0, some (.box 75 [.ls 1])), (1, some (.row 3 1 (List.map eI q)))] 3)) (fun z => ((.exit 0), (sX 19 [(5, some (.lp 0 0))] [(0, some (.box 75 [.ls 1])), (1, some (.row 3 1 (List.map eI z)))] 2))) ⟨_, _, rfl, rfl, rfl⟩ cal_138 (fun sp => above_up_1_it (itR_up_ok hR34 sp)) (fun _ => rfl) rfl rfl (by decide) rfl (fun x q => ⟨19, [(5, some (.lp 0 0)), (6, some (.pv (.int .i64 x))), (10, some (.pv (.int .i64 x)))], [(0, some (.box 75 [.ls 1])), (1, some (.row 3 1 (List.map eI q)))], 3, [], [], 0, [5]⟩) (fun q => ⟨rfl, rfl, rfl, rfl⟩) (fun z => ⟨rfl, rfl, rfl, rfl⟩) (fun z => rfl) rfl rfl ⟨rfl, trivial⟩ ⟨⟨rfl, rfl, rfl⟩, ⟨rfl, rfl, rfl⟩, trivial⟩ ?_ ?_ ?_ ?_
 ·rintro l37 c38 x23 x13 hc39
  iterate 2 refine go ?_
  refine reg_nil ?_
  exact post_cut1 (impz [0, 1, 2])
 ·rintro l37 c38 x23 x13 r40 hc39 hF
  refine aw_block ?_
  iterate 4 refine go ?_
  obtain ⟨y26, h27, hF⟩ := bs hF
  refine rgp (op_callB 3 rfl (caps := []) (args := [.vs 1 (List.map eI x13), .int .i64 x23]) [(1, some (.row 3 1 (List.map eI x13)))] rfl rfl rfl (FzH.spec ⟨rfl, trivial⟩) rfl rfl cal_118 (slices_Contains_int_ok h27) rfl rfl rfl) ?_
  refine go ?_
  refine cnd hF (fun hb28 hF => ?_) fun hb28 hF => ?_
  ·refine aw_exit ?_
   refine post_then_exit ?_
   refine post_block_other rfl ?_
   cases hF
   exact post_rnd_exit x13 rfl rfl (impz [0, 1])
  iterate 5 refine go ?_
  refine rgp (op_lit (rows := List.map eI ([x23] : List Int)) (zs := [.int .i64 0]) rfl rfl slc_75 zer_3 (by exact ⟨rfl, trivial⟩) rfl rfl rfl rfl rfl rfl rfl rfl) ?_
  obtain ⟨u29, h30, hF⟩ := bs hF
  refine rgp (op_append 3 rfl rfl rfl rfl rfl slc_75 elm_3 zer_3 rfl rfl rfl (room_map (f := eI) (g := eI) h30) (List.map_append (f := eI) (l₁ := x13) (l₂ := [x23])).symm rfl rfl) ?_
  refine go ?_
  refine reg_nil ?_
  refine piz ⟨19, [(5, some (.lp 0 0))], [(0, some (.box 75 [.ls 1])), (1, some (.row 3 1 (List.map eI (x13 ++ [x23]))))], 2, [], [], 0, [5]⟩ [0, 3] ?_
  refine go ?_
  cases hF
  exact post_rnd (x13 ++ [x23]) rfl (impz [0, 1, 1000000])
 ·rintro x13 rfl
  have hF := elim_next hF
  iterate 7 refine go ?_
  cases hF
  exact post_ret rfl rfl (.cons _ _ _ _ _ (.tmp _ _ rfl) (.own _ _ _ _ rfl nolent3) .nil) (.inl rfl)
 rintro x32 rfl
 have hF := elim_stop hF
 show Post _ _ (.exit 0) _
 refine post_block_exit ?_
 iterate 6 refine go ?_
 cases hF
 exact post_ret rfl rfl (.cons _ _ _ _ _ (.tmp _ _ rfl) (.own _ _ _ _ rfl nolent3) .nil) (.inl rfl)
theorem slices_Backward_int_ok {a0 : List Int} {r : (List Int)} (hF : slices_Backward_int a0 = some r) : FZ 86 [.vs 1 (List.map eI a0)] [.p (.fn 116 [.vp ((eL 1 eI) r)])] := by
 unfold slices_Backward_int at hF
 refine fn_of_body (n := 4) Tryz.func86 rfl rfl rfl fun w O => ?_
 refine go ?_
 refine rgp (bo 0) ?_
 iterate 3 refine go ?_
 refine rgp (op_makeFunc rfl rfl rfl rfl) ?_
 iterate 3 refine go ?_
 refine post_imp (imp_freeze [(0, some (.box 75 [.pv (.vs 1 (List.map eI a0))]))] [(2, some (.pv (.fn 116 [.vp ((eL 1 eI) a0)])))] (FzH.spec ⟨rfl, trivial⟩) ⟨⟨_, rfl, rfl⟩, trivial⟩) ?_
 cases hF
 exact post_ret rfl rfl (.cons _ _ _ _ _ (.tmp _ _ rfl) (.p _) .nil) (.inl rfl)
theorem slices_Backward_int_1_it {rows : List (Int × Int)} {sp : Nat} {c0 : List Int} (hF : slices_Backward_int_1 rows sp c0 = some (min (sp + 1) rows.length)) : It globs_Tryz Tryz.prog 116 2 [.vp ((eL 1 eI) c0)] none [] (rows.map (fun z : Int × Int => ([.int .i64 z.1, .int .i64 z.2] : List PV))) sp := by
 unfold slices_Backward_int_1 at hF
 refine it_of_body (n := 19) Tryz.func116 rfl rfl rfl ?_
 intro l c hcx
 iterate 5 refine go ?_
 refine reg_nil ?_
 refine piz (sX 19 [pf 0 (.yld l), pf 1 (.vp ((eL 1 eI) c0)), pf 3 (.int .i64 (w_i64 ((c0.length : Int) - 1)))] [] 0) [] ?_
 refine go ?_
 obtain ⟨lr38, hF, hK39⟩ := bs hF
 refine aw_for ((((w_i64 ((c0.length : Int) - 1)) : Int) - (0)).toNat + 2) (fun s1 => ∃ q, lr38 = .next q ∧ s1 = ⟨19, [], [], 0, [], [], q, []⟩) ?_ ?_
 ·refine rnd_loop (α := Nat × Int) (fun q => ⟨19, [(0, some (.pv (.yld l))), (1, some (.pv (.vp ((eL 1 eI) c0)))), (3, some (.pv (.int .i64 q.2)))], [], 0, [], [], q.1, []⟩) (fun k q => slices_Backward_int_1_L1 c0 sp rows k q.1 q.2 = some lr38) (0, w_i64 ((c0.length : Int) - 1)) (impz []) hF (fun q h => by cases h) ?_
  clear hF
  rintro k ⟨x11, x12⟩ hF ih
  refine rnd_succ ?_
  iterate 4 refine go ?_
  refine reg_nil ?_
  refine piz ⟨19, [(0, some (.pv (.yld l))), (1, some (.pv (.vp ((eL 1 eI) c0)))), (3, some (.pv (.int .i64 x12))), (8, some (.pv (.bool (decide (x12 ≥ 0)))))], [], 0, [], [], x11, []⟩ [] ?_
  refine go ?_
  refine cnd hF (fun hb25 hF => ?_) fun hb25 hF => ?_
  ·iterate 2 refine go ?_
   refine aw_seq ?_
   refine aw_block ?_
   iterate 5 refine go ?_
   obtain ⟨y30, h31, hF⟩ := bs hF
   refine rgp (ix (idx_map eI h31) slc_75) ?_
   refine go ?_
   obtain ⟨u32, h33, hF⟩ := bs hF
   refine rgp (op_yield (row := (fun z : Int × Int => ([.int .i64 z.1, .int .i64 z.2] : List PV)) (x12, y30)) hcx rfl rfl rfl rfl (yck_row (fun z : Int × Int => ([.int .i64 z.1, .int .i64 z.2] : List PV)) h33) (yck_spec h33).2 rfl rfl) ?_
   refine go ?_
   refine reg_nil ?_
   refine piz ⟨19, [(0, some (.pv (.yld l))), (1, some (.pv (.vp ((eL 1 eI) c0)))), (3, some (.pv (.int .i64 x12))), (18, some (.pv (.bool (!(!(x11 == sp))))))], [], 0, [], [], (x11 + 1), []⟩ [] ?_
   refine go ?_
   refine cnd hF (fun hb34 hF => ?_) fun hb34 hF => ?_
   ·iterate 4 refine go ?_
    refine post_lp_ret ?_
    cases hF
    have hF := elim_stop hK39
    exact post_it (it_len hF) rfl (.inl rfl)
   iterate 7 refine go ?_
   refine rnr ?_
   exact rnd_back (ih ((x11 + 1), w_i64 (x12 - 1)) hF) (impz [])
  refine aw_exit ?_
  iterate 2 refine post_then_exit ?_
  cases hF
  exact post_lp_break _ ⟨_, rfl, rfl⟩ (impz [])
 rintro _ ⟨x37, rfl, rfl⟩
 have hF := elim_next hK39
 clear hK39
 exact post_it (it_len hF) rfl (.inr rfl)

theorem field_All_ok {a0 : List GClass} {a1 : List UInt8} {r : (List GSlot_field)} (hF : field_All a0 a1 = some r) : FZ 56 [.vs 7 (List.map eGClass a0), .str a1] [.own 128 14 (List.map eGSlot_field r)] := by
 unfold field_All at hF
 refine fn_of_body (n := 38) Tryz.func56 rfl rfl rfl fun w O => ?_
 refine go ?_
 refine rgp (bo 0) ?_
 iterate 3 refine go ?_
 refine rgp (al 1 [.nils] zer_125) ?_
 refine reg_imp (imp_nil_box 1 0 125 128 14 2 rfl rfl rfl) ?_
 iterate 5 refine go ?_
 obtain ⟨y5, h6, hF⟩ := bs hF
 refine rgp (cl 3 [.vs 7 (List.map eGClass a0), .str a1] [.p (.vs 1 (List.map eI y5))] (Fn.frozen (above_Chain_ok h6))) ?_
 obtain ⟨y7, h8, hF⟩ := bs hF
 refine rgp (cl 3 [.vs 1 (List.map eI y5)] [.p (.fn 116 [.vp ((eL 1 eI) y7)])] (slices_Backward_int_ok h8)) ?_
 refine go ?_
 refine aw_block ?_
 refine aw_imp (s' := (sX 38 [(2, some (.lp 0 0)), (5, some (.lp 1 0)), pf 13 (.fn 116 [.vp ((eL 1 eI) y7)])] [(0, some (.box 22 [.pv (.vs 7 (List.map eGClass a0))])), (1, some (.box 125 [.ls 2])), (2, some (.row 128 14 (List.map eGSlot_field [])))] 3)) (impz [0, 1, 2]) ?_
 obtain ⟨rows171, hR172, hF⟩ := bs hF
 obtain ⟨lr173, hL174, hF⟩ := bs hF
 refine aw_rangeFunc (X := (Int × Int)) (Q := (List GSlot_field)) (E := Unit) (pre := [.vp ((eL 1 eI) y7)]) (bx := none) (post := []) (kt := [2, 5]) (psl := [14, 15]) none (fun z : Int × Int => ([.int .i64 z.1, .int .i64 z.2] : List PV)) rows171 (field_All_B1 a0) [] lr173 hL174 (fun q => (sX 38 [(2, some (.lp 0 0)), (5, some (.lp 1 0))] [(0, some (.box 22 [.pv (.vs 7 (List.map eGClass a0))])), (1, some (.box 125 [.ls 2])), (2, some (.row 128 14 (List.map eGSlot_field q)))] 3)) (fun _ => (.ret, (sX 38 [] [] 0))) ⟨rfl, rfl⟩ cal_116 (fun sp => slices_Backward_int_1_it (itR_back_ok hR172 sp)) (fun _ => rfl) rfl rfl (by decide) rfl (fun x q => ⟨38, [(2, some (.lp 0 0)), (5, some (.lp 1 0)), (7, some (.pv (.int .i64 x.2))), (14, some (.pv (.int .i64 x.1))), (15, some (.pv (.int .i64 x.2)))], [(0, some (.box 22 [.pv (.vs 7 (List.map eGClass a0))])), (1, some (.box 125 [.ls 2])), (2, some (.row 128 14 (List.map eGSlot_field q)))], 3, [], [], 0, [2, 5]⟩) (fun q => ⟨rfl, rfl, rfl, rfl⟩) (fun z => ⟨rfl, rfl, rfl, rfl⟩) (fun z => rfl) rfl rfl ⟨rfl, rfl, trivial⟩ ⟨⟨rfl, rfl, rfl⟩, ⟨rfl, rfl, rfl⟩, ⟨rfl, rfl, rfl⟩, trivial⟩ ?_ ?_ ?_ ?_
 ·rintro l175 c176 ⟨x117, x118⟩ x62 hc177
  iterate 2 refine go ?_
  refine reg_nil ?_
  exact post_cut1 (impz [0, 1, 2])
 ·rintro l175 c176 ⟨x117, x118⟩ x62 r178 hc177 hF
  refine aw_block ?_
  iterate 3 refine go ?_
  obtain ⟨y121, h122, hF⟩ := bs hF
  refine rgp (ix (idx_map eGClass h122) slc_22) ?_
  iterate 5 refine go ?_
  obtain ⟨x168, hF, hK169⟩ := bs hF
  refine aw_for ((y121.fFields.length - 0 : Int).toNat + 1) (fun s1 => s1 = ⟨38, [(2, some (.lp 0 0)), (5, some (.lp 1 0))], [(0, some (.box 22 [.pv (.vs 7 (List.map eGClass a0))])), (1, some (.box 125 [.ls 2])), (2, some (.row 128 14 (List.map eGSlot_field x168)))], 3, [], [], 0, [2, 5]⟩) ?_ ?_
  ·refine rnd_loop (α := (List GSlot_field) × Int) (fun q => ⟨38, [(2, some (.lp 0 0)), (5, some (.lp 1 0)), (7, some (.pv (.int .i64 x118))), (20, some (.pv (.vs 13 (List.map eGVar y121.fFields)))), (21, some (.pv (.int .i64 (y121.fFields.length : Int)))), (22, some (.pv (.int .i64 q.2)))], [(0, some (.box 22 [.pv (.vs 7 (List.map eGClass a0))])), (1, some (.box 125 [.ls 2])), (2, some (.row 128 14 (List.map eGSlot_field q.1)))], 3, [], [], 0, [2, 5]⟩) (fun k q => field_All_L2 a0 x118 y121 k q.1 q.2 = some x168) (x62, 0) (impz [0, 1, 2]) hF (fun q h => by cases h) ?_
   clear hF
   rintro k ⟨x136, x137⟩ hF ih
   refine rnd_succ ?_
   iterate 3 refine go ?_
   refine aw_seq ?_
   refine cnd hF (fun hb153 hF => ?_) fun hb153 hF => ?_
   ·iterate 2 refine go ?_
    refine aw_seq ?_
    refine aw_block ?_
    refine go ?_
    obtain ⟨y156, h157, hF⟩ := bs hF
    refine rgp (ix (idx_map eGVar h157) slc_29) ?_
    refine rgp (lw (eGVar y156) agg_66) ?_
    refine rgp (al 3 (eGVar zGVar) zer_66) ?_
    iterate 2 refine go ?_
    refine aw_imp (imp_names 1) ?_
    refine dr_start ⟨_, _, _⟩ rfl ?_
    iterate 3 refine dgo ?_
    obtain ⟨y162, h163, hF⟩ := bs hF
    refine dk 29 [(27, .pv (.vs 7 (List.map eGClass a0))), (28, .pv (.int .i64 x118))] (.pv (.vp (eGClass y162))) (fun m h => ⟨_, op_index_vs (k := .i64) rfl h.1.1 h.1.2.1 (idx_map eGClass h163) slc_22 rfl rfl, rfl⟩) ?_
    refine dk 30 [(29, .pv (.vp (eGClass y162)))] (.pv (.vp (List.drop 0 (eGClass y162)))) (fun m h => ⟨_, op_field_vp rfl h.1.1 fld_32_0 rfl rfl, rfl⟩) ?_
    refine dk 31 [(30, .pv (.vp (List.drop 0 (eGClass y162))))] (.pv (.str y162.fName)) (fun m h => ⟨_, op_load_vp (p := .str y162.fName) rfl h.1.1 rfl one_9 rfl rfl, rfl⟩) ?_
    refine dr_cons { need := [(9, .lp 3 0)], hneed := [(3, .box 66 (bxv (eGVar y156)))], dst := some 32, val := some (.pv (.agg (eGVar y156))) } (fun m h => step_on (guard_no rfl) (op_load_lp_agg (ps := eGVar y156) rfl h.1.1 h.2.1.1 rfl rfl rfl agg_66 rfl rfl) rfl) ⟨⟨rfl, trivial⟩, ⟨rfl, trivial⟩, trivial⟩ ?_
    refine dk 33 [(32, .pv (.agg (eGVar y156))), (31, .pv (.str y162.fName))] (.pv (.agg (eGSlot_field ({ fClass := y162.fName, fVar := y156 } : GSlot_field)))) (fun m h => ⟨_, op_build (zs := (eGSlot_field zGSlot_field)) (r := eGSlot_field ({ fClass := y162.fName, fVar := y156 } : GSlot_field)) rfl zer_128 (by exact ⟨rfl, rfl, rfl, rfl, rfl, rfl, rfl, rfl, rfl, rfl, rfl, rfl, rfl, rfl, trivial⟩) plc_128 (evs_cons h.1.2.1 (evs_cons h.1.1 evs_nil)) rfl rfl rfl, rfl⟩) ?_
    refine dk 34 [(33, .pv (.agg (eGSlot_field ({ fClass := y162.fName, fVar := y156 } : GSlot_field))))] (.pv (.vs 14 (List.map eGSlot_field [({ fClass := y162.fName, fVar := y156 } : GSlot_field)]))) (fun m h => ⟨_, op_lit (rows := List.map eGSlot_field ([({ fClass := y162.fName, fVar := y156 } : GSlot_field)] : List GSlot_field)) (zs := (eGSlot_field zGSlot_field)) rfl rfl slc_125 zer_128 (by exact ⟨rfl, rfl, rfl, rfl, rfl, rfl, rfl, rfl, rfl, rfl, rfl, rfl, rfl, rfl, trivial⟩) rfl rfl rfl (evs_cons h.1.1 evs_nil) rfl rfl rfl rfl, rfl⟩) ?_
    obtain ⟨u164, h165, hF⟩ := bs hF
    refine dr_cons { need := [(26, .ls 2), (34, .pv (.vs 14 (List.map eGSlot_field [({ fClass := y162.fName, fVar := y156 } : GSlot_field)])))], hneed := [(2, .row 128 14 (List.map eGSlot_field x136))], names := [4], dst := some 35, val := some (.ls 4), upd := [(4, some (.row 128 14 (List.map eGSlot_field (x136 ++ [({ fClass := y162.fName, fVar := y156 } : GSlot_field)])))), (2, none)] } (fun m h => step_on (guard_no rfl) (op_append 4 (fresh_free h.2.2.1) rfl h.1.1 h.2.1.1 h.1.2.1 slc_125 elm_128 zer_128 rfl rfl rfl (room_map (f := eGSlot_field) (g := eGSlot_field) h165) (List.map_append (f := eGSlot_field) (l₁ := x136) (l₂ := [({ fClass := y162.fName, fVar := y156 } : GSlot_field)])).symm rfl rfl) rfl) ⟨⟨rfl, rfl, trivial⟩, ⟨rfl, trivial⟩, ⟨rfl, trivial⟩⟩ ?_
    refine dr_cons { need := [(5, .lp 1 0), (35, .ls 4)], hneed := [(1, .box 125 [.ls 2])], upd := [(1, some (.box 125 [.ls 4]))] } (fun m h => step_on (guard_no rfl) (op_store_lp (n := 1) rfl h.1.1 h.1.2.1 rfl h.2.1.1 (or_one one_125) (by rw [one_125]; rfl) rfl rfl rfl) rfl) ⟨⟨rfl, rfl, trivial⟩, ⟨rfl, trivial⟩, trivial⟩ ?_
    refine dr_nil mixed rfl (by kernel_rfl) ?_
    refine piz ⟨38, [(2, some (.lp 0 0)), (5, some (.lp 1 0)), (7, some (.pv (.int .i64 x118))), (20, some (.pv (.vs 13 (List.map eGVar y121.fFields)))), (21, some (.pv (.int .i64 (y121.fFields.length : Int)))), (22, some (.pv (.int .i64 x137)))], [(0, some (.box 22 [.pv (.vs 7 (List.map eGClass a0))])), (1, some (.box 125 [.ls 2])), (2, some (.row 128 14 (List.map eGSlot_field (x136 ++ [({ fClass := y162.fName, fVar := y156 } : GSlot_field)]))))], 3, [], [], 0, [2, 5]⟩ [0, 1, 4] ?_
    iterate 5 refine go ?_
    refine rnr ?_
    exact rnd_back (ih ((x136 ++ [({ fClass := y162.fName, fVar := y156 } : GSlot_field)]), w_i64 (x137 + 1)) hF) (impz [0, 1, 2])
   refine aw_exit ?_
   iterate 2 refine post_then_exit ?_
   cases hF
   exact post_lp_break _ rfl (impz [0, 1, 2])
  rintro _ rfl
  have hF := hK169
  refine go ?_
  cases hF
  exact post_rnd x168 rfl (impz [0, 1, 2])
 ·rintro x62 rfl
  have hF := elim_next hF
  iterate 7 refine go ?_
  cases hF
  exact post_ret rfl rfl (.cons _ _ _ _ _ (.tmp _ _ rfl) (.own _ _ _ _ rfl nolent3) .nil) (.inl rfl)
 rintro ⟨⟩ rfl
 have hF := elim_stop hF
 cases hF
theorem dot_value_ok {a0 : GVal} {r : (List UInt8)} (hF : dot_value a0 = some r) : FZ 57 [.agg (eGVal a0)] [.p (.str r)] := by
 unfold dot_value at hF
 refine fn_of_body (n := 11) Tryz.func57 rfl rfl rfl fun w O => ?_
 refine go ?_
 refine rgp (bo 0) ?_
 iterate 5 refine go ?_
 refine aw_seq ?_
 obtain ⟨x2, hF, hK4⟩ := bs hF
 refine ctx (sX 11 [(1, some (.lp 0 0)), pf 3 (.str x2)] [bf 0 107 (eGVal a0)] 1) ?_ ?_
 ·iterate 4 refine go ?_
  refine cnd hF (fun hb1 hF => ?_) fun hb1 hF => ?_
  ·iterate 2 refine go ?_
   cases hF
   exact rcz [0]
  refine go ?_
  cases hF
  exact pcz [0]
 have hF := hK4
 iterate 5 refine go ?_
 obtain ⟨y5, h6, hF⟩ := bs hF
 refine rgp (cl 1 [.int .i64 a0.fN] [.p (.str y5)] (word_Digits_ok h6)) ?_
 obtain ⟨u7, h8, hF⟩ := bs hF
 refine rgp (op_concat rfl rfl rfl (room_str h8) rfl rfl) ?_
 iterate 3 refine go ?_
 cases hF
 exact prt
theorem strings_Join_ok {a0 : List (List UInt8)} {a1 r : List UInt8} (hF : strings_Join a0 a1 = some r) : FZ 58 [.vs 1 (List.map eS a0), .str a1] [.p (.str r)] := fn_join Tryz.strings_Join_none Tryz.strings_Join hF
theorem dot_Line_ok {a0 : List GClass} {a1 : List GCell} {a2 : Int} {r : (List UInt8)} (hF : dot_Line a0 a1 a2 = some r) : FZ 23 [.vs 7 (List.map eGClass a0), .vs 7 (List.map eGCell a1), .int .i64 a2] [.p (.str r)] := by
 unfold dot_Line at hF
 refine fn_of_body (n := 61) Tryz.func23 rfl rfl rfl fun w O => ?_
 iterate 7 refine go ?_
 obtain ⟨y3, h4, hF⟩ := bs hF
 refine rgp (cl 0 [.vs 7 (List.map eGCell a1), .int .i64 a2] [.p (.int .i64 y3)] (heap_Ask_ok h4)) ?_
 iterate 2 refine go ?_
 refine cnd hF (fun hb5 hF => ?_) fun hb5 hF => ?_
 ·iterate 5 refine go ?_
  cases hF
  exact prt
 iterate 6 refine go ?_
 obtain ⟨y8, h9, hF⟩ := bs hF
 refine rgp (ix (idx_map eGCell h9) slc_56) ?_
 refine rgp (lw (eGCell y8) agg_64) ?_
 refine rgp (al 0 (eGCell zGCell) zer_64) ?_
 iterate 2 refine go ?_
 refine aw_seq ?_
 refine aw_imp (imp_names 1) ?_
 refine dr_start ⟨_, _, _⟩ rfl ?_
 refine dgo ?_
 obtain ⟨y14, h15, hF⟩ := bs hF
 refine dk 23 [(22, .pv (.int .i64 a2))] (.pv (.str y14)) (fun m h => ⟨_, op_call 2 rfl (caps := []) (args := [.int .i64 a2]) (rs := [.p (.str y14)]) rfl rfl (evl_cons h.1.1 evl_nil) cal_49 (word_Digits_ok h15) rfl rfl rfl, rfl⟩) ?_
 obtain ⟨u16, h17, hF⟩ := bs hF
 refine dk 24 [(23, .pv (.str y14))] (.pv (.str ([64] ++ y14))) (fun m h => ⟨_, op_concat rfl rfl h.1.1 (room_str h17) rfl rfl, rfl⟩) ?_
 iterate 2 refine dgo ?_
 refine dr_cons { need := [(26, .pv (.str y8.fClass)), (24, .pv (.str ([64] ++ y14)))], names := [1], dst := some 27, val := some (.ls 1), upd := [(1, some (.row 9 1 (List.map eS [([64] ++ y14), y8.fClass])))] } (fun m h => step_on (guard_no rfl) (op_litOwn 1 (fresh_free h.2.2.1) (rows := List.map eS ([([64] ++ y14), y8.fClass] : List (List UInt8))) (zs := [.str []]) rfl rfl slc_23 zer_9 (by exact ⟨rfl, trivial⟩) rfl rfl rfl (evs_cons h.1.2.1 (evs_cons h.1.1 evs_nil)) rfl rfl rfl rfl) rfl) ⟨⟨rfl, rfl, trivial⟩, trivial, ⟨rfl, trivial⟩⟩ ?_
 refine dk 8 [(27, .ls 1)] (.ls 1) (fun m h => ⟨_, op_assign rfl h.1.1 rfl rfl, rfl⟩) ?_
 refine dr_nil mixed rfl (by kernel_rfl) ?_
 refine piz (sX 61 [pf 0 (.vs 7 (List.map eGClass a0)), (7, some (.lp 0 0)), (8, some (.ls 1))] [bf 0 64 (eGCell y8), (1, some (.row 9 1 (List.map eS [([64] ++ y14), y8.fClass])))] 2) [0, 1] ?_
 iterate 5 refine go ?_
 obtain ⟨y20, h21, hF⟩ := bs hF
 refine rgp (cl 2 [.vs 7 (List.map eGClass a0), .str y8.fClass] [.p (.vs 14 (List.map eGSlot_field y20))] (Fn.frozen (field_All_ok h21))) ?_
 iterate 9 refine go ?_
 obtain ⟨x109, hF, hK110⟩ := bs hF
 refine aw_for ((y8.fFields.length - 0 : Int).toNat + 1) (fun s1 => s1 = (sX 61 [(8, some (.ls 0))] [(0, some (.row 9 1 (List.map eS x109)))] 1)) ?_ ?_
 ·refine rnd_loop (α := (List (List UInt8)) × Int) (fun q => (sX 61 [(8, some (.ls 0)), pf 9 (.vs 14 (List.map eGSlot_field y20)), pf 33 (.vs 2 (List.map eGVal y8.fFields)), pf 34 (.int .i64 (y8.fFields.length : Int)), pf 35 (.int .i64 q.2)] [(0, some (.row 9 1 (List.map eS q.1)))] 1)) (fun k q => dot_Line_L1 y8 y20 k q.1 q.2 = some x109) ([([64] ++ y14), y8.fClass], 0) (impz [1]) hF (fun q h => by cases h) ?_
  clear hF
  rintro k ⟨x49, x50⟩ hF ih
  refine rnd_succ ?_
  iterate 3 refine go ?_
  refine aw_seq ?_
  refine cnd hF (fun hb80 hF => ?_) fun hb80 hF => ?_
  ·iterate 2 refine go ?_
   refine aw_seq ?_
   refine aw_block ?_
   iterate 2 refine go ?_
   obtain ⟨y83, h84, hF⟩ := bs hF
   refine rgp (ix (idx_map eGVal h84) slc_62) ?_
   refine rgp (lw (eGVal y83) agg_107) ?_
   refine rgp (al 1 (eGVal zGVal) zer_107) ?_
   iterate 6 refine go ?_
   refine aw_seq ?_
   obtain ⟨x88, hF, hK90⟩ := bs hF
   refine ctx (sX 61 [(8, some (.ls 0)), pf 9 (.vs 14 (List.map eGSlot_field y20)), (11, some (.lp 1 0)), pf 12 (.str x88), pf 33 (.vs 2 (List.map eGVal y8.fFields)), pf 34 (.int .i64 (y8.fFields.length : Int)), pf 35 (.int .i64 x50)] [(0, some (.row 9 1 (List.map eS x49))), bf 1 107 (eGVal y83)] 2) ?_ ?_
   ·iterate 6 refine go ?_
    refine cnd hF (fun hb85 hF => ?_) fun hb85 hF => ?_
    ·iterate 3 refine go ?_
     obtain ⟨y86, h87, hF⟩ := bs hF
     refine rgp (ix (idx_map eGSlot_field h87) slc_125) ?_
     iterate 4 refine go ?_
     cases hF
     exact rcz [0, 1]
    refine go ?_
    cases hF
    exact pcz [0, 1]
   have hF := hK90
   iterate 4 refine go ?_
   obtain ⟨u99, h100, hF⟩ := bs hF
   refine rgp (op_concat rfl rfl rfl (room_str h100) rfl rfl) ?_
   refine rgp (la (eGVal y83) agg_107) ?_
   obtain ⟨y101, h102, hF⟩ := bs hF
   refine rgp (cl 2 [.agg (eGVal y83)] [.p (.str y101)] (dot_value_ok h102)) ?_
   obtain ⟨u103, h104, hF⟩ := bs hF
   refine rgp (op_concat rfl rfl rfl (room_str h104) rfl rfl) ?_
   refine rgp (op_lit (rows := List.map eS ([((x88 ++ [61]) ++ y101)] : List (List UInt8))) (zs := [.str []]) rfl rfl slc_23 zer_9 (by exact ⟨rfl, trivial⟩) rfl rfl rfl rfl rfl rfl rfl rfl) ?_
   obtain ⟨u105, h106, hF⟩ := bs hF
   refine rgp (op_append 2 rfl rfl rfl rfl rfl slc_23 elm_9 zer_9 rfl rfl rfl (room_map (f := eS) (g := eS) h106) (List.map_append (f := eS) (l₁ := x49) (l₂ := [((x88 ++ [61]) ++ y101)])).symm rfl rfl) ?_
   refine go ?_
   refine reg_nil ?_
   refine piz (sX 61 [(8, some (.ls 0)), pf 9 (.vs 14 (List.map eGSlot_field y20)), pf 33 (.vs 2 (List.map eGVal y8.fFields)), pf 34 (.int .i64 (y8.fFields.length : Int)), pf 35 (.int .i64 x50)] [(0, some (.row 9 1 (List.map eS (x49 ++ [((x88 ++ [61]) ++ y101)]))))] 1) [2] ?_
   iterate 5 refine go ?_
   refine rnr ?_
   exact rnd_back (ih ((x49 ++ [((x88 ++ [61]) ++ y101)]), w_i64 (x50 + 1)) hF) (impz [0])
  refine aw_exit ?_
  iterate 2 refine post_then_exit ?_
  cases hF
  exact post_lp_break _ rfl (impz [0])
 rintro _ rfl
 have hF := hK110
 iterate 3 refine go ?_
 obtain ⟨y111, h112, hF⟩ := bs hF
 refine rgp (op_callB 1 rfl (caps := []) (args := [.vs 1 (List.map eS x109), .str [32]]) [(0, some (.row 9 1 (List.map eS x109)))] rfl rfl rfl (FzH.spec ⟨rfl, trivial⟩) rfl rfl cal_58 (strings_Join_ok h112) rfl rfl rfl) ?_
 iterate 3 refine go ?_
 cases hF
 exact prt
theorem law48_awake_ok  {r : Bool} (hF : law48_awake = some r) : FZ 16 [] [.p (.bool r)] := by
 unfold law48_awake at hF
 refine fn_of_body (n := 18) Tryz.func16 rfl rfl rfl fun w O => ?_
 iterate 4 refine go ?_
 obtain ⟨y3, h4, hF⟩ := bs hF
 refine rgp (cl 0 [.str [99, 108, 97, 115, 115, 32, 78, 111, 100, 101, 32, 123, 32, 78, 111, 100, 101, 32, 110, 101, 120, 116, 59, 32, 105, 110, 116, 32, 110, 59, 32, 125]] [.p (.vs 7 (List.map eGClass y3.1)), .p (.agg (eGFault y3.2))] (Fn.frozen (ref09_Of_ok h4))) ?_
 refine go ?_
 iterate 2 (refine rgp (op_extract rfl rfl rfl rfl rfl) ?_)
 refine rgp (al 0 (eGFault zGFault) zer_73) ?_
 iterate 4 refine go ?_
 refine rgp (bd ((eGCell zGCell)) (eGCell ({ fClass := [], fOwn := (⟨0, 0, 0, 0⟩ : A4 Int), fFields := [], fDead := false } : GCell)) zer_64 plc_64) ?_
 refine rgp (bd ((eGVal zGVal)) (eGVal ({ fRef := true, fN := 3 } : GVal)) zer_107 plc_107) ?_
 refine rgp (bd ((eGVal zGVal)) (eGVal ({ fRef := false, fN := (-1) } : GVal)) zer_107 plc_107) ?_
 refine rgp (op_lit (rows := List.map eGVal ([({ fRef := true, fN := 3 } : GVal), ({ fRef := false, fN := (-1) } : GVal)] : List GVal)) (zs := (eGVal zGVal)) rfl rfl slc_62 zer_107 (by exact ⟨rfl, rfl, trivial⟩) rfl rfl rfl rfl rfl rfl rfl rfl) ?_
 refine rgp (bd ((eGCell zGCell)) (eGCell ({ fClass := [78, 111, 100, 101], fOwn := (⟨0, 0, 0, 0⟩ : A4 Int), fFields := [({ fRef := true, fN := 3 } : GVal), ({ fRef := false, fN := (-1) } : GVal)], fDead := false } : GCell)) zer_64 plc_64) ?_
 refine rgp (op_lit (rows := List.map eGCell ([({ fClass := [], fOwn := (⟨0, 0, 0, 0⟩ : A4 Int), fFields := [], fDead := false } : GCell), ({ fClass := [78, 111, 100, 101], fOwn := (⟨0, 0, 0, 0⟩ : A4 Int), fFields := [({ fRef := true, fN := 3 } : GVal), ({ fRef := false, fN := (-1) } : GVal)], fDead := false } : GCell)] : List GCell)) (zs := (eGCell zGCell)) rfl rfl slc_56 zer_64 (by exact ⟨rfl, rfl, rfl, rfl, rfl, trivial, rfl, trivial⟩) rfl rfl rfl rfl rfl rfl rfl rfl) ?_
 iterate 5 refine go ?_
 obtain ⟨y5, h6, hF⟩ := bs hF
 refine rgp (cl 1 [.vs 7 (List.map eGClass y3.1), .vs 7 (List.map eGCell [({ fClass := [], fOwn := (⟨0, 0, 0, 0⟩ : A4 Int), fFields := [], fDead := false } : GCell), ({ fClass := [78, 111, 100, 101], fOwn := (⟨0, 0, 0, 0⟩ : A4 Int), fFields := [({ fRef := true, fN := 3 } : GVal), ({ fRef := false, fN := (-1) } : GVal)], fDead := false } : GCell)]), .int .i64 2] [.p (.str y5)] (dot_Line_ok h6)) ?_
 refine rgp (op_str rfl rfl rfl rfl rfl rfl) ?_
 iterate 3 refine go ?_
 cases hF
 exact prt
theorem heap_Live_ok {a0 : List GCell} {r : (List Int)} (hF : heap_Live a0 = some r) : FZ 45 [.vs 7 (List.map eGCell a0)] [.own 3 1 (List.map eI r)] := by
 unfold heap_Live at hF
 refine fn_of_body (n := 23) Tryz.func45 rfl rfl rfl fun w O => ?_
 iterate 5 refine go ?_
 refine reg_imp (imp_nil_own 3 3 1 0 rfl rfl) ?_
 iterate 7 refine go ?_
 obtain ⟨x40, hF, hK41⟩ := bs hF
 refine aw_for ((a0.length - 0 : Int).toNat + 1) (fun s1 => s1 = (sX 23 [(3, some (.ls 0))] [(0, some (.row 3 1 (List.map eI x40)))] 1)) ?_ ?_
 ·refine rnd_loop (α := (List Int) × Int) (fun q => (sX 23 [(3, some (.ls 0)), pf 6 (.vs 7 (List.map eGCell a0)), pf 7 (.int .i64 (a0.length : Int)), pf 8 (.int .i64 q.2)] [(0, some (.row 3 1 (List.map eI q.1)))] 1)) (fun k q => heap_Live_L1 a0 k q.1 q.2 = some x40) ([], 0) (impz [0]) hF (fun q h => by cases h) ?_
  clear hF
  rintro k ⟨x12, x13⟩ hF ih
  refine rnd_succ ?_
  iterate 3 refine go ?_
  refine aw_seq ?_
  refine cnd hF (fun hb27 hF => ?_) fun hb27 hF => ?_
  ·iterate 2 refine go ?_
   refine aw_seq ?_
   obtain ⟨x35, hF, hK37⟩ := bs hF
   refine ctx (sX 23 [(3, some (.ls 0)), pf 6 (.vs 7 (List.map eGCell a0)), pf 7 (.int .i64 (a0.length : Int)), pf 8 (.int .i64 x13)] [(0, some (.row 3 1 (List.map eI x35)))] 1) ?_ ?_
   ·refine aw_block ?_
    iterate 2 refine go ?_
    obtain ⟨y30, h31, hF⟩ := bs hF
    refine rgp (ix (idx_map eGCell h31) slc_56) ?_
    refine rgp (lw (eGCell y30) agg_64) ?_
    refine rgp (al 1 (eGCell zGCell) zer_64) ?_
    iterate 8 refine go ?_
    refine cnd hF (fun hb32 hF => ?_) fun hb32 hF => ?_
    ·iterate 4 refine go ?_
     refine rgp (op_lit (rows := List.map eI ([w_i64 (x13 + 1)] : List Int)) (zs := [.int .i64 0]) rfl rfl slc_75 zer_3 (by exact ⟨rfl, trivial⟩) rfl rfl rfl rfl rfl rfl rfl rfl) ?_
     obtain ⟨u33, h34, hF⟩ := bs hF
     refine rgp (op_append 2 rfl rfl rfl rfl rfl slc_75 elm_3 zer_3 rfl rfl rfl (room_map (f := eI) (g := eI) h34) (List.map_append (f := eI) (l₁ := x12) (l₂ := [w_i64 (x13 + 1)])).symm rfl rfl) ?_
     refine go ?_
     refine reg_nil ?_
     refine piz (sX 23 [(3, some (.ls 0)), pf 6 (.vs 7 (List.map eGCell a0)), pf 7 (.int .i64 (a0.length : Int)), pf 8 (.int .i64 x13)] [(0, some (.row 3 1 (List.map eI (x12 ++ [w_i64 (x13 + 1)]))))] 1) [2] ?_
     refine go ?_
     cases hF
     exact pcz [0]
    iterate 2 refine go ?_
    cases hF
    exact pcz [0]
   have hF := hK37
   iterate 4 refine go ?_
   refine rnr ?_
   exact rnd_back (ih (x35, w_i64 (x13 + 1)) hF) (impz [0])
  refine aw_exit ?_
  iterate 2 refine post_then_exit ?_
  cases hF
  exact post_lp_break _ rfl (impz [0])
 rintro _ rfl
 have hF := hK41
 iterate 6 refine go ?_
 cases hF
 exact post_ret rfl rfl (.cons _ _ _ _ _ (.tmp _ _ rfl) (.own _ _ _ _ rfl nolent3) .nil) (.inl rfl)
theorem strings_Repeat_ok {a0 : List UInt8} {a1 : Int} {r : List UInt8} (hF : strings_Repeat a0 a1 = some r) : FZ 48 [.str a0, .int .i64 a1] [.p (.str r)] := fn_repeat Tryz.strings_Repeat hF
theorem dot_Tree_1_w_ring : ∀ (n : Nat) (a0 : Int) (a1 : Int) (b0 : Int → List Int) (b2 : List Int) (b3 : List GClass) (b4 : List GCell) (r : (List Int)), dot_Tree_1_w n a0 a1 b0 b2 b3 b4 = some r → Abs.FnW globs_Tryz Tryz.prog 46 [.pv (.int .i64 a0), .pv (.int .i64 a1), .lp 0 0, .lp 1 0, .lp 3 0, .lp 4 0, .lp 5 0] [(0, some (.box 108 [.pv (.mrv Tryz.prog 108 b0)])), (1, some (.box 113 [.bp 1, .ls 2])), (2, some (.row 5 1 (List.map eI_u8 b2))), (3, some (.box 22 [.pv (.vs 7 (List.map eGClass b3))])), (4, some (.box 56 [.pv (.vs 7 (List.map eGCell b4))])), (5, some (.box 114 [.fn 46 [.lp 0 0, .lp 1 0, .lp 3 0, .lp 4 0, .lp 5 0]]))] 6 [(0, 0), (1, 1), (3, 3), (4, 4), (5, 5)] [] [(0, some (.box 108 [.pv (.mrv Tryz.prog 108 b0)])), (1, some (.box 113 [.bp 1, .ls 2])), (2, some (.row 5 1 (List.map eI_u8 r))), (3, some (.box 22 [.pv (.vs 7 (List.map eGClass b3))])), (4, some (.box 56 [.pv (.vs 7 (List.map eGCell b4))])), (5, some (.box 114 [.fn 46 [.lp 0 0, .lp 1 0, .lp 3 0, .lp 4 0, .lp 5 0]]))] 6 := by
 intro n
 induction n with
 | zero => exact fun _ _ _ _ _ _ _ h => by simp [dot_Tree_1_w] at h
 | succ n ih =>
  have dot_Tree_1_w_ih := ih
  clear ih
  intro a0 a1 b0 b2 b3 b4 r hF
  unfold dot_Tree_1_w at hF
  revert hF dot_Tree_1_w_ih
  generalize dot_Tree_1_w n = dot_Tree_1_w_rec
  intro dot_Tree_1_w_ih hF
  refine fnW_of_body (n := 36) (m := 6) [2, 3, 4, 5, 6] Tryz.func46 rfl rfl rfl ?_
  intro c w O θ hcx
  iterate 5 refine go ?_
  refine cnd hF (fun hb1 hF => ?_) fun hb1 hF => ?_
  ·iterate 2 refine go ?_
   refine piz ⟨36, [(2, some (.lp 0 0)), (3, some (.lp 1 0)), (4, some (.lp 3 0)), (5, some (.lp 4 0)), (6, some (.lp 5 0))], [(0, some (.box 108 [.pv (.mrv Tryz.prog 108 b0)])), (1, some (.box 113 [.bp 1, .ls 2])), (2, some (.row 5 1 (List.map eI_u8 b2))), (3, some (.box 22 [.pv (.vs 7 (List.map eGClass b3))])), (4, some (.box 56 [.pv (.vs 7 (List.map eGCell b4))])), (5, some (.box 114 [.fn 46 [.lp 0 0, .lp 1 0, .lp 3 0, .lp 4 0, .lp 5 0]]))], 6, [], [], 0, [2, 3, 4, 5, 6]⟩ [0, 1, 2, 3, 4, 5] ?_
   cases hF
   exact post_retW hcx rfl .nil rfl (.inl rfl)
  iterate 5 refine go ?_
  obtain ⟨y4, h5, hF⟩ := bs hF
  refine rgp (op_lookupG rfl rfl rfl h5 rfl rfl) ?_
  iterate 3 refine go ?_
  obtain ⟨x99, hF, hK100⟩ := bs hF
  refine aw_for ((y4.length - 0 : Int).toNat + 1) (fun s1 => s1 = ⟨36, [(2, some (.lp 0 0)), (3, some (.lp 1 0)), (4, some (.lp 3 0)), (5, some (.lp 4 0)), (6, some (.lp 5 0))], [(0, some (.box 108 [.pv (.mrv Tryz.prog 108 b0)])), (1, some (.box 113 [.bp 1, .ls 2])), (2, some (.row 5 1 (List.map eI_u8 x99))), (3, some (.box 22 [.pv (.vs 7 (List.map eGClass b3))])), (4, some (.box 56 [.pv (.vs 7 (List.map eGCell b4))])), (5, some (.box 114 [.fn 46 [.lp 0 0, .lp 1 0, .lp 3 0, .lp 4 0, .lp 5 0]]))], 6, [], [], 0, [2, 3, 4, 5, 6]⟩) ?_ ?_
  ·refine rnd_loop (α := (List Int) × Int) (fun q => ⟨36, [(1, some (.pv (.int .i64 a1))), (2, some (.lp 0 0)), (3, some (.lp 1 0)), (4, some (.lp 3 0)), (5, some (.lp 4 0)), (6, some (.lp 5 0)), (15, some (.pv (.vs 1 (List.map eI y4)))), (16, some (.pv (.int .i64 (y4.length : Int)))), (17, some (.pv (.int .i64 q.2)))], [(0, some (.box 108 [.pv (.mrv Tryz.prog 108 b0)])), (1, some (.box 113 [.bp 1, .ls 2])), (2, some (.row 5 1 (List.map eI_u8 q.1))), (3, some (.box 22 [.pv (.vs 7 (List.map eGClass b3))])), (4, some (.box 56 [.pv (.vs 7 (List.map eGCell b4))])), (5, some (.box 114 [.fn 46 [.lp 0 0, .lp 1 0, .lp 3 0, .lp 4 0, .lp 5 0]]))], 6, [], [], 0, [2, 3, 4, 5, 6]⟩) (fun k q => dot_Tree_1_w_L1 a1 b0 b3 b4 y4 dot_Tree_1_w_rec k q.1 q.2 = some x99) (b2, 0) (impz [0, 1, 2, 3, 4, 5]) hF (fun q h => by cases h) ?_
   clear hF
   rintro k ⟨x35, x36⟩ hF ih
   refine rnd_succ ?_
   iterate 3 refine go ?_
   refine aw_seq ?_
   refine cnd hF (fun hb68 hF => ?_) fun hb68 hF => ?_
   ·iterate 2 refine go ?_
    refine aw_seq ?_
    refine aw_block ?_
    refine go ?_
    obtain ⟨y71, h72, hF⟩ := bs hF
    refine rgp (ix (idx_map eI h72) slc_75) ?_
    iterate 3 refine go ?_
    refine aw_seq ?_
    refine dr_start ⟨_, _, _⟩ rfl ?_
    refine dgo ?_
    obtain ⟨y83, h84, hF⟩ := bs hF
    refine dk 22 [(21, .pv (.int .i64 a1))] (.pv (.str y83)) (fun m h => ⟨_, op_call 6 rfl (caps := []) (args := [.str [9], .int .i64 a1]) (rs := [.p (.str y83)]) rfl rfl (evl_cons rfl (evl_cons h.1.1 evl_nil)) cal_48 (strings_Repeat_ok h84) rfl rfl rfl, rfl⟩) ?_
    iterate 3 refine dgo ?_
    obtain ⟨y85, h86, hF⟩ := bs hF
    refine dk 26 [(25, .pv (.int .i64 y71)), (24, .pv (.vs 7 (List.map eGCell b4))), (23, .pv (.vs 7 (List.map eGClass b3)))] (.pv (.str y85)) (fun m h => ⟨_, op_call 6 rfl (caps := []) (args := [.vs 7 (List.map eGClass b3), .vs 7 (List.map eGCell b4), .int .i64 y71]) (rs := [.p (.str y85)]) rfl rfl (evl_cons h.1.2.2.1 (evl_cons h.1.2.1 (evl_cons h.1.1 evl_nil))) cal_23 (dot_Line_ok h86) rfl rfl rfl, rfl⟩) ?_
    obtain ⟨u87, h88, hF⟩ := bs hF
    refine dk 27 [(22, .pv (.str y83)), (26, .pv (.str y85))] (.pv (.str (y83 ++ y85))) (fun m h => ⟨_, op_concat rfl h.1.1 h.1.2.1 (room_str h88) rfl rfl, rfl⟩) ?_
    obtain ⟨u89, h90, hF⟩ := bs hF
    refine dk 28 [(27, .pv (.str (y83 ++ y85)))] (.pv (.str ((y83 ++ y85) ++ [10]))) (fun m h => ⟨_, op_concat rfl h.1.1 rfl (room_str h90) rfl rfl, rfl⟩) ?_
    obtain ⟨u91, h92, hF⟩ := bs hF
    refine dr_last mixed rfl (op_callW (args := [.lp 0 0, .pv (.str ((y83 ++ y85) ++ [10]))]) [1, 2] [1, 6] [2] 7 rfl rfl rfl rfl rfl cal_47 (bldW_ok h92) rfl (by decide) ⟨rfl, rfl, trivial⟩ rfl (by decide) ⟨.inl rfl, .inr rfl, trivial⟩ (by kernel_rfl) (by kernel_rfl) rfl rfl rfl rfl) (by kernel_rfl) (by kernel_rfl) (by kernel_rfl) (by kernel_rfl) ?_
    refine piz ⟨36, [(1, some (.pv (.int .i64 a1))), (2, some (.lp 0 0)), (3, some (.lp 1 0)), (4, some (.lp 3 0)), (5, some (.lp 4 0)), (6, some (.lp 5 0)), (10, some (.pv (.int .i64 y71))), (15, some (.pv (.vs 1 (List.map eI y4)))), (16, some (.pv (.int .i64 (y4.length : Int)))), (17, some (.pv (.int .i64 x36)))], [(0, some (.box 108 [.pv (.mrv Tryz.prog 108 b0)])), (1, some (.box 113 [.bp 1, .ls 2])), (2, some (.row 5 1 (List.map eI_u8 (x35 ++ bytesL ((y83 ++ y85) ++ [10]))))), (3, some (.box 22 [.pv (.vs 7 (List.map eGClass b3))])), (4, some (.box 56 [.pv (.vs 7 (List.map eGCell b4))])), (5, some (.box 114 [.fn 46 [.lp 0 0, .lp 1 0, .lp 3 0, .lp 4 0, .lp 5 0]]))], 6, [], [], 0, [2, 3, 4, 5, 6]⟩ [0, 1, 6, 3, 4, 5] ?_
    iterate 6 refine go ?_
    obtain ⟨y95, h96, hF⟩ := bs hF
    refine rgp (op_callW (args := [.pv (.int .i64 y71), .pv (.int .i64 (w_i64 (a1 + 1))), .lp 0 0, .lp 1 0, .lp 3 0, .lp 4 0, .lp 5 0]) [0, 1, 2, 3, 4, 5] [0, 1, 6, 3, 4, 5] [2] 7 rfl rfl rfl rfl rfl cal_46 (dot_Tree_1_w_ih _ _ _ _ _ _ _ h96) rfl (by decide) ⟨rfl, rfl, rfl, rfl, rfl, rfl, trivial⟩ rfl (by decide) ⟨.inl rfl, .inl rfl, .inr rfl, .inl rfl, .inl rfl, .inl rfl, trivial⟩ (by kernel_rfl) (by kernel_rfl) rfl rfl rfl rfl) ?_
    refine reg_nil ?_
    refine piz ⟨36, [(1, some (.pv (.int .i64 a1))), (2, some (.lp 0 0)), (3, some (.lp 1 0)), (4, some (.lp 3 0)), (5, some (.lp 4 0)), (6, some (.lp 5 0)), (15, some (.pv (.vs 1 (List.map eI y4)))), (16, some (.pv (.int .i64 (y4.length : Int)))), (17, some (.pv (.int .i64 x36)))], [(0, some (.box 108 [.pv (.mrv Tryz.prog 108 b0)])), (1, some (.box 113 [.bp 1, .ls 2])), (2, some (.row 5 1 (List.map eI_u8 y95))), (3, some (.box 22 [.pv (.vs 7 (List.map eGClass b3))])), (4, some (.box 56 [.pv (.vs 7 (List.map eGCell b4))])), (5, some (.box 114 [.fn 46 [.lp 0 0, .lp 1 0, .lp 3 0, .lp 4 0, .lp 5 0]]))], 6, [], [], 0, [2, 3, 4, 5, 6]⟩ [0, 1, 6, 3, 4, 5] ?_
    iterate 5 refine go ?_
    refine rnr ?_
    exact rnd_back (ih (y95, w_i64 (x36 + 1)) hF) (impz [0, 1, 2, 3, 4, 5])
   refine aw_exit ?_
   iterate 2 refine post_then_exit ?_
   cases hF
   exact post_lp_break _ rfl (impz [0, 1, 2, 3, 4, 5])
  rintro _ rfl
  have hF := hK100
  refine piz ⟨36, [(2, some (.lp 0 0)), (3, some (.lp 1 0)), (4, some (.lp 3 0)), (5, some (.lp 4 0)), (6, some (.lp 5 0))], [(0, some (.box 108 [.pv (.mrv Tryz.prog 108 b0)])), (1, some (.box 113 [.bp 1, .ls 2])), (2, some (.row 5 1 (List.map eI_u8 x99))), (3, some (.box 22 [.pv (.vs 7 (List.map eGClass b3))])), (4, some (.box 56 [.pv (.vs 7 (List.map eGCell b4))])), (5, some (.box 114 [.fn 46 [.lp 0 0, .lp 1 0, .lp 3 0, .lp 4 0, .lp 5 0]]))], 6, [], [], 0, [2, 3, 4, 5, 6]⟩ [0, 1, 2, 3, 4, 5] ?_
  cases hF
  exact post_retW hcx rfl .nil rfl (.inr rfl)
theorem dot_Tree_1_w_ok {n : Nat} {a0 : Int} {a1 : Int} {b0 : Int → List Int} {b2 : List Int} {b3 : List GClass} {b4 : List GCell} {r : (List Int)} (hF : dot_Tree_1_w n a0 a1 b0 b2 b3 b4 = some r) : Abs.FnW globs_Tryz Tryz.prog 46 [.pv (.int .i64 a0), .pv (.int .i64 a1), .lp 0 0, .lp 1 0, .lp 3 0, .lp 4 0, .lp 5 0] [(0, some (.box 108 [.pv (.mrv Tryz.prog 108 b0)])), (1, some (.box 113 [.bp 1, .ls 2])), (2, some (.row 5 1 (List.map eI_u8 b2))), (3, some (.box 22 [.pv (.vs 7 (List.map eGClass b3))])), (4, some (.box 56 [.pv (.vs 7 (List.map eGCell b4))])), (5, some (.box 114 [.fn 46 [.lp 0 0, .lp 1 0, .lp 3 0, .lp 4 0, .lp 5 0]]))] 6 [(0, 0), (1, 1), (3, 3), (4, 4), (5, 5)] [] [(0, some (.box 108 [.pv (.mrv Tryz.prog 108 b0)])), (1, some (.box 113 [.bp 1, .ls 2])), (2, some (.row 5 1 (List.map eI_u8 r))), (3, some (.box 22 [.pv (.vs 7 (List.map eGClass b3))])), (4, some (.box 56 [.pv (.vs 7 (List.map eGCell b4))])), (5, some (.box 114 [.fn 46 [.lp 0 0, .lp 1 0, .lp 3 0, .lp 4 0, .lp 5 0]]))] 6 := dot_Tree_1_w_ring n a0 a1 b0 b2 b3 b4 r hF
theorem dot_Tree_ok {a0 : List GClass} {a1 : List GCell} {a2 : Int} {r : (List UInt8)} (hF : dot_Tree a0 a1 a2 = some r) : FZ 17 [.vs 7 (List.map eGClass a0), .vs 7 (List.map eGCell a1), .int .i64 a2] [.p (.str r)] := by
 unfold dot_Tree at hF
 refine fn_of_body (n := 65) Tryz.func17 rfl rfl rfl fun w O => ?_
 refine go ?_
 refine rgp (bo 0) ?_
 refine rgp (bo 1) ?_
 iterate 3 refine go ?_
 refine reg_grpE (k := 3) (e := 3) rfl rfl rfl rfl rfl fun gO gI gw gq2 gh gj gs => ?_
 refine rgp (al 2 [.nilm] zer_108) ?_
 iterate 5 refine go ?_
 obtain ⟨y5, h6, hF⟩ := bs hF
 refine rgp (cl 3 [.vs 7 (List.map eGCell a1)] [.p (.vs 1 (List.map eI y5))] (Fn.frozen (heap_Live_ok h6))) ?_
 iterate 3 refine go ?_
 obtain ⟨x46, hF, hK47⟩ := bs hF
 refine aw_for ((y5.length - 0 : Int).toNat + 1) (fun s1 => s1 = ⟨65, [(2, some (.pv (.int .i64 a2))), (3, some (.lp 0 0)), (4, some (.lp 1 0)), (7, some (.lp 2 0))], [(0, some (.box 22 [.pv (.vs 7 (List.map eGClass a0))])), (1, some (.box 56 [.pv (.vs 7 (List.map eGCell a1))])), (2, some (.box 108 [.pv (.raw (.map (some gq2)))]))], 3, [], [], encG x46, []⟩) ?_ ?_
 ·refine rnd_loop (α := (List (Int × Int)) × Int) (fun q => ⟨65, [(2, some (.pv (.int .i64 a2))), (3, some (.lp 0 0)), (4, some (.lp 1 0)), (7, some (.lp 2 0)), (16, some (.pv (.vs 1 (List.map eI y5)))), (17, some (.pv (.int .i64 (y5.length : Int)))), (18, some (.pv (.int .i64 q.2)))], [(0, some (.box 22 [.pv (.vs 7 (List.map eGClass a0))])), (1, some (.box 56 [.pv (.vs 7 (List.map eGCell a1))])), (2, some (.box 108 [.pv (.raw (.map (some gq2)))]))], 3, [], [], encG q.1, []⟩) (fun k q => dot_Tree_L1 a0 a1 y5 k q.1 q.2 = some x46) ([], 0) (impz [0, 1, 2]) hF (fun q h => by cases h) ?_
  clear hF
  rintro k ⟨x18, x19⟩ hF ih
  refine rnd_succ ?_
  iterate 3 refine go ?_
  refine aw_seq ?_
  refine cnd hF (fun hb33 hF => ?_) fun hb33 hF => ?_
  ·iterate 2 refine go ?_
   refine aw_seq ?_
   refine aw_block ?_
   refine go ?_
   obtain ⟨y36, h37, hF⟩ := bs hF
   refine rgp (ix (idx_map eI h37) slc_75) ?_
   iterate 7 refine go ?_
   obtain ⟨y40, h41, hF⟩ := bs hF
   refine rgp (ix (idx_map eGCell h41) slc_56) ?_
   refine go ?_
   refine rgp (op_arr_vp (k := .i64) (m := 0) (n := 4) rfl rfl rfl arr_61 rfl rfl rfl rfl) ?_
   iterate 3 refine go ?_
   obtain ⟨g42, h43, hF⟩ := bs hF
   refine aw_grp_roundE (g := x18) (fun i => [29, 30, 31, 32, 33, 34, 35, 36].getD i 0) mixed (roundOps_mk (by kernel_rfl) (by kernel_rfl) rfl (by kernel_rfl)) gs mrb_108 zer_75 one_108 slc_75 zer_3 elm_3 rfl rfl rfl rfl (by kernel_rfl) rfl h43 ?_
   refine piz ⟨65, [(2, some (.pv (.int .i64 a2))), (3, some (.lp 0 0)), (4, some (.lp 1 0)), (7, some (.lp 2 0)), (16, some (.pv (.vs 1 (List.map eI y5)))), (17, some (.pv (.int .i64 (y5.length : Int)))), (18, some (.pv (.int .i64 x19)))], [(0, some (.box 22 [.pv (.vs 7 (List.map eGClass a0))])), (1, some (.box 56 [.pv (.vs 7 (List.map eGCell a1))])), (2, some (.box 108 [.pv (.raw (.map (some gq2)))]))], 3, [], [], encG g42, []⟩ [0, 1, 2] ?_
   iterate 5 refine go ?_
   refine rnr ?_
   exact rnd_back (ih (g42, w_i64 (x19 + 1)) hF) (impz [0, 1, 2])
  refine aw_exit ?_
  iterate 2 refine post_then_exit ?_
  cases hF
  exact post_lp_break _ rfl (impz [0, 1, 2])
 rintro _ rfl
 have hF := hK47
 iterate 2 refine go ?_
 refine reg_ungrpE (id := 2) (g := x46) gj gs mrb_108 zer_75 rfl rfl ?_
 refine rgp (al 3 [.nilp, .nils] zer_113) ?_
 refine reg_imp (imp_nil_box 3 1 113 5 1 4 rfl rfl rfl) ?_
 refine reg_imp (imp_bp 3 rfl) ?_
 iterate 2 refine go ?_
 refine rgp (al 5 [.nilf] zer_114) ?_
 iterate 2 refine go ?_
 refine rgp (op_makeFunc rfl rfl rfl rfl) ?_
 iterate 3 refine go ?_
 obtain ⟨u50, h51, hF⟩ := bs hF
 refine rgp (op_callW (args := [.lp 0 0, .pv (.str [119, 111, 114, 108, 100, 10])]) [3, 4] [3, 6] [4] 7 rfl rfl rfl rfl rfl cal_47 (bldW_ok h51) rfl (by decide) ⟨rfl, rfl, trivial⟩ rfl (by decide) ⟨.inl rfl, .inr rfl, trivial⟩ (by kernel_rfl) (by kernel_rfl) rfl rfl rfl rfl) ?_
 iterate 3 refine go ?_
 obtain ⟨y54, h55, hF⟩ := bs hF
 refine rgp (op_callW (args := [.pv (.int .i64 0), .pv (.int .i64 1), .lp 0 0, .lp 1 0, .lp 3 0, .lp 4 0, .lp 5 0]) [2, 3, 6, 0, 1, 5] [2, 3, 7, 0, 1, 5] [6] 8 rfl rfl rfl rfl rfl cal_46 (dot_Tree_1_w_ok h55) rfl (by decide) ⟨rfl, rfl, rfl, rfl, rfl, rfl, trivial⟩ rfl (by decide) ⟨.inl rfl, .inl rfl, .inr rfl, .inl rfl, .inl rfl, .inl rfl, trivial⟩ (by kernel_rfl) (by kernel_rfl) rfl rfl rfl rfl) ?_
 iterate 5 refine go ?_
 obtain ⟨x143, hF, hK144⟩ := bs hF
 refine aw_for (a2.toNat + 2) (fun s1 => s1 = (sX 65 [(11, some (.lp 0 0))] [(0, some (.box 113 [.bp 0, .ls 1])), (1, some (.row 5 1 (List.map eI_u8 x143)))] 2)) ?_ ?_
 ·refine rnd_loop (α := (List Int) × Int) (fun q => (sX 65 [pf 2 (.int .i64 a2), (7, some (.lp 0 0)), (11, some (.lp 1 0)), (12, some (.lp 3 0)), pf 13 (.int .i64 q.2)] [(0, some (.box 108 [.pv (.mrv Tryz.prog 108 (grpOf x46))])), (1, some (.box 113 [.bp 1, .ls 2])), (2, some (.row 5 1 (List.map eI_u8 q.1))), (3, some (.box 114 [.fn 46 [.lp 0 0, .lp 1 0, .lp 4 0, .lp 5 0, .lp 3 0]])), (4, some (.box 22 [.pv (.vs 7 (List.map eGClass a0))])), (5, some (.box 56 [.pv (.vs 7 (List.map eGCell a1))]))] 6)) (fun k q => dot_Tree_L2 a0 a1 a2 x46 k q.1 q.2 = some x143) (y54, 1) (impz [2, 3, 7, 5, 0, 1]) hF (fun q h => by cases h) ?_
  clear hF
  rintro k ⟨x83, x84⟩ hF ih
  refine rnd_succ ?_
  iterate 4 refine go ?_
  refine rgp (op_min2 rfl rfl rfl rfl rfl) ?_
  iterate 2 refine go ?_
  refine cnd hF (fun hb114 hF => ?_) fun hb114 hF => ?_
  ·iterate 2 refine go ?_
   refine aw_seq ?_
   obtain ⟨x138, hF, hK140⟩ := bs hF
   refine ctx (sX 65 [pf 2 (.int .i64 a2), (7, some (.lp 0 0)), (11, some (.lp 1 0)), (12, some (.lp 3 0)), pf 13 (.int .i64 x84)] [(0, some (.box 108 [.pv (.mrv Tryz.prog 108 (grpOf x46))])), (1, some (.box 113 [.bp 1, .ls 2])), (2, some (.row 5 1 (List.map eI_u8 x138))), (3, some (.box 114 [.fn 46 [.lp 0 0, .lp 1 0, .lp 4 0, .lp 5 0, .lp 3 0]])), (4, some (.box 22 [.pv (.vs 7 (List.map eGClass a0))])), (5, some (.box 56 [.pv (.vs 7 (List.map eGCell a1))]))] 6) ?_ ?_
   ·refine aw_block ?_
    iterate 3 refine go ?_
    refine rgp (op_neg rfl rfl rfl rfl) ?_
    obtain ⟨y117, h118, hF⟩ := bs hF
    refine rgp (op_lookupG rfl rfl rfl h118 rfl rfl) ?_
    iterate 3 refine go ?_
    refine cnd hF (fun hb119 hF => ?_) fun hb119 hF => ?_
    ·iterate 2 refine go ?_
     refine rgp (op_neg rfl rfl rfl rfl) ?_
     obtain ⟨y128, h129, hF⟩ := bs hF
     refine rgp (cl 6 [.int .i64 (w_i64 (0 - x84))] [.p (.str y128)] (word_Digits_ok h129)) ?_
     obtain ⟨u130, h131, hF⟩ := bs hF
     refine rgp (op_concat rfl rfl rfl (room_str h131) rfl rfl) ?_
     obtain ⟨u132, h133, hF⟩ := bs hF
     refine rgp (op_concat rfl rfl rfl (room_str h133) rfl rfl) ?_
     obtain ⟨u134, h135, hF⟩ := bs hF
     refine rgp (op_callW (args := [.lp 0 0, .pv (.str (([99, 108, 117, 115, 116, 101, 114, 32] ++ y128) ++ [10]))]) [1, 2] [1, 6] [2] 7 rfl rfl rfl rfl rfl cal_47 (bldW_ok h135) rfl (by decide) ⟨rfl, rfl, trivial⟩ rfl (by decide) ⟨.inl rfl, .inr rfl, trivial⟩ (by kernel_rfl) (by kernel_rfl) rfl rfl rfl rfl) ?_
     iterate 4 refine go ?_
     refine rgp (op_neg rfl rfl rfl rfl) ?_
     obtain ⟨y136, h137, hF⟩ := bs hF
     refine rgp (op_callW (args := [.pv (.int .i64 (w_i64 (0 - x84))), .pv (.int .i64 1), .lp 0 0, .lp 1 0, .lp 3 0, .lp 4 0, .lp 5 0]) [0, 1, 6, 4, 5, 3] [0, 1, 7, 4, 5, 3] [6] 8 rfl rfl rfl rfl rfl cal_46 (dot_Tree_1_w_ok h137) rfl (by decide) ⟨rfl, rfl, rfl, rfl, rfl, rfl, trivial⟩ rfl (by decide) ⟨.inl rfl, .inl rfl, .inr rfl, .inl rfl, .inl rfl, .inl rfl, trivial⟩ (by kernel_rfl) (by kernel_rfl) rfl rfl rfl rfl) ?_
     refine reg_nil ?_
     refine piz (sX 65 [pf 2 (.int .i64 a2), (7, some (.lp 0 0)), (11, some (.lp 1 0)), (12, some (.lp 3 0)), pf 13 (.int .i64 x84)] [(0, some (.box 108 [.pv (.mrv Tryz.prog 108 (grpOf x46))])), (1, some (.box 113 [.bp 1, .ls 2])), (2, some (.row 5 1 (List.map eI_u8 y136))), (3, some (.box 114 [.fn 46 [.lp 0 0, .lp 1 0, .lp 4 0, .lp 5 0, .lp 3 0]])), (4, some (.box 22 [.pv (.vs 7 (List.map eGClass a0))])), (5, some (.box 56 [.pv (.vs 7 (List.map eGCell a1))]))] 6) [0, 1, 7, 3, 4, 5] ?_
     refine go ?_
     cases hF
     exact pcz [0, 1, 2, 3, 4, 5]
    iterate 2 refine go ?_
    cases hF
    exact pcz [0, 1, 2, 3, 4, 5]
   have hF := hK140
   iterate 5 refine go ?_
   refine rnr ?_
   exact rnd_back (ih (x138, w_i64 (x84 + 1)) hF) (impz [0, 1, 2, 3, 4, 5])
  refine aw_exit ?_
  iterate 2 refine post_then_exit ?_
  cases hF
  exact post_lp_break _ rfl (impz [1, 2])
 rintro _ rfl
 have hF := hK144
 iterate 2 refine go ?_
 obtain ⟨y145, h146, hF⟩ := bs hF
 refine rgp (op_callW (args := [.lp 0 0]) [0, 1] [] [0, 1] 2 rfl rfl rfl rfl rfl cal_50 (bldS_ok h146) rfl (by decide) ⟨rfl, rfl, trivial⟩ rfl (by decide) trivial (by kernel_rfl) (by kernel_rfl) rfl rfl rfl rfl) ?_
 iterate 3 refine go ?_
 cases hF
 exact prt
theorem ref35_Live_ok {a0 : List GCell} {r : (List Int)} (hF : ref35_Live a0 = some r) : FZ 83 [.vs 7 (List.map eGCell a0)] [.own 3 1 (List.map eI r)] := by
 unfold ref35_Live at hF
 refine fn_of_body (n := 23) Tryz.func83 rfl rfl rfl fun w O => ?_
 iterate 5 refine go ?_
 refine reg_imp (imp_nil_own 3 3 1 0 rfl rfl) ?_
 iterate 5 refine go ?_
 obtain ⟨x40, hF, hK41⟩ := bs hF
 refine aw_for ((a0.length - 0 : Int).toNat + 1) (fun s1 => s1 = (sX 23 [(3, some (.ls 0))] [(0, some (.row 3 1 (List.map eI x40)))] 1)) ?_ ?_
 ·refine rnd_loop (α := (List Int) × Int) (fun q => (sX 23 [pf 0 (.vs 7 (List.map eGCell a0)), (3, some (.ls 0)), pf 4 (.int .i64 q.2)] [(0, some (.row 3 1 (List.map eI q.1)))] 1)) (fun k q => ref35_Live_L1 a0 k q.1 q.2 = some x40) ([], 0) (impz [0]) hF (fun q h => by cases h) ?_
  clear hF
  rintro k ⟨x12, x13⟩ hF ih
  refine rnd_succ ?_
  iterate 7 refine go ?_
  refine cnd hF (fun hb27 hF => ?_) fun hb27 hF => ?_
  ·iterate 2 refine go ?_
   refine aw_seq ?_
   obtain ⟨x35, hF, hK37⟩ := bs hF
   refine ctx (sX 23 [pf 0 (.vs 7 (List.map eGCell a0)), (3, some (.ls 0)), pf 4 (.int .i64 x13)] [(0, some (.row 3 1 (List.map eI x35)))] 1) ?_ ?_
   ·refine aw_block ?_
    iterate 3 refine go ?_
    obtain ⟨y30, h31, hF⟩ := bs hF
    refine rgp (ix (idx_map eGCell h31) slc_56) ?_
    iterate 4 refine go ?_
    refine cnd hF (fun hb32 hF => ?_) fun hb32 hF => ?_
    ·iterate 4 refine go ?_
     refine rgp (op_lit (rows := List.map eI ([w_i64 (x13 + 1)] : List Int)) (zs := [.int .i64 0]) rfl rfl slc_75 zer_3 (by exact ⟨rfl, trivial⟩) rfl rfl rfl rfl rfl rfl rfl rfl) ?_
     obtain ⟨u33, h34, hF⟩ := bs hF
     refine rgp (op_append 1 rfl rfl rfl rfl rfl slc_75 elm_3 zer_3 rfl rfl rfl (room_map (f := eI) (g := eI) h34) (List.map_append (f := eI) (l₁ := x12) (l₂ := [w_i64 (x13 + 1)])).symm rfl rfl) ?_
     refine go ?_
     refine reg_nil ?_
     refine piz (sX 23 [pf 0 (.vs 7 (List.map eGCell a0)), (3, some (.ls 0)), pf 4 (.int .i64 x13)] [(0, some (.row 3 1 (List.map eI (x12 ++ [w_i64 (x13 + 1)]))))] 1) [1] ?_
     refine go ?_
     cases hF
     exact pcz [0]
    iterate 2 refine go ?_
    cases hF
    exact pcz [0]
   have hF := hK37
   iterate 5 refine go ?_
   refine rnr ?_
   exact rnd_back (ih (x35, w_i64 (x13 + 1)) hF) (impz [0])
  refine aw_exit ?_
  iterate 2 refine post_then_exit ?_
  cases hF
  exact post_lp_break _ rfl (impz [0])
 rintro _ rfl
 have hF := hK41
 iterate 6 refine go ?_
 cases hF
 exact post_ret rfl rfl (.cons _ _ _ _ _ (.tmp _ _ rfl) (.own _ _ _ _ rfl nolent3) .nil) (.inl rfl)
theorem ref35_Ask_ok {a0 : List GCell} {a1 : Int} {r : Int} (hF : ref35_Ask a0 a1 = some r) : FZ 113 [.vs 7 (List.map eGCell a0), .int .i64 a1] [.p (.int .i64 r)] := by
 unfold ref35_Ask at hF
 refine fn_of_body (n := 21) Tryz.func113 rfl rfl rfl fun w O => ?_
 iterate 8 refine go ?_
 refine cnd hF (fun hb1 hF => ?_) fun hb1 hF => ?_
 ·iterate 5 refine go ?_
  cases hF
  exact prt
 iterate 2 refine go ?_
 refine aw_seq ?_
 refine aw_seq ?_
 obtain ⟨x3, hF, hK5⟩ := bs hF
 refine ctx (sX 21 [pf 0 (.vs 7 (List.map eGCell a0)), pf 1 (.int .i64 a1), pf 14 (.bool x3)] [] 0) ?_ ?_
 ·iterate 4 refine go ?_
  rcases ie hF with ⟨hb2, hF⟩ | ⟨hb2, hF⟩
  ·refine rgo_t hb2 ?_
   iterate 3 refine rgo_t hb2 ?_
   refine rpt hb2 ?_
   cases hF
   exact rcz []
  iterate 2 (refine rgn hb2 (op_move rfl rfl rfl rfl) ?_)
  iterate 2 refine gn hb2 ?_
  refine rpf hb2 ?_
  cases hF
  exact rcz []
 have hF := hK5
 refine go ?_
 refine cnd hF (fun hb6 hF => ?_) fun hb6 hF => ?_
 ·iterate 5 refine go ?_
  cases hF
  exact prt
 iterate 7 refine go ?_
 obtain ⟨y9, h10, hF⟩ := bs hF
 refine rgp (ix (idx_map eGCell h10) slc_56) ?_
 iterate 3 refine go ?_
 refine cnd hF (fun hb11 hF => ?_) fun hb11 hF => ?_
 ·iterate 5 refine go ?_
  cases hF
  exact prt
 iterate 6 refine go ?_
 cases hF
 exact prt
theorem ref02_Digits_ok {a0 : Int} {r : (List UInt8)} (hF : ref02_Digits a0 = some r) : FZ 52 [.int .i64 a0] [.p (.str r)] := by
 unfold ref02_Digits at hF
 refine fn_of_body (n := 30) Tryz.func52 rfl rfl rfl fun w O => ?_
 iterate 6 refine go ?_
 refine aw_seq ?_
 obtain ⟨p4, hF, hK5⟩ := bs hF
 obtain ⟨x2, x3⟩ := p4
 refine ctx (sX 30 [pf 0 (.int .i64 x2), pf 3 (.str x3)] [] 0) ?_ ?_
 ·iterate 4 refine go ?_
  refine cnd hF (fun hb1 hF => ?_) fun hb1 hF => ?_
  ·iterate 2 refine go ?_
   cases hF
   exact rcz []
  iterate 2 refine go ?_
  refine rgp (op_neg rfl rfl rfl rfl) ?_
  refine go ?_
  cases hF
  exact rcz []
 have hF := hK5
 iterate 3 refine go ?_
 refine rgp (op_int2 (k := .i64) (m := x2) (n := 10) rfl rfl rfl (rem_op (by decide)) rfl rfl) ?_
 refine go ?_
 refine rgp (op_convInt rfl rfl und_3 und_5 rfl rfl) ?_
 refine rgp (op_lit (rows := List.map eI_u8 ([w_u8 (w_i64 (48 - (Int.tmod x2 10)))] : List Int)) (zs := [.int .u8 0]) rfl rfl slc_111 zer_5 (by exact ⟨rfl, trivial⟩) rfl rfl rfl rfl rfl rfl rfl rfl) ?_
 refine rgp (op_bytesStr (E := eI_u8) rfl rfl rfl und_111 und_5 und_9 rfl rfl) ?_
 iterate 2 refine go ?_
 refine aw_seq ?_
 obtain ⟨x21, hF, hK22⟩ := bs hF
 refine aw_for 21 (fun s1 => s1 = (sX 30 [pf 3 (.str x3), pf 4 (.str x21)] [] 0)) ?_ ?_
 ·refine rnd_loop (α := Int × (List UInt8)) (fun q => (sX 30 [pf 0 (.int .i64 q.1), pf 3 (.str x3), pf 4 (.str q.2)] [] 0)) (fun k q => ref02_Digits_L1 k q.1 q.2 = some x21) (x2, strL [w_u8 (w_i64 (48 - (Int.tmod x2 10)))]) (impz []) hF (fun q h => by cases h) ?_
  clear hF
  rintro k ⟨x9, x10⟩ hF ih
  refine rnd_succ ?_
  iterate 5 refine go ?_
  refine cnd hF (fun hb16 hF => ?_) fun hb16 hF => ?_
  ·iterate 2 refine go ?_
   refine aw_block ?_
   iterate 2 refine go ?_
   refine rgp (op_int2 (k := .i64) (m := x9) (n := 10) rfl rfl rfl (quo_op (by decide)) rfl rfl) ?_
   iterate 4 refine go ?_
   refine rgp (op_int2 (k := .i64) (m := w_i64 (Int.tdiv x9 10)) (n := 10) rfl rfl rfl (rem_op (by decide)) rfl rfl) ?_
   refine go ?_
   refine rgp (op_convInt rfl rfl und_3 und_5 rfl rfl) ?_
   refine rgp (op_lit (rows := List.map eI_u8 ([w_u8 (w_i64 (48 - (Int.tmod (w_i64 (Int.tdiv x9 10)) 10)))] : List Int)) (zs := [.int .u8 0]) rfl rfl slc_111 zer_5 (by exact ⟨rfl, trivial⟩) rfl rfl rfl rfl rfl rfl rfl rfl) ?_
   refine rgp (op_bytesStr (E := eI_u8) rfl rfl rfl und_111 und_5 und_9 rfl rfl) ?_
   refine go ?_
   obtain ⟨u17, h18, hF⟩ := bs hF
   refine rgp (op_concat rfl rfl rfl (room_str h18) rfl rfl) ?_
   refine go ?_
   refine reg_nil ?_
   refine piz (sX 30 [pf 0 (.int .i64 (w_i64 (Int.tdiv x9 10))), pf 3 (.str x3), pf 4 (.str (strL [w_u8 (w_i64 (48 - (Int.tmod (w_i64 (Int.tdiv x9 10)) 10)))] ++ x10))] [] 0) [] ?_
   refine go ?_
   refine post_round ?_
   exact rnd_back (ih (w_i64 (Int.tdiv x9 10), (strL [w_u8 (w_i64 (48 - (Int.tmod (w_i64 (Int.tdiv x9 10)) 10)))] ++ x10)) hF) (impz [])
  refine aw_exit ?_
  iterate 2 refine post_then_exit ?_
  cases hF
  exact post_lp_break _ rfl (impz [])
 rintro _ rfl
 have hF := hK22
 iterate 4 refine go ?_
 obtain ⟨u23, h24, hF⟩ := bs hF
 refine rgp (op_concat rfl rfl rfl (room_str h24) rfl rfl) ?_
 iterate 3 refine go ?_
 cases hF
 exact prt
theorem ref13_Find_ok {a0 : List GClass} {a1 : List UInt8} {r : Int} (hF : ref13_Find a0 a1 = some r) : FZ 156 [.vs 7 (List.map eGClass a0), .str a1] [.p (.int .i64 r)] := by
 unfold ref13_Find at hF
 refine fn_of_body (n := 20) Tryz.func156 rfl rfl rfl fun w O => ?_
 iterate 7 refine go ?_
 obtain ⟨lr22, hF, hK23⟩ := bs hF
 refine aw_for ((a0.length - 0 : Int).toNat + 1) (fun s1 => ∃ q, lr22 = .next q ∧ s1 = (sX 20 [] [] 0)) ?_ ?_
 ·refine rnd_loop (α := Int) (fun q => (sX 20 [pf 0 (.vs 7 (List.map eGClass a0)), pf 1 (.str a1), pf 5 (.int .i64 q)] [] 0)) (fun k q => ref13_Find_L1 a0 a1 k q = some lr22) 0 (impz []) hF (fun q h => by cases h) ?_
  clear hF
  rintro k x7 hF ih
  refine rnd_succ ?_
  iterate 7 refine go ?_
  refine cnd hF (fun hb15 hF => ?_) fun hb15 hF => ?_
  ·iterate 2 refine go ?_
   refine aw_seq ?_
   refine aw_block ?_
   iterate 3 refine go ?_
   obtain ⟨y18, h19, hF⟩ := bs hF
   refine rgp (ix (idx_map eGClass h19) slc_22) ?_
   iterate 3 refine go ?_
   refine rgp (op_str rfl rfl rfl rfl rfl rfl) ?_
   refine go ?_
   refine cnd hF (fun hb20 hF => ?_) fun hb20 hF => ?_
   ·iterate 8 refine go ?_
    refine post_lp_ret ?_
    cases hF
    have hF := elim_stop hK23
    refine go ?_
    cases hF
    exact prt
   iterate 7 refine go ?_
   refine rnr ?_
   exact rnd_back (ih (w_i64 (x7 + 1)) hF) (impz [])
  refine aw_exit ?_
  iterate 2 refine post_then_exit ?_
  cases hF
  exact post_lp_break _ ⟨_, rfl, rfl⟩ (impz [])
 rintro _ ⟨⟨⟩, rfl, rfl⟩
 have hF := elim_next hK23
 clear hK23
 iterate 5 refine go ?_
 cases hF
 exact prt
theorem ref14_has_ok {a0 : List Int} {a1 : Int} {r : Bool} (hF : ref14_has a0 a1 = some r) : FZ 157 [.vs 1 (List.map eI a0), .int .i64 a1] [.p (.bool r)] := by
 unfold ref14_has at hF
 refine fn_of_body (n := 18) Tryz.func157 rfl rfl rfl fun w O => ?_
 iterate 7 refine go ?_
 obtain ⟨lr22, hF, hK23⟩ := bs hF
 refine aw_for ((a0.length - 0 : Int).toNat + 1) (fun s1 => ∃ q, lr22 = .next q ∧ s1 = (sX 18 [] [] 0)) ?_ ?_
 ·refine rnd_loop (α := Int) (fun q => (sX 18 [pf 0 (.vs 1 (List.map eI a0)), pf 1 (.int .i64 a1), pf 5 (.int .i64 q)] [] 0)) (fun k q => ref14_has_L1 a0 a1 k q = some lr22) 0 (impz []) hF (fun q h => by cases h) ?_
  clear hF
  rintro k x7 hF ih
  refine rnd_succ ?_
  iterate 7 refine go ?_
  refine cnd hF (fun hb15 hF => ?_) fun hb15 hF => ?_
  ·iterate 2 refine go ?_
   refine aw_seq ?_
   refine aw_block ?_
   iterate 3 refine go ?_
   obtain ⟨y18, h19, hF⟩ := bs hF
   refine rgp (ix (idx_map eI h19) slc_75) ?_
   iterate 4 refine go ?_
   refine cnd hF (fun hb20 hF => ?_) fun hb20 hF => ?_
   ·iterate 7 refine go ?_
    refine post_lp_ret ?_
    cases hF
    have hF := elim_stop hK23
    refine go ?_
    cases hF
    exact prt
   iterate 7 refine go ?_
   refine rnr ?_
   exact rnd_back (ih (w_i64 (x7 + 1)) hF) (impz [])
  refine aw_exit ?_
  iterate 2 refine post_then_exit ?_
  cases hF
  exact post_lp_break _ ⟨_, rfl, rfl⟩ (impz [])
 rintro _ ⟨⟨⟩, rfl, rfl⟩
 have hF := elim_next hK23
 clear hK23
 iterate 5 refine go ?_
 cases hF
 exact prt
theorem ref14_Chain_ok {a0 : List GClass} {a1 : List UInt8} {r : (List Int)} (hF : ref14_Chain a0 a1 = some r) : FZ 137 [.vs 7 (List.map eGClass a0), .str a1] [.own 3 1 (List.map eI r)] := by
 unfold ref14_Chain at hF
 refine fn_of_body (n := 37) Tryz.func137 rfl rfl rfl fun w O => ?_
 iterate 5 refine go ?_
 refine reg_imp (imp_nil_own 5 3 1 0 rfl rfl) ?_
 iterate 4 refine go ?_
 obtain ⟨y3, h4, hF⟩ := bs hF
 refine rgp (cl 1 [.vs 7 (List.map eGClass a0), .str a1] [.p (.int .i64 y3)] (ref13_Find_ok h4)) ?_
 iterate 2 refine go ?_
 refine aw_seq ?_
 obtain ⟨lr72, hF, hK73⟩ := bs hF
 refine aw_for (a0.length + 2) (fun s1 => ∃ q, lr72 = .next q ∧ s1 = (sX 37 [(5, some (.ls 0))] [(0, some (.row 3 1 (List.map eI q)))] 1)) ?_ ?_
 ·refine rnd_loop (α := (List Int) × Int) (fun q => (sX 37 [pf 0 (.vs 7 (List.map eGClass a0)), (5, some (.ls 0)), pf 6 (.int .i64 q.2)] [(0, some (.row 3 1 (List.map eI q.1)))] 1)) (fun k q => ref14_Chain_L1 a0 k q.1 q.2 = some lr72) ([], y3) (impz [0]) hF (fun q h => by cases h) ?_
  clear hF
  rintro k ⟨x25, x26⟩ hF ih
  refine rnd_succ ?_
  refine aw_seq ?_
  refine aw_seq ?_
  obtain ⟨x52, hF, hK54⟩ := bs hF
  refine ctx (sX 37 [pf 0 (.vs 7 (List.map eGClass a0)), (5, some (.ls 0)), pf 6 (.int .i64 x26), pf 17 (.bool x52)] [(0, some (.row 3 1 (List.map eI x25)))] 1) ?_ ?_
  ·iterate 4 refine go ?_
   rcases ie hF with ⟨hb49, hF⟩ | ⟨hb49, hF⟩
   ·iterate 2 refine gn hb49 ?_
    obtain ⟨y50, h51, hF⟩ := bs hF
    refine rgn hb49 (op_callB 1 rfl (caps := []) (args := [.vs 1 (List.map eI x25), .int .i64 x26]) [(0, some (.row 3 1 (List.map eI x25)))] rfl rfl rfl (FzH.spec ⟨rfl, trivial⟩) rfl rfl cal_157 (ref14_has_ok h51) rfl rfl rfl) ?_
    refine gn hb49 ?_
    refine rpt hb49 ?_
    cases hF
    exact rcz [0]
   iterate 4 refine rgo_f hb49 ?_
   refine rpf hb49 ?_
   cases hF
   exact rcz [0]
  have hF := hK54
  refine go ?_
  refine cnd hF (fun hb55 hF => ?_) fun hb55 hF => ?_
  ·iterate 2 refine go ?_
   refine aw_block ?_
   iterate 3 refine go ?_
   refine rgp (op_lit (rows := List.map eI ([x26] : List Int)) (zs := [.int .i64 0]) rfl rfl slc_75 zer_3 (by exact ⟨rfl, trivial⟩) rfl rfl rfl rfl rfl rfl rfl rfl) ?_
   obtain ⟨u58, h59, hF⟩ := bs hF
   refine rgp (op_append 1 rfl rfl rfl rfl rfl slc_75 elm_3 zer_3 rfl rfl rfl (room_map (f := eI) (g := eI) h59) (List.map_append (f := eI) (l₁ := x25) (l₂ := [x26])).symm rfl rfl) ?_
   iterate 6 refine go ?_
   obtain ⟨y62, h63, hF⟩ := bs hF
   refine rgp (ix (idx_map eGClass h63) slc_22) ?_
   iterate 2 refine go ?_
   refine rgp (op_str rfl rfl rfl rfl rfl rfl) ?_
   refine go ?_
   refine cnd hF (fun hb64 hF => ?_) fun hb64 hF => ?_
   ·iterate 8 refine go ?_
    refine post_lp_ret ?_
    cases hF
    have hF := elim_stop hK73
    refine go ?_
    cases hF
    exact post_ret rfl rfl (.cons _ _ _ _ _ (.tmp _ _ rfl) (.own _ _ _ _ rfl nolent3) .nil) (.inl rfl)
   iterate 6 refine go ?_
   obtain ⟨y65, h66, hF⟩ := bs hF
   refine rgp (ix (idx_map eGClass h66) slc_22) ?_
   iterate 2 refine go ?_
   obtain ⟨y67, h68, hF⟩ := bs hF
   refine rgp (cl 2 [.vs 7 (List.map eGClass a0), .str y65.fSuper] [.p (.int .i64 y67)] (ref13_Find_ok h68)) ?_
   refine go ?_
   refine reg_nil ?_
   refine piz (sX 37 [pf 0 (.vs 7 (List.map eGClass a0)), (5, some (.ls 0)), pf 6 (.int .i64 y67)] [(0, some (.row 3 1 (List.map eI (x25 ++ [x26]))))] 1) [1] ?_
   refine go ?_
   refine post_round ?_
   exact rnd_back (ih ((x25 ++ [x26]), y67) hF) (impz [0])
  refine aw_exit ?_
  iterate 2 refine post_then_exit ?_
  cases hF
  exact post_lp_break _ ⟨_, rfl, rfl⟩ (impz [0])
 rintro _ ⟨x71, rfl, rfl⟩
 have hF := elim_next hK73
 clear hK73
 iterate 6 refine go ?_
 cases hF
 exact post_ret rfl rfl (.cons _ _ _ _ _ (.tmp _ _ rfl) (.own _ _ _ _ rfl nolent3) .nil) (.inl rfl)
theorem ref16_All_ok {a0 : List GClass} {a1 : List UInt8} {r : (List GSlot_ref16)} (hF : ref16_All a0 a1 = some r) : FZ 114 [.vs 7 (List.map eGClass a0), .str a1] [.own 204 14 (List.map eGSlot_ref16 r)] := by
 unfold ref16_All at hF
 refine fn_of_body (n := 46) Tryz.func114 rfl rfl rfl fun w O => ?_
 iterate 6 refine go ?_
 obtain ⟨y3, h4, hF⟩ := bs hF
 refine rgp (cl 0 [.vs 7 (List.map eGClass a0), .str a1] [.p (.vs 1 (List.map eI y3))] (Fn.frozen (ref14_Chain_ok h4))) ?_
 iterate 4 refine go ?_
 refine reg_imp (imp_nil_own 6 204 14 0 rfl rfl) ?_
 iterate 8 refine go ?_
 obtain ⟨x143, hF, hK144⟩ := bs hF
 refine aw_for ((((w_i64 ((y3.length : Int) - 1)) : Int) - (0)).toNat + 2) (fun s1 => s1 = (sX 46 [(6, some (.ls 0))] [(0, some (.row 204 14 (List.map eGSlot_ref16 x143)))] 1)) ?_ ?_
 ·refine rnd_loop (α := (List GSlot_ref16) × Int) (fun q => (sX 46 [pf 0 (.vs 7 (List.map eGClass a0)), pf 5 (.vs 1 (List.map eI y3)), (6, some (.ls 0)), pf 7 (.int .i64 q.2)] [(0, some (.row 204 14 (List.map eGSlot_ref16 q.1)))] 1)) (fun k q => ref16_All_L1 a0 y3 k q.1 q.2 = some x143) ([], w_i64 ((y3.length : Int) - 1)) (impz [0]) hF (fun q h => by cases h) ?_
  clear hF
  rintro k ⟨x49, x50⟩ hF ih
  refine rnd_succ ?_
  iterate 5 refine go ?_
  refine cnd hF (fun hb97 hF => ?_) fun hb97 hF => ?_
  ·iterate 2 refine go ?_
   refine aw_seq ?_
   refine aw_block ?_
   iterate 4 refine go ?_
   obtain ⟨y102, h103, hF⟩ := bs hF
   refine rgp (ix (idx_map eI h103) slc_75) ?_
   refine go ?_
   obtain ⟨y104, h105, hF⟩ := bs hF
   refine rgp (ix (idx_map eGClass h105) slc_22) ?_
   refine rgp (lw (eGClass y104) agg_32) ?_
   refine rgp (al 1 (eGClass zGClass) zer_32) ?_
   iterate 5 refine go ?_
   obtain ⟨x139, hF, hK140⟩ := bs hF
   refine aw_for ((y104.fFields.length - 0 : Int).toNat + 1) (fun s1 => s1 = (sX 46 [pf 0 (.vs 7 (List.map eGClass a0)), pf 5 (.vs 1 (List.map eI y3)), (6, some (.ls 0)), pf 7 (.int .i64 x50)] [(0, some (.row 204 14 (List.map eGSlot_ref16 x139)))] 1)) ?_ ?_
   ·refine rnd_loop (α := (List GSlot_ref16) × Int) (fun q => (sX 46 [pf 0 (.vs 7 (List.map eGClass a0)), pf 5 (.vs 1 (List.map eI y3)), (6, some (.ls 0)), pf 7 (.int .i64 x50), (8, some (.lp 1 0)), pf 9 (.int .i64 q.2)] [(0, some (.row 204 14 (List.map eGSlot_ref16 q.1))), bf 1 32 (eGClass y104)] 2)) (fun k q => ref16_All_L2 y104 k q.1 q.2 = some x139) (x49, 0) (impz [0, 1]) hF (fun q h => by cases h) ?_
    clear hF
    rintro k ⟨x115, x116⟩ hF ih
    refine rnd_succ ?_
    iterate 8 refine go ?_
    refine cnd hF (fun hb128 hF => ?_) fun hb128 hF => ?_
    ·iterate 2 refine go ?_
     refine aw_seq ?_
     refine aw_block ?_
     refine aw_imp (imp_names 1) ?_
     refine dr_start ⟨_, _, _⟩ rfl ?_
     iterate 6 refine dgo ?_
     obtain ⟨y133, h134, hF⟩ := bs hF
     refine dk 40 [(38, .pv (.vs 13 (List.map eGVar y104.fFields))), (39, .pv (.int .i64 x116))] (.pv (.vp (eGVar y133))) (fun m h => ⟨_, op_index_vs (k := .i64) rfl h.1.1 h.1.2.1 (idx_map eGVar h134) slc_29 rfl rfl, rfl⟩) ?_
     refine dk 41 [(40, .pv (.vp (eGVar y133)))] (.pv (.agg (eGVar y133))) (fun m h => ⟨_, op_load_vp_agg (ps := eGVar y133) rfl h.1.1 rfl rfl agg_66 rfl rfl, rfl⟩) ?_
     refine dk 42 [(41, .pv (.agg (eGVar y133))), (36, .pv (.str y104.fName))] (.pv (.agg (eGSlot_ref16 ({ fClass := y104.fName, fVar := y133 } : GSlot_ref16)))) (fun m h => ⟨_, op_build (zs := (eGSlot_ref16 zGSlot_ref16)) (r := eGSlot_ref16 ({ fClass := y104.fName, fVar := y133 } : GSlot_ref16)) rfl zer_204 (by exact ⟨rfl, rfl, rfl, rfl, rfl, rfl, rfl, rfl, rfl, rfl, rfl, rfl, rfl, rfl, trivial⟩) plc_204 (evs_cons h.1.2.1 (evs_cons h.1.1 evs_nil)) rfl rfl rfl, rfl⟩) ?_
     refine dk 43 [(42, .pv (.agg (eGSlot_ref16 ({ fClass := y104.fName, fVar := y133 } : GSlot_ref16))))] (.pv (.vs 14 (List.map eGSlot_ref16 [({ fClass := y104.fName, fVar := y133 } : GSlot_ref16)]))) (fun m h => ⟨_, op_lit (rows := List.map eGSlot_ref16 ([({ fClass := y104.fName, fVar := y133 } : GSlot_ref16)] : List GSlot_ref16)) (zs := (eGSlot_ref16 zGSlot_ref16)) rfl rfl slc_202 zer_204 (by exact ⟨rfl, rfl, rfl, rfl, rfl, rfl, rfl, rfl, rfl, rfl, rfl, rfl, rfl, rfl, trivial⟩) rfl rfl rfl (evs_cons h.1.1 evs_nil) rfl rfl rfl rfl, rfl⟩) ?_
     obtain ⟨u135, h136, hF⟩ := bs hF
     refine dr_cons { need := [(34, .ls 0), (43, .pv (.vs 14 (List.map eGSlot_ref16 [({ fClass := y104.fName, fVar := y133 } : GSlot_ref16)])))], hneed := [(0, .row 204 14 (List.map eGSlot_ref16 x115))], names := [2], dst := some 44, val := some (.ls 2), upd := [(2, some (.row 204 14 (List.map eGSlot_ref16 (x115 ++ [({ fClass := y104.fName, fVar := y133 } : GSlot_ref16)])))), (0, none)] } (fun m h => step_on (guard_no rfl) (op_append 2 (fresh_free h.2.2.1) rfl h.1.1 h.2.1.1 h.1.2.1 slc_202 elm_204 zer_204 rfl rfl rfl (room_map (f := eGSlot_ref16) (g := eGSlot_ref16) h136) (List.map_append (f := eGSlot_ref16) (l₁ := x115) (l₂ := [({ fClass := y104.fName, fVar := y133 } : GSlot_ref16)])).symm rfl rfl) rfl) ⟨⟨rfl, rfl, trivial⟩, ⟨rfl, trivial⟩, ⟨rfl, trivial⟩⟩ ?_
     refine dk 6 [(44, .ls 2)] (.ls 2) (fun m h => ⟨_, op_assign rfl h.1.1 rfl rfl, rfl⟩) ?_
     refine dr_nil mixed rfl (by kernel_rfl) ?_
     refine piz (sX 46 [pf 0 (.vs 7 (List.map eGClass a0)), pf 5 (.vs 1 (List.map eI y3)), (6, some (.ls 0)), pf 7 (.int .i64 x50), (8, some (.lp 1 0)), pf 9 (.int .i64 x116)] [(0, some (.row 204 14 (List.map eGSlot_ref16 (x115 ++ [({ fClass := y104.fName, fVar := y133 } : GSlot_ref16)])))), bf 1 32 (eGClass y104)] 2) [2, 1] ?_
     iterate 6 refine go ?_
     refine rnr ?_
     exact rnd_back (ih ((x115 ++ [({ fClass := y104.fName, fVar := y133 } : GSlot_ref16)]), w_i64 (x116 + 1)) hF) (impz [0, 1])
    refine aw_exit ?_
    iterate 2 refine post_then_exit ?_
    cases hF
    exact post_lp_break _ rfl (impz [0])
   rintro _ rfl
   have hF := hK140
   iterate 6 refine go ?_
   refine rnr ?_
   exact rnd_back (ih (x139, w_i64 (x50 - 1)) hF) (impz [0])
  refine aw_exit ?_
  iterate 2 refine post_then_exit ?_
  cases hF
  exact post_lp_break _ rfl (impz [0])
 rintro _ rfl
 have hF := hK144
 iterate 6 refine go ?_
 cases hF
 exact post_ret rfl rfl (.cons _ _ _ _ _ (.tmp _ _ rfl) (.own _ _ _ _ rfl nolent3) .nil) (.inl rfl)
theorem ref48_value_ok {a0 : GVal} {r : (List UInt8)} (hF : ref48_value a0 = some r) : FZ 115 [.agg (eGVal a0)] [.p (.str r)] := by
 unfold ref48_value at hF
 refine fn_of_body (n := 12) Tryz.func115 rfl rfl rfl fun w O => ?_
 refine go ?_
 refine rgp (bo 0) ?_
 iterate 7 refine go ?_
 refine cnd hF (fun hb1 hF => ?_) fun hb1 hF => ?_
 ·iterate 3 refine go ?_
  obtain ⟨y2, h3, hF⟩ := bs hF
  refine rgp (cl 1 [.int .i64 a0.fN] [.p (.str y2)] (ref02_Digits_ok h3)) ?_
  obtain ⟨u4, h5, hF⟩ := bs hF
  refine rgp (op_concat rfl rfl rfl (room_str h5) rfl rfl) ?_
  iterate 4 refine go ?_
  cases hF
  exact prt
 iterate 5 refine go ?_
 obtain ⟨y6, h7, hF⟩ := bs hF
 refine rgp (cl 1 [.int .i64 a0.fN] [.p (.str y6)] (ref02_Digits_ok h7)) ?_
 iterate 3 refine go ?_
 cases hF
 exact prt
theorem ref48_Line_ok {a0 : List GClass} {a1 : List GCell} {a2 : Int} {r : (List UInt8)} (hF : ref48_Line a0 a1 a2 = some r) : FZ 84 [.vs 7 (List.map eGClass a0), .vs 7 (List.map eGCell a1), .int .i64 a2] [.p (.str r)] := by
 unfold ref48_Line at hF
 refine fn_of_body (n := 62) Tryz.func84 rfl rfl rfl fun w O => ?_
 iterate 7 refine go ?_
 obtain ⟨y3, h4, hF⟩ := bs hF
 refine rgp (cl 0 [.vs 7 (List.map eGCell a1), .int .i64 a2] [.p (.int .i64 y3)] (ref35_Ask_ok h4)) ?_
 iterate 2 refine go ?_
 refine cnd hF (fun hb5 hF => ?_) fun hb5 hF => ?_
 ·iterate 5 refine go ?_
  cases hF
  exact prt
 iterate 6 refine go ?_
 obtain ⟨y8, h9, hF⟩ := bs hF
 refine rgp (ix (idx_map eGCell h9) slc_56) ?_
 refine rgp (lw (eGCell y8) agg_64) ?_
 refine rgp (al 0 (eGCell zGCell) zer_64) ?_
 iterate 2 refine go ?_
 refine aw_seq ?_
 refine dr_start ⟨_, _, _⟩ rfl ?_
 refine dgo ?_
 obtain ⟨y18, h19, hF⟩ := bs hF
 refine dk 22 [(21, .pv (.int .i64 a2))] (.pv (.str y18)) (fun m h => ⟨_, op_call 1 rfl (caps := []) (args := [.int .i64 a2]) (rs := [.p (.str y18)]) rfl rfl (evl_cons h.1.1 evl_nil) cal_52 (ref02_Digits_ok h19) rfl rfl rfl, rfl⟩) ?_
 obtain ⟨u20, h21, hF⟩ := bs hF
 refine dk 23 [(22, .pv (.str y18))] (.pv (.str ([64] ++ y18))) (fun m h => ⟨_, op_concat rfl rfl h.1.1 (room_str h21) rfl rfl, rfl⟩) ?_
 obtain ⟨u22, h23, hF⟩ := bs hF
 refine dk 24 [(23, .pv (.str ([64] ++ y18)))] (.pv (.str (([64] ++ y18) ++ [32]))) (fun m h => ⟨_, op_concat rfl h.1.1 rfl (room_str h23) rfl rfl, rfl⟩) ?_
 iterate 2 refine dgo ?_
 obtain ⟨u24, h25, hF⟩ := bs hF
 refine dk 27 [(24, .pv (.str (([64] ++ y18) ++ [32]))), (26, .pv (.str y8.fClass))] (.pv (.str ((([64] ++ y18) ++ [32]) ++ y8.fClass))) (fun m h => ⟨_, op_concat rfl h.1.1 h.1.2.1 (room_str h25) rfl rfl, rfl⟩) ?_
 refine dk 8 [(27, .pv (.str ((([64] ++ y18) ++ [32]) ++ y8.fClass)))] (.pv (.str ((([64] ++ y18) ++ [32]) ++ y8.fClass))) (fun m h => ⟨_, op_assign rfl h.1.1 rfl rfl, rfl⟩) ?_
 refine dr_nil mixed rfl (by kernel_rfl) ?_
 refine piz (sX 62 [pf 0 (.vs 7 (List.map eGClass a0)), (7, some (.lp 0 0)), pf 8 (.str ((([64] ++ y18) ++ [32]) ++ y8.fClass))] [bf 0 64 (eGCell y8)] 1) [0] ?_
 iterate 5 refine go ?_
 obtain ⟨y28, h29, hF⟩ := bs hF
 refine rgp (cl 1 [.vs 7 (List.map eGClass a0), .str y8.fClass] [.p (.vs 14 (List.map eGSlot_ref16 y28))] (Fn.frozen (ref16_All_ok h29))) ?_
 iterate 6 refine go ?_
 obtain ⟨x129, hF, hK130⟩ := bs hF
 refine aw_for ((y8.fFields.length - 0 : Int).toNat + 1) (fun s1 => s1 = (sX 62 [pf 8 (.str x129)] [] 0)) ?_ ?_
 ·refine rnd_loop (α := (List UInt8) × Int) (fun q => (sX 62 [(7, some (.lp 0 0)), pf 8 (.str q.1), pf 9 (.vs 14 (List.map eGSlot_ref16 y28)), pf 10 (.int .i64 q.2)] [bf 0 64 (eGCell y8)] 1)) (fun k q => ref48_Line_L1 y8 y28 k q.1 q.2 = some x129) (((([64] ++ y18) ++ [32]) ++ y8.fClass), 0) (impz [0]) hF (fun q h => by cases h) ?_
  clear hF
  rintro k ⟨x61, x62⟩ hF ih
  refine rnd_succ ?_
  iterate 8 refine go ?_
  refine cnd hF (fun hb96 hF => ?_) fun hb96 hF => ?_
  ·iterate 2 refine go ?_
   refine aw_seq ?_
   refine aw_block ?_
   iterate 3 refine go ?_
   refine aw_seq ?_
   obtain ⟨x100, hF, hK102⟩ := bs hF
   refine ctx (sX 62 [(7, some (.lp 0 0)), pf 8 (.str x61), pf 9 (.vs 14 (List.map eGSlot_ref16 y28)), pf 10 (.int .i64 x62), pf 11 (.str x100)] [bf 0 64 (eGCell y8)] 1) ?_ ?_
   ·iterate 6 refine go ?_
    refine cnd hF (fun hb97 hF => ?_) fun hb97 hF => ?_
    ·iterate 3 refine go ?_
     obtain ⟨y98, h99, hF⟩ := bs hF
     refine rgp (ix (idx_map eGSlot_ref16 h99) slc_202) ?_
     iterate 4 refine go ?_
     cases hF
     exact rcz [0]
    refine go ?_
    cases hF
    exact pcz [0]
   have hF := hK102
   iterate 4 refine go ?_
   obtain ⟨u115, h116, hF⟩ := bs hF
   refine rgp (op_concat rfl rfl rfl (room_str h116) rfl rfl) ?_
   obtain ⟨u117, h118, hF⟩ := bs hF
   refine rgp (op_concat rfl rfl rfl (room_str h118) rfl rfl) ?_
   iterate 3 refine go ?_
   obtain ⟨y119, h120, hF⟩ := bs hF
   refine rgp (ix (idx_map eGVal h120) slc_62) ?_
   refine rgp (lw (eGVal y119) agg_107) ?_
   obtain ⟨y121, h122, hF⟩ := bs hF
   refine rgp (cl 1 [.agg (eGVal y119)] [.p (.str y121)] (ref48_value_ok h122)) ?_
   obtain ⟨u123, h124, hF⟩ := bs hF
   refine rgp (op_concat rfl rfl rfl (room_str h124) rfl rfl) ?_
   obtain ⟨u125, h126, hF⟩ := bs hF
   refine rgp (op_concat rfl rfl rfl (room_str h126) rfl rfl) ?_
   refine go ?_
   refine reg_nil ?_
   refine piz (sX 62 [(7, some (.lp 0 0)), pf 8 (.str (x61 ++ ((([32] ++ x100) ++ [61]) ++ y121))), pf 9 (.vs 14 (List.map eGSlot_ref16 y28)), pf 10 (.int .i64 x62)] [bf 0 64 (eGCell y8)] 1) [0] ?_
   iterate 6 refine go ?_
   refine rnr ?_
   exact rnd_back (ih ((x61 ++ ((([32] ++ x100) ++ [61]) ++ y121)), w_i64 (x62 + 1)) hF) (impz [0])
  refine aw_exit ?_
  iterate 2 refine post_then_exit ?_
  cases hF
  exact post_lp_break _ rfl (impz [])
 rintro _ rfl
 have hF := hK130
 iterate 6 refine go ?_
 cases hF
 exact prt
theorem ref48_branch_ring : ∀ n : Nat, (∀ (a0 : List GClass) (a1 : List GCell) (a2 : Int) (a3 : Int) (r : (List UInt8)), ref48_branch n a0 a1 a2 a3 = some r → FZ 51 [.vs 7 (List.map eGClass a0), .vs 7 (List.map eGCell a1), .int .i64 a2, .int .i64 a3] [.p (.str r)]) := by
 intro n
 induction n with
 | zero => exact (fun _ _ _ _ _ h => by simp [ref48_branch] at h)
 | succ n ih =>
  have ref48_branch_ih := ih
  clear ih
  intro a0 a1 a2 a3 r hF
  unfold ref48_branch at hF
  revert hF ref48_branch_ih
  generalize ref48_branch n = ref48_branch_rec
  intro ref48_branch_ih hF
  refine fn_of_body (n := 66) Tryz.func51 rfl rfl rfl fun w O => ?_
  iterate 8 refine go ?_
  refine cnd hF (fun hb1 hF => ?_) fun hb1 hF => ?_
  ·iterate 5 refine go ?_
   cases hF
   exact prt
  iterate 9 refine go ?_
  obtain ⟨x23, hF, hK24⟩ := bs hF
  refine aw_for (((a3 : Int) - (0)).toNat + 1) (fun s1 => s1 = (sX 66 [pf 0 (.vs 7 (List.map eGClass a0)), pf 1 (.vs 7 (List.map eGCell a1)), pf 2 (.int .i64 a2), pf 3 (.int .i64 a3), pf 9 (.str x23)] [] 0)) ?_ ?_
  ·refine rnd_loop (α := (List UInt8) × Int) (fun q => (sX 66 [pf 0 (.vs 7 (List.map eGClass a0)), pf 1 (.vs 7 (List.map eGCell a1)), pf 2 (.int .i64 a2), pf 3 (.int .i64 a3), pf 9 (.str q.1), pf 10 (.int .i64 q.2)] [] 0)) (fun k q => ref48_branch_L1 a3 k q.1 q.2 = some x23) ([], 0) (impz []) hF (fun q h => by cases h) ?_
   clear hF
   rintro k ⟨x7, x8⟩ hF ih
   refine rnd_succ ?_
   iterate 6 refine go ?_
   refine cnd hF (fun hb16 hF => ?_) fun hb16 hF => ?_
   ·iterate 2 refine go ?_
    refine aw_seq ?_
    refine aw_block ?_
    iterate 2 refine go ?_
    obtain ⟨u19, h20, hF⟩ := bs hF
    refine rgp (op_concat rfl rfl rfl (room_str h20) rfl rfl) ?_
    refine go ?_
    refine reg_nil ?_
    refine piz (sX 66 [pf 0 (.vs 7 (List.map eGClass a0)), pf 1 (.vs 7 (List.map eGCell a1)), pf 2 (.int .i64 a2), pf 3 (.int .i64 a3), pf 9 (.str (x7 ++ [9])), pf 10 (.int .i64 x8)] [] 0) [] ?_
    iterate 6 refine go ?_
    refine rnr ?_
    exact rnd_back (ih ((x7 ++ [9]), w_i64 (x8 + 1)) hF) (impz [])
   refine aw_exit ?_
   iterate 2 refine post_then_exit ?_
   cases hF
   exact post_lp_break _ rfl (impz [])
  rintro _ rfl
  have hF := hK24
  iterate 6 refine go ?_
  obtain ⟨y27, h28, hF⟩ := bs hF
  refine rgp (cl 0 [.vs 7 (List.map eGCell a1)] [.p (.vs 1 (List.map eI y27))] (Fn.frozen (ref35_Live_ok h28))) ?_
  iterate 6 refine go ?_
  obtain ⟨x122, hF, hK123⟩ := bs hF
  refine aw_for ((y27.length - 0 : Int).toNat + 1) (fun s1 => s1 = (sX 66 [pf 11 (.str x122)] [] 0)) ?_ ?_
  ·refine rnd_loop (α := (List UInt8) × Int) (fun q => (sX 66 [pf 0 (.vs 7 (List.map eGClass a0)), pf 1 (.vs 7 (List.map eGCell a1)), pf 2 (.int .i64 a2), pf 3 (.int .i64 a3), pf 9 (.str x23), pf 11 (.str q.1), pf 12 (.vs 1 (List.map eI y27)), pf 13 (.int .i64 q.2)] [] 0)) (fun k q => ref48_branch_L2 a0 a1 a2 a3 x23 y27 ref48_branch_rec k q.1 q.2 = some x122) ([], 0) (impz []) hF (fun q h => by cases h) ?_
   clear hF
   rintro k ⟨x58, x59⟩ hF ih
   refine rnd_succ ?_
   iterate 7 refine go ?_
   refine cnd hF (fun hb91 hF => ?_) fun hb91 hF => ?_
   ·iterate 2 refine go ?_
    refine aw_seq ?_
    obtain ⟨x117, hF, hK119⟩ := bs hF
    refine ctx (sX 66 [pf 0 (.vs 7 (List.map eGClass a0)), pf 1 (.vs 7 (List.map eGCell a1)), pf 2 (.int .i64 a2), pf 3 (.int .i64 a3), pf 9 (.str x23), pf 11 (.str x117), pf 12 (.vs 1 (List.map eI y27)), pf 13 (.int .i64 x59)] [] 0) ?_ ?_
    ·refine aw_block ?_
     iterate 4 refine go ?_
     obtain ⟨y96, h97, hF⟩ := bs hF
     refine rgp (ix (idx_map eI h97) slc_75) ?_
     iterate 2 refine go ?_
     obtain ⟨y98, h99, hF⟩ := bs hF
     refine rgp (ix (idx_map eGCell h99) slc_56) ?_
     refine go ?_
     refine rgp (op_arr_vp (k := .i64) (m := 0) (n := 4) rfl rfl rfl arr_61 rfl rfl rfl rfl) ?_
     iterate 4 refine go ?_
     refine cnd hF (fun hb100 hF => ?_) fun hb100 hF => ?_
     ·refine dr_start ⟨_, _, _⟩ rfl ?_
      iterate 6 refine dgo ?_
      obtain ⟨y101, h102, hF⟩ := bs hF
      refine dk 49 [(47, .pv (.vs 1 (List.map eI y27))), (48, .pv (.int .i64 x59))] (.pv (.vp (eI y101))) (fun m h => ⟨_, op_index_vs (k := .i64) rfl h.1.1 h.1.2.1 (idx_map eI h102) slc_75 rfl rfl, rfl⟩) ?_
      refine dk 50 [(49, .pv (.vp (eI y101)))] (.pv (.int .i64 y101)) (fun m h => ⟨_, op_load_vp (p := .int .i64 y101) rfl h.1.1 rfl one_3 rfl rfl, rfl⟩) ?_
      obtain ⟨y103, h104, hF⟩ := bs hF
      refine dk 51 [(50, .pv (.int .i64 y101)), (46, .pv (.vs 7 (List.map eGCell a1))), (45, .pv (.vs 7 (List.map eGClass a0)))] (.pv (.str y103)) (fun m h => ⟨_, op_call 0 rfl (caps := []) (args := [.vs 7 (List.map eGClass a0), .vs 7 (List.map eGCell a1), .int .i64 y101]) (rs := [.p (.str y103)]) rfl rfl (evl_cons h.1.2.2.1 (evl_cons h.1.2.1 (evl_cons h.1.1 evl_nil))) cal_84 (ref48_Line_ok h104) rfl rfl rfl, rfl⟩) ?_
      obtain ⟨u105, h106, hF⟩ := bs hF
      refine dk 52 [(44, .pv (.str x23)), (51, .pv (.str y103))] (.pv (.str (x23 ++ y103))) (fun m h => ⟨_, op_concat rfl h.1.1 h.1.2.1 (room_str h106) rfl rfl, rfl⟩) ?_
      obtain ⟨u107, h108, hF⟩ := bs hF
      refine dk 53 [(52, .pv (.str (x23 ++ y103)))] (.pv (.str ((x23 ++ y103) ++ [10]))) (fun m h => ⟨_, op_concat rfl h.1.1 rfl (room_str h108) rfl rfl, rfl⟩) ?_
      iterate 4 refine dgo ?_
      obtain ⟨y109, h110, hF⟩ := bs hF
      refine dk 58 [(56, .pv (.vs 1 (List.map eI y27))), (57, .pv (.int .i64 x59))] (.pv (.vp (eI y109))) (fun m h => ⟨_, op_index_vs (k := .i64) rfl h.1.1 h.1.2.1 (idx_map eI h110) slc_75 rfl rfl, rfl⟩) ?_
      refine dk 59 [(58, .pv (.vp (eI y109)))] (.pv (.int .i64 y109)) (fun m h => ⟨_, op_load_vp (p := .int .i64 y109) rfl h.1.1 rfl one_3 rfl rfl, rfl⟩) ?_
      iterate 2 refine dgo ?_
      obtain ⟨y111, h112, hF⟩ := bs hF
      refine dk 62 [(61, .pv (.int .i64 (w_i64 (a3 + 1)))), (59, .pv (.int .i64 y109)), (55, .pv (.vs 7 (List.map eGCell a1))), (54, .pv (.vs 7 (List.map eGClass a0)))] (.pv (.str y111)) (fun m h => ⟨_, op_call 0 rfl (caps := []) (args := [.vs 7 (List.map eGClass a0), .vs 7 (List.map eGCell a1), .int .i64 y109, .int .i64 (w_i64 (a3 + 1))]) (rs := [.p (.str y111)]) rfl rfl (evl_cons h.1.2.2.2.1 (evl_cons h.1.2.2.1 (evl_cons h.1.2.1 (evl_cons h.1.1 evl_nil)))) cal_51 (ref48_branch_ih _ _ _ _ _ h112) rfl rfl rfl, rfl⟩) ?_
      obtain ⟨u113, h114, hF⟩ := bs hF
      refine dk 63 [(53, .pv (.str ((x23 ++ y103) ++ [10]))), (62, .pv (.str y111))] (.pv (.str (((x23 ++ y103) ++ [10]) ++ y111))) (fun m h => ⟨_, op_concat rfl h.1.1 h.1.2.1 (room_str h114) rfl rfl, rfl⟩) ?_
      obtain ⟨u115, h116, hF⟩ := bs hF
      refine dk 64 [(43, .pv (.str x58)), (63, .pv (.str (((x23 ++ y103) ++ [10]) ++ y111)))] (.pv (.str (x58 ++ (((x23 ++ y103) ++ [10]) ++ y111)))) (fun m h => ⟨_, op_concat rfl h.1.1 h.1.2.1 (room_str h116) rfl rfl, rfl⟩) ?_
      refine dk 11 [(64, .pv (.str (x58 ++ (((x23 ++ y103) ++ [10]) ++ y111))))] (.pv (.str (x58 ++ (((x23 ++ y103) ++ [10]) ++ y111)))) (fun m h => ⟨_, op_assign rfl h.1.1 rfl rfl, rfl⟩) ?_
      refine dr_nil mixed rfl (by kernel_rfl) ?_
      refine piz (sX 66 [pf 0 (.vs 7 (List.map eGClass a0)), pf 1 (.vs 7 (List.map eGCell a1)), pf 2 (.int .i64 a2), pf 3 (.int .i64 a3), pf 9 (.str x23), pf 11 (.str (x58 ++ (((x23 ++ y103) ++ [10]) ++ y111))), pf 12 (.vs 1 (List.map eI y27)), pf 13 (.int .i64 x59)] [] 0) [] ?_
      refine go ?_
      cases hF
      exact pcz []
     iterate 2 refine go ?_
     cases hF
     exact pcz []
    have hF := hK119
    iterate 5 refine go ?_
    refine rnr ?_
    exact rnd_back (ih (x117, w_i64 (x59 + 1)) hF) (impz [])
   refine aw_exit ?_
   iterate 2 refine post_then_exit ?_
   cases hF
   exact post_lp_break _ rfl (impz [])
  rintro _ rfl
  have hF := hK123
  iterate 6 refine go ?_
  cases hF
  exact prt
theorem ref48_branch_ok {n : Nat} {a0 : List GClass} {a1 : List GCell} {a2 : Int} {a3 : Int} {r : (List UInt8)} (hF : ref48_branch n a0 a1 a2 a3 = some r) : FZ 51 [.vs 7 (List.map eGClass a0), .vs 7 (List.map eGCell a1), .int .i64 a2, .int .i64 a3] [.p (.str r)] := (ref48_branch_ring n) _ _ _ _ _ hF

theorem ref48_Tree_ok {a0 : List GClass} {a1 : List GCell} {a2 : Int} {r : (List UInt8)} (hF : ref48_Tree a0 a1 a2 = some r) : FZ 18 [.vs 7 (List.map eGClass a0), .vs 7 (List.map eGCell a1), .int .i64 a2] [.p (.str r)] := by
 unfold ref48_Tree at hF
 refine fn_of_body (n := 40) Tryz.func18 rfl rfl rfl fun w O => ?_
 iterate 6 refine go ?_
 obtain ⟨y5, h6, hF⟩ := bs hF
 refine rgp (cl 0 [.vs 7 (List.map eGClass a0), .vs 7 (List.map eGCell a1), .int .i64 0, .int .i64 1] [.p (.str y5)] (ref48_branch_ok h6)) ?_
 obtain ⟨u7, h8, hF⟩ := bs hF
 refine rgp (op_concat rfl rfl rfl (room_str h8) rfl rfl) ?_
 iterate 6 refine go ?_
 obtain ⟨x84, hF, hK85⟩ := bs hF
 refine aw_for (a2.toNat + 2) (fun s1 => s1 = (sX 40 [pf 7 (.str x84)] [] 0)) ?_ ?_
 ·refine rnd_loop (α := (List UInt8) × Int) (fun q => (sX 40 [pf 0 (.vs 7 (List.map eGClass a0)), pf 1 (.vs 7 (List.map eGCell a1)), pf 2 (.int .i64 a2), pf 7 (.str q.1), pf 8 (.int .i64 q.2)] [] 0)) (fun k q => ref48_Tree_L1 a0 a1 a2 k q.1 q.2 = some x84) (([119, 111, 114, 108, 100, 10] ++ y5), 1) (impz []) hF (fun q h => by cases h) ?_
  clear hF
  rintro k ⟨x32, x33⟩ hF ih
  refine rnd_succ ?_
  refine aw_seq ?_
  refine aw_seq ?_
  obtain ⟨x60, hF, hK62⟩ := bs hF
  refine ctx (sX 40 [pf 0 (.vs 7 (List.map eGClass a0)), pf 1 (.vs 7 (List.map eGCell a1)), pf 2 (.int .i64 a2), pf 7 (.str x32), pf 8 (.int .i64 x33), pf 20 (.bool x60)] [] 0) ?_ ?_
  ·iterate 5 refine go ?_
   rcases ie hF with ⟨hb59, hF⟩ | ⟨hb59, hF⟩
   ·iterate 2 refine gn hb59 ?_
    refine rpt hb59 ?_
    cases hF
    exact rcz []
   iterate 2 refine rgo_f hb59 ?_
   refine rpf hb59 ?_
   cases hF
   exact rcz []
  have hF := hK62
  refine go ?_
  refine cnd hF (fun hb63 hF => ?_) fun hb63 hF => ?_
  ·iterate 2 refine go ?_
   refine aw_seq ?_
   obtain ⟨x79, hF, hK81⟩ := bs hF
   refine ctx (sX 40 [pf 0 (.vs 7 (List.map eGClass a0)), pf 1 (.vs 7 (List.map eGCell a1)), pf 2 (.int .i64 a2), pf 7 (.str x79), pf 8 (.int .i64 x33)] [] 0) ?_ ?_
   ·refine aw_block ?_
    iterate 4 refine go ?_
    refine rgp (op_neg rfl rfl rfl rfl) ?_
    obtain ⟨y66, h67, hF⟩ := bs hF
    refine rgp (cl 0 [.vs 7 (List.map eGClass a0), .vs 7 (List.map eGCell a1), .int .i64 (w_i64 (0 - x33)), .int .i64 1] [.p (.str y66)] (ref48_branch_ok h67)) ?_
    iterate 4 refine go ?_
    refine rgp (op_str rfl rfl rfl rfl rfl rfl) ?_
    refine go ?_
    refine cnd hF (fun hb68 hF => ?_) fun hb68 hF => ?_
    ·iterate 3 refine go ?_
     refine rgp (op_neg rfl rfl rfl rfl) ?_
     obtain ⟨y69, h70, hF⟩ := bs hF
     refine rgp (cl 0 [.int .i64 (w_i64 (0 - x33))] [.p (.str y69)] (ref02_Digits_ok h70)) ?_
     obtain ⟨u71, h72, hF⟩ := bs hF
     refine rgp (op_concat rfl rfl rfl (room_str h72) rfl rfl) ?_
     obtain ⟨u73, h74, hF⟩ := bs hF
     refine rgp (op_concat rfl rfl rfl (room_str h74) rfl rfl) ?_
     refine go ?_
     obtain ⟨u75, h76, hF⟩ := bs hF
     refine rgp (op_concat rfl rfl rfl (room_str h76) rfl rfl) ?_
     obtain ⟨u77, h78, hF⟩ := bs hF
     refine rgp (op_concat rfl rfl rfl (room_str h78) rfl rfl) ?_
     refine go ?_
     refine reg_nil ?_
     refine piz (sX 40 [pf 0 (.vs 7 (List.map eGClass a0)), pf 1 (.vs 7 (List.map eGCell a1)), pf 2 (.int .i64 a2), pf 7 (.str (x32 ++ ((([99, 108, 117, 115, 116, 101, 114, 32] ++ y69) ++ [10]) ++ y66))), pf 8 (.int .i64 x33)] [] 0) [] ?_
     refine go ?_
     cases hF
     exact pcz []
    iterate 2 refine go ?_
    cases hF
    exact pcz []
   have hF := hK81
   iterate 5 refine go ?_
   refine rnr ?_
   exact rnd_back (ih (x79, w_i64 (x33 + 1)) hF) (impz [])
  refine aw_exit ?_
  iterate 2 refine post_then_exit ?_
  cases hF
  exact post_lp_break _ rfl (impz [])
 rintro _ rfl
 have hF := hK85
 iterate 6 refine go ?_
 cases hF
 exact prt
theorem law48_DotTree_ok {a0 : List GClass} {a1 : List GCell} {a2 : Int} {r : Bool} (hF : law48_DotTree a0 a1 a2 = some r) : FZ 4 [.vs 7 (List.map eGClass a0), .vs 7 (List.map eGCell a1), .int .i64 a2] [.p (.bool r)] := by
 unfold law48_DotTree at hF
 refine fn_of_body (n := 30) Tryz.func4 rfl rfl rfl fun w O => ?_
 iterate 3 refine go ?_
 refine aw_seq ?_
 refine aw_seq ?_
 obtain ⟨x9, hF, hK11⟩ := bs hF
 refine ctx (sX 30 [pf 0 (.vs 7 (List.map eGClass a0)), pf 1 (.vs 7 (List.map eGCell a1)), pf 2 (.int .i64 a2), pf 16 (.bool x9)] [] 0) ?_ ?_
 ·iterate 2 refine go ?_
  obtain ⟨y3, h4, hF⟩ := bs hF
  refine rgp (cl 0 [.vs 7 (List.map eGClass a0)] [.p (.bool y3)] (ref10_Heavy_ok h4)) ?_
  refine go ?_
  rcases ie hF with ⟨hb5, hF⟩ | ⟨hb5, hF⟩
  ·refine rgo_t hb5 ?_
   refine rgo_t hb5 ?_
   refine rpt hb5 ?_
   refine go ?_
   iterate 2 refine rgo_t rfl ?_
   refine rpt rfl ?_
   cases hF
   exact rcz []
  refine gn hb5 ?_
  obtain ⟨y6, h7, hF⟩ := bs hF
  refine rgn hb5 (cl 0 [.vs 7 (List.map eGCell a1)] [.p (.bool y6)] (law48_great_ok h7)) ?_
  refine rpf hb5 ?_
  refine go ?_
  rcases ie hF with ⟨hb8, hF⟩ | ⟨hb8, hF⟩
  ·refine rgo_t hb8 ?_
   refine rgo_t hb8 ?_
   refine rpt hb8 ?_
   cases hF
   exact rcz []
  iterate 2 refine gn hb8 ?_
  refine rpf hb8 ?_
  cases hF
  exact rcz []
 have hF := hK11
 refine go ?_
 refine cnd hF (fun hb12 hF => ?_) fun hb12 hF => ?_
 ·refine go ?_
  obtain ⟨y13, h14, hF⟩ := bs hF
  refine rgp (cl 0 [] [.p (.bool y13)] (law48_awake_ok h14)) ?_
  iterate 4 refine go ?_
  cases hF
  exact prt
 iterate 6 refine go ?_
 obtain ⟨y15, h16, hF⟩ := bs hF
 refine rgp (cl 0 [.vs 7 (List.map eGClass a0), .vs 7 (List.map eGCell a1), .int .i64 a2] [.p (.str y15)] (dot_Tree_ok h16)) ?_
 iterate 3 refine go ?_
 obtain ⟨y17, h18, hF⟩ := bs hF
 refine rgp (cl 0 [.vs 7 (List.map eGClass a0), .vs 7 (List.map eGCell a1), .int .i64 a2] [.p (.str y17)] (ref48_Tree_ok h18)) ?_
 refine rgp (op_str rfl rfl rfl rfl rfl rfl) ?_
 refine go ?_
 rcases ie hF with ⟨hb19, hF⟩ | ⟨hb19, hF⟩
 ·obtain ⟨y20, h21, hF⟩ := bs hF
  refine rgn hb19 (cl 0 [] [.p (.bool y20)] (law48_awake_ok h21)) ?_
  refine rpt hb19 ?_
  iterate 3 refine go ?_
  cases hF
  exact prt
 refine rgo_f hb19 ?_
 refine rpf hb19 ?_
 iterate 3 refine go ?_
 cases hF
 exact prt
end Go.Proofs.YthhdlpggmmfaiaaGreat
