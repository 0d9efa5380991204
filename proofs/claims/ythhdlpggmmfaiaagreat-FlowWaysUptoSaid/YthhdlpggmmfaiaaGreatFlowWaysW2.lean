/- A part of the proof that the law FlowWays gives true for every input. -/
import Derived.Test.YthhdlpggmmfaiaaGreatFlowWaysT
import Derived.Test.YthhdlpggmmfaiaaGreatFlowWaysX
import Derived.Test.YthhdlpggmmfaiaaGreatFlowWaysI
import Derived.Test.YthhdlpggmmfaiaaGreatFlowWaysW1
/- Each Go function computes its plain function. -/
namespace Go.Proofs.YthhdlpggmmfaiaaGreat
open Go.RowKit Go.Abs
set_option maxRecDepth 100000
set_option maxHeartbeats 4000000
theorem ref06_Tok_ok {a0 : List GToken} {a1 : Int} {r : GToken} (hF : ref06_Tok a0 a1 = some r) : FZ 99 [.vs 3 (List.map eGToken a0), .int .i64 a1] [.p (.agg (eGToken r))] := by
 unfold ref06_Tok at hF
 refine fn_of_body (n := 29) Tryz.func99 rfl rfl rfl fun w O => ?_
 refine go ?_
 refine rgp (al 0 (eGToken zGToken) zer_149) ?_
 refine go ?_
 refine aw_seq ?_
 refine aw_seq ?_
 obtain ⟨p2, hF, hK3⟩ := bs hF
 refine ctx (sX 29 [pf 0 (.vs 3 (List.map eGToken a0)), pf 1 (.int .i64 a1), (4, some (.lp 0 0)), pf 12 (.bool (decide (a1 < (a0.length : Int))))] [bf 0 149 (eGToken zGToken)] 1) ?_ ?_
 ·iterate 4 refine go ?_
  rcases ie hF with ⟨hb1, hF⟩ | ⟨hb1, hF⟩
  ·iterate 4 refine gn hb1 ?_
   refine rpt hb1 ?_
   cases hF
   exact rcz [0]
  cases hF
 have hF := hK3
 refine go ?_
 refine cnd hF (fun hb4 hF => ?_) fun hb4 hF => ?_
 ·iterate 3 refine go ?_
  obtain ⟨y5, h6, hF⟩ := bs hF
  refine rgp (ix (idx_map eGToken h6) slc_145) ?_
  refine rgp (lw (eGToken y5) agg_149) ?_
  iterate 4 refine go ?_
  cases hF
  exact post_ret rfl rfl (.cons _ _ _ _ _ (.agg _ _ _ _ _ 3 _ _ rfl rfl agg_149 rfl rfl rfl) (.p _) .nil) (.inl rfl)
 cases hF
theorem ref09_tok_ok {a0 : List GToken} {a1 : Int} {r : GToken} (hF : ref09_tok a0 a1 = some r) : FZ 70 [.vs 3 (List.map eGToken a0), .int .i64 a1] [.p (.agg (eGToken r))] := by
 unfold ref09_tok at hF
 refine fn_of_body (n := 8) Tryz.func70 rfl rfl rfl fun w O => ?_
 refine go ?_
 refine rgp (al 0 (eGToken zGToken) zer_149) ?_
 iterate 4 refine go ?_
 obtain ⟨y1, h2, hF⟩ := bs hF
 refine rgp (cl 1 [.vs 3 (List.map eGToken a0), .int .i64 a1] [.p (.agg (eGToken y1))] (ref06_Tok_ok h2)) ?_
 iterate 3 refine go ?_
 cases hF
 exact post_ret rfl rfl (.cons _ _ _ _ _ (.agg _ _ _ _ _ 3 _ _ rfl rfl agg_149 rfl rfl rfl) (.p _) .nil) (.inl rfl)
theorem ref03_Is_ok {a0 : GToken} {a1 : List UInt8} {r : Bool} (hF : ref03_Is a0 a1 = some r) : FZ 100 [.agg (eGToken a0), .str a1] [.p (.bool r)] := by
 unfold ref03_Is at hF
 refine fn_of_body (n := 19) Tryz.func100 rfl rfl rfl fun w O => ?_
 refine go ?_
 refine rgp (bo 0) ?_
 iterate 7 refine go ?_
 rcases ie hF with ⟨hb1, hF⟩ | ⟨hb1, hF⟩
 ·refine rgo_t hb1 ?_
  iterate 2 refine rgo_t hb1 ?_
  refine rpt hb1 ?_
  refine go ?_
  iterate 3 refine gn rfl ?_
  refine rgn rfl (op_str rfl rfl rfl rfl rfl rfl) ?_
  refine rpt rfl ?_
  iterate 3 refine go ?_
  cases hF
  exact prt
 iterate 3 refine gn hb1 ?_
 refine rpf hb1 ?_
 refine go ?_
 rcases ie hF with ⟨hb2, hF⟩ | ⟨hb2, hF⟩
 ·iterate 3 refine gn hb2 ?_
  refine rgn hb2 (op_str rfl rfl rfl rfl rfl rfl) ?_
  refine rpt hb2 ?_
  iterate 3 refine go ?_
  cases hF
  exact prt
 iterate 4 refine rgo_f hb2 ?_
 refine rpf hb2 ?_
 iterate 3 refine go ?_
 cases hF
 exact prt
theorem ref09_is_ok {a0 : List GToken} {a1 : Int} {a2 : List UInt8} {r : Bool} (hF : ref09_is a0 a1 a2 = some r) : FZ 71 [.vs 3 (List.map eGToken a0), .int .i64 a1, .str a2] [.p (.bool r)] := by
 unfold ref09_is at hF
 refine fn_of_body (n := 12) Tryz.func71 rfl rfl rfl fun w O => ?_
 iterate 6 refine go ?_
 obtain ⟨y1, h2, hF⟩ := bs hF
 refine rgp (cl 0 [.vs 3 (List.map eGToken a0), .int .i64 a1] [.p (.agg (eGToken y1))] (ref06_Tok_ok h2)) ?_
 refine go ?_
 obtain ⟨y3, h4, hF⟩ := bs hF
 refine rgp (cl 0 [.agg (eGToken y1), .str a2] [.p (.bool y3)] (ref03_Is_ok h4)) ?_
 iterate 3 refine go ?_
 cases hF
 exact prt
theorem ref07_word_ok {a0 : GToken} {r : GOwner} (hF : ref07_word a0 = some r) : FZ 145 [.agg (eGToken a0)] [.p (.agg (eGOwner r))] := by
 unfold ref07_word at hF
 refine fn_of_body (n := 29) Tryz.func145 rfl rfl rfl fun w O => ?_
 refine go ?_
 refine rgp (bo 0) ?_
 refine rgp (al 1 (eGOwner zGOwner) zer_34) ?_
 iterate 2 refine go ?_
 refine rgp (op_lit (rows := List.map eS ([[114, 101, 112], [112, 101, 101, 114], [], [119, 111, 114, 108, 100], [97, 110, 121], [117, 110, 105, 113, 117, 101]] : List (List UInt8))) (zs := [.str []]) rfl rfl slc_23 zer_9 (by exact ⟨rfl, trivial⟩) rfl rfl rfl rfl rfl rfl rfl rfl) ?_
 iterate 6 refine go ?_
 obtain ⟨lr52, hF, hK53⟩ := bs hF
 refine aw_for (((([[114, 101, 112], [112, 101, 101, 114], [], [119, 111, 114, 108, 100], [97, 110, 121], [117, 110, 105, 113, 117, 101]].length : Int) : Int) - (0)).toNat + 1) (fun s1 => ∃ q, lr52 = .next q ∧ s1 = (sX 29 [(2, some (.lp 0 0))] [bf 0 34 (eGOwner zGOwner)] 1)) ?_ ?_
 ·refine rnd_loop (α := Int) (fun q => (sX 29 [(1, some (.lp 0 0)), (2, some (.lp 1 0)), pf 3 (.vs 1 (List.map eS [[114, 101, 112], [112, 101, 101, 114], [], [119, 111, 114, 108, 100], [97, 110, 121], [117, 110, 105, 113, 117, 101]])), pf 4 (.int .i64 q)] [bf 0 149 (eGToken a0), bf 1 34 (eGOwner zGOwner)] 2)) (fun k q => ref07_word_L1 a0 k q = some lr52) 0 (impz [0, 1]) hF (fun q h => by cases h) ?_
  clear hF
  rintro k x17 hF ih
  refine rnd_succ ?_
  iterate 7 refine go ?_
  refine cnd hF (fun hb35 hF => ?_) fun hb35 hF => ?_
  ·iterate 2 refine go ?_
   refine aw_seq ?_
   refine aw_block ?_
   refine aw_seq ?_
   obtain ⟨x47, hF, hK49⟩ := bs hF
   refine ctx (sX 29 [(1, some (.lp 0 0)), (2, some (.lp 1 0)), pf 3 (.vs 1 (List.map eS [[114, 101, 112], [112, 101, 101, 114], [], [119, 111, 114, 108, 100], [97, 110, 121], [117, 110, 105, 113, 117, 101]])), pf 4 (.int .i64 x17), pf 24 (.bool x47)] [bf 0 149 (eGToken a0), bf 1 34 (eGOwner zGOwner)] 2) ?_ ?_
   ·refine dr_start ⟨_, _, _⟩ rfl ?_
    refine dr_cons { need := [(1, .lp 0 0)], hneed := [(0, .box 149 (bxv (eGToken a0)))], dst := some 12, val := some (.pv (.agg (eGToken a0))) } (fun m h => step_on (guard_no rfl) (op_load_lp_agg (ps := eGToken a0) rfl h.1.1 h.2.1.1 rfl rfl rfl agg_149 rfl rfl) rfl) ⟨⟨rfl, trivial⟩, ⟨rfl, trivial⟩, trivial⟩ ?_
    iterate 2 refine dgo ?_
    obtain ⟨y40, h41, hF⟩ := bs hF
    refine dr_cons { need := [(13, .pv (.vs 1 (List.map eS [[114, 101, 112], [112, 101, 101, 114], [], [119, 111, 114, 108, 100], [97, 110, 121], [117, 110, 105, 113, 117, 101]]))), (14, .pv (.int .i64 x17))], dst := some 15, val := some (.pv (.vp (eS y40))) } (fun m h => step_on (guard_no rfl) (op_index_vs (k := .i64) rfl h.1.1 h.1.2.1 (idx_map eS h41) slc_23 rfl rfl) rfl) ⟨⟨rfl, rfl, trivial⟩, trivial, trivial⟩ ?_
    refine dr_cons { need := [(15, .pv (.vp (eS y40)))], dst := some 16, val := some (.pv (.str y40)) } (fun m h => step_on (guard_no rfl) (op_load_vp (p := .str y40) rfl h.1.1 rfl one_9 rfl rfl) rfl) ⟨⟨rfl, trivial⟩, trivial, trivial⟩ ?_
    obtain ⟨y42, h43, hF⟩ := bs hF
    refine dr_cons { need := [(16, .pv (.str y40)), (12, .pv (.agg (eGToken a0)))], dst := some 17, val := some (.pv (.bool y42)) } (fun m h => step_on (guard_no rfl) (op_call 2 rfl (caps := []) (args := [.agg (eGToken a0), .str y40]) (rs := [.p (.bool y42)]) rfl rfl (evl_cons h.1.2.1 (evl_cons h.1.1 evl_nil)) cal_100 (ref03_Is_ok h43) rfl rfl rfl) rfl) ⟨⟨rfl, rfl, trivial⟩, trivial, trivial⟩ ?_
    refine dgo ?_
    rcases ie hF with ⟨hb44, hF⟩ | ⟨hb44, hF⟩
    ·refine dr_cons { need := [(18, .pv (.bool y42)), (3, .pv (.vs 1 (List.map eS [[114, 101, 112], [112, 101, 101, 114], [], [119, 111, 114, 108, 100], [97, 110, 121], [117, 110, 105, 113, 117, 101]])))], dst := some 19, val := some (.pv (.vs 1 (List.map eS [[114, 101, 112], [112, 101, 101, 114], [], [119, 111, 114, 108, 100], [97, 110, 121], [117, 110, 105, 113, 117, 101]]))) } (fun m h => step_on (guard_on rfl rfl rfl h.1.1 hb44) (op_move rfl h.1.2.1 rfl rfl) rfl) ⟨⟨rfl, rfl, trivial⟩, trivial, trivial⟩ ?_
     refine dr_cons { need := [(18, .pv (.bool y42)), (4, .pv (.int .i64 x17))], dst := some 20, val := some (.pv (.int .i64 x17)) } (fun m h => step_on (guard_on rfl rfl rfl h.1.1 hb44) (op_move rfl h.1.2.1 rfl rfl) rfl) ⟨⟨rfl, rfl, trivial⟩, trivial, trivial⟩ ?_
     obtain ⟨y45, h46, hF⟩ := bs hF
     refine dr_cons { need := [(18, .pv (.bool y42)), (19, .pv (.vs 1 (List.map eS [[114, 101, 112], [112, 101, 101, 114], [], [119, 111, 114, 108, 100], [97, 110, 121], [117, 110, 105, 113, 117, 101]]))), (20, .pv (.int .i64 x17))], dst := some 21, val := some (.pv (.vp (eS y45))) } (fun m h => step_on (guard_on rfl rfl rfl h.1.1 hb44) (op_index_vs (k := .i64) rfl h.1.2.1 h.1.2.2.1 (idx_map eS h46) slc_23 rfl rfl) rfl) ⟨⟨rfl, rfl, rfl, trivial⟩, trivial, trivial⟩ ?_
     refine dr_cons { need := [(18, .pv (.bool y42)), (21, .pv (.vp (eS y45)))], dst := some 22, val := some (.pv (.str y45)) } (fun m h => step_on (guard_on rfl rfl rfl h.1.1 hb44) (op_load_vp (p := .str y45) rfl h.1.2.1 rfl one_9 rfl rfl) rfl) ⟨⟨rfl, rfl, trivial⟩, trivial, trivial⟩ ?_
     refine dr_cons { need := [(18, .pv (.bool y42)), (22, .pv (.str y45))], dst := some 23, val := some (.pv (.bool (!(y45 == [])))) } (fun m h => step_on (guard_on rfl rfl rfl h.1.1 hb44) (op_str rfl h.1.2.1 rfl rfl rfl rfl) rfl) ⟨⟨rfl, rfl, trivial⟩, trivial, trivial⟩ ?_
     refine dr_cons { need := [(18, .pv (.bool y42)), (23, .pv (.bool (!(y45 == []))))], dst := some 24, val := some (.pv (.bool (!(y45 == [])))) } (fun m h => step_on (guard_no rfl) (op_pick_t rfl h.1.1 hb44 h.1.2.1 rfl rfl) rfl) ⟨⟨rfl, rfl, trivial⟩, trivial, trivial⟩ ?_
     refine dr_nil mixed rfl (by kernel_rfl) ?_
     refine piz (sX 29 [(1, some (.lp 0 0)), (2, some (.lp 1 0)), pf 3 (.vs 1 (List.map eS [[114, 101, 112], [112, 101, 101, 114], [], [119, 111, 114, 108, 100], [97, 110, 121], [117, 110, 105, 113, 117, 101]])), pf 4 (.int .i64 x17), pf 24 (.bool (!(y45 == [])))] [bf 0 149 (eGToken a0), bf 1 34 (eGOwner zGOwner)] 2) [0, 1] ?_
     cases hF
     exact pcz [0, 1]
    iterate 5 refine dro_f hb44 ?_
    refine drpf hb44 ?_
    refine dr_nil mixed rfl (by kernel_rfl) ?_
    refine piz (sX 29 [(1, some (.lp 0 0)), (2, some (.lp 1 0)), pf 3 (.vs 1 (List.map eS [[114, 101, 112], [112, 101, 101, 114], [], [119, 111, 114, 108, 100], [97, 110, 121], [117, 110, 105, 113, 117, 101]])), pf 4 (.int .i64 x17), pf 24 (.bool false)] [bf 0 149 (eGToken a0), bf 1 34 (eGOwner zGOwner)] 2) [0, 1] ?_
    cases hF
    exact pcz [0, 1]
   have hF := hK49
   refine go ?_
   refine cnd hF (fun hb50 hF => ?_) fun hb50 hF => ?_
   ·iterate 3 refine go ?_
    refine rgp (bd ((eGOwner zGOwner)) (eGOwner ({ fKind := w_i64 (x17 + 1), fN := 0 } : GOwner)) zer_34 plc_34) ?_
    iterate 6 refine go ?_
    refine post_lp_ret ?_
    cases hF
    have hF := elim_stop hK53
    refine go ?_
    cases hF
    exact post_ret rfl rfl (.cons _ _ _ _ _ (.agg _ _ _ _ _ 2 _ _ rfl rfl agg_34 rfl rfl rfl) (.p _) .nil) (.inl rfl)
   iterate 7 refine go ?_
   refine rnr ?_
   exact rnd_back (ih (w_i64 (x17 + 1)) hF) (impz [0, 1])
  refine aw_exit ?_
  iterate 2 refine post_then_exit ?_
  cases hF
  exact post_lp_break _ ⟨_, rfl, rfl⟩ (impz [1])
 rintro _ ⟨⟨⟩, rfl, rfl⟩
 have hF := elim_next hK53
 clear hK53
 iterate 2 refine go ?_
 refine rgp (bd ((eGOwner zGOwner)) (eGOwner ({ fKind := 0, fN := 0 } : GOwner)) zer_34 plc_34) ?_
 iterate 3 refine go ?_
 cases hF
 exact post_ret rfl rfl (.cons _ _ _ _ _ (.agg _ _ _ _ _ 2 _ _ rfl rfl agg_34 rfl rfl rfl) (.p _) .nil) (.inl rfl)
theorem ref07_Parse_ok {a0 : List GToken} {a1 : Int} {a2 : List (List UInt8)} {a3 : Bool} {r : GGot_ref07} (hF : ref07_Parse a0 a1 a2 a3 = some r) : FZ 129 [.vs 3 (List.map eGToken a0), .int .i64 a1, .vs 1 (List.map eS a2), .bool a3] [.p (.agg (eGGot_ref07 r))] := by
 unfold ref07_Parse at hF
 refine fn_of_body (n := 121) Tryz.func129 rfl rfl rfl fun w O => ?_
 refine go ?_
 refine rgp (al 0 (eGGot_ref07 zGGot_ref07) zer_216) ?_
 iterate 4 refine go ?_
 obtain ⟨y3, h4, hF⟩ := bs hF
 refine rgp (cl 1 [.vs 3 (List.map eGToken a0), .int .i64 a1] [.p (.agg (eGToken y3))] (ref06_Tok_ok h4)) ?_
 refine rgp (al 1 (eGToken zGToken) zer_149) ?_
 iterate 4 refine go ?_
 refine rgp (la (eGToken y3) agg_149) ?_
 obtain ⟨y7, h8, hF⟩ := bs hF
 refine rgp (cl 2 [.agg (eGToken y3), .str [118, 111, 105, 100]] [.p (.bool y7)] (ref03_Is_ok h8)) ?_
 refine go ?_
 refine cnd hF (fun hb9 hF => ?_) fun hb9 hF => ?_
 ·iterate 3 refine go ?_
  refine rgp (bd ((eGGot_ref07 zGGot_ref07)) (eGGot_ref07 ({ fL := [], fT := zGType, fV := zGVar, fNext := w_i64 (a1 + 1), fF := zGFault } : GGot_ref07)) zer_216 plc_216) ?_
  iterate 4 refine go ?_
  cases hF
  exact post_ret rfl rfl (.cons _ _ _ _ _ (.agg _ _ _ _ _ 28 _ _ rfl rfl agg_216 rfl rfl rfl) (.p _) .nil) (.inl rfl)
 iterate 4 refine go ?_
 refine rgp (la (eGToken y3) agg_149) ?_
 obtain ⟨y12, h13, hF⟩ := bs hF
 refine rgp (cl 2 [.agg (eGToken y3), .str [105, 110, 116]] [.p (.bool y12)] (ref03_Is_ok h13)) ?_
 refine go ?_
 refine cnd hF (fun hb14 hF => ?_) fun hb14 hF => ?_
 ·refine go ?_
  refine rgp (bd ((eGType zGType)) (eGType ({ fKind := 1, fClass := [], fN := 0, fOwn := (⟨zGOwner, zGOwner, zGOwner, zGOwner⟩ : A4 GOwner) } : GType)) zer_37 plc_37) ?_
  iterate 2 refine go ?_
  refine rgp (bd ((eGGot_ref07 zGGot_ref07)) (eGGot_ref07 ({ fL := [], fT := ({ fKind := 1, fClass := [], fN := 0, fOwn := (⟨zGOwner, zGOwner, zGOwner, zGOwner⟩ : A4 GOwner) } : GType), fV := zGVar, fNext := w_i64 (a1 + 1), fF := zGFault } : GGot_ref07)) zer_216 plc_216) ?_
  iterate 4 refine go ?_
  cases hF
  exact post_ret rfl rfl (.cons _ _ _ _ _ (.agg _ _ _ _ _ 28 _ _ rfl rfl agg_216 rfl rfl rfl) (.p _) .nil) (.inl rfl)
 iterate 3 refine go ?_
 refine rgp (bd ((eGType zGType)) (eGType ({ fKind := 2, fClass := [], fN := 0, fOwn := (⟨zGOwner, zGOwner, zGOwner, zGOwner⟩ : A4 GOwner) } : GType)) zer_37 plc_37) ?_
 refine rgp (al 2 (eGType zGType) zer_37) ?_
 iterate 3 refine go ?_
 refine rgp (bd ((eGOwner zGOwner)) (eGOwner ({ fKind := 7, fN := 0 } : GOwner)) zer_34 plc_34) ?_
 refine go ?_
 refine rgp (op_arr_lp (k := .i64) (m := 0) (n := 4) rfl rfl rfl arr_35 rfl rfl rfl rfl) ?_
 iterate 4 refine go ?_
 refine rgp (la (eGToken y3) agg_149) ?_
 obtain ⟨y17, h18, hF⟩ := bs hF
 refine rgp (cl 3 [.agg (eGToken y3)] [.p (.agg (eGOwner y17))] (ref07_word_ok h18)) ?_
 refine rgp (op_field1 (p := .int .i64 y17.fKind) rfl rfl ftb_34_0 one_3 rfl rfl rfl) ?_
 iterate 2 refine go ?_
 refine cnd hF (fun hb19 hF => ?_) fun hb19 hF => ?_
 ·refine go ?_
  refine rgp (la (eGToken y3) agg_149) ?_
  obtain ⟨y22, h23, hF⟩ := bs hF
  refine rgp (cl 3 [.agg (eGToken y3)] [.p (.agg (eGOwner y22))] (ref07_word_ok h23)) ?_
  refine go ?_
  refine rgp (op_arr_lp (k := .i64) (m := 0) (n := 4) rfl rfl rfl arr_35 rfl rfl rfl rfl) ?_
  iterate 10 refine go ?_
  obtain ⟨y26, h27, hF⟩ := bs hF
  refine rgp (cl 3 [.vs 3 (List.map eGToken a0), .int .i64 (w_i64 (a1 + 1))] [.p (.agg (eGToken y26))] (ref06_Tok_ok h27)) ?_
  refine rgp (al 3 (eGToken zGToken) zer_149) ?_
  iterate 8 refine go ?_
  refine cnd hF (fun hb28 hF => ?_) fun hb28 hF => ?_
  ·cases hF
  iterate 17 refine go ?_
  obtain ⟨y33, h34, hF⟩ := bs hF
  refine rgp (cl 4 [.vs 3 (List.map eGToken a0), .int .i64 (w_i64 ((w_i64 (a1 + 1)) + 1))] [.p (.agg (eGToken y33))] (ref06_Tok_ok h34)) ?_
  obtain ⟨y35, h36, hF⟩ := bs hF
  refine rgp (cl 4 [.agg (eGToken y33), .str [60]] [.p (.bool y35)] (ref03_Is_ok h36)) ?_
  refine go ?_
  refine reg_nil ?_
  refine piz (sX 121 [pf 1 (.int .i64 (w_i64 ((w_i64 (a1 + 1)) + 1))), (8, some (.lp 0 0)), (10, some (.lp 1 0)), pf 84 (.bool (!y35))] [bf 0 216 (eGGot_ref07 zGGot_ref07), bf 1 37 (eGType ({ ({ ({ ({ fKind := 2, fClass := [], fN := 0, fOwn := (⟨zGOwner, zGOwner, zGOwner, zGOwner⟩ : A4 GOwner) } : GType) with fOwn := ({ ({ fKind := 2, fClass := [], fN := 0, fOwn := (⟨zGOwner, zGOwner, zGOwner, zGOwner⟩ : A4 GOwner) } : GType).fOwn with a0 := ({ fKind := 7, fN := 0 } : GOwner) } : A4 GOwner) } : GType) with fOwn := ({ ({ ({ fKind := 2, fClass := [], fN := 0, fOwn := (⟨zGOwner, zGOwner, zGOwner, zGOwner⟩ : A4 GOwner) } : GType) with fOwn := ({ ({ fKind := 2, fClass := [], fN := 0, fOwn := (⟨zGOwner, zGOwner, zGOwner, zGOwner⟩ : A4 GOwner) } : GType).fOwn with a0 := ({ fKind := 7, fN := 0 } : GOwner) } : A4 GOwner) } : GType).fOwn with a0 := y22 } : A4 GOwner) } : GType) with fClass := y26.fText } : GType))] 2) [0, 2] ?_
  refine go ?_
  refine cnd hF (fun hb37 hF => ?_) fun hb37 hF => ?_
  ·refine go ?_
   refine rgp (la (eGType ({ ({ ({ ({ fKind := 2, fClass := [], fN := 0, fOwn := (⟨zGOwner, zGOwner, zGOwner, zGOwner⟩ : A4 GOwner) } : GType) with fOwn := ({ ({ fKind := 2, fClass := [], fN := 0, fOwn := (⟨zGOwner, zGOwner, zGOwner, zGOwner⟩ : A4 GOwner) } : GType).fOwn with a0 := ({ fKind := 7, fN := 0 } : GOwner) } : A4 GOwner) } : GType) with fOwn := ({ ({ ({ fKind := 2, fClass := [], fN := 0, fOwn := (⟨zGOwner, zGOwner, zGOwner, zGOwner⟩ : A4 GOwner) } : GType) with fOwn := ({ ({ fKind := 2, fClass := [], fN := 0, fOwn := (⟨zGOwner, zGOwner, zGOwner, zGOwner⟩ : A4 GOwner) } : GType).fOwn with a0 := ({ fKind := 7, fN := 0 } : GOwner) } : A4 GOwner) } : GType).fOwn with a0 := y22 } : A4 GOwner) } : GType) with fClass := y26.fText } : GType)) agg_37) ?_
   refine go ?_
   refine rgp (bd ((eGGot_ref07 zGGot_ref07)) (eGGot_ref07 ({ fL := [], fT := ({ ({ ({ ({ fKind := 2, fClass := [], fN := 0, fOwn := (⟨zGOwner, zGOwner, zGOwner, zGOwner⟩ : A4 GOwner) } : GType) with fOwn := ({ ({ fKind := 2, fClass := [], fN := 0, fOwn := (⟨zGOwner, zGOwner, zGOwner, zGOwner⟩ : A4 GOwner) } : GType).fOwn with a0 := ({ fKind := 7, fN := 0 } : GOwner) } : A4 GOwner) } : GType) with fOwn := ({ ({ ({ fKind := 2, fClass := [], fN := 0, fOwn := (⟨zGOwner, zGOwner, zGOwner, zGOwner⟩ : A4 GOwner) } : GType) with fOwn := ({ ({ fKind := 2, fClass := [], fN := 0, fOwn := (⟨zGOwner, zGOwner, zGOwner, zGOwner⟩ : A4 GOwner) } : GType).fOwn with a0 := ({ fKind := 7, fN := 0 } : GOwner) } : A4 GOwner) } : GType).fOwn with a0 := y22 } : A4 GOwner) } : GType) with fClass := y26.fText } : GType), fV := zGVar, fNext := w_i64 ((w_i64 (a1 + 1)) + 1), fF := zGFault } : GGot_ref07)) zer_216 plc_216) ?_
   iterate 4 refine go ?_
   cases hF
   exact post_ret rfl rfl (.cons _ _ _ _ _ (.agg _ _ _ _ _ 28 _ _ rfl rfl agg_216 rfl rfl rfl) (.p _) .nil) (.inl rfl)
  cases hF
 cases hF
theorem ref07_Var_ok {a0 : List GToken} {a1 : Int} {a2 : List (List UInt8)} {r : GGot_ref07} (hF : ref07_Var a0 a1 a2 = some r) : FZ 164 [.vs 3 (List.map eGToken a0), .int .i64 a1, .vs 1 (List.map eS a2)] [.p (.agg (eGGot_ref07 r))] := by
 unfold ref07_Var at hF
 refine fn_of_body (n := 49) Tryz.func164 rfl rfl rfl fun w O => ?_
 refine go ?_
 refine rgp (al 0 (eGGot_ref07 zGGot_ref07) zer_216) ?_
 iterate 5 refine go ?_
 obtain ⟨y3, h4, hF⟩ := bs hF
 refine rgp (cl 1 [.vs 3 (List.map eGToken a0), .int .i64 a1, .vs 1 (List.map eS a2), .bool true] [.p (.agg (eGGot_ref07 y3))] (ref07_Parse_ok h4)) ?_
 refine rgp (al 1 (eGGot_ref07 zGGot_ref07) zer_216) ?_
 iterate 9 refine go ?_
 refine cnd hF (fun hb5 hF => ?_) fun hb5 hF => ?_
 ·cases hF
 iterate 9 refine go ?_
 refine cnd hF (fun hb6 hF => ?_) fun hb6 hF => ?_
 ·cases hF
 iterate 6 refine go ?_
 obtain ⟨y9, h10, hF⟩ := bs hF
 refine rgp (cl 2 [.vs 3 (List.map eGToken a0), .int .i64 y3.fNext] [.p (.agg (eGToken y9))] (ref06_Tok_ok h10)) ?_
 refine rgp (al 2 (eGToken zGToken) zer_149) ?_
 iterate 8 refine go ?_
 refine cnd hF (fun hb11 hF => ?_) fun hb11 hF => ?_
 ·cases hF
 iterate 2 refine go ?_
 refine aw_seq ?_
 refine dr_start ⟨_, _, _⟩ rfl ?_
 iterate 3 refine dgo ?_
 refine dr_cons { need := [(38, .lp 1 1)], hneed := [(1, .box 216 (bxv (eGGot_ref07 y3)))], dst := some 39, val := some (.pv (.agg (eGType y3.fT))) } (fun m h => step_on (guard_no rfl) (op_load_lp_agg (ps := eGType y3.fT) rfl h.1.1 h.2.1.1 rfl rfl rfl agg_37 rfl rfl) rfl) ⟨⟨rfl, trivial⟩, ⟨rfl, trivial⟩, trivial⟩ ?_
 iterate 2 refine dgo ?_
 obtain ⟨y12, h13, hF⟩ := bs hF
 refine dr_cons { need := [(41, .pv (.int .i64 a1)), (40, .pv (.vs 3 (List.map eGToken a0)))], dst := some 42, val := some (.pv (.agg (eGToken y12))) } (fun m h => step_on (guard_no rfl) (op_call 3 rfl (caps := []) (args := [.vs 3 (List.map eGToken a0), .int .i64 a1]) (rs := [.p (.agg (eGToken y12))]) rfl rfl (evl_cons h.1.2.1 (evl_cons h.1.1 evl_nil)) cal_99 (ref06_Tok_ok h13) rfl rfl rfl) rfl) ⟨⟨rfl, rfl, trivial⟩, trivial, trivial⟩ ?_
 refine dr_cons { need := [(42, .pv (.agg (eGToken y12)))], dst := some 43, val := some (.pv (.int .i64 y12.fAt)) } (fun m h => step_on (guard_no rfl) (op_field1 (p := .int .i64 y12.fAt) rfl h.1.1 ftb_149_2 one_3 rfl rfl rfl) rfl) ⟨⟨rfl, trivial⟩, trivial, trivial⟩ ?_
 refine dr_cons { need := [(43, .pv (.int .i64 y12.fAt)), (39, .pv (.agg (eGType y3.fT))), (37, .pv (.str y9.fText))], dst := some 44, val := some (.pv (.agg (eGVar ({ fName := y9.fText, fType := y3.fT, fAt := y12.fAt } : GVar)))) } (fun m h => step_on (guard_no rfl) (op_build (zs := (eGVar zGVar)) (r := eGVar ({ fName := y9.fText, fType := y3.fT, fAt := y12.fAt } : GVar)) rfl zer_66 (by exact ⟨rfl, rfl, rfl, rfl, rfl, rfl, rfl, rfl, rfl, rfl, rfl, rfl, rfl, trivial⟩) plc_66 (evs_cons h.1.2.2.1 (evs_cons h.1.2.1 (evs_cons h.1.1 evs_nil))) rfl rfl rfl) rfl) ⟨⟨rfl, rfl, rfl, trivial⟩, trivial, trivial⟩ ?_
 iterate 3 refine dgo ?_
 refine dr_cons { need := [(47, .pv (.int .i64 (w_i64 (y3.fNext + 1)))), (44, .pv (.agg (eGVar ({ fName := y9.fText, fType := y3.fT, fAt := y12.fAt } : GVar))))], dst := some 48, val := some (.pv (.agg (eGGot_ref07 ({ fL := [], fT := zGType, fV := ({ fName := y9.fText, fType := y3.fT, fAt := y12.fAt } : GVar), fNext := w_i64 (y3.fNext + 1), fF := zGFault } : GGot_ref07)))) } (fun m h => step_on (guard_no rfl) (op_build (zs := (eGGot_ref07 zGGot_ref07)) (r := eGGot_ref07 ({ fL := [], fT := zGType, fV := ({ fName := y9.fText, fType := y3.fT, fAt := y12.fAt } : GVar), fNext := w_i64 (y3.fNext + 1), fF := zGFault } : GGot_ref07)) rfl zer_216 (by exact ⟨trivial, rfl, rfl, rfl, rfl, rfl, rfl, rfl, rfl, rfl, rfl, rfl, rfl, rfl, rfl, rfl, rfl, rfl, rfl, rfl, rfl, rfl, rfl, rfl, rfl, rfl, rfl, rfl, trivial⟩) plc_216 (evs_cons h.1.2.1 (evs_cons h.1.1 evs_nil)) rfl rfl rfl) rfl) ⟨⟨rfl, rfl, trivial⟩, trivial, trivial⟩ ?_
 refine dr_cons { need := [(6, .lp 0 0), (48, .pv (.agg (eGGot_ref07 ({ fL := [], fT := zGType, fV := ({ fName := y9.fText, fType := y3.fT, fAt := y12.fAt } : GVar), fNext := w_i64 (y3.fNext + 1), fF := zGFault } : GGot_ref07))))], hneed := [(0, .box 216 (bxv (eGGot_ref07 zGGot_ref07)))], upd := [(0, some (.box 216 (bxv (eGGot_ref07 ({ fL := [], fT := zGType, fV := ({ fName := y9.fText, fType := y3.fT, fAt := y12.fAt } : GVar), fNext := w_i64 (y3.fNext + 1), fF := zGFault } : GGot_ref07)))))] } (fun m h => step_on (guard_no rfl) (op_store_lp (n := 28) rfl h.1.1 h.1.2.1 rfl h.2.1.1 (or_agg agg_216) (by rw [non_216]; rfl) rfl rfl rfl) rfl) ⟨⟨rfl, rfl, trivial⟩, ⟨rfl, trivial⟩, trivial⟩ ?_
 refine dr_nil mixed rfl (by kernel_rfl) ?_
 refine piz (sX 49 [(6, some (.lp 0 0))] [bf 0 216 (eGGot_ref07 ({ fL := [], fT := zGType, fV := ({ fName := y9.fText, fType := y3.fT, fAt := y12.fAt } : GVar), fNext := w_i64 (y3.fNext + 1), fF := zGFault } : GGot_ref07))] 1) [0] ?_
 iterate 2 refine go ?_
 cases hF
 exact post_ret rfl rfl (.cons _ _ _ _ _ (.agg _ _ _ _ _ 28 _ _ rfl rfl agg_216 rfl rfl rfl) (.p _) .nil) (.inl rfl)
theorem ref09_params_ok {a0 : List GToken} {a1 : Int} {a2 : List (List UInt8)} {r : GGot_ref09} (hF : ref09_params a0 a1 a2 = some r) : FZ 148 [.vs 3 (List.map eGToken a0), .int .i64 a1, .vs 1 (List.map eS a2)] [.p (.agg (eGGot_ref09 r))] := by
 unfold ref09_params at hF
 refine fn_of_body (n := 60) Tryz.func148 rfl rfl rfl fun w O => ?_
 refine go ?_
 refine rgp (al 0 (eGGot_ref09 zGGot_ref09) zer_153) ?_
 iterate 3 refine go ?_
 refine reg_imp (imp_nil_own 7 66 13 1 rfl rfl) ?_
 iterate 10 refine go ?_
 obtain ⟨y3, h4, hF⟩ := bs hF
 refine rgp (cl 2 [.vs 3 (List.map eGToken a0), .int .i64 (w_i64 (a1 + 1)), .str [41]] [.p (.bool y3)] (ref09_is_ok h4)) ?_
 refine go ?_
 refine cnd hF (fun hb5 hF => ?_) fun hb5 hF => ?_
 ·cases hF
 iterate 2 refine go ?_
 obtain ⟨lr51, hF, hK52⟩ := bs hF
 refine aw_for (a0.length + 64) (fun _ => False) ?_ ?_
 ·refine rnd_loop (α := Unit) (fun q => (sX 60 [pf 0 (.vs 3 (List.map eGToken a0)), pf 1 (.int .i64 (w_i64 (a1 + 1))), pf 2 (.vs 1 (List.map eS a2)), (6, some (.lp 0 0)), (7, some (.ls 1))] [bf 0 153 (eGGot_ref09 zGGot_ref09), (1, some (.row 66 13 (List.map eGVar [])))] 2)) (fun k q => ref09_params_L1 a0 a1 a2 k = some lr51) () (impz [0, 1]) hF (fun q h => by cases h) ?_
  clear hF
  rintro k ⟨⟩ hF ih
  refine rnd_succ ?_
  rw [ref09_params_L1] at hF
  refine aw_block ?_
  iterate 3 refine go ?_
  refine rgp (op_len_ls (n := ([] : List GVar).length) rfl rfl rfl (List.length_map ..) slc_29 rfl rfl) ?_
  iterate 2 refine go ?_
  refine cnd hF (fun hb36 hF => ?_) fun hb36 hF => ?_
  ·cases hF
  iterate 6 refine go ?_
  obtain ⟨y39, h40, hF⟩ := bs hF
  refine rgp (cl 2 [.vs 3 (List.map eGToken a0), .int .i64 (w_i64 (a1 + 1)), .vs 1 (List.map eS a2)] [.p (.agg (eGGot_ref07 y39))] (ref07_Var_ok h40)) ?_
  refine rgp (al 2 (eGGot_ref07 zGGot_ref07) zer_216) ?_
  iterate 9 refine go ?_
  refine cnd hF (fun hb41 hF => ?_) fun hb41 hF => ?_
  ·cases hF
  iterate 5 refine go ?_
  refine rgp (la (eGVar y39.fV) agg_66) ?_
  refine rgp (op_lit (rows := List.map eGVar ([y39.fV] : List GVar)) (zs := (eGVar zGVar)) rfl rfl slc_29 zer_66 (by exact ⟨rfl, rfl, rfl, rfl, rfl, rfl, rfl, rfl, rfl, rfl, rfl, rfl, rfl, trivial⟩) rfl rfl rfl rfl rfl rfl rfl rfl) ?_
  obtain ⟨u44, h45, hF⟩ := bs hF
  refine rgp (op_append 3 rfl rfl rfl rfl rfl slc_29 elm_66 zer_66 rfl rfl rfl (room_map (f := eGVar) (g := eGVar) h45) (List.map_append (f := eGVar) (l₁ := []) (l₂ := [y39.fV])).symm rfl rfl) ?_
  iterate 7 refine go ?_
  obtain ⟨y48, h49, hF⟩ := bs hF
  refine rgp (cl 4 [.vs 3 (List.map eGToken a0), .int .i64 y39.fNext, .str [41]] [.p (.bool y48)] (ref09_is_ok h49)) ?_
  refine go ?_
  refine cnd hF (fun hb50 hF => ?_) fun hb50 hF => ?_
  ·iterate 5 refine go ?_
   refine reg_imp (imp_freeze [(3, some (.row 66 13 (List.map eGVar ([] ++ [y39.fV]))))] [(7, some (.pv (.vs 13 (List.map eGVar ([] ++ [y39.fV]))))), (43, some (.pv (.vs 13 (List.map eGVar ([] ++ [y39.fV])))))] (FzH.spec ⟨rfl, trivial⟩) ⟨⟨_, rfl, rfl⟩, ⟨_, rfl, rfl⟩, trivial⟩) ?_
   refine rgp (bd ((eGGot_ref09 zGGot_ref09)) (eGGot_ref09 ({ fC := zGClass, fM := zGMethod, fV := ([] ++ [y39.fV]), fN := [], fNext := w_i64 (y39.fNext + 1), fF := zGFault } : GGot_ref09)) zer_153 plc_153) ?_
   iterate 6 refine go ?_
   refine post_lp_ret ?_
   cases hF
   have hF := elim_stop hK52
   cases hF
   exact post_ret rfl rfl (.cons _ _ _ _ _ (.agg _ _ _ _ _ 29 _ _ rfl rfl agg_153 rfl rfl rfl) (.p _) .nil) (.inl rfl)
  cases hF
 intro _ h
 exact h.elim
theorem ref07_Begins_ok {a0 : List GToken} {a1 : Int} {r : Bool} (hF : ref07_Begins a0 a1 = some r) : FZ 165 [.vs 3 (List.map eGToken a0), .int .i64 a1] [.p (.bool r)] := by
 unfold ref07_Begins at hF
 refine fn_of_body (n := 32) Tryz.func165 rfl rfl rfl fun w O => ?_
 iterate 6 refine go ?_
 obtain ⟨y3, h4, hF⟩ := bs hF
 refine rgp (cl 0 [.vs 3 (List.map eGToken a0), .int .i64 a1] [.p (.agg (eGToken y3))] (ref06_Tok_ok h4)) ?_
 refine rgp (al 0 (eGToken zGToken) zer_149) ?_
 iterate 2 refine go ?_
 refine aw_seq ?_
 refine aw_seq ?_
 obtain ⟨x12, hF, hK14⟩ := bs hF
 refine ctx (sX 32 [pf 0 (.vs 3 (List.map eGToken a0)), pf 1 (.int .i64 a1), (5, some (.lp 0 0)), pf 17 (.bool x12)] [bf 0 149 (eGToken y3)] 1) ?_ ?_
 ·refine go ?_
  refine rgp (la (eGToken y3) agg_149) ?_
  obtain ⟨y7, h8, hF⟩ := bs hF
  refine rgp (cl 1 [.agg (eGToken y3), .str [105, 110, 116]] [.p (.bool y7)] (ref03_Is_ok h8)) ?_
  refine go ?_
  rcases ie hF with ⟨hb9, hF⟩ | ⟨hb9, hF⟩
  ·cases hF
  refine rgn hb9 (la (eGToken y3) agg_149) ?_
  obtain ⟨y10, h11, hF⟩ := bs hF
  refine rgn hb9 (cl 1 [.agg (eGToken y3)] [.p (.agg (eGOwner y10))] (ref07_word_ok h11)) ?_
  refine rgn hb9 (op_field1 (p := .int .i64 y10.fKind) rfl rfl ftb_34_0 one_3 rfl rfl rfl) ?_
  refine gn hb9 ?_
  refine rpf hb9 ?_
  cases hF
  exact rcz [0]
 have hF := hK14
 refine go ?_
 refine cnd hF (fun hb15 hF => ?_) fun hb15 hF => ?_
 ·iterate 5 refine go ?_
  cases hF
  exact prt
 iterate 8 refine go ?_
 refine cnd hF (fun hb16 hF => ?_) fun hb16 hF => ?_
 ·cases hF
 iterate 6 refine go ?_
 obtain ⟨y19, h20, hF⟩ := bs hF
 refine rgp (cl 1 [.vs 3 (List.map eGToken a0), .int .i64 (w_i64 (a1 + 1))] [.p (.agg (eGToken y19))] (ref06_Tok_ok h20)) ?_
 refine rgp (al 1 (eGToken zGToken) zer_149) ?_
 iterate 7 refine go ?_
 rcases ie hF with ⟨hb21, hF⟩ | ⟨hb21, hF⟩
 ·cases hF
 refine rgn hb21 (la (eGToken y19) agg_149) ?_
 obtain ⟨y22, h23, hF⟩ := bs hF
 refine rgn hb21 (cl 2 [.agg (eGToken y19), .str [60]] [.p (.bool y22)] (ref03_Is_ok h23)) ?_
 refine rpf hb21 ?_
 iterate 3 refine go ?_
 cases hF
 exact prt
theorem ref09_locals_ok {a0 : List GToken} {a1 : Int} {a2 : List (List UInt8)} {r : GGot_ref09} (hF : ref09_locals a0 a1 a2 = some r) : FZ 149 [.vs 3 (List.map eGToken a0), .int .i64 a1, .vs 1 (List.map eS a2)] [.p (.agg (eGGot_ref09 r))] := by
 unfold ref09_locals at hF
 refine fn_of_body (n := 49) Tryz.func149 rfl rfl rfl fun w O => ?_
 refine go ?_
 refine rgp (al 0 (eGGot_ref09 zGGot_ref09) zer_153) ?_
 iterate 3 refine go ?_
 refine reg_imp (imp_nil_own 7 66 13 1 rfl rfl) ?_
 refine go ?_
 refine aw_seq ?_
 obtain ⟨lr69, hF, hK70⟩ := bs hF
 refine aw_for (a0.length + 64) (fun s1 => s1 = (sX 49 [pf 1 (.int .i64 lr69.1), (6, some (.lp 0 0)), (7, some (.ls 1))] [bf 0 153 (eGGot_ref09 zGGot_ref09), (1, some (.row 66 13 (List.map eGVar lr69.2)))] 2)) ?_ ?_
 ·refine rnd_loop (α := Int × (List GVar)) (fun q => (sX 49 [pf 0 (.vs 3 (List.map eGToken a0)), pf 1 (.int .i64 q.1), pf 2 (.vs 1 (List.map eS a2)), (6, some (.lp 0 0)), (7, some (.ls 1))] [bf 0 153 (eGGot_ref09 zGGot_ref09), (1, some (.row 66 13 (List.map eGVar q.2)))] 2)) (fun k q => ref09_locals_L1 a0 a2 k q.1 q.2 = some lr69) (a1, []) (impz [0, 1]) hF (fun q h => by cases h) ?_
  clear hF
  rintro k ⟨x21, x22⟩ hF ih
  refine rnd_succ ?_
  iterate 4 refine go ?_
  obtain ⟨y47, h48, hF⟩ := bs hF
  refine rgp (cl 2 [.vs 3 (List.map eGToken a0), .int .i64 x21] [.p (.bool y47)] (ref07_Begins_ok h48)) ?_
  refine go ?_
  refine cnd hF (fun hb49 hF => ?_) fun hb49 hF => ?_
  ·iterate 2 refine go ?_
   refine aw_block ?_
   iterate 3 refine go ?_
   refine rgp (op_len_ls (n := x22.length) rfl rfl rfl (List.length_map ..) slc_29 rfl rfl) ?_
   iterate 2 refine go ?_
   refine cnd hF (fun hb50 hF => ?_) fun hb50 hF => ?_
   ·cases hF
   iterate 6 refine go ?_
   obtain ⟨y53, h54, hF⟩ := bs hF
   refine rgp (cl 2 [.vs 3 (List.map eGToken a0), .int .i64 x21, .vs 1 (List.map eS a2)] [.p (.agg (eGGot_ref07 y53))] (ref07_Var_ok h54)) ?_
   refine rgp (al 2 (eGGot_ref07 zGGot_ref07) zer_216) ?_
   iterate 9 refine go ?_
   refine cnd hF (fun hb55 hF => ?_) fun hb55 hF => ?_
   ·cases hF
   iterate 7 refine go ?_
   obtain ⟨y58, h59, hF⟩ := bs hF
   refine rgp (cl 3 [.vs 3 (List.map eGToken a0), .int .i64 y53.fNext, .str [59]] [.p (.bool y58)] (ref09_is_ok h59)) ?_
   iterate 2 refine go ?_
   refine cnd hF (fun hb60 hF => ?_) fun hb60 hF => ?_
   ·cases hF
   iterate 5 refine go ?_
   refine rgp (la (eGVar y53.fV) agg_66) ?_
   refine rgp (op_lit (rows := List.map eGVar ([y53.fV] : List GVar)) (zs := (eGVar zGVar)) rfl rfl slc_29 zer_66 (by exact ⟨rfl, rfl, rfl, rfl, rfl, rfl, rfl, rfl, rfl, rfl, rfl, rfl, rfl, trivial⟩) rfl rfl rfl rfl rfl rfl rfl rfl) ?_
   obtain ⟨u63, h64, hF⟩ := bs hF
   refine rgp (op_append 3 rfl rfl rfl rfl rfl slc_29 elm_66 zer_66 rfl rfl rfl (room_map (f := eGVar) (g := eGVar) h64) (List.map_append (f := eGVar) (l₁ := x22) (l₂ := [y53.fV])).symm rfl rfl) ?_
   iterate 7 refine go ?_
   refine reg_nil ?_
   refine piz (sX 49 [pf 0 (.vs 3 (List.map eGToken a0)), pf 1 (.int .i64 (w_i64 (y53.fNext + 1))), pf 2 (.vs 1 (List.map eS a2)), (6, some (.lp 0 0)), (7, some (.ls 1))] [bf 0 153 (eGGot_ref09 zGGot_ref09), (1, some (.row 66 13 (List.map eGVar (x22 ++ [y53.fV]))))] 2) [0, 3] ?_
   refine go ?_
   refine post_round ?_
   exact rnd_back (ih (w_i64 (y53.fNext + 1), (x22 ++ [y53.fV])) hF) (impz [0, 1])
  refine aw_exit ?_
  iterate 2 refine post_then_exit ?_
  cases hF
  exact post_lp_break _ rfl (impz [0, 1])
 rintro _ rfl
 have hF := hK70
 obtain ⟨x67, x68⟩ := lr69
 iterate 4 refine go ?_
 refine reg_imp (imp_freeze [(1, some (.row 66 13 (List.map eGVar x68)))] [(7, some (.pv (.vs 13 (List.map eGVar x68)))), (46, some (.pv (.vs 13 (List.map eGVar x68))))] (FzH.spec ⟨rfl, trivial⟩) ⟨⟨_, rfl, rfl⟩, ⟨_, rfl, rfl⟩, trivial⟩) ?_
 refine rgp (bd ((eGGot_ref09 zGGot_ref09)) (eGGot_ref09 ({ fC := zGClass, fM := zGMethod, fV := x68, fN := [], fNext := x67, fF := zGFault } : GGot_ref09)) zer_153 plc_153) ?_
 iterate 3 refine go ?_
 cases hF
 exact post_ret rfl rfl (.cons _ _ _ _ _ (.agg _ _ _ _ _ 29 _ _ rfl rfl agg_153 rfl rfl rfl) (.p _) .nil) (.inl rfl)
theorem ref08_tok_ok {a0 : List GToken} {a1 : Int} {r : GToken} (hF : ref08_tok a0 a1 = some r) : FZ 166 [.vs 3 (List.map eGToken a0), .int .i64 a1] [.p (.agg (eGToken r))] := by
 unfold ref08_tok at hF
 refine fn_of_body (n := 8) Tryz.func166 rfl rfl rfl fun w O => ?_
 refine go ?_
 refine rgp (al 0 (eGToken zGToken) zer_149) ?_
 iterate 4 refine go ?_
 obtain ⟨y1, h2, hF⟩ := bs hF
 refine rgp (cl 1 [.vs 3 (List.map eGToken a0), .int .i64 a1] [.p (.agg (eGToken y1))] (ref06_Tok_ok h2)) ?_
 iterate 3 refine go ?_
 cases hF
 exact post_ret rfl rfl (.cons _ _ _ _ _ (.agg _ _ _ _ _ 3 _ _ rfl rfl agg_149 rfl rfl rfl) (.p _) .nil) (.inl rfl)
theorem ref08_is_ok {a0 : List GToken} {a1 : Int} {a2 : List UInt8} {r : Bool} (hF : ref08_is a0 a1 a2 = some r) : FZ 169 [.vs 3 (List.map eGToken a0), .int .i64 a1, .str a2] [.p (.bool r)] := by
 unfold ref08_is at hF
 refine fn_of_body (n := 12) Tryz.func169 rfl rfl rfl fun w O => ?_
 iterate 6 refine go ?_
 obtain ⟨y1, h2, hF⟩ := bs hF
 refine rgp (cl 0 [.vs 3 (List.map eGToken a0), .int .i64 a1] [.p (.agg (eGToken y1))] (ref08_tok_ok h2)) ?_
 refine go ?_
 obtain ⟨y3, h4, hF⟩ := bs hF
 refine rgp (cl 0 [.agg (eGToken y1), .str a2] [.p (.bool y3)] (ref03_Is_ok h4)) ?_
 iterate 3 refine go ?_
 cases hF
 exact prt
theorem ref08_whose_ok {a0 : List GToken} {a1 : Int} {r : Bool} (hF : ref08_whose a0 a1 = some r) : FZ 168 [.vs 3 (List.map eGToken a0), .int .i64 a1] [.p (.bool r)] := by
 unfold ref08_whose at hF
 refine fn_of_body (n := 15) Tryz.func168 rfl rfl rfl fun w O => ?_
 iterate 6 refine go ?_
 obtain ⟨y1, h2, hF⟩ := bs hF
 refine rgp (cl 0 [.vs 3 (List.map eGToken a0), .int .i64 a1] [.p (.agg (eGToken y1))] (ref08_tok_ok h2)) ?_
 refine rgp (op_field1 (p := .int .i64 y1.fKind) rfl rfl ftb_149_0 one_3 rfl rfl rfl) ?_
 iterate 2 refine go ?_
 rcases ie hF with ⟨hb3, hF⟩ | ⟨hb3, hF⟩
 ·refine rgo_t hb3 ?_
  iterate 2 refine rgo_t hb3 ?_
  refine rpt hb3 ?_
  iterate 3 refine go ?_
  cases hF
  exact prt
 iterate 2 (refine rgn hb3 (op_move rfl rfl rfl rfl) ?_)
 obtain ⟨y4, h5, hF⟩ := bs hF
 refine rgn hb3 (cl 0 [.vs 3 (List.map eGToken a0), .int .i64 a1, .str [116, 104, 105, 115]] [.p (.bool y4)] (ref08_is_ok h5)) ?_
 refine rpf hb3 ?_
 iterate 3 refine go ?_
 cases hF
 exact prt
theorem ref08_ends_ok {a0 : List GToken} {a1 : Int} {a2 : GStmt} {r : GGot_ref08} (hF : ref08_ends a0 a1 a2 = some r) : FZ 172 [.vs 3 (List.map eGToken a0), .int .i64 a1, .agg (eGStmt a2)] [.p (.agg (eGGot_ref08 r))] := by
 unfold ref08_ends at hF
 refine fn_of_body (n := 18) Tryz.func172 rfl rfl rfl fun w O => ?_
 refine go ?_
 refine rgp (bo 0) ?_
 refine rgp (al 1 (eGGot_ref08 zGGot_ref08) zer_241) ?_
 iterate 5 refine go ?_
 obtain ⟨y3, h4, hF⟩ := bs hF
 refine rgp (cl 2 [.vs 3 (List.map eGToken a0), .int .i64 a1, .str [59]] [.p (.bool y3)] (ref08_is_ok h4)) ?_
 iterate 2 refine go ?_
 refine cnd hF (fun hb5 hF => ?_) fun hb5 hF => ?_
 ·cases hF
 iterate 3 refine go ?_
 refine rgp (la (eGStmt a2) agg_48) ?_
 iterate 2 refine go ?_
 refine rgp (bd ((eGGot_ref08 zGGot_ref08)) (eGGot_ref08 ({ fS := a2, fL := [], fA := [], fNext := w_i64 (a1 + 1), fF := zGFault } : GGot_ref08)) zer_241 plc_241) ?_
 iterate 3 refine go ?_
 cases hF
 exact post_ret rfl rfl (.cons _ _ _ _ _ (.agg _ _ _ _ _ 28 _ _ rfl rfl agg_241 rfl rfl rfl) (.p _) .nil) (.inl rfl)
theorem ref08_typed_ok {a0 : List GToken} {a1 : Int} {a2 : GStmt} {a3 : List (List UInt8)} {r : GGot_ref08} (hF : ref08_typed a0 a1 a2 a3 = some r) : FZ 184 [.vs 3 (List.map eGToken a0), .int .i64 a1, .agg (eGStmt a2), .vs 1 (List.map eS a3)] [.p (.agg (eGGot_ref08 r))] := by
 unfold ref08_typed at hF
 refine fn_of_body (n := 83) Tryz.func184 rfl rfl rfl fun w O => ?_
 refine go ?_
 refine rgp (bo 0) ?_
 refine rgp (al 1 (eGGot_ref08 zGGot_ref08) zer_241) ?_
 iterate 9 refine go ?_
 obtain ⟨y3, h4, hF⟩ := bs hF
 refine rgp (cl 2 [.vs 3 (List.map eGToken a0), .int .i64 a1, .str [99, 97, 115, 116]] [.p (.bool y3)] (ref08_is_ok h4)) ?_
 refine go ?_
 refine cnd hF (fun hb5 hF => ?_) fun hb5 hF => ?_
 ·cases hF
 iterate 10 refine go ?_
 obtain ⟨y8, h9, hF⟩ := bs hF
 refine rgp (cl 2 [.vs 3 (List.map eGToken a0), .int .i64 (w_i64 (a1 + 1)), .vs 1 (List.map eS a3), .bool ((({ a2 with fKind := 5 } : GStmt).fKind) == 6)] [.p (.agg (eGGot_ref07 y8))] (ref07_Parse_ok h9)) ?_
 refine rgp (al 2 (eGGot_ref07 zGGot_ref07) zer_216) ?_
 iterate 9 refine go ?_
 refine cnd hF (fun hb10 hF => ?_) fun hb10 hF => ?_
 ·cases hF
 iterate 9 refine go ?_
 refine cnd hF (fun hb11 hF => ?_) fun hb11 hF => ?_
 ·cases hF
 iterate 4 refine go ?_
 refine rgp (la (eGType y8.fT) agg_37) ?_
 iterate 9 refine go ?_
 refine cnd hF (fun hb12 hF => ?_) fun hb12 hF => ?_
 ·iterate 4 refine go ?_
  refine rgp (la (eGStmt ({ ({ a2 with fKind := 5 } : GStmt) with fType := y8.fT } : GStmt)) agg_48) ?_
  obtain ⟨y13, h14, hF⟩ := bs hF
  refine rgp (cl 3 [.vs 3 (List.map eGToken a0), .int .i64 y8.fNext, .agg (eGStmt ({ ({ a2 with fKind := 5 } : GStmt) with fType := y8.fT } : GStmt))] [.p (.agg (eGGot_ref08 y13))] (ref08_ends_ok h14)) ?_
  iterate 4 refine go ?_
  cases hF
  exact post_ret rfl rfl (.cons _ _ _ _ _ (.agg _ _ _ _ _ 28 _ _ rfl rfl agg_241 rfl rfl rfl) (.p _) .nil) (.inl rfl)
 cases hF
theorem ref08_sets_ok {a0 : List GToken} {a1 : Int} {a2 : GStmt} {a3 : List (List UInt8)} {r : GGot_ref08} (hF : ref08_sets a0 a1 a2 a3 = some r) : FZ 171 [.vs 3 (List.map eGToken a0), .int .i64 a1, .agg (eGStmt a2), .vs 1 (List.map eS a3)] [.p (.agg (eGGot_ref08 r))] := by
 unfold ref08_sets at hF
 refine fn_of_body (n := 80) Tryz.func171 rfl rfl rfl fun w O => ?_
 refine go ?_
 refine rgp (bo 0) ?_
 refine rgp (al 1 (eGGot_ref08 zGGot_ref08) zer_241) ?_
 refine go ?_
 refine aw_seq ?_
 refine aw_seq ?_
 obtain ⟨p6, hF, hK7⟩ := bs hF
 refine ctx (sX 80 [pf 0 (.vs 3 (List.map eGToken a0)), pf 1 (.int .i64 a1), pf 3 (.vs 1 (List.map eS a3)), (6, some (.lp 0 0)), (8, some (.lp 1 0)), pf 17 (.bool true)] [bf 0 48 (eGStmt a2), bf 1 241 (eGGot_ref08 zGGot_ref08)] 2) ?_ ?_
 ·iterate 3 refine go ?_
  obtain ⟨y3, h4, hF⟩ := bs hF
  refine rgp (cl 2 [.vs 3 (List.map eGToken a0), .int .i64 a1, .str [110, 101, 119]] [.p (.bool y3)] (ref08_is_ok h4)) ?_
  refine go ?_
  rcases ie hF with ⟨hb5, hF⟩ | ⟨hb5, hF⟩
  ·refine rgo_t hb5 ?_
   iterate 2 refine rgo_t hb5 ?_
   refine rpt hb5 ?_
   cases hF
   exact rcz [0, 1]
  cases hF
 have hF := hK7
 refine go ?_
 refine aw_cond_t rfl rfl ?_
 iterate 3 refine go ?_
 refine rgp (la (eGStmt a2) agg_48) ?_
 refine go ?_
 obtain ⟨y8, h9, hF⟩ := bs hF
 refine rgp (cl 2 [.vs 3 (List.map eGToken a0), .int .i64 a1, .agg (eGStmt a2), .vs 1 (List.map eS a3)] [.p (.agg (eGGot_ref08 y8))] (ref08_typed_ok h9)) ?_
 iterate 4 refine go ?_
 cases hF
 exact post_ret rfl rfl (.cons _ _ _ _ _ (.agg _ _ _ _ _ 28 _ _ rfl rfl agg_241 rfl rfl rfl) (.p _) .nil) (.inl rfl)
theorem ref06_atom_ok {a0 : List GToken} {a1 : Int} {a2 : Bool} {r : GGot_ref06} (hF : ref06_atom a0 a1 a2 = some r) : FZ 198 [.vs 3 (List.map eGToken a0), .int .i64 a1, .bool a2] [.p (.agg (eGGot_ref06 r))] := by
 unfold ref06_atom at hF
 refine fn_of_body (n := 38) Tryz.func198 rfl rfl rfl fun w O => ?_
 refine go ?_
 refine rgp (al 0 (eGGot_ref06 zGGot_ref06) zer_259) ?_
 iterate 4 refine go ?_
 obtain ⟨y3, h4, hF⟩ := bs hF
 refine rgp (cl 1 [.vs 3 (List.map eGToken a0), .int .i64 a1] [.p (.agg (eGToken y3))] (ref06_Tok_ok h4)) ?_
 refine rgp (al 1 (eGToken zGToken) zer_149) ?_
 iterate 8 refine go ?_
 refine cnd hF (fun hb5 hF => ?_) fun hb5 hF => ?_
 ·iterate 3 refine go ?_
  refine rgp (bd ((eGExpr zGExpr)) (eGExpr ({ fKind := 2, fNum := 0, fName := y3.fText, fKids := [] } : GExpr)) zer_46 plc_46) ?_
  iterate 2 refine go ?_
  refine rgp (bd ((eGGot_ref06 zGGot_ref06)) (eGGot_ref06 ({ fE := ({ fKind := 2, fNum := 0, fName := y3.fText, fKids := [] } : GExpr), fNext := w_i64 (a1 + 1), fF := zGFault } : GGot_ref06)) zer_259 plc_259) ?_
  iterate 4 refine go ?_
  cases hF
  exact post_ret rfl rfl (.cons _ _ _ _ _ (.agg _ _ _ _ _ 7 _ _ rfl rfl agg_259 rfl rfl rfl) (.p _) .nil) (.inl rfl)
 cases hF
theorem ref06_tight_ok {a0 : List GToken} {a1 : Int} {a2 : Int} {r : GGot_ref06} (hF : ref06_tight a0 a1 a2 = some r) : FZ 192 [.vs 3 (List.map eGToken a0), .int .i64 a1, .int .i64 a2] [.p (.agg (eGGot_ref06 r))] := by
 unfold ref06_tight at hF
 refine fn_of_body (n := 98) Tryz.func192 rfl rfl rfl fun w O => ?_
 refine go ?_
 refine rgp (al 0 (eGGot_ref06 zGGot_ref06) zer_259) ?_
 iterate 4 refine go ?_
 obtain ⟨y3, h4, hF⟩ := bs hF
 refine rgp (cl 1 [.vs 3 (List.map eGToken a0), .int .i64 a1] [.p (.agg (eGToken y3))] (ref06_Tok_ok h4)) ?_
 refine rgp (al 1 (eGToken zGToken) zer_149) ?_
 iterate 2 refine go ?_
 refine aw_seq ?_
 refine aw_seq ?_
 obtain ⟨p13, hF, hK14⟩ := bs hF
 refine ctx (sX 98 [pf 0 (.vs 3 (List.map eGToken a0)), pf 1 (.int .i64 a1), (6, some (.lp 0 0)), (7, some (.lp 1 0)), pf 23 (.bool false)] [bf 0 259 (eGGot_ref06 zGGot_ref06), bf 1 149 (eGToken y3)] 2) ?_ ?_
 ·refine go ?_
  refine rgp (la (eGToken y3) agg_149) ?_
  obtain ⟨y7, h8, hF⟩ := bs hF
  refine rgp (cl 2 [.agg (eGToken y3), .str [40]] [.p (.bool y7)] (ref03_Is_ok h8)) ?_
  refine go ?_
  rcases ie hF with ⟨hb9, hF⟩ | ⟨hb9, hF⟩
  ·cases hF
  refine rgn hb9 (la (eGToken y3) agg_149) ?_
  obtain ⟨y10, h11, hF⟩ := bs hF
  refine rgn hb9 (cl 2 [.agg (eGToken y3), .str [33]] [.p (.bool y10)] (ref03_Is_ok h11)) ?_
  refine rpf hb9 ?_
  refine go ?_
  rcases ie hF with ⟨hb12, hF⟩ | ⟨hb12, hF⟩
  ·cases hF
  iterate 2 refine rgo_f hb12 ?_
  refine rpf hb12 ?_
  cases hF
  exact rcz [0, 1]
 have hF := hK14
 refine go ?_
 refine aw_cond_f rfl rfl ?_
 iterate 4 refine go ?_
 refine rgp (la (eGToken y3) agg_149) ?_
 obtain ⟨y17, h18, hF⟩ := bs hF
 refine rgp (cl 2 [.agg (eGToken y3), .str [40]] [.p (.bool y17)] (ref03_Is_ok h18)) ?_
 refine go ?_
 refine cnd hF (fun hb19 hF => ?_) fun hb19 hF => ?_
 ·cases hF
 iterate 4 refine go ?_
 refine rgp (la (eGToken y3) agg_149) ?_
 obtain ⟨y22, h23, hF⟩ := bs hF
 refine rgp (cl 2 [.agg (eGToken y3), .str [33]] [.p (.bool y22)] (ref03_Is_ok h23)) ?_
 refine go ?_
 refine cnd hF (fun hb24 hF => ?_) fun hb24 hF => ?_
 ·cases hF
 iterate 2 refine go ?_
 refine aw_seq ?_
 refine aw_seq ?_
 obtain ⟨x32, hF, hK34⟩ := bs hF
 refine ctx (sX 98 [pf 0 (.vs 3 (List.map eGToken a0)), pf 1 (.int .i64 a1), (6, some (.lp 0 0)), (7, some (.lp 1 0)), pf 68 (.bool x32)] [bf 0 259 (eGGot_ref06 zGGot_ref06), bf 1 149 (eGToken y3)] 2) ?_ ?_
 ·refine go ?_
  refine rgp (la (eGToken y3) agg_149) ?_
  obtain ⟨y27, h28, hF⟩ := bs hF
  refine rgp (cl 2 [.agg (eGToken y3), .str [110, 105, 108]] [.p (.bool y27)] (ref03_Is_ok h28)) ?_
  refine go ?_
  rcases ie hF with ⟨hb29, hF⟩ | ⟨hb29, hF⟩
  ·cases hF
  refine rgn hb29 (la (eGToken y3) agg_149) ?_
  obtain ⟨y30, h31, hF⟩ := bs hF
  refine rgn hb29 (cl 2 [.agg (eGToken y3), .str [115, 97, 109, 101]] [.p (.bool y30)] (ref03_Is_ok h31)) ?_
  refine rpf hb29 ?_
  cases hF
  exact rcz [0, 1]
 have hF := hK34
 refine go ?_
 refine cnd hF (fun hb35 hF => ?_) fun hb35 hF => ?_
 ·cases hF
 iterate 4 refine go ?_
 refine rgp (la (eGToken y3) agg_149) ?_
 obtain ⟨y38, h39, hF⟩ := bs hF
 refine rgp (cl 2 [.agg (eGToken y3), .str [105, 110, 112, 117, 116]] [.p (.bool y38)] (ref03_Is_ok h39)) ?_
 refine go ?_
 refine cnd hF (fun hb40 hF => ?_) fun hb40 hF => ?_
 ·cases hF
 iterate 5 refine go ?_
 obtain ⟨y43, h44, hF⟩ := bs hF
 refine rgp (cl 2 [.str y3.fText] [.p (.int .i64 y43.1), .p (.bool y43.2)] (ref02_Number_ok h44)) ?_
 refine go ?_
 iterate 2 (refine rgp (op_extract rfl rfl rfl rfl rfl) ?_)
 iterate 3 refine go ?_
 refine aw_seq ?_
 refine aw_seq ?_
 obtain ⟨p46, hF, hK47⟩ := bs hF
 refine ctx (sX 98 [pf 0 (.vs 3 (List.map eGToken a0)), pf 1 (.int .i64 a1), (6, some (.lp 0 0)), pf 89 (.bool false)] [bf 0 259 (eGGot_ref06 zGGot_ref06)] 1) ?_ ?_
 ·iterate 5 refine go ?_
  rcases ie hF with ⟨hb45, hF⟩ | ⟨hb45, hF⟩
  ·cases hF
  refine rgo_f hb45 ?_
  refine rpf hb45 ?_
  cases hF
  exact rcz [0]
 have hF := hK47
 refine go ?_
 refine aw_cond_f rfl rfl ?_
 iterate 5 refine go ?_
 obtain ⟨y48, h49, hF⟩ := bs hF
 refine rgp (cl 1 [.vs 3 (List.map eGToken a0), .int .i64 a1, .bool true] [.p (.agg (eGGot_ref06 y48))] (ref06_atom_ok h49)) ?_
 iterate 3 refine go ?_
 cases hF
 exact post_ret rfl rfl (.cons _ _ _ _ _ (.agg _ _ _ _ _ 7 _ _ rfl rfl agg_259 rfl rfl rfl) (.p _) .nil) (.inl rfl)
theorem ref06_signs_ok {a0 : Int} {r : (List (List UInt8))} (hF : ref06_signs a0 = some r) : FZ 199 [.int .i64 a0] [.p (.vs 1 (List.map eS r))] := by
 unfold ref06_signs at hF
 refine fn_of_body (n := 13) Tryz.func199 rfl rfl rfl fun w O => ?_
 iterate 4 refine go ?_
 refine rgp (op_lit (rows := List.map eS ([[38, 38]] : List (List UInt8))) (zs := [.str []]) rfl rfl slc_23 zer_9 (by exact ⟨rfl, trivial⟩) rfl rfl rfl rfl rfl rfl rfl rfl) ?_
 refine rgp (op_lit (rows := List.map eS ([[60], [61, 61]] : List (List UInt8))) (zs := [.str []]) rfl rfl slc_23 zer_9 (by exact ⟨rfl, trivial⟩) rfl rfl rfl rfl rfl rfl rfl rfl) ?_
 refine rgp (op_lit (rows := List.map eS ([[43], [45]] : List (List UInt8))) (zs := [.str []]) rfl rfl slc_23 zer_9 (by exact ⟨rfl, trivial⟩) rfl rfl rfl rfl rfl rfl rfl rfl) ?_
 refine rgp (op_lit (rows := List.map eS ([[42]] : List (List UInt8))) (zs := [.str []]) rfl rfl slc_23 zer_9 (by exact ⟨rfl, trivial⟩) rfl rfl rfl rfl rfl rfl rfl rfl) ?_
 refine rgp (op_lit (rows := List.map (eL 1 eS) ([[[38, 38]], [[60], [61, 61]], [[43], [45]], [[42]]] : List (List (List UInt8)))) (zs := [.vs 1 (List.map eS [])]) rfl rfl slc_280 zer_23 (by exact ⟨trivial, trivial⟩) rfl rfl rfl rfl rfl rfl rfl rfl) ?_
 iterate 5 refine go ?_
 obtain ⟨y1, h2, hF⟩ := bs hF
 refine rgp (ix (idx_map (eL 1 eS) h2) slc_280) ?_
 iterate 4 refine go ?_
 cases hF
 exact prt
theorem ref06_between_ok {a0 : List GToken} {a1 : Int} {a2 : Int} {r : (List UInt8)} (hF : ref06_between a0 a1 a2 = some r) : FZ 193 [.vs 3 (List.map eGToken a0), .int .i64 a1, .int .i64 a2] [.p (.str r)] := by
 unfold ref06_between at hF
 refine fn_of_body (n := 29) Tryz.func193 rfl rfl rfl fun w O => ?_
 iterate 5 refine go ?_
 obtain ⟨y3, h4, hF⟩ := bs hF
 refine rgp (cl 0 [.int .i64 a2] [.p (.vs 1 (List.map eS y3))] (ref06_signs_ok h4)) ?_
 iterate 6 refine go ?_
 obtain ⟨lr50, hF, hK51⟩ := bs hF
 refine aw_for ((y3.length - 0 : Int).toNat + 1) (fun s1 => s1 = (sX 29 [] [] 0)) ?_ ?_
 ·refine rnd_loop (α := Int) (fun q => (sX 29 [pf 0 (.vs 3 (List.map eGToken a0)), pf 1 (.int .i64 a1), pf 7 (.vs 1 (List.map eS y3)), pf 8 (.int .i64 q)] [] 0)) (fun k q => ref06_between_L1 a0 a1 y3 k q = some lr50) 0 (impz []) hF (fun q h => by cases h) ?_
  clear hF
  rintro k x19 hF ih
  refine rnd_succ ?_
  iterate 7 refine go ?_
  refine cnd hF (fun hb35 hF => ?_) fun hb35 hF => ?_
  ·iterate 2 refine go ?_
   refine aw_seq ?_
   refine aw_block ?_
   refine aw_seq ?_
   refine dr_start ⟨_, _, _⟩ rfl ?_
   iterate 2 refine dgo ?_
   obtain ⟨y42, h43, hF⟩ := bs hF
   refine dr_cons { need := [(18, .pv (.int .i64 a1)), (17, .pv (.vs 3 (List.map eGToken a0)))], dst := some 19, val := some (.pv (.agg (eGToken y42))) } (fun m h => step_on (guard_no rfl) (op_call 0 rfl (caps := []) (args := [.vs 3 (List.map eGToken a0), .int .i64 a1]) (rs := [.p (.agg (eGToken y42))]) rfl rfl (evl_cons h.1.2.1 (evl_cons h.1.1 evl_nil)) cal_99 (ref06_Tok_ok h43) rfl rfl rfl) rfl) ⟨⟨rfl, rfl, trivial⟩, trivial, trivial⟩ ?_
   iterate 2 refine dgo ?_
   obtain ⟨y44, h45, hF⟩ := bs hF
   refine dr_cons { need := [(20, .pv (.vs 1 (List.map eS y3))), (21, .pv (.int .i64 x19))], dst := some 22, val := some (.pv (.vp (eS y44))) } (fun m h => step_on (guard_no rfl) (op_index_vs (k := .i64) rfl h.1.1 h.1.2.1 (idx_map eS h45) slc_23 rfl rfl) rfl) ⟨⟨rfl, rfl, trivial⟩, trivial, trivial⟩ ?_
   refine dr_cons { need := [(22, .pv (.vp (eS y44)))], dst := some 23, val := some (.pv (.str y44)) } (fun m h => step_on (guard_no rfl) (op_load_vp (p := .str y44) rfl h.1.1 rfl one_9 rfl rfl) rfl) ⟨⟨rfl, trivial⟩, trivial, trivial⟩ ?_
   obtain ⟨y46, h47, hF⟩ := bs hF
   refine dr_cons { need := [(23, .pv (.str y44)), (19, .pv (.agg (eGToken y42)))], dst := some 24, val := some (.pv (.bool y46)) } (fun m h => step_on (guard_no rfl) (op_call 0 rfl (caps := []) (args := [.agg (eGToken y42), .str y44]) (rs := [.p (.bool y46)]) rfl rfl (evl_cons h.1.2.1 (evl_cons h.1.1 evl_nil)) cal_100 (ref03_Is_ok h47) rfl rfl rfl) rfl) ⟨⟨rfl, rfl, trivial⟩, trivial, trivial⟩ ?_
   refine dr_nil mixed rfl (by kernel_rfl) ?_
   refine piz (sX 29 [pf 0 (.vs 3 (List.map eGToken a0)), pf 1 (.int .i64 a1), pf 7 (.vs 1 (List.map eS y3)), pf 8 (.int .i64 x19), pf 24 (.bool y46)] [] 0) [] ?_
   refine go ?_
   refine cnd hF (fun hb48 hF => ?_) fun hb48 hF => ?_
   ·cases hF
   iterate 7 refine go ?_
   refine rnr ?_
   exact rnd_back (ih (w_i64 (x19 + 1)) hF) (impz [])
  refine aw_exit ?_
  iterate 2 refine post_then_exit ?_
  cases hF
  exact post_lp_break _ rfl (impz [])
 rintro _ rfl
 have hF := hK51
 iterate 5 refine go ?_
 cases hF
 exact prt
theorem ref06_chain_ring : ∀ n : Nat, (∀ (a0 : List GToken) (a1 : Int) (a2 : Int) (a3 : Int) (r : GGot_ref06), ref06_chain n a0 a1 a2 a3 = some r → FZ 186 [.vs 3 (List.map eGToken a0), .int .i64 a1, .int .i64 a2, .int .i64 a3] [.p (.agg (eGGot_ref06 r))]) := by
 intro n
 induction n with
 | zero => exact (fun _ _ _ _ _ h => by simp [ref06_chain] at h)
 | succ n ih =>
  have ref06_chain_ih := ih
  clear ih
  intro a0 a1 a2 a3 r hF
  unfold ref06_chain at hF
  revert hF ref06_chain_ih
  generalize ref06_chain n = ref06_chain_rec
  intro ref06_chain_ih hF
  refine fn_of_body (n := 76) Tryz.func186 rfl rfl rfl fun w O => ?_
  refine go ?_
  refine rgp (al 0 (eGGot_ref06 zGGot_ref06) zer_259) ?_
  iterate 6 refine go ?_
  refine cnd hF (fun hb1 hF => ?_) fun hb1 hF => ?_
  ·iterate 4 refine go ?_
   obtain ⟨y2, h3, hF⟩ := bs hF
   refine rgp (cl 1 [.vs 3 (List.map eGToken a0), .int .i64 a1, .int .i64 a3] [.p (.agg (eGGot_ref06 y2))] (ref06_tight_ok h3)) ?_
   iterate 4 refine go ?_
   cases hF
   exact post_ret rfl rfl (.cons _ _ _ _ _ (.agg _ _ _ _ _ 7 _ _ rfl rfl agg_259 rfl rfl rfl) (.p _) .nil) (.inl rfl)
  iterate 8 refine go ?_
  obtain ⟨y6, h7, hF⟩ := bs hF
  refine rgp (cl 1 [.vs 3 (List.map eGToken a0), .int .i64 a1, .int .i64 (w_i64 (a2 + 1)), .int .i64 a3] [.p (.agg (eGGot_ref06 y6))] (ref06_chain_ih _ _ _ _ _ h7)) ?_
  refine rgp (al 1 (eGGot_ref06 zGGot_ref06) zer_259) ?_
  iterate 2 refine go ?_
  refine aw_seq ?_
  obtain ⟨lr44, hF, hK45⟩ := bs hF
  refine aw_for (a0.length + 64) (fun s1 => s1 = (sX 76 [(8, some (.lp 0 0)), (9, some (.lp 1 0))] [bf 0 259 (eGGot_ref06 zGGot_ref06), bf 1 259 (eGGot_ref06 y6)] 2)) ?_ ?_
  ·refine rnd_loop (α := Unit) (fun q => (sX 76 [pf 0 (.vs 3 (List.map eGToken a0)), pf 2 (.int .i64 a2), pf 3 (.int .i64 a3), (8, some (.lp 0 0)), (9, some (.lp 1 0))] [bf 0 259 (eGGot_ref06 zGGot_ref06), bf 1 259 (eGGot_ref06 y6)] 2)) (fun k q => ref06_chain_L1 a0 a2 a3 y6 ref06_chain_rec k = some lr44) () (impz [0, 1]) hF (fun q h => by cases h) ?_
   clear hF
   rintro k ⟨⟩ hF ih
   refine rnd_succ ?_
   refine aw_seq ?_
   refine aw_seq ?_
   obtain ⟨x35, hF, hK37⟩ := bs hF
   refine ctx (sX 76 [pf 0 (.vs 3 (List.map eGToken a0)), pf 2 (.int .i64 a2), pf 3 (.int .i64 a3), (8, some (.lp 0 0)), (9, some (.lp 1 0)), pf 36 (.bool x35)] [bf 0 259 (eGGot_ref06 zGGot_ref06), bf 1 259 (eGGot_ref06 y6)] 2) ?_ ?_
   ·iterate 6 refine go ?_
    rcases ie hF with ⟨hb32, hF⟩ | ⟨hb32, hF⟩
    ·iterate 4 refine gn hb32 ?_
     obtain ⟨y33, h34, hF⟩ := bs hF
     refine rgn hb32 (cl 2 [.vs 3 (List.map eGToken a0), .int .i64 y6.fNext, .int .i64 a2] [.p (.str y33)] (ref06_between_ok h34)) ?_
     refine rgn hb32 (op_str rfl rfl rfl rfl rfl rfl) ?_
     refine rpt hb32 ?_
     cases hF
     exact rcz [0, 1]
    cases hF
   have hF := hK37
   refine go ?_
   refine cnd hF (fun hb38 hF => ?_) fun hb38 hF => ?_
   ·iterate 2 refine go ?_
    refine aw_block ?_
    iterate 12 refine go ?_
    obtain ⟨y41, h42, hF⟩ := bs hF
    refine rgp (cl 2 [.vs 3 (List.map eGToken a0), .int .i64 (w_i64 (y6.fNext + 1)), .int .i64 (w_i64 (a2 + 1)), .int .i64 a3] [.p (.agg (eGGot_ref06 y41))] (ref06_chain_ih _ _ _ _ _ h42)) ?_
    refine rgp (al 2 (eGGot_ref06 zGGot_ref06) zer_259) ?_
    iterate 9 refine go ?_
    refine cnd hF (fun hb43 hF => ?_) fun hb43 hF => ?_
    ·cases hF
    cases hF
   refine aw_exit ?_
   iterate 2 refine post_then_exit ?_
   cases hF
   exact post_lp_break _ rfl (impz [0, 1])
  rintro _ rfl
  have hF := hK45
  iterate 2 refine go ?_
  refine rgp (la (eGGot_ref06 y6) agg_259) ?_
  iterate 3 refine go ?_
  cases hF
  exact post_ret rfl rfl (.cons _ _ _ _ _ (.agg _ _ _ _ _ 7 _ _ rfl rfl agg_259 rfl rfl rfl) (.p _) .nil) (.inl rfl)
theorem ref06_chain_ok {n : Nat} {a0 : List GToken} {a1 : Int} {a2 : Int} {a3 : Int} {r : GGot_ref06} (hF : ref06_chain n a0 a1 a2 a3 = some r) : FZ 186 [.vs 3 (List.map eGToken a0), .int .i64 a1, .int .i64 a2, .int .i64 a3] [.p (.agg (eGGot_ref06 r))] := (ref06_chain_ring n) _ _ _ _ _ hF

theorem ref06_Parse_ok {a0 : List GToken} {a1 : Int} {r : GGot_ref06} (hF : ref06_Parse a0 a1 = some r) : FZ 174 [.vs 3 (List.map eGToken a0), .int .i64 a1] [.p (.agg (eGGot_ref06 r))] := by
 unfold ref06_Parse at hF
 refine fn_of_body (n := 17) Tryz.func174 rfl rfl rfl fun w O => ?_
 refine go ?_
 refine rgp (al 0 (eGGot_ref06 zGGot_ref06) zer_259) ?_
 iterate 4 refine go ?_
 obtain ⟨y3, h4, hF⟩ := bs hF
 refine rgp (cl 1 [.vs 3 (List.map eGToken a0), .int .i64 a1, .int .i64 0, .int .i64 0] [.p (.agg (eGGot_ref06 y3))] (ref06_chain_ok h4)) ?_
 refine rgp (al 1 (eGGot_ref06 zGGot_ref06) zer_259) ?_
 iterate 9 refine go ?_
 refine cnd hF (fun hb5 hF => ?_) fun hb5 hF => ?_
 ·cases hF
 iterate 3 refine go ?_
 refine rgp (la (eGGot_ref06 y3) agg_259) ?_
 iterate 3 refine go ?_
 cases hF
 exact post_ret rfl rfl (.cons _ _ _ _ _ (.agg _ _ _ _ _ 7 _ _ rfl rfl agg_259 rfl rfl rfl) (.p _) .nil) (.inl rfl)
theorem ref08_Parse_ring : ∀ n : Nat, (∀ (a0 : List GToken) (a1 : Int) (a2 : List (List UInt8)) (a3 : Int) (r : GGot_ref08), ref08_Parse n a0 a1 a2 a3 = some r → FZ 150 [.vs 3 (List.map eGToken a0), .int .i64 a1, .vs 1 (List.map eS a2), .int .i64 a3] [.p (.agg (eGGot_ref08 r))]) ∧ (∀ (a0 : List GToken) (a1 : Int) (a2 : GStmt) (a3 : List (List UInt8)) (a4 : Int) (r : GGot_ref08), ref08_asks n a0 a1 a2 a3 a4 = some r → FZ 173 [.vs 3 (List.map eGToken a0), .int .i64 a1, .agg (eGStmt a2), .vs 1 (List.map eS a3), .int .i64 a4] [.p (.agg (eGGot_ref08 r))]) ∧ (∀ (a0 : List GToken) (a1 : Int) (a2 : List (List UInt8)) (a3 : Int) (r : GGot_ref08), ref08_Block n a0 a1 a2 a3 = some r → FZ 185 [.vs 3 (List.map eGToken a0), .int .i64 a1, .vs 1 (List.map eS a2), .int .i64 a3] [.p (.agg (eGGot_ref08 r))]) := by
 intro n
 induction n with
 | zero => exact ⟨fun _ _ _ _ _ h => by simp [ref08_Parse] at h, fun _ _ _ _ _ _ h => by simp [ref08_asks] at h, fun _ _ _ _ _ h => by simp [ref08_Block] at h⟩
 | succ n ih =>
  obtain ⟨ref08_Parse_ih, ref08_asks_ih, ref08_Block_ih⟩ := ih
  refine ⟨?_, ?_, ?_⟩
  ·intro a0 a1 a2 a3 r hF
   unfold ref08_Parse at hF
   revert hF ref08_Parse_ih ref08_asks_ih ref08_Block_ih
   generalize ref08_Parse n = ref08_Parse_rec
   generalize ref08_asks n = ref08_asks_rec
   generalize ref08_Block n = ref08_Block_rec
   intro ref08_Parse_ih ref08_asks_ih ref08_Block_ih hF
   refine fn_of_body (n := 141) Tryz.func150 rfl rfl rfl fun w O => ?_
   refine go ?_
   refine rgp (al 0 (eGGot_ref08 zGGot_ref08) zer_241) ?_
   iterate 4 refine go ?_
   obtain ⟨y3, h4, hF⟩ := bs hF
   refine rgp (cl 1 [.vs 3 (List.map eGToken a0), .int .i64 a1] [.p (.agg (eGToken y3))] (ref08_tok_ok h4)) ?_
   refine rgp (op_field1 (p := .int .i64 y3.fAt) rfl rfl ftb_149_2 one_3 rfl rfl rfl) ?_
   refine rgp (bd ((eGStmt zGStmt)) (eGStmt ({ fKind := 0, fX := [], fY := [], fName := [], fType := zGType, fE := zGExpr, fArgs := [], fBody := [], fElse := [], fAt := y3.fAt } : GStmt)) zer_48 plc_48) ?_
   refine rgp (al 1 (eGStmt zGStmt) zer_48) ?_
   iterate 7 refine go ?_
   refine cnd hF (fun hb5 hF => ?_) fun hb5 hF => ?_
   ·cases hF
   iterate 2 refine go ?_
   refine aw_seq ?_
   refine aw_seq ?_
   obtain ⟨x13, hF, hK15⟩ := bs hF
   refine ctx (sX 141 [pf 0 (.vs 3 (List.map eGToken a0)), pf 1 (.int .i64 a1), pf 2 (.vs 1 (List.map eS a2)), pf 3 (.int .i64 a3), (8, some (.lp 0 0)), (9, some (.lp 1 0)), pf 29 (.bool x13)] [bf 0 241 (eGGot_ref08 zGGot_ref08), bf 1 48 (eGStmt ({ fKind := 0, fX := [], fY := [], fName := [], fType := zGType, fE := zGExpr, fArgs := [], fBody := [], fElse := [], fAt := y3.fAt } : GStmt))] 2) ?_ ?_
   ·iterate 3 refine go ?_
    obtain ⟨y8, h9, hF⟩ := bs hF
    refine rgp (cl 2 [.vs 3 (List.map eGToken a0), .int .i64 a1] [.p (.bool y8)] (ref08_whose_ok h9)) ?_
    refine go ?_
    rcases ie hF with ⟨hb10, hF⟩ | ⟨hb10, hF⟩
    ·iterate 3 refine gn hb10 ?_
     obtain ⟨y11, h12, hF⟩ := bs hF
     refine rgn hb10 (cl 2 [.vs 3 (List.map eGToken a0), .int .i64 (w_i64 (a1 + 1)), .str [46]] [.p (.bool y11)] (ref08_is_ok h12)) ?_
     refine rpt hb10 ?_
     cases hF
     exact rcz [0, 1]
    iterate 4 refine rgo_f hb10 ?_
    refine rpf hb10 ?_
    cases hF
    exact rcz [0, 1]
   have hF := hK15
   refine go ?_
   refine cnd hF (fun hb16 hF => ?_) fun hb16 hF => ?_
   ·cases hF
   iterate 6 refine go ?_
   obtain ⟨y19, h20, hF⟩ := bs hF
   refine rgp (cl 2 [.vs 3 (List.map eGToken a0), .int .i64 a1] [.p (.agg (eGToken y19))] (ref08_tok_ok h20)) ?_
   refine rgp (op_field1 (p := .int .i64 y19.fKind) rfl rfl ftb_149_0 one_3 rfl rfl rfl) ?_
   iterate 2 refine go ?_
   refine cnd hF (fun hb21 hF => ?_) fun hb21 hF => ?_
   ·iterate 5 refine go ?_
    obtain ⟨y24, h25, hF⟩ := bs hF
    refine rgp (cl 2 [.vs 3 (List.map eGToken a0), .int .i64 (w_i64 (a1 + 1)), .str [61]] [.p (.bool y24)] (ref08_is_ok h25)) ?_
    iterate 2 refine go ?_
    refine cnd hF (fun hb26 hF => ?_) fun hb26 hF => ?_
    ·cases hF
    iterate 5 refine go ?_
    obtain ⟨y29, h30, hF⟩ := bs hF
    refine rgp (cl 2 [.vs 3 (List.map eGToken a0), .int .i64 a1] [.p (.agg (eGToken y29))] (ref08_tok_ok h30)) ?_
    refine rgp (op_field1 (p := .str y29.fText) rfl rfl ftb_149_1 one_9 rfl rfl rfl) ?_
    iterate 7 refine go ?_
    refine rgp (la (eGStmt ({ ({ fKind := 0, fX := [], fY := [], fName := [], fType := zGType, fE := zGExpr, fArgs := [], fBody := [], fElse := [], fAt := y3.fAt } : GStmt) with fX := y29.fText } : GStmt)) agg_48) ?_
    refine go ?_
    obtain ⟨y31, h32, hF⟩ := bs hF
    refine rgp (cl 2 [.vs 3 (List.map eGToken a0), .int .i64 (w_i64 (a1 + 2)), .agg (eGStmt ({ ({ fKind := 0, fX := [], fY := [], fName := [], fType := zGType, fE := zGExpr, fArgs := [], fBody := [], fElse := [], fAt := y3.fAt } : GStmt) with fX := y29.fText } : GStmt)), .vs 1 (List.map eS a2)] [.p (.agg (eGGot_ref08 y31))] (ref08_sets_ok h32)) ?_
    iterate 4 refine go ?_
    cases hF
    exact post_ret rfl rfl (.cons _ _ _ _ _ (.agg _ _ _ _ _ 28 _ _ rfl rfl agg_241 rfl rfl rfl) (.p _) .nil) (.inl rfl)
   iterate 6 refine go ?_
   obtain ⟨y35, h36, hF⟩ := bs hF
   refine rgp (cl 2 [.vs 3 (List.map eGToken a0), .int .i64 a1, .str [116, 104, 105, 115]] [.p (.bool y35)] (ref08_is_ok h36)) ?_
   refine go ?_
   refine cnd hF (fun hb37 hF => ?_) fun hb37 hF => ?_
   ·cases hF
   iterate 6 refine go ?_
   obtain ⟨y40, h41, hF⟩ := bs hF
   refine rgp (cl 2 [.vs 3 (List.map eGToken a0), .int .i64 a1, .str [100, 101, 108, 101, 116, 101]] [.p (.bool y40)] (ref08_is_ok h41)) ?_
   refine go ?_
   refine cnd hF (fun hb42 hF => ?_) fun hb42 hF => ?_
   ·iterate 5 refine go ?_
    obtain ⟨y45, h46, hF⟩ := bs hF
    refine rgp (cl 2 [.vs 3 (List.map eGToken a0), .int .i64 (w_i64 (a1 + 1))] [.p (.agg (eGToken y45))] (ref08_tok_ok h46)) ?_
    refine rgp (op_field1 (p := .int .i64 y45.fKind) rfl rfl ftb_149_0 one_3 rfl rfl rfl) ?_
    iterate 2 refine go ?_
    refine cnd hF (fun hb47 hF => ?_) fun hb47 hF => ?_
    ·cases hF
    iterate 10 refine go ?_
    obtain ⟨y50, h51, hF⟩ := bs hF
    refine rgp (cl 2 [.vs 3 (List.map eGToken a0), .int .i64 (w_i64 (a1 + 1))] [.p (.agg (eGToken y50))] (ref08_tok_ok h51)) ?_
    refine rgp (op_field1 (p := .str y50.fText) rfl rfl ftb_149_1 one_9 rfl rfl rfl) ?_
    iterate 7 refine go ?_
    refine rgp (la (eGStmt ({ ({ ({ fKind := 0, fX := [], fY := [], fName := [], fType := zGType, fE := zGExpr, fArgs := [], fBody := [], fElse := [], fAt := y3.fAt } : GStmt) with fKind := 8 } : GStmt) with fY := y50.fText } : GStmt)) agg_48) ?_
    obtain ⟨y52, h53, hF⟩ := bs hF
    refine rgp (cl 2 [.vs 3 (List.map eGToken a0), .int .i64 (w_i64 (a1 + 2)), .agg (eGStmt ({ ({ ({ fKind := 0, fX := [], fY := [], fName := [], fType := zGType, fE := zGExpr, fArgs := [], fBody := [], fElse := [], fAt := y3.fAt } : GStmt) with fKind := 8 } : GStmt) with fY := y50.fText } : GStmt))] [.p (.agg (eGGot_ref08 y52))] (ref08_ends_ok h53)) ?_
    iterate 4 refine go ?_
    cases hF
    exact post_ret rfl rfl (.cons _ _ _ _ _ (.agg _ _ _ _ _ 28 _ _ rfl rfl agg_241 rfl rfl rfl) (.p _) .nil) (.inl rfl)
   iterate 2 refine go ?_
   refine aw_seq ?_
   refine aw_seq ?_
   obtain ⟨p59, hF, hK60⟩ := bs hF
   refine ctx (sX 141 [pf 0 (.vs 3 (List.map eGToken a0)), pf 1 (.int .i64 a1), pf 2 (.vs 1 (List.map eS a2)), pf 3 (.int .i64 a3), (8, some (.lp 0 0)), (9, some (.lp 1 0)), pf 98 (.bool true)] [bf 0 241 (eGGot_ref08 zGGot_ref08), bf 1 48 (eGStmt ({ fKind := 0, fX := [], fY := [], fName := [], fType := zGType, fE := zGExpr, fArgs := [], fBody := [], fElse := [], fAt := y3.fAt } : GStmt))] 2) ?_ ?_
   ·iterate 3 refine go ?_
    obtain ⟨y56, h57, hF⟩ := bs hF
    refine rgp (cl 2 [.vs 3 (List.map eGToken a0), .int .i64 a1, .str [105, 102]] [.p (.bool y56)] (ref08_is_ok h57)) ?_
    refine go ?_
    rcases ie hF with ⟨hb58, hF⟩ | ⟨hb58, hF⟩
    ·refine rgo_t hb58 ?_
     iterate 2 refine rgo_t hb58 ?_
     refine rpt hb58 ?_
     cases hF
     exact rcz [0, 1]
    cases hF
   have hF := hK60
   refine go ?_
   refine aw_cond_t rfl rfl ?_
   iterate 3 refine go ?_
   refine rgp (la (eGStmt ({ fKind := 0, fX := [], fY := [], fName := [], fType := zGType, fE := zGExpr, fArgs := [], fBody := [], fElse := [], fAt := y3.fAt } : GStmt)) agg_48) ?_
   iterate 2 refine go ?_
   refine rgp (op_max2 rfl rfl rfl rfl rfl) ?_
   obtain ⟨y61, h62, hF⟩ := bs hF
   refine rgp (cl 2 [.vs 3 (List.map eGToken a0), .int .i64 a1, .agg (eGStmt ({ fKind := 0, fX := [], fY := [], fName := [], fType := zGType, fE := zGExpr, fArgs := [], fBody := [], fElse := [], fAt := y3.fAt } : GStmt)), .vs 1 (List.map eS a2), .int .i64 (if 0 > a3 then 0 else a3)] [.p (.agg (eGGot_ref08 y61))] (ref08_asks_ih _ _ _ _ _ _ h62)) ?_
   iterate 4 refine go ?_
   cases hF
   exact post_ret rfl rfl (.cons _ _ _ _ _ (.agg _ _ _ _ _ 28 _ _ rfl rfl agg_241 rfl rfl rfl) (.p _) .nil) (.inl rfl)
  ·intro a0 a1 a2 a3 a4 r hF
   unfold ref08_asks at hF
   revert hF ref08_Parse_ih ref08_asks_ih ref08_Block_ih
   generalize ref08_Parse n = ref08_Parse_rec
   generalize ref08_asks n = ref08_asks_rec
   generalize ref08_Block n = ref08_Block_rec
   intro ref08_Parse_ih ref08_asks_ih ref08_Block_ih hF
   refine fn_of_body (n := 100) Tryz.func173 rfl rfl rfl fun w O => ?_
   refine go ?_
   refine rgp (bo 0) ?_
   refine rgp (al 1 (eGGot_ref08 zGGot_ref08) zer_241) ?_
   iterate 9 refine go ?_
   obtain ⟨y3, h4, hF⟩ := bs hF
   refine rgp (cl 2 [.vs 3 (List.map eGToken a0), .int .i64 a1, .str [119, 104, 105, 108, 101]] [.p (.bool y3)] (ref08_is_ok h4)) ?_
   refine go ?_
   refine cnd hF (fun hb5 hF => ?_) fun hb5 hF => ?_
   ·cases hF
   iterate 7 refine go ?_
   obtain ⟨y8, h9, hF⟩ := bs hF
   refine rgp (cl 2 [.vs 3 (List.map eGToken a0), .int .i64 (w_i64 (a1 + 1)), .str [40]] [.p (.bool y8)] (ref08_is_ok h9)) ?_
   iterate 2 refine go ?_
   refine cnd hF (fun hb10 hF => ?_) fun hb10 hF => ?_
   ·cases hF
   iterate 6 refine go ?_
   obtain ⟨y13, h14, hF⟩ := bs hF
   refine rgp (cl 2 [.vs 3 (List.map eGToken a0), .int .i64 (w_i64 (a1 + 2))] [.p (.agg (eGGot_ref06 y13))] (ref06_Parse_ok h14)) ?_
   refine rgp (al 2 (eGGot_ref06 zGGot_ref06) zer_259) ?_
   iterate 9 refine go ?_
   refine cnd hF (fun hb15 hF => ?_) fun hb15 hF => ?_
   ·cases hF
   iterate 4 refine go ?_
   refine rgp (la (eGExpr y13.fE) agg_46) ?_
   iterate 8 refine go ?_
   obtain ⟨y18, h19, hF⟩ := bs hF
   refine rgp (cl 3 [.vs 3 (List.map eGToken a0), .int .i64 y13.fNext, .str [41]] [.p (.bool y18)] (ref08_is_ok h19)) ?_
   iterate 2 refine go ?_
   refine cnd hF (fun hb20 hF => ?_) fun hb20 hF => ?_
   ·cases hF
   iterate 10 refine go ?_
   obtain ⟨y23, h24, hF⟩ := bs hF
   refine rgp (cl 3 [.vs 3 (List.map eGToken a0), .int .i64 (w_i64 (y13.fNext + 1)), .vs 1 (List.map eS a3), .int .i64 (w_i64 (a4 + 1))] [.p (.agg (eGGot_ref08 y23))] (ref08_Block_ih _ _ _ _ _ h24)) ?_
   refine rgp (al 3 (eGGot_ref08 zGGot_ref08) zer_241) ?_
   iterate 8 refine go ?_
   refine reg_nil ?_
   refine piz (sX 100 [pf 0 (.vs 3 (List.map eGToken a0)), (7, some (.lp 0 0)), (10, some (.lp 1 0)), (12, some (.lp 2 0)), pf 62 (.bool (y23.fF.fErr != 0))] [bf 0 48 (eGStmt ({ ({ a2 with fKind := 9 } : GStmt) with fE := y13.fE } : GStmt)), bf 1 241 (eGGot_ref08 zGGot_ref08), bf 2 241 (eGGot_ref08 y23)] 3) [0, 1, 3] ?_
   refine go ?_
   refine cnd hF (fun hb25 hF => ?_) fun hb25 hF => ?_
   ·cases hF
   iterate 8 refine go ?_
   refine aw_seq ?_
   refine aw_seq ?_
   obtain ⟨x29, hF, hK31⟩ := bs hF
   refine ctx (sX 100 [(7, some (.lp 0 0)), (10, some (.lp 1 0)), (12, some (.lp 2 0)), pf 75 (.bool x29)] [bf 0 48 (eGStmt ({ ({ ({ a2 with fKind := 9 } : GStmt) with fE := y13.fE } : GStmt) with fBody := y23.fL } : GStmt)), bf 1 241 (eGGot_ref08 zGGot_ref08), bf 2 241 (eGGot_ref08 y23)] 3) ?_ ?_
   ·iterate 5 refine go ?_
    rcases ie hF with ⟨hb26, hF⟩ | ⟨hb26, hF⟩
    ·iterate 3 refine gn hb26 ?_
     obtain ⟨y27, h28, hF⟩ := bs hF
     refine rgn hb26 (cl 3 [.vs 3 (List.map eGToken a0), .int .i64 y23.fNext, .str [101, 108, 115, 101]] [.p (.bool y27)] (ref08_is_ok h28)) ?_
     refine rpt hb26 ?_
     cases hF
     exact rcz [0, 1, 2]
    cases hF
   have hF := hK31
   refine go ?_
   refine cnd hF (fun hb32 hF => ?_) fun hb32 hF => ?_
   ·cases hF
   iterate 3 refine go ?_
   refine rgp (la (eGStmt ({ ({ ({ a2 with fKind := 9 } : GStmt) with fE := y13.fE } : GStmt) with fBody := y23.fL } : GStmt)) agg_48) ?_
   iterate 2 refine go ?_
   refine rgp (bd ((eGGot_ref08 zGGot_ref08)) (eGGot_ref08 ({ fS := ({ ({ ({ a2 with fKind := 9 } : GStmt) with fE := y13.fE } : GStmt) with fBody := y23.fL } : GStmt), fL := [], fA := [], fNext := y23.fNext, fF := zGFault } : GGot_ref08)) zer_241 plc_241) ?_
   iterate 3 refine go ?_
   cases hF
   exact post_ret rfl rfl (.cons _ _ _ _ _ (.agg _ _ _ _ _ 28 _ _ rfl rfl agg_241 rfl rfl rfl) (.p _) .nil) (.inl rfl)
  ·intro a0 a1 a2 a3 r hF
   unfold ref08_Block at hF
   revert hF ref08_Parse_ih ref08_asks_ih ref08_Block_ih
   generalize ref08_Parse n = ref08_Parse_rec
   generalize ref08_asks n = ref08_asks_rec
   generalize ref08_Block n = ref08_Block_rec
   intro ref08_Parse_ih ref08_asks_ih ref08_Block_ih hF
   refine fn_of_body (n := 45) Tryz.func185 rfl rfl rfl fun w O => ?_
   refine go ?_
   refine rgp (al 0 (eGGot_ref08 zGGot_ref08) zer_241) ?_
   iterate 5 refine go ?_
   obtain ⟨y3, h4, hF⟩ := bs hF
   refine rgp (cl 1 [.vs 3 (List.map eGToken a0), .int .i64 a1, .str [123]] [.p (.bool y3)] (ref08_is_ok h4)) ?_
   iterate 2 refine go ?_
   refine cnd hF (fun hb5 hF => ?_) fun hb5 hF => ?_
   ·cases hF
   iterate 9 refine go ?_
   refine reg_imp (imp_nil_own 9 48 23 1 rfl rfl) ?_
   refine go ?_
   refine aw_seq ?_
   obtain ⟨lr56, hF, hK57⟩ := bs hF
   refine aw_for (a0.length + 64) (fun s1 => s1 = (sX 45 [pf 1 (.int .i64 lr56.1), (8, some (.lp 0 0)), (9, some (.ls 1))] [bf 0 241 (eGGot_ref08 zGGot_ref08), (1, some (.row 48 23 (eLGStmt lr56.2)))] 2)) ?_ ?_
   ·refine rnd_loop (α := Int × (List GStmt)) (fun q => (sX 45 [pf 0 (.vs 3 (List.map eGToken a0)), pf 1 (.int .i64 q.1), pf 2 (.vs 1 (List.map eS a2)), pf 3 (.int .i64 a3), (8, some (.lp 0 0)), (9, some (.ls 1))] [bf 0 241 (eGGot_ref08 zGGot_ref08), (1, some (.row 48 23 (eLGStmt q.2)))] 2)) (fun k q => ref08_Block_L1 a0 a2 a3 ref08_Parse_rec k q.1 q.2 = some lr56) (w_i64 (a1 + 1), []) (impz [0, 1]) hF (fun q h => by cases h) ?_
    clear hF
    rintro k ⟨x20, x21⟩ hF ih
    refine rnd_succ ?_
    iterate 4 refine go ?_
    obtain ⟨y40, h41, hF⟩ := bs hF
    refine rgp (cl 2 [.vs 3 (List.map eGToken a0), .int .i64 x20, .str [125]] [.p (.bool y40)] (ref08_is_ok h41)) ?_
    iterate 2 refine go ?_
    refine cnd hF (fun hb42 hF => ?_) fun hb42 hF => ?_
    ·iterate 2 refine go ?_
     refine aw_block ?_
     iterate 5 refine go ?_
     obtain ⟨y45, h46, hF⟩ := bs hF
     refine rgp (cl 2 [.vs 3 (List.map eGToken a0), .int .i64 x20, .vs 1 (List.map eS a2), .int .i64 a3] [.p (.agg (eGGot_ref08 y45))] (ref08_Parse_ih _ _ _ _ _ h46)) ?_
     refine rgp (al 2 (eGGot_ref08 zGGot_ref08) zer_241) ?_
     iterate 9 refine go ?_
     refine cnd hF (fun hb47 hF => ?_) fun hb47 hF => ?_
     ·cases hF
     iterate 5 refine go ?_
     refine rgp (la (eGStmt y45.fS) agg_48) ?_
     refine rgp (op_litR (rows := List.map eGStmt ([y45.fS] : List GStmt)) (rows' := eLGStmt ([y45.fS] : List GStmt)) (zs := (eGStmt zGStmt)) rfl rfl slc_38 zer_48 (by exact ⟨rfl, rfl, rfl, rfl, rfl, rfl, rfl, rfl, rfl, rfl, rfl, rfl, rfl, rfl, rfl, rfl, rfl, rfl, trivial, trivial, trivial, trivial, rfl, trivial⟩) rfl rfl rfl rfl rfl rfl (eLGStmt_map _) rfl rfl) ?_
     obtain ⟨u50, h51, hF⟩ := bs hF
     refine rgp (op_append 3 rfl rfl rfl rfl rfl slc_38 elm_48 zer_48 rfl rfl rfl (roomR eLGStmt_map h51) (appR eLGStmt_map _ _) rfl rfl) ?_
     iterate 6 refine go ?_
     refine reg_nil ?_
     refine piz (sX 45 [pf 0 (.vs 3 (List.map eGToken a0)), pf 1 (.int .i64 y45.fNext), pf 2 (.vs 1 (List.map eS a2)), pf 3 (.int .i64 a3), (8, some (.lp 0 0)), (9, some (.ls 1))] [bf 0 241 (eGGot_ref08 zGGot_ref08), (1, some (.row 48 23 (eLGStmt (x21 ++ [y45.fS]))))] 2) [0, 3] ?_
     refine go ?_
     refine post_round ?_
     exact rnd_back (ih (y45.fNext, (x21 ++ [y45.fS])) hF) (impz [0, 1])
    refine aw_exit ?_
    iterate 2 refine post_then_exit ?_
    cases hF
    exact post_lp_break _ rfl (impz [0, 1])
   rintro _ rfl
   have hF := hK57
   obtain ⟨x54, x55⟩ := lr56
   iterate 5 refine go ?_
   refine reg_imp (imp_freeze [(1, some (.row 48 23 (eLGStmt x55)))] [(9, some (.pv (.vs 23 (eLGStmt x55)))), (41, some (.pv (.vs 23 (eLGStmt x55))))] (FzH.spec ⟨rfl, trivial⟩) ⟨⟨_, rfl, rfl⟩, ⟨_, rfl, rfl⟩, trivial⟩) ?_
   refine rgp (bd ((eGGot_ref08 zGGot_ref08)) (eGGot_ref08 ({ fS := zGStmt, fL := x55, fA := [], fNext := w_i64 (x54 + 1), fF := zGFault } : GGot_ref08)) zer_241 plc_241) ?_
   iterate 3 refine go ?_
   cases hF
   exact post_ret rfl rfl (.cons _ _ _ _ _ (.agg _ _ _ _ _ 28 _ _ rfl rfl agg_241 rfl rfl rfl) (.p _) .nil) (.inl rfl)
theorem ref08_Parse_ok {n : Nat} {a0 : List GToken} {a1 : Int} {a2 : List (List UInt8)} {a3 : Int} {r : GGot_ref08} (hF : ref08_Parse n a0 a1 a2 a3 = some r) : FZ 150 [.vs 3 (List.map eGToken a0), .int .i64 a1, .vs 1 (List.map eS a2), .int .i64 a3] [.p (.agg (eGGot_ref08 r))] := (ref08_Parse_ring n).1 _ _ _ _ _ hF
theorem ref08_asks_ok {n : Nat} {a0 : List GToken} {a1 : Int} {a2 : GStmt} {a3 : List (List UInt8)} {a4 : Int} {r : GGot_ref08} (hF : ref08_asks n a0 a1 a2 a3 a4 = some r) : FZ 173 [.vs 3 (List.map eGToken a0), .int .i64 a1, .agg (eGStmt a2), .vs 1 (List.map eS a3), .int .i64 a4] [.p (.agg (eGGot_ref08 r))] := (ref08_Parse_ring n).2.1 _ _ _ _ _ _ hF
theorem ref08_Block_ok {n : Nat} {a0 : List GToken} {a1 : Int} {a2 : List (List UInt8)} {a3 : Int} {r : GGot_ref08} (hF : ref08_Block n a0 a1 a2 a3 = some r) : FZ 185 [.vs 3 (List.map eGToken a0), .int .i64 a1, .vs 1 (List.map eS a2), .int .i64 a3] [.p (.agg (eGGot_ref08 r))] := (ref08_Parse_ring n).2.2 _ _ _ _ _ hF



theorem ref09_method_ok {a0 : List GToken} {a1 : Int} {a2 : List (List UInt8)} {a3_0 : List UInt8} {a3_1 : Bool} {a3_2 : Int} {a3_3 : List UInt8} {a3_4 : Int} {a3_5 : Int} {a3_6 : Int} {a3_7 : Int} {a3_8 : Int} {a3_9 : Int} {a3_10 : Int} {a3_11 : Int} {a3_12 : Int} {a3_13 : List GVar} {a3_14 : List GVar} {a3_16 : Int} {a4 : Int} {b0 : List GStmt} {r : GGot_ref09} (hF : ref09_method a0 a1 a2 a3_0 a3_1 a3_2 a3_3 a3_4 a3_5 a3_6 a3_7 a3_8 a3_9 a3_10 a3_11 a3_12 a3_13 a3_14 a3_16 a4 b0 = some r) : Abs.FnW globs_Tryz Tryz.prog 130 [.pv (.vs 3 (List.map eGToken a0)), .pv (.int .i64 a1), .pv (.vs 1 (List.map eS a2)), .agg [.pv (.str a3_0), .pv (.bool a3_1), .pv (.int .i64 a3_2), .pv (.str a3_3), .pv (.int .i64 a3_4), .pv (.int .i64 a3_5), .pv (.int .i64 a3_6), .pv (.int .i64 a3_7), .pv (.int .i64 a3_8), .pv (.int .i64 a3_9), .pv (.int .i64 a3_10), .pv (.int .i64 a3_11), .pv (.int .i64 a3_12), .pv (.vs 13 (List.map eGVar a3_13)), .pv (.vs 13 (List.map eGVar a3_14)), .ls 0, .pv (.int .i64 a3_16)], .pv (.int .i64 a4)] [(0, some (.row 48 23 (eLGStmt b0)))] 1 [] [.pv (.agg (eGGot_ref09 r))] [(0, some (.box 153 (bxv (eGGot_ref09 r))))] 1 := by
 unfold ref09_method at hF
 refine fnW_of_body (n := 89) (m := 1) [] Tryz.func130 rfl rfl rfl ?_
 intro c w O θ hcx
 refine go ?_
 refine rgp (bo 1) ?_
 refine rgp (al 2 (eGGot_ref09 zGGot_ref09) zer_153) ?_
 iterate 5 refine go ?_
 obtain ⟨y3, h4, hF⟩ := bs hF
 refine rgp (cl 3 [.vs 3 (List.map eGToken a0), .int .i64 a1, .vs 1 (List.map eS a2)] [.p (.agg (eGGot_ref09 y3))] (ref09_params_ok h4)) ?_
 refine rgp (al 3 (eGGot_ref09 zGGot_ref09) zer_153) ?_
 iterate 9 refine go ?_
 refine cnd hF (fun hb5 hF => ?_) fun hb5 hF => ?_
 ·cases hF
 iterate 13 refine go ?_
 obtain ⟨y8, h9, hF⟩ := bs hF
 refine rgp (cl 4 [.vs 3 (List.map eGToken a0), .int .i64 y3.fNext, .str [123]] [.p (.bool y8)] (ref09_is_ok h9)) ?_
 iterate 2 refine go ?_
 refine cnd hF (fun hb10 hF => ?_) fun hb10 hF => ?_
 ·cases hF
 iterate 8 refine go ?_
 obtain ⟨y13, h14, hF⟩ := bs hF
 refine rgp (cl 4 [.vs 3 (List.map eGToken a0), .int .i64 (w_i64 (y3.fNext + 1)), .vs 1 (List.map eS a2)] [.p (.agg (eGGot_ref09 y13))] (ref09_locals_ok h14)) ?_
 refine rgp (al 4 (eGGot_ref09 zGGot_ref09) zer_153) ?_
 iterate 9 refine go ?_
 refine cnd hF (fun hb15 hF => ?_) fun hb15 hF => ?_
 ·cases hF
 iterate 13 refine go ?_
 refine aw_seq ?_
 obtain ⟨lr84, hF, hK85⟩ := bs hF
 refine aw_for (a0.length + 64) (fun s1 => s1 = (sX 89 [pf 1 (.int .i64 lr84.1), (8, some (.lp 0 0)), (10, some (.lp 2 0))] [(0, some (.box 40 [.pv (.str a3_0), .pv (.bool a3_1), .pv (.int .i64 a3_2), .pv (.str a3_3), .pv (.int .i64 a3_4), .pv (.int .i64 a3_5), .pv (.int .i64 a3_6), .pv (.int .i64 a3_7), .pv (.int .i64 a3_8), .pv (.int .i64 a3_9), .pv (.int .i64 a3_10), .pv (.int .i64 a3_11), .pv (.int .i64 a3_12), .pv (.vs 13 (List.map eGVar y3.fV)), .pv (.vs 13 (List.map eGVar y13.fV)), .ls 1, .pv (.int .i64 a3_16)])), (1, some (.row 48 23 (eLGStmt lr84.2))), bf 2 153 (eGGot_ref09 zGGot_ref09)] 3)) ?_ ?_
 ·refine rnd_loop (α := Int × Int × (List GStmt)) (fun q => (sX 89 [pf 0 (.vs 3 (List.map eGToken a0)), pf 1 (.int .i64 q.1), pf 2 (.vs 1 (List.map eS a2)), pf 4 (.int .i64 q.2.1), (8, some (.lp 0 0)), (10, some (.lp 2 0))] [(0, some (.box 40 [.pv (.str a3_0), .pv (.bool a3_1), .pv (.int .i64 a3_2), .pv (.str a3_3), .pv (.int .i64 a3_4), .pv (.int .i64 a3_5), .pv (.int .i64 a3_6), .pv (.int .i64 a3_7), .pv (.int .i64 a3_8), .pv (.int .i64 a3_9), .pv (.int .i64 a3_10), .pv (.int .i64 a3_11), .pv (.int .i64 a3_12), .pv (.vs 13 (List.map eGVar y3.fV)), .pv (.vs 13 (List.map eGVar y13.fV)), .ls 1, .pv (.int .i64 a3_16)])), (1, some (.row 48 23 (eLGStmt q.2.2))), bf 2 153 (eGGot_ref09 zGGot_ref09)] 3)) (fun k q => ref09_method_L1 a0 a2 k q.1 q.2.1 q.2.2 = some lr84) (y13.fNext, a4, b0) (impz [1, 0, 2]) hF (fun q h => by cases h) ?_
  clear hF
  rintro k ⟨x35, x36, x37⟩ hF ih
  refine rnd_succ ?_
  iterate 4 refine go ?_
  obtain ⟨y62, h63, hF⟩ := bs hF
  refine rgp (cl 3 [.vs 3 (List.map eGToken a0), .int .i64 x35, .str [125]] [.p (.bool y62)] (ref09_is_ok h63)) ?_
  iterate 2 refine go ?_
  refine cnd hF (fun hb64 hF => ?_) fun hb64 hF => ?_
  ·iterate 2 refine go ?_
   refine aw_block ?_
   iterate 4 refine go ?_
   obtain ⟨y67, h68, hF⟩ := bs hF
   refine rgp (cl 3 [.vs 3 (List.map eGToken a0), .int .i64 x35, .vs 1 (List.map eS a2), .int .i64 0] [.p (.agg (eGGot_ref08 y67))] (ref08_Parse_ok h68)) ?_
   refine rgp (al 3 (eGGot_ref08 zGGot_ref08) zer_241) ?_
   iterate 9 refine go ?_
   refine cnd hF (fun hb69 hF => ?_) fun hb69 hF => ?_
   ·cases hF
   iterate 5 refine go ?_
   refine rgp (la (eGStmt y67.fS) agg_48) ?_
   obtain ⟨y72, h73, hF⟩ := bs hF
   refine rgp (cl 4 [.agg (eGStmt y67.fS)] [.p (.int .i64 y72)] (ref08_Size_ok h73)) ?_
   iterate 8 refine go ?_
   refine cnd hF (fun hb74 hF => ?_) fun hb74 hF => ?_
   ·cases hF
   iterate 6 refine go ?_
   refine rgp (la (eGStmt y67.fS) agg_48) ?_
   refine rgp (op_litR (rows := List.map eGStmt ([y67.fS] : List GStmt)) (rows' := eLGStmt ([y67.fS] : List GStmt)) (zs := (eGStmt zGStmt)) rfl rfl slc_38 zer_48 (by exact ⟨rfl, rfl, rfl, rfl, rfl, rfl, rfl, rfl, rfl, rfl, rfl, rfl, rfl, rfl, rfl, rfl, rfl, rfl, trivial, trivial, trivial, trivial, rfl, trivial⟩) rfl rfl rfl rfl rfl rfl (eLGStmt_map _) rfl rfl) ?_
   obtain ⟨u77, h78, hF⟩ := bs hF
   refine rgp (op_append 4 rfl rfl rfl rfl rfl slc_38 elm_48 zer_48 rfl rfl rfl (roomR eLGStmt_map h78) (appR eLGStmt_map _ _) rfl rfl) ?_
   refine reg_imp (imp_any 0 15 rfl) ?_
   iterate 7 refine go ?_
   refine reg_nil ?_
   refine piz (sX 89 [pf 0 (.vs 3 (List.map eGToken a0)), pf 1 (.int .i64 y67.fNext), pf 2 (.vs 1 (List.map eS a2)), pf 4 (.int .i64 (w_i64 (x36 + y72))), (8, some (.lp 0 0)), (10, some (.lp 2 0))] [(0, some (.box 40 [.pv (.str a3_0), .pv (.bool a3_1), .pv (.int .i64 a3_2), .pv (.str a3_3), .pv (.int .i64 a3_4), .pv (.int .i64 a3_5), .pv (.int .i64 a3_6), .pv (.int .i64 a3_7), .pv (.int .i64 a3_8), .pv (.int .i64 a3_9), .pv (.int .i64 a3_10), .pv (.int .i64 a3_11), .pv (.int .i64 a3_12), .pv (.vs 13 (List.map eGVar y3.fV)), .pv (.vs 13 (List.map eGVar y13.fV)), .ls 1, .pv (.int .i64 a3_16)])), (1, some (.row 48 23 (eLGStmt (x37 ++ [y67.fS])))), bf 2 153 (eGGot_ref09 zGGot_ref09)] 3) [0, 4, 2] ?_
   refine go ?_
   refine post_round ?_
   exact rnd_back (ih (y67.fNext, w_i64 (x36 + y72), (x37 ++ [y67.fS])) hF) (impz [0, 1, 2])
  refine aw_exit ?_
  iterate 2 refine post_then_exit ?_
  cases hF
  exact post_lp_break _ rfl (impz [0, 1, 2])
 rintro _ rfl
 have hF := hK85
 obtain ⟨x82, x83⟩ := lr84
 iterate 2 refine go ?_
 refine reg_imp (imp_freeze_in [(1, some (.row 48 23 (eLGStmt x83)))] [] 0 15 1 (FzH.spec ⟨rfl, trivial⟩) trivial rfl rfl rfl) ?_
 refine rgp (la (eGMethod ({ fName := a3_0, fPure := a3_1, fRet := ({ fKind := a3_2, fClass := a3_3, fN := a3_4, fOwn := (⟨({ fKind := a3_5, fN := a3_6 } : GOwner), ({ fKind := a3_7, fN := a3_8 } : GOwner), ({ fKind := a3_9, fN := a3_10 } : GOwner), ({ fKind := a3_11, fN := a3_12 } : GOwner)⟩ : A4 GOwner) } : GType), fParams := y3.fV, fLocals := y13.fV, fBody := x83, fAt := a3_16 } : GMethod)) agg_40) ?_
 iterate 2 refine go ?_
 refine rgp (bd ((eGGot_ref09 zGGot_ref09)) (eGGot_ref09 ({ fC := zGClass, fM := ({ fName := a3_0, fPure := a3_1, fRet := ({ fKind := a3_2, fClass := a3_3, fN := a3_4, fOwn := (⟨({ fKind := a3_5, fN := a3_6 } : GOwner), ({ fKind := a3_7, fN := a3_8 } : GOwner), ({ fKind := a3_9, fN := a3_10 } : GOwner), ({ fKind := a3_11, fN := a3_12 } : GOwner)⟩ : A4 GOwner) } : GType), fParams := y3.fV, fLocals := y13.fV, fBody := x83, fAt := a3_16 } : GMethod), fV := [], fN := [], fNext := w_i64 (x82 + 1), fF := zGFault } : GGot_ref09)) zer_153 plc_153) ?_
 iterate 3 refine go ?_
 refine piz (sX 89 [(10, some (.lp 0 0))] [bf 0 153 (eGGot_ref09 ({ fC := zGClass, fM := ({ fName := a3_0, fPure := a3_1, fRet := ({ fKind := a3_2, fClass := a3_3, fN := a3_4, fOwn := (⟨({ fKind := a3_5, fN := a3_6 } : GOwner), ({ fKind := a3_7, fN := a3_8 } : GOwner), ({ fKind := a3_9, fN := a3_10 } : GOwner), ({ fKind := a3_11, fN := a3_12 } : GOwner)⟩ : A4 GOwner) } : GType), fParams := y3.fV, fLocals := y13.fV, fBody := x83, fAt := a3_16 } : GMethod), fV := [], fN := [], fNext := w_i64 (x82 + 1), fF := zGFault } : GGot_ref09))] 1) [2] ?_
 cases hF
 exact post_retW hcx rfl (.cons _ _ _ _ (.agg _ _ _ _ _ 29 _ _ rfl rfl agg_153 rfl rfl rfl) .nil) rfl (.inl rfl)
theorem ref09_member_ok {a0 : List GToken} {a1 : Int} {a2_0 : List UInt8} {a2_1 : List (List UInt8)} {a2_2 : List UInt8} {a2_3 : List GOwner} {a2_6 : Int} {a3 : Int} {b0 : List GVar} {b1 : List GMethod} {r : (List UInt8) × (List (List UInt8)) × (List UInt8) × (List GOwner) × (List GVar) × (List GMethod) × Int × (List UInt8) × Bool × Int × (List UInt8) × Int × Int × Int × Int × Int × Int × Int × Int × Int × (List GVar) × (List GVar) × (List GStmt) × Int × (List GVar) × (List (List UInt8)) × Int × Int × Int} (hF : ref09_member a0 a1 a2_0 a2_1 a2_2 a2_3 a2_6 a3 b0 b1 = some r) : Abs.FnW globs_Tryz Tryz.prog 104 [.pv (.vs 3 (List.map eGToken a0)), .pv (.int .i64 a1), .agg [.pv (.str a2_0), .pv (.vs 1 (List.map eS a2_1)), .pv (.str a2_2), .pv (.vs 2 (List.map eGOwner a2_3)), .ls 0, .ls 1, .pv (.int .i64 a2_6)], .pv (.int .i64 a3)] [(0, some (.row 66 13 (List.map eGVar b0))), (1, some (.row 40 17 (List.map eGMethod b1)))] 2 [] [.agg [.pv (.str r.1), .pv (.vs 1 (List.map eS r.2.1)), .pv (.str r.2.2.1), .pv (.vs 2 (List.map eGOwner r.2.2.2.1)), .ls 1, .ls 2, .pv (.int .i64 r.2.2.2.2.2.2.1), .pv (.str r.2.2.2.2.2.2.2.1), .pv (.bool r.2.2.2.2.2.2.2.2.1), .pv (.int .i64 r.2.2.2.2.2.2.2.2.2.1), .pv (.str r.2.2.2.2.2.2.2.2.2.2.1), .pv (.int .i64 r.2.2.2.2.2.2.2.2.2.2.2.1), .pv (.int .i64 r.2.2.2.2.2.2.2.2.2.2.2.2.1), .pv (.int .i64 r.2.2.2.2.2.2.2.2.2.2.2.2.2.1), .pv (.int .i64 r.2.2.2.2.2.2.2.2.2.2.2.2.2.2.1), .pv (.int .i64 r.2.2.2.2.2.2.2.2.2.2.2.2.2.2.2.1), .pv (.int .i64 r.2.2.2.2.2.2.2.2.2.2.2.2.2.2.2.2.1), .pv (.int .i64 r.2.2.2.2.2.2.2.2.2.2.2.2.2.2.2.2.2.1), .pv (.int .i64 r.2.2.2.2.2.2.2.2.2.2.2.2.2.2.2.2.2.2.1), .pv (.int .i64 r.2.2.2.2.2.2.2.2.2.2.2.2.2.2.2.2.2.2.2.1), .pv (.vs 13 (List.map eGVar r.2.2.2.2.2.2.2.2.2.2.2.2.2.2.2.2.2.2.2.2.1)), .pv (.vs 13 (List.map eGVar r.2.2.2.2.2.2.2.2.2.2.2.2.2.2.2.2.2.2.2.2.2.1)), .ls 3, .pv (.int .i64 r.2.2.2.2.2.2.2.2.2.2.2.2.2.2.2.2.2.2.2.2.2.2.2.1), .pv (.vs 13 (List.map eGVar r.2.2.2.2.2.2.2.2.2.2.2.2.2.2.2.2.2.2.2.2.2.2.2.2.1)), .pv (.vs 1 (List.map eS r.2.2.2.2.2.2.2.2.2.2.2.2.2.2.2.2.2.2.2.2.2.2.2.2.2.1)), .pv (.int .i64 r.2.2.2.2.2.2.2.2.2.2.2.2.2.2.2.2.2.2.2.2.2.2.2.2.2.2.1), .pv (.int .i64 r.2.2.2.2.2.2.2.2.2.2.2.2.2.2.2.2.2.2.2.2.2.2.2.2.2.2.2.1), .pv (.int .i64 r.2.2.2.2.2.2.2.2.2.2.2.2.2.2.2.2.2.2.2.2.2.2.2.2.2.2.2.2)]] [(0, some (.box 153 [.pv (.str r.1), .pv (.vs 1 (List.map eS r.2.1)), .pv (.str r.2.2.1), .pv (.vs 2 (List.map eGOwner r.2.2.2.1)), .ls 1, .ls 2, .pv (.int .i64 r.2.2.2.2.2.2.1), .pv (.str r.2.2.2.2.2.2.2.1), .pv (.bool r.2.2.2.2.2.2.2.2.1), .pv (.int .i64 r.2.2.2.2.2.2.2.2.2.1), .pv (.str r.2.2.2.2.2.2.2.2.2.2.1), .pv (.int .i64 r.2.2.2.2.2.2.2.2.2.2.2.1), .pv (.int .i64 r.2.2.2.2.2.2.2.2.2.2.2.2.1), .pv (.int .i64 r.2.2.2.2.2.2.2.2.2.2.2.2.2.1), .pv (.int .i64 r.2.2.2.2.2.2.2.2.2.2.2.2.2.2.1), .pv (.int .i64 r.2.2.2.2.2.2.2.2.2.2.2.2.2.2.2.1), .pv (.int .i64 r.2.2.2.2.2.2.2.2.2.2.2.2.2.2.2.2.1), .pv (.int .i64 r.2.2.2.2.2.2.2.2.2.2.2.2.2.2.2.2.2.1), .pv (.int .i64 r.2.2.2.2.2.2.2.2.2.2.2.2.2.2.2.2.2.2.1), .pv (.int .i64 r.2.2.2.2.2.2.2.2.2.2.2.2.2.2.2.2.2.2.2.1), .pv (.vs 13 (List.map eGVar r.2.2.2.2.2.2.2.2.2.2.2.2.2.2.2.2.2.2.2.2.1)), .pv (.vs 13 (List.map eGVar r.2.2.2.2.2.2.2.2.2.2.2.2.2.2.2.2.2.2.2.2.2.1)), .ls 3, .pv (.int .i64 r.2.2.2.2.2.2.2.2.2.2.2.2.2.2.2.2.2.2.2.2.2.2.2.1), .pv (.vs 13 (List.map eGVar r.2.2.2.2.2.2.2.2.2.2.2.2.2.2.2.2.2.2.2.2.2.2.2.2.1)), .pv (.vs 1 (List.map eS r.2.2.2.2.2.2.2.2.2.2.2.2.2.2.2.2.2.2.2.2.2.2.2.2.2.1)), .pv (.int .i64 r.2.2.2.2.2.2.2.2.2.2.2.2.2.2.2.2.2.2.2.2.2.2.2.2.2.2.1), .pv (.int .i64 r.2.2.2.2.2.2.2.2.2.2.2.2.2.2.2.2.2.2.2.2.2.2.2.2.2.2.2.1), .pv (.int .i64 r.2.2.2.2.2.2.2.2.2.2.2.2.2.2.2.2.2.2.2.2.2.2.2.2.2.2.2.2)])), (1, some (.row 66 13 (List.map eGVar r.2.2.2.2.1))), (2, some (.row 40 17 (List.map eGMethod r.2.2.2.2.2.1))), (3, some (.row 48 23 (eLGStmt r.2.2.2.2.2.2.2.2.2.2.2.2.2.2.2.2.2.2.2.2.2.2.1)))] 4 := by
 unfold ref09_member at hF
 refine fnW_of_body (n := 131) (m := 2) [] Tryz.func104 rfl rfl rfl ?_
 intro c w O θ hcx
 refine go ?_
 refine rgp (bo 2) ?_
 refine rgp (al 3 (eGGot_ref09 zGGot_ref09) zer_153) ?_
 iterate 4 refine go ?_
 obtain ⟨y3, h4, hF⟩ := bs hF
 refine rgp (cl 4 [.vs 3 (List.map eGToken a0), .int .i64 a1] [.p (.agg (eGToken y3))] (ref09_tok_ok h4)) ?_
 refine rgp (op_field1 (p := .int .i64 y3.fAt) rfl rfl ftb_149_2 one_3 rfl rfl rfl) ?_
 iterate 6 refine go ?_
 obtain ⟨y7, h8, hF⟩ := bs hF
 refine rgp (cl 4 [.vs 3 (List.map eGToken a0), .int .i64 a1, .str [112, 117, 114, 101]] [.p (.bool y7)] (ref09_is_ok h8)) ?_
 refine rgp (op_buildM (zs := [.str zGMethod.fName, .bool zGMethod.fPure, .int .i64 zGMethod.fRet.fKind, .str zGMethod.fRet.fClass, .int .i64 zGMethod.fRet.fN, .int .i64 zGMethod.fRet.fOwn.a0.fKind, .int .i64 zGMethod.fRet.fOwn.a0.fN, .int .i64 zGMethod.fRet.fOwn.a1.fKind, .int .i64 zGMethod.fRet.fOwn.a1.fN, .int .i64 zGMethod.fRet.fOwn.a2.fKind, .int .i64 zGMethod.fRet.fOwn.a2.fN, .int .i64 zGMethod.fRet.fOwn.a3.fKind, .int .i64 zGMethod.fRet.fOwn.a3.fN, .vs 13 (List.map eGVar zGMethod.fParams), .vs 13 (List.map eGVar zGMethod.fLocals), .nils, .int .i64 zGMethod.fAt]) (r := [.pv (.str zGMethod.fName), .pv (.bool y7), .pv (.int .i64 zGMethod.fRet.fKind), .pv (.str zGMethod.fRet.fClass), .pv (.int .i64 zGMethod.fRet.fN), .pv (.int .i64 zGMethod.fRet.fOwn.a0.fKind), .pv (.int .i64 zGMethod.fRet.fOwn.a0.fN), .pv (.int .i64 zGMethod.fRet.fOwn.a1.fKind), .pv (.int .i64 zGMethod.fRet.fOwn.a1.fN), .pv (.int .i64 zGMethod.fRet.fOwn.a2.fKind), .pv (.int .i64 zGMethod.fRet.fOwn.a2.fN), .pv (.int .i64 zGMethod.fRet.fOwn.a3.fKind), .pv (.int .i64 zGMethod.fRet.fOwn.a3.fN), .pv (.vs 13 (List.map eGVar zGMethod.fParams)), .pv (.vs 13 (List.map eGVar zGMethod.fLocals)), .pv .nils, .pv (.int .i64 y3.fAt)]) rfl zer_40 (by exact ⟨rfl, rfl, rfl, rfl, rfl, rfl, rfl, rfl, rfl, rfl, rfl, rfl, rfl, trivial, trivial, rfl, rfl, trivial⟩) plc_40 rfl rfl rfl rfl) ?_
 refine rgp (al 4 (eGMethod zGMethod) zer_40) ?_
 refine go ?_
 refine reg_imp (imp_nil_box 4 15 40 48 23 5 rfl rfl rfl) ?_
 iterate 6 refine go ?_
 refine cnd hF (fun hb9 hF => ?_) fun hb9 hF => ?_
 ·cases hF
 iterate 7 refine go ?_
 obtain ⟨y12, h13, hF⟩ := bs hF
 refine rgp (cl 6 [.vs 3 (List.map eGToken a0), .int .i64 a1, .vs 1 (List.map eS a2_1), .bool true] [.p (.agg (eGGot_ref07 y12))] (ref07_Parse_ok h13)) ?_
 refine rgp (al 6 (eGGot_ref07 zGGot_ref07) zer_216) ?_
 iterate 9 refine go ?_
 refine cnd hF (fun hb14 hF => ?_) fun hb14 hF => ?_
 ·cases hF
 iterate 6 refine go ?_
 obtain ⟨y17, h18, hF⟩ := bs hF
 refine rgp (cl 7 [.vs 3 (List.map eGToken a0), .int .i64 y12.fNext] [.p (.agg (eGToken y17))] (ref09_tok_ok h18)) ?_
 refine rgp (al 7 (eGToken zGToken) zer_149) ?_
 iterate 8 refine go ?_
 refine cnd hF (fun hb19 hF => ?_) fun hb19 hF => ?_
 ·cases hF
 iterate 4 refine go ?_
 refine rgp (la (eGType y12.fT) agg_37) ?_
 iterate 14 refine go ?_
 refine reg_nil ?_
 refine piz (sX 131 [pf 0 (.vs 3 (List.map eGToken a0)), pf 1 (.int .i64 (w_i64 (y12.fNext + 1))), pf 3 (.int .i64 a3), (6, some (.lp 0 0)), (8, some (.lp 3 0)), (10, some (.lp 4 0))] [(0, some (.box 32 [.pv (.str a2_0), .pv (.vs 1 (List.map eS a2_1)), .pv (.str a2_2), .pv (.vs 2 (List.map eGOwner a2_3)), .ls 1, .ls 2, .pv (.int .i64 a2_6)])), (1, some (.row 66 13 (List.map eGVar b0))), (2, some (.row 40 17 (List.map eGMethod b1))), bf 3 153 (eGGot_ref09 zGGot_ref09), (4, some (.box 40 [.pv (.str y17.fText), .pv (.bool y7), .pv (.int .i64 y12.fT.fKind), .pv (.str y12.fT.fClass), .pv (.int .i64 y12.fT.fN), .pv (.int .i64 y12.fT.fOwn.a0.fKind), .pv (.int .i64 y12.fT.fOwn.a0.fN), .pv (.int .i64 y12.fT.fOwn.a1.fKind), .pv (.int .i64 y12.fT.fOwn.a1.fN), .pv (.int .i64 y12.fT.fOwn.a2.fKind), .pv (.int .i64 y12.fT.fOwn.a2.fN), .pv (.int .i64 y12.fT.fOwn.a3.fKind), .pv (.int .i64 y12.fT.fOwn.a3.fN), .pv (.vs 13 (List.map eGVar zGMethod.fParams)), .pv (.vs 13 (List.map eGVar zGMethod.fLocals)), .ls 5, .pv (.int .i64 y3.fAt)])), (5, some (.row 48 23 (eLGStmt [])))] 6) [2, 0, 1, 3, 4, 5] ?_
 iterate 5 refine go ?_
 obtain ⟨y22, h23, hF⟩ := bs hF
 refine rgp (cl 6 [.vs 3 (List.map eGToken a0), .int .i64 (w_i64 (y12.fNext + 1)), .str [40]] [.p (.bool y22)] (ref09_is_ok h23)) ?_
 refine go ?_
 refine cnd hF (fun hb24 hF => ?_) fun hb24 hF => ?_
 ·iterate 4 refine go ?_
  refine rgp (op_len_ls (n := b1.length) rfl rfl rfl (List.length_map ..) slc_30 rfl rfl) ?_
  iterate 2 refine go ?_
  refine cnd hF (fun hb25 hF => ?_) fun hb25 hF => ?_
  ·cases hF
  iterate 7 refine go ?_
  refine rgp (op_load_lp_aggM (cs := [.pv (.str y17.fText), .pv (.bool y7), .pv (.int .i64 y12.fT.fKind), .pv (.str y12.fT.fClass), .pv (.int .i64 y12.fT.fN), .pv (.int .i64 y12.fT.fOwn.a0.fKind), .pv (.int .i64 y12.fT.fOwn.a0.fN), .pv (.int .i64 y12.fT.fOwn.a1.fKind), .pv (.int .i64 y12.fT.fOwn.a1.fN), .pv (.int .i64 y12.fT.fOwn.a2.fKind), .pv (.int .i64 y12.fT.fOwn.a2.fN), .pv (.int .i64 y12.fT.fOwn.a3.fKind), .pv (.int .i64 y12.fT.fOwn.a3.fN), .pv (.vs 13 (List.map eGVar zGMethod.fParams)), .pv (.vs 13 (List.map eGVar zGMethod.fLocals)), .ls 5, .pv (.int .i64 y3.fAt)]) rfl rfl rfl rfl rfl agg_40 rfl rfl) ?_
  refine go ?_
  obtain ⟨y28, h29, hF⟩ := bs hF
  refine rgp (op_callW (args := [.pv (.vs 3 (List.map eGToken a0)), .pv (.int .i64 (w_i64 (y12.fNext + 1))), .pv (.vs 1 (List.map eS a2_1)), .agg [.pv (.str y17.fText), .pv (.bool y7), .pv (.int .i64 y12.fT.fKind), .pv (.str y12.fT.fClass), .pv (.int .i64 y12.fT.fN), .pv (.int .i64 y12.fT.fOwn.a0.fKind), .pv (.int .i64 y12.fT.fOwn.a0.fN), .pv (.int .i64 y12.fT.fOwn.a1.fKind), .pv (.int .i64 y12.fT.fOwn.a1.fN), .pv (.int .i64 y12.fT.fOwn.a2.fKind), .pv (.int .i64 y12.fT.fOwn.a2.fN), .pv (.int .i64 y12.fT.fOwn.a3.fKind), .pv (.int .i64 y12.fT.fOwn.a3.fN), .pv (.vs 13 (List.map eGVar zGMethod.fParams)), .pv (.vs 13 (List.map eGVar zGMethod.fLocals)), .ls 0, .pv (.int .i64 y3.fAt)], .pv (.int .i64 a3)]) [5] [6] [5] 7 rfl rfl rfl rfl rfl cal_130 (ref09_method_ok h29) rfl (by decide) ⟨rfl, trivial⟩ rfl (by decide) ⟨.inr rfl, trivial⟩ (by kernel_rfl) (by kernel_rfl) rfl rfl rfl rfl) ?_
  refine reg_imp (imp_any 4 15 rfl) ?_
  refine rgp (al 7 (eGGot_ref09 zGGot_ref09) zer_153) ?_
  iterate 9 refine go ?_
  refine cnd hF (fun hb30 hF => ?_) fun hb30 hF => ?_
  ·cases hF
  iterate 6 refine go ?_
  refine rgp (la (eGMethod y28.fM) agg_40) ?_
  refine rgp (op_lit (rows := List.map eGMethod ([y28.fM] : List GMethod)) (zs := (eGMethod zGMethod)) rfl rfl slc_30 zer_40 (by exact ⟨rfl, rfl, rfl, rfl, rfl, rfl, rfl, rfl, rfl, rfl, rfl, rfl, rfl, trivial, trivial, trivial, rfl, trivial⟩) rfl rfl rfl rfl rfl rfl rfl rfl) ?_
  obtain ⟨u33, h34, hF⟩ := bs hF
  refine rgp (op_append 8 rfl rfl rfl rfl rfl slc_30 elm_40 zer_40 rfl rfl rfl (room_map (f := eGMethod) (g := eGMethod) h34) (List.map_append (f := eGMethod) (l₁ := b1) (l₂ := [y28.fM])).symm rfl rfl) ?_
  refine reg_imp (imp_any 0 5 rfl) ?_
  iterate 4 refine go ?_
  refine rgp (op_load_lp_aggM (cs := [.pv (.str a2_0), .pv (.vs 1 (List.map eS a2_1)), .pv (.str a2_2), .pv (.vs 2 (List.map eGOwner a2_3)), .ls 1, .ls 8, .pv (.int .i64 a2_6)]) rfl rfl rfl rfl rfl agg_32 rfl rfl) ?_
  iterate 2 refine go ?_
  refine rgp (op_buildM (zs := [.str zGGot_ref09.fC.fName, .vs 1 (List.map eS zGGot_ref09.fC.fParams), .str zGGot_ref09.fC.fSuper, .vs 2 (List.map eGOwner zGGot_ref09.fC.fAbove), .nils, .nils, .int .i64 zGGot_ref09.fC.fAt, .str zGGot_ref09.fM.fName, .bool zGGot_ref09.fM.fPure, .int .i64 zGGot_ref09.fM.fRet.fKind, .str zGGot_ref09.fM.fRet.fClass, .int .i64 zGGot_ref09.fM.fRet.fN, .int .i64 zGGot_ref09.fM.fRet.fOwn.a0.fKind, .int .i64 zGGot_ref09.fM.fRet.fOwn.a0.fN, .int .i64 zGGot_ref09.fM.fRet.fOwn.a1.fKind, .int .i64 zGGot_ref09.fM.fRet.fOwn.a1.fN, .int .i64 zGGot_ref09.fM.fRet.fOwn.a2.fKind, .int .i64 zGGot_ref09.fM.fRet.fOwn.a2.fN, .int .i64 zGGot_ref09.fM.fRet.fOwn.a3.fKind, .int .i64 zGGot_ref09.fM.fRet.fOwn.a3.fN, .vs 13 (List.map eGVar zGGot_ref09.fM.fParams), .vs 13 (List.map eGVar zGGot_ref09.fM.fLocals), .nils, .int .i64 zGGot_ref09.fM.fAt, .vs 13 (List.map eGVar zGGot_ref09.fV), .vs 1 (List.map eS zGGot_ref09.fN), .int .i64 zGGot_ref09.fNext, .int .i64 zGGot_ref09.fF.fErr, .int .i64 zGGot_ref09.fF.fAt]) (r := [.pv (.str a2_0), .pv (.vs 1 (List.map eS a2_1)), .pv (.str a2_2), .pv (.vs 2 (List.map eGOwner a2_3)), .ls 1, .ls 8, .pv (.int .i64 a2_6), .pv (.str zGGot_ref09.fM.fName), .pv (.bool zGGot_ref09.fM.fPure), .pv (.int .i64 zGGot_ref09.fM.fRet.fKind), .pv (.str zGGot_ref09.fM.fRet.fClass), .pv (.int .i64 zGGot_ref09.fM.fRet.fN), .pv (.int .i64 zGGot_ref09.fM.fRet.fOwn.a0.fKind), .pv (.int .i64 zGGot_ref09.fM.fRet.fOwn.a0.fN), .pv (.int .i64 zGGot_ref09.fM.fRet.fOwn.a1.fKind), .pv (.int .i64 zGGot_ref09.fM.fRet.fOwn.a1.fN), .pv (.int .i64 zGGot_ref09.fM.fRet.fOwn.a2.fKind), .pv (.int .i64 zGGot_ref09.fM.fRet.fOwn.a2.fN), .pv (.int .i64 zGGot_ref09.fM.fRet.fOwn.a3.fKind), .pv (.int .i64 zGGot_ref09.fM.fRet.fOwn.a3.fN), .pv (.vs 13 (List.map eGVar zGGot_ref09.fM.fParams)), .pv (.vs 13 (List.map eGVar zGGot_ref09.fM.fLocals)), .pv .nils, .pv (.int .i64 zGGot_ref09.fM.fAt), .pv (.vs 13 (List.map eGVar zGGot_ref09.fV)), .pv (.vs 1 (List.map eS zGGot_ref09.fN)), .pv (.int .i64 y28.fNext), .pv (.int .i64 zGGot_ref09.fF.fErr), .pv (.int .i64 zGGot_ref09.fF.fAt)]) rfl zer_153 (by exact ⟨rfl, trivial, rfl, trivial, rfl, rfl, rfl, rfl, rfl, rfl, rfl, rfl, rfl, rfl, rfl, rfl, rfl, rfl, rfl, rfl, trivial, trivial, rfl, rfl, trivial, trivial, rfl, rfl, rfl, trivial⟩) plc_153 rfl rfl rfl rfl) ?_
  refine go ?_
  refine reg_imp (imp_nil_box 3 22 153 48 23 9 rfl rfl rfl) ?_
  iterate 3 refine go ?_
  refine piz (sX 131 [(8, some (.lp 0 0))] [(0, some (.box 153 [.pv (.str a2_0), .pv (.vs 1 (List.map eS a2_1)), .pv (.str a2_2), .pv (.vs 2 (List.map eGOwner a2_3)), .ls 1, .ls 2, .pv (.int .i64 a2_6), .pv (.str zGGot_ref09.fM.fName), .pv (.bool zGGot_ref09.fM.fPure), .pv (.int .i64 zGGot_ref09.fM.fRet.fKind), .pv (.str zGGot_ref09.fM.fRet.fClass), .pv (.int .i64 zGGot_ref09.fM.fRet.fN), .pv (.int .i64 zGGot_ref09.fM.fRet.fOwn.a0.fKind), .pv (.int .i64 zGGot_ref09.fM.fRet.fOwn.a0.fN), .pv (.int .i64 zGGot_ref09.fM.fRet.fOwn.a1.fKind), .pv (.int .i64 zGGot_ref09.fM.fRet.fOwn.a1.fN), .pv (.int .i64 zGGot_ref09.fM.fRet.fOwn.a2.fKind), .pv (.int .i64 zGGot_ref09.fM.fRet.fOwn.a2.fN), .pv (.int .i64 zGGot_ref09.fM.fRet.fOwn.a3.fKind), .pv (.int .i64 zGGot_ref09.fM.fRet.fOwn.a3.fN), .pv (.vs 13 (List.map eGVar zGGot_ref09.fM.fParams)), .pv (.vs 13 (List.map eGVar zGGot_ref09.fM.fLocals)), .ls 3, .pv (.int .i64 zGGot_ref09.fM.fAt), .pv (.vs 13 (List.map eGVar zGGot_ref09.fV)), .pv (.vs 1 (List.map eS zGGot_ref09.fN)), .pv (.int .i64 y28.fNext), .pv (.int .i64 zGGot_ref09.fF.fErr), .pv (.int .i64 zGGot_ref09.fF.fAt)])), (1, some (.row 66 13 (List.map eGVar b0))), (2, some (.row 40 17 (List.map eGMethod (b1 ++ [y28.fM])))), (3, some (.row 48 23 (eLGStmt [])))] 4) [3, 1, 8, 9] ?_
  cases hF
  exact post_retW hcx rfl (.cons _ _ _ _ (.aggM _ _ _ _ _ 29 _ _ rfl rfl agg_153 rfl rfl) .nil) rfl (.inl rfl)
 cases hF
theorem ref09_class_ok {a0 : List GToken} {a1 : Int} {a2 : Int} {r : GGot_ref09} (hF : ref09_class a0 a1 a2 = some r) : FZ 72 [.vs 3 (List.map eGToken a0), .int .i64 a1, .int .i64 a2] [.p (.agg (eGGot_ref09 r))] := by
 unfold ref09_class at hF
 refine fn_of_body (n := 100) Tryz.func72 rfl rfl rfl fun w O => ?_
 refine go ?_
 refine rgp (al 0 (eGGot_ref09 zGGot_ref09) zer_153) ?_
 iterate 4 refine go ?_
 obtain ⟨y3, h4, hF⟩ := bs hF
 refine rgp (cl 1 [.vs 3 (List.map eGToken a0), .int .i64 a1] [.p (.agg (eGToken y3))] (ref09_tok_ok h4)) ?_
 refine rgp (op_field1 (p := .int .i64 y3.fAt) rfl rfl ftb_149_2 one_3 rfl rfl rfl) ?_
 refine rgp (op_buildM (zs := [.str zGClass.fName, .vs 1 (List.map eS zGClass.fParams), .str zGClass.fSuper, .vs 2 (List.map eGOwner zGClass.fAbove), .nils, .nils, .int .i64 zGClass.fAt]) (r := [.pv (.str zGClass.fName), .pv (.vs 1 (List.map eS zGClass.fParams)), .pv (.str zGClass.fSuper), .pv (.vs 2 (List.map eGOwner zGClass.fAbove)), .pv .nils, .pv .nils, .pv (.int .i64 y3.fAt)]) rfl zer_32 (by exact ⟨rfl, trivial, rfl, trivial, rfl, rfl, rfl, trivial⟩) plc_32 rfl rfl rfl rfl) ?_
 refine rgp (al 1 (eGClass zGClass) zer_32) ?_
 refine go ?_
 refine reg_imp (imp_nil_box 1 4 32 66 13 2 rfl rfl rfl) ?_
 refine reg_imp (imp_nil_box 1 5 32 40 17 3 rfl rfl rfl) ?_
 iterate 6 refine go ?_
 obtain ⟨y7, h8, hF⟩ := bs hF
 refine rgp (cl 4 [.vs 3 (List.map eGToken a0), .int .i64 (w_i64 (a1 + 1))] [.p (.agg (eGToken y7))] (ref09_tok_ok h8)) ?_
 refine rgp (op_field1 (p := .int .i64 y7.fKind) rfl rfl ftb_149_0 one_3 rfl rfl rfl) ?_
 iterate 2 refine go ?_
 refine cnd hF (fun hb9 hF => ?_) fun hb9 hF => ?_
 ·cases hF
 iterate 6 refine go ?_
 obtain ⟨y12, h13, hF⟩ := bs hF
 refine rgp (cl 4 [.vs 3 (List.map eGToken a0), .int .i64 (w_i64 (a1 + 1))] [.p (.agg (eGToken y12))] (ref09_tok_ok h13)) ?_
 refine rgp (op_field1 (p := .str y12.fText) rfl rfl ftb_149_1 one_9 rfl rfl rfl) ?_
 iterate 12 refine go ?_
 obtain ⟨y16, h17, hF⟩ := bs hF
 refine rgp (cl 4 [.vs 3 (List.map eGToken a0), .int .i64 (w_i64 (a1 + 2)), .str [60]] [.p (.bool y16)] (ref09_is_ok h17)) ?_
 refine go ?_
 refine cnd hF (fun hb18 hF => ?_) fun hb18 hF => ?_
 ·cases hF
 iterate 6 refine go ?_
 obtain ⟨y21, h22, hF⟩ := bs hF
 refine rgp (cl 4 [.vs 3 (List.map eGToken a0), .int .i64 (w_i64 (a1 + 2)), .str [101, 120, 116, 101, 110, 100, 115]] [.p (.bool y21)] (ref09_is_ok h22)) ?_
 refine go ?_
 refine cnd hF (fun hb23 hF => ?_) fun hb23 hF => ?_
 ·cases hF
 iterate 6 refine go ?_
 obtain ⟨y26, h27, hF⟩ := bs hF
 refine rgp (cl 4 [.vs 3 (List.map eGToken a0), .int .i64 (w_i64 (a1 + 2)), .str [123]] [.p (.bool y26)] (ref09_is_ok h27)) ?_
 iterate 2 refine go ?_
 refine cnd hF (fun hb28 hF => ?_) fun hb28 hF => ?_
 ·cases hF
 iterate 7 refine go ?_
 refine aw_seq ?_
 obtain ⟨lr103, hF, hK104⟩ := bs hF
 refine aw_for (a0.length + 64) (fun s1 => s1 = (sX 100 [pf 1 (.int .i64 lr103.1), (6, some (.lp 0 0)), (7, some (.lp 1 0))] [bf 0 153 (eGGot_ref09 zGGot_ref09), (1, some (.box 32 [.pv (.str lr103.2.1), .pv (.vs 1 (List.map eS lr103.2.2.1)), .pv (.str lr103.2.2.2.1), .pv (.vs 2 (List.map eGOwner lr103.2.2.2.2.1)), .ls 2, .ls 3, .pv (.int .i64 lr103.2.2.2.2.2.2.2)])), (2, some (.row 66 13 (List.map eGVar lr103.2.2.2.2.2.1))), (3, some (.row 40 17 (List.map eGMethod lr103.2.2.2.2.2.2.1)))] 4)) ?_ ?_
 ·refine rnd_loop (α := Int × (List UInt8) × (List (List UInt8)) × (List UInt8) × (List GOwner) × (List GVar) × (List GMethod) × Int) (fun q => (sX 100 [pf 0 (.vs 3 (List.map eGToken a0)), pf 1 (.int .i64 q.1), pf 2 (.int .i64 a2), (6, some (.lp 0 0)), (7, some (.lp 1 0))] [bf 0 153 (eGGot_ref09 zGGot_ref09), (1, some (.box 32 [.pv (.str q.2.1), .pv (.vs 1 (List.map eS q.2.2.1)), .pv (.str q.2.2.2.1), .pv (.vs 2 (List.map eGOwner q.2.2.2.2.1)), .ls 2, .ls 3, .pv (.int .i64 q.2.2.2.2.2.2.2)])), (2, some (.row 66 13 (List.map eGVar q.2.2.2.2.2.1))), (3, some (.row 40 17 (List.map eGMethod q.2.2.2.2.2.2.1)))] 4)) (fun k q => ref09_class_L1 a0 a2 k q.1 q.2.1 q.2.2.1 q.2.2.2.1 q.2.2.2.2.1 q.2.2.2.2.2.1 q.2.2.2.2.2.2.1 q.2.2.2.2.2.2.2 = some lr103) (w_i64 ((w_i64 (a1 + 2)) + 1), y12.fText, zGClass.fParams, zGClass.fSuper, zGClass.fAbove, [], [], y3.fAt) (impz [0, 1, 2, 3]) hF (fun q h => by cases h) ?_
  clear hF
  rintro k ⟨x43, x44, x45, x46, x47, x48, x49, x50⟩ hF ih
  refine rnd_succ ?_
  iterate 4 refine go ?_
  obtain ⟨y75, h76, hF⟩ := bs hF
  refine rgp (cl 4 [.vs 3 (List.map eGToken a0), .int .i64 x43, .str [125]] [.p (.bool y75)] (ref09_is_ok h76)) ?_
  iterate 2 refine go ?_
  refine cnd hF (fun hb77 hF => ?_) fun hb77 hF => ?_
  ·iterate 2 refine go ?_
   refine aw_block ?_
   refine aw_seq ?_
   refine aw_imp (imp_names 5) ?_
   refine dr_start ⟨_, _, _⟩ rfl ?_
   iterate 2 refine dgo ?_
   refine dr_cons { need := [(7, .lp 1 0)], hneed := [(1, .box 32 [.pv (.str x44), .pv (.vs 1 (List.map eS x45)), .pv (.str x46), .pv (.vs 2 (List.map eGOwner x47)), .ls 2, .ls 3, .pv (.int .i64 x50)])], dst := some 81, val := some (.agg [.pv (.str x44), .pv (.vs 1 (List.map eS x45)), .pv (.str x46), .pv (.vs 2 (List.map eGOwner x47)), .ls 2, .ls 3, .pv (.int .i64 x50)]) } (fun m h => step_on (guard_no rfl) (op_load_lp_aggM (cs := [.pv (.str x44), .pv (.vs 1 (List.map eS x45)), .pv (.str x46), .pv (.vs 2 (List.map eGOwner x47)), .ls 2, .ls 3, .pv (.int .i64 x50)]) rfl h.1.1 h.2.1.1 rfl rfl agg_32 rfl rfl) rfl) ⟨⟨rfl, trivial⟩, ⟨rfl, trivial⟩, trivial⟩ ?_
   refine dgo ?_
   refine dr_cons { need := [(7, .lp 1 0)], hneed := [(1, .box 32 [.pv (.str x44), .pv (.vs 1 (List.map eS x45)), .pv (.str x46), .pv (.vs 2 (List.map eGOwner x47)), .ls 2, .ls 3, .pv (.int .i64 x50)])], dst := some 83, val := some (.agg [.pv (.str x44), .pv (.vs 1 (List.map eS x45)), .pv (.str x46), .pv (.vs 2 (List.map eGOwner x47)), .ls 2, .ls 3, .pv (.int .i64 x50)]) } (fun m h => step_on (guard_no rfl) (op_load_lp_aggM (cs := [.pv (.str x44), .pv (.vs 1 (List.map eS x45)), .pv (.str x46), .pv (.vs 2 (List.map eGOwner x47)), .ls 2, .ls 3, .pv (.int .i64 x50)]) rfl h.1.1 h.2.1.1 rfl rfl agg_32 rfl rfl) rfl) ⟨⟨rfl, trivial⟩, ⟨rfl, trivial⟩, trivial⟩ ?_
   obtain ⟨y82, h83, hF⟩ := bs hF
   refine dr_cons { need := [(83, .agg [.pv (.str x44), .pv (.vs 1 (List.map eS x45)), .pv (.str x46), .pv (.vs 2 (List.map eGOwner x47)), .ls 2, .ls 3, .pv (.int .i64 x50)])], hneed := [(2, .row 66 13 (List.map eGVar x48)), (3, .row 40 17 (List.map eGMethod x49))], dst := some 84, val := some (.pv (.int .i64 y82)) } (fun m h => step_on (guard_no rfl) (op_callB 9 rfl (caps := []) (args := [.agg (eGClass ({ fName := x44, fParams := x45, fSuper := x46, fAbove := x47, fFields := x48, fMethods := x49, fAt := x50 } : GClass))]) [(2, some (.row 66 13 (List.map eGVar x48))), (3, some (.row 40 17 (List.map eGMethod x49)))] rfl rfl (evl_cons h.1.1 evl_nil) (FzH.spec ⟨h.2.1.1, h.2.1.2.1, trivial⟩) rfl rfl cal_34 (ref09_Stmts_ok h83) rfl rfl rfl) rfl) ⟨⟨rfl, trivial⟩, ⟨rfl, rfl, trivial⟩, trivial⟩ ?_
   refine dr_cons { need := [(82, .pv (.int .i64 a2)), (84, .pv (.int .i64 y82))], dst := some 85, val := some (.pv (.int .i64 (w_i64 (a2 + y82)))) } (fun m h => step_on (guard_no rfl) (op_int (k := .i64) (m := a2) (n := y82) rfl h.1.1 h.1.2.1 rfl rfl rfl) rfl) ⟨⟨rfl, rfl, trivial⟩, trivial, trivial⟩ ?_
   obtain ⟨y84, h85, hF⟩ := bs hF
   refine dr_cons { need := [(85, .pv (.int .i64 (w_i64 (a2 + y82)))), (81, .agg [.pv (.str x44), .pv (.vs 1 (List.map eS x45)), .pv (.str x46), .pv (.vs 2 (List.map eGOwner x47)), .ls 2, .ls 3, .pv (.int .i64 x50)]), (80, .pv (.int .i64 x43)), (79, .pv (.vs 3 (List.map eGToken a0)))], hneed := [(2, .row 66 13 (List.map eGVar x48)), (3, .row 40 17 (List.map eGMethod x49))], names := [4, 5, 6, 7], dst := some 86, val := some (.agg [.pv (.str y84.1), .pv (.vs 1 (List.map eS y84.2.1)), .pv (.str y84.2.2.1), .pv (.vs 2 (List.map eGOwner y84.2.2.2.1)), .ls 5, .ls 6, .pv (.int .i64 y84.2.2.2.2.2.2.1), .pv (.str y84.2.2.2.2.2.2.2.1), .pv (.bool y84.2.2.2.2.2.2.2.2.1), .pv (.int .i64 y84.2.2.2.2.2.2.2.2.2.1), .pv (.str y84.2.2.2.2.2.2.2.2.2.2.1), .pv (.int .i64 y84.2.2.2.2.2.2.2.2.2.2.2.1), .pv (.int .i64 y84.2.2.2.2.2.2.2.2.2.2.2.2.1), .pv (.int .i64 y84.2.2.2.2.2.2.2.2.2.2.2.2.2.1), .pv (.int .i64 y84.2.2.2.2.2.2.2.2.2.2.2.2.2.2.1), .pv (.int .i64 y84.2.2.2.2.2.2.2.2.2.2.2.2.2.2.2.1), .pv (.int .i64 y84.2.2.2.2.2.2.2.2.2.2.2.2.2.2.2.2.1), .pv (.int .i64 y84.2.2.2.2.2.2.2.2.2.2.2.2.2.2.2.2.2.1), .pv (.int .i64 y84.2.2.2.2.2.2.2.2.2.2.2.2.2.2.2.2.2.2.1), .pv (.int .i64 y84.2.2.2.2.2.2.2.2.2.2.2.2.2.2.2.2.2.2.2.1), .pv (.vs 13 (List.map eGVar y84.2.2.2.2.2.2.2.2.2.2.2.2.2.2.2.2.2.2.2.2.1)), .pv (.vs 13 (List.map eGVar y84.2.2.2.2.2.2.2.2.2.2.2.2.2.2.2.2.2.2.2.2.2.1)), .ls 7, .pv (.int .i64 y84.2.2.2.2.2.2.2.2.2.2.2.2.2.2.2.2.2.2.2.2.2.2.2.1), .pv (.vs 13 (List.map eGVar y84.2.2.2.2.2.2.2.2.2.2.2.2.2.2.2.2.2.2.2.2.2.2.2.2.1)), .pv (.vs 1 (List.map eS y84.2.2.2.2.2.2.2.2.2.2.2.2.2.2.2.2.2.2.2.2.2.2.2.2.2.1)), .pv (.int .i64 y84.2.2.2.2.2.2.2.2.2.2.2.2.2.2.2.2.2.2.2.2.2.2.2.2.2.2.1), .pv (.int .i64 y84.2.2.2.2.2.2.2.2.2.2.2.2.2.2.2.2.2.2.2.2.2.2.2.2.2.2.2.1), .pv (.int .i64 y84.2.2.2.2.2.2.2.2.2.2.2.2.2.2.2.2.2.2.2.2.2.2.2.2.2.2.2.2)]), upd := [(4, some (.box 153 [.pv (.str y84.1), .pv (.vs 1 (List.map eS y84.2.1)), .pv (.str y84.2.2.1), .pv (.vs 2 (List.map eGOwner y84.2.2.2.1)), .ls 5, .ls 6, .pv (.int .i64 y84.2.2.2.2.2.2.1), .pv (.str y84.2.2.2.2.2.2.2.1), .pv (.bool y84.2.2.2.2.2.2.2.2.1), .pv (.int .i64 y84.2.2.2.2.2.2.2.2.2.1), .pv (.str y84.2.2.2.2.2.2.2.2.2.2.1), .pv (.int .i64 y84.2.2.2.2.2.2.2.2.2.2.2.1), .pv (.int .i64 y84.2.2.2.2.2.2.2.2.2.2.2.2.1), .pv (.int .i64 y84.2.2.2.2.2.2.2.2.2.2.2.2.2.1), .pv (.int .i64 y84.2.2.2.2.2.2.2.2.2.2.2.2.2.2.1), .pv (.int .i64 y84.2.2.2.2.2.2.2.2.2.2.2.2.2.2.2.1), .pv (.int .i64 y84.2.2.2.2.2.2.2.2.2.2.2.2.2.2.2.2.1), .pv (.int .i64 y84.2.2.2.2.2.2.2.2.2.2.2.2.2.2.2.2.2.1), .pv (.int .i64 y84.2.2.2.2.2.2.2.2.2.2.2.2.2.2.2.2.2.2.1), .pv (.int .i64 y84.2.2.2.2.2.2.2.2.2.2.2.2.2.2.2.2.2.2.2.1), .pv (.vs 13 (List.map eGVar y84.2.2.2.2.2.2.2.2.2.2.2.2.2.2.2.2.2.2.2.2.1)), .pv (.vs 13 (List.map eGVar y84.2.2.2.2.2.2.2.2.2.2.2.2.2.2.2.2.2.2.2.2.2.1)), .ls 7, .pv (.int .i64 y84.2.2.2.2.2.2.2.2.2.2.2.2.2.2.2.2.2.2.2.2.2.2.2.1), .pv (.vs 13 (List.map eGVar y84.2.2.2.2.2.2.2.2.2.2.2.2.2.2.2.2.2.2.2.2.2.2.2.2.1)), .pv (.vs 1 (List.map eS y84.2.2.2.2.2.2.2.2.2.2.2.2.2.2.2.2.2.2.2.2.2.2.2.2.2.1)), .pv (.int .i64 y84.2.2.2.2.2.2.2.2.2.2.2.2.2.2.2.2.2.2.2.2.2.2.2.2.2.2.1), .pv (.int .i64 y84.2.2.2.2.2.2.2.2.2.2.2.2.2.2.2.2.2.2.2.2.2.2.2.2.2.2.2.1), .pv (.int .i64 y84.2.2.2.2.2.2.2.2.2.2.2.2.2.2.2.2.2.2.2.2.2.2.2.2.2.2.2.2)])), (5, some (.row 66 13 (List.map eGVar y84.2.2.2.2.1))), (6, some (.row 40 17 (List.map eGMethod y84.2.2.2.2.2.1))), (7, some (.row 48 23 (eLGStmt y84.2.2.2.2.2.2.2.2.2.2.2.2.2.2.2.2.2.2.2.2.2.2.1))), (2, none), (3, none)] } (fun m h => step_on (guard_no rfl) (op_callW (args := [.pv (.vs 3 (List.map eGToken a0)), .pv (.int .i64 x43), .agg [.pv (.str x44), .pv (.vs 1 (List.map eS x45)), .pv (.str x46), .pv (.vs 2 (List.map eGOwner x47)), .ls 0, .ls 1, .pv (.int .i64 x50)], .pv (.int .i64 (w_i64 (a2 + y82)))]) [2, 3] [4, 5, 6, 7] [2, 3] 9 rfl rfl (evl_cons h.1.2.2.2.1 (evl_cons h.1.2.2.1 (evl_cons h.1.2.1 (evl_cons h.1.1 evl_nil)))) rfl rfl cal_104 (ref09_member_ok h85) rfl (by decide) ⟨h.2.1.1, h.2.1.2.1, trivial⟩ rfl (by decide) ⟨.inr (freshG_free h.2.2.1), .inr (freshG_free h.2.2.2.1), .inr (freshG_free h.2.2.2.2.1), .inr (freshG_free h.2.2.2.2.2.1), trivial⟩ (by kernel_rfl) (by kernel_rfl) rfl rfl rfl rfl) rfl) ⟨⟨rfl, rfl, rfl, rfl, trivial⟩, ⟨rfl, rfl, trivial⟩, ⟨rfl, rfl, rfl, rfl, trivial⟩⟩ ?_
   refine dr_cons { names := [8], dst := some 10, val := some (.lp 8 0), upd := [(8, some (.box 153 (bxv (eGGot_ref09 zGGot_ref09))))] } (fun m h => step_on (guard_no rfl) (op_alloc 8 (fresh_free h.2.2.1) (ps := (eGGot_ref09 zGGot_ref09)) rfl zer_153 (by exact ⟨rfl, trivial, rfl, trivial, trivial, trivial, rfl, rfl, rfl, rfl, rfl, rfl, rfl, rfl, rfl, rfl, rfl, rfl, rfl, rfl, trivial, trivial, trivial, rfl, trivial, trivial, rfl, rfl, rfl, trivial⟩) rfl rfl) rfl) ⟨trivial, trivial, ⟨rfl, trivial⟩⟩ ?_
   refine dr_cons { need := [(10, .lp 8 0), (86, .agg [.pv (.str y84.1), .pv (.vs 1 (List.map eS y84.2.1)), .pv (.str y84.2.2.1), .pv (.vs 2 (List.map eGOwner y84.2.2.2.1)), .ls 5, .ls 6, .pv (.int .i64 y84.2.2.2.2.2.2.1), .pv (.str y84.2.2.2.2.2.2.2.1), .pv (.bool y84.2.2.2.2.2.2.2.2.1), .pv (.int .i64 y84.2.2.2.2.2.2.2.2.2.1), .pv (.str y84.2.2.2.2.2.2.2.2.2.2.1), .pv (.int .i64 y84.2.2.2.2.2.2.2.2.2.2.2.1), .pv (.int .i64 y84.2.2.2.2.2.2.2.2.2.2.2.2.1), .pv (.int .i64 y84.2.2.2.2.2.2.2.2.2.2.2.2.2.1), .pv (.int .i64 y84.2.2.2.2.2.2.2.2.2.2.2.2.2.2.1), .pv (.int .i64 y84.2.2.2.2.2.2.2.2.2.2.2.2.2.2.2.1), .pv (.int .i64 y84.2.2.2.2.2.2.2.2.2.2.2.2.2.2.2.2.1), .pv (.int .i64 y84.2.2.2.2.2.2.2.2.2.2.2.2.2.2.2.2.2.1), .pv (.int .i64 y84.2.2.2.2.2.2.2.2.2.2.2.2.2.2.2.2.2.2.1), .pv (.int .i64 y84.2.2.2.2.2.2.2.2.2.2.2.2.2.2.2.2.2.2.2.1), .pv (.vs 13 (List.map eGVar y84.2.2.2.2.2.2.2.2.2.2.2.2.2.2.2.2.2.2.2.2.1)), .pv (.vs 13 (List.map eGVar y84.2.2.2.2.2.2.2.2.2.2.2.2.2.2.2.2.2.2.2.2.2.1)), .ls 7, .pv (.int .i64 y84.2.2.2.2.2.2.2.2.2.2.2.2.2.2.2.2.2.2.2.2.2.2.2.1), .pv (.vs 13 (List.map eGVar y84.2.2.2.2.2.2.2.2.2.2.2.2.2.2.2.2.2.2.2.2.2.2.2.2.1)), .pv (.vs 1 (List.map eS y84.2.2.2.2.2.2.2.2.2.2.2.2.2.2.2.2.2.2.2.2.2.2.2.2.2.1)), .pv (.int .i64 y84.2.2.2.2.2.2.2.2.2.2.2.2.2.2.2.2.2.2.2.2.2.2.2.2.2.2.1), .pv (.int .i64 y84.2.2.2.2.2.2.2.2.2.2.2.2.2.2.2.2.2.2.2.2.2.2.2.2.2.2.2.1), .pv (.int .i64 y84.2.2.2.2.2.2.2.2.2.2.2.2.2.2.2.2.2.2.2.2.2.2.2.2.2.2.2.2)])], hneed := [(8, .box 153 (bxv (eGGot_ref09 zGGot_ref09)))], upd := [(8, some (.box 153 [.pv (.str y84.1), .pv (.vs 1 (List.map eS y84.2.1)), .pv (.str y84.2.2.1), .pv (.vs 2 (List.map eGOwner y84.2.2.2.1)), .ls 5, .ls 6, .pv (.int .i64 y84.2.2.2.2.2.2.1), .pv (.str y84.2.2.2.2.2.2.2.1), .pv (.bool y84.2.2.2.2.2.2.2.2.1), .pv (.int .i64 y84.2.2.2.2.2.2.2.2.2.1), .pv (.str y84.2.2.2.2.2.2.2.2.2.2.1), .pv (.int .i64 y84.2.2.2.2.2.2.2.2.2.2.2.1), .pv (.int .i64 y84.2.2.2.2.2.2.2.2.2.2.2.2.1), .pv (.int .i64 y84.2.2.2.2.2.2.2.2.2.2.2.2.2.1), .pv (.int .i64 y84.2.2.2.2.2.2.2.2.2.2.2.2.2.2.1), .pv (.int .i64 y84.2.2.2.2.2.2.2.2.2.2.2.2.2.2.2.1), .pv (.int .i64 y84.2.2.2.2.2.2.2.2.2.2.2.2.2.2.2.2.1), .pv (.int .i64 y84.2.2.2.2.2.2.2.2.2.2.2.2.2.2.2.2.2.1), .pv (.int .i64 y84.2.2.2.2.2.2.2.2.2.2.2.2.2.2.2.2.2.2.1), .pv (.int .i64 y84.2.2.2.2.2.2.2.2.2.2.2.2.2.2.2.2.2.2.2.1), .pv (.vs 13 (List.map eGVar y84.2.2.2.2.2.2.2.2.2.2.2.2.2.2.2.2.2.2.2.2.1)), .pv (.vs 13 (List.map eGVar y84.2.2.2.2.2.2.2.2.2.2.2.2.2.2.2.2.2.2.2.2.2.1)), .ls 7, .pv (.int .i64 y84.2.2.2.2.2.2.2.2.2.2.2.2.2.2.2.2.2.2.2.2.2.2.2.1), .pv (.vs 13 (List.map eGVar y84.2.2.2.2.2.2.2.2.2.2.2.2.2.2.2.2.2.2.2.2.2.2.2.2.1)), .pv (.vs 1 (List.map eS y84.2.2.2.2.2.2.2.2.2.2.2.2.2.2.2.2.2.2.2.2.2.2.2.2.2.1)), .pv (.int .i64 y84.2.2.2.2.2.2.2.2.2.2.2.2.2.2.2.2.2.2.2.2.2.2.2.2.2.2.1), .pv (.int .i64 y84.2.2.2.2.2.2.2.2.2.2.2.2.2.2.2.2.2.2.2.2.2.2.2.2.2.2.2.1), .pv (.int .i64 y84.2.2.2.2.2.2.2.2.2.2.2.2.2.2.2.2.2.2.2.2.2.2.2.2.2.2.2.2)]))] } (fun m h => step_on (guard_no rfl) (op_store_lp (n := 29) rfl h.1.1 h.1.2.1 rfl h.2.1.1 (or_agg agg_153) (by rw [non_153]; rfl) rfl rfl rfl) rfl) ⟨⟨rfl, rfl, trivial⟩, ⟨rfl, trivial⟩, trivial⟩ ?_
   refine dr_nil mixed rfl (by kernel_rfl) ?_
   refine post_imp (imp_any 1 4 rfl) ?_
   refine post_imp (imp_any 1 5 rfl) ?_
   refine piz (sX 100 [pf 0 (.vs 3 (List.map eGToken a0)), pf 2 (.int .i64 a2), (6, some (.lp 0 0)), (7, some (.lp 1 0)), (10, some (.lp 2 0))] [bf 0 153 (eGGot_ref09 zGGot_ref09), (1, some (.box 32 [.pv (.str x44), .pv (.vs 1 (List.map eS x45)), .pv (.str x46), .pv (.vs 2 (List.map eGOwner x47)), .any, .any, .pv (.int .i64 x50)])), (2, some (.box 153 [.pv (.str y84.1), .pv (.vs 1 (List.map eS y84.2.1)), .pv (.str y84.2.2.1), .pv (.vs 2 (List.map eGOwner y84.2.2.2.1)), .ls 3, .ls 4, .pv (.int .i64 y84.2.2.2.2.2.2.1), .pv (.str y84.2.2.2.2.2.2.2.1), .pv (.bool y84.2.2.2.2.2.2.2.2.1), .pv (.int .i64 y84.2.2.2.2.2.2.2.2.2.1), .pv (.str y84.2.2.2.2.2.2.2.2.2.2.1), .pv (.int .i64 y84.2.2.2.2.2.2.2.2.2.2.2.1), .pv (.int .i64 y84.2.2.2.2.2.2.2.2.2.2.2.2.1), .pv (.int .i64 y84.2.2.2.2.2.2.2.2.2.2.2.2.2.1), .pv (.int .i64 y84.2.2.2.2.2.2.2.2.2.2.2.2.2.2.1), .pv (.int .i64 y84.2.2.2.2.2.2.2.2.2.2.2.2.2.2.2.1), .pv (.int .i64 y84.2.2.2.2.2.2.2.2.2.2.2.2.2.2.2.2.1), .pv (.int .i64 y84.2.2.2.2.2.2.2.2.2.2.2.2.2.2.2.2.2.1), .pv (.int .i64 y84.2.2.2.2.2.2.2.2.2.2.2.2.2.2.2.2.2.2.1), .pv (.int .i64 y84.2.2.2.2.2.2.2.2.2.2.2.2.2.2.2.2.2.2.2.1), .pv (.vs 13 (List.map eGVar y84.2.2.2.2.2.2.2.2.2.2.2.2.2.2.2.2.2.2.2.2.1)), .pv (.vs 13 (List.map eGVar y84.2.2.2.2.2.2.2.2.2.2.2.2.2.2.2.2.2.2.2.2.2.1)), .ls 5, .pv (.int .i64 y84.2.2.2.2.2.2.2.2.2.2.2.2.2.2.2.2.2.2.2.2.2.2.2.1), .pv (.vs 13 (List.map eGVar y84.2.2.2.2.2.2.2.2.2.2.2.2.2.2.2.2.2.2.2.2.2.2.2.2.1)), .pv (.vs 1 (List.map eS y84.2.2.2.2.2.2.2.2.2.2.2.2.2.2.2.2.2.2.2.2.2.2.2.2.2.1)), .pv (.int .i64 y84.2.2.2.2.2.2.2.2.2.2.2.2.2.2.2.2.2.2.2.2.2.2.2.2.2.2.1), .pv (.int .i64 y84.2.2.2.2.2.2.2.2.2.2.2.2.2.2.2.2.2.2.2.2.2.2.2.2.2.2.2.1), .pv (.int .i64 y84.2.2.2.2.2.2.2.2.2.2.2.2.2.2.2.2.2.2.2.2.2.2.2.2.2.2.2.2)])), (3, some (.row 66 13 (List.map eGVar y84.2.2.2.2.1))), (4, some (.row 40 17 (List.map eGMethod y84.2.2.2.2.2.1))), (5, some (.row 48 23 (eLGStmt y84.2.2.2.2.2.2.2.2.2.2.2.2.2.2.2.2.2.2.2.2.2.2.1)))] 6) [0, 1, 8, 5, 6, 7] ?_
   iterate 8 refine go ?_
   refine cnd hF (fun hb86 hF => ?_) fun hb86 hF => ?_
   ·cases hF
   iterate 4 refine go ?_
   refine rgp (op_load_lp_aggM (cs := [.pv (.str y84.1), .pv (.vs 1 (List.map eS y84.2.1)), .pv (.str y84.2.2.1), .pv (.vs 2 (List.map eGOwner y84.2.2.2.1)), .ls 3, .ls 4, .pv (.int .i64 y84.2.2.2.2.2.2.1)]) rfl rfl rfl rfl rfl agg_32 rfl rfl) ?_
   iterate 6 refine go ?_
   refine reg_nil ?_
   refine piz (sX 100 [pf 0 (.vs 3 (List.map eGToken a0)), pf 1 (.int .i64 y84.2.2.2.2.2.2.2.2.2.2.2.2.2.2.2.2.2.2.2.2.2.2.2.2.2.2.1), pf 2 (.int .i64 a2), (6, some (.lp 0 0)), (7, some (.lp 1 0))] [bf 0 153 (eGGot_ref09 zGGot_ref09), (1, some (.box 32 [.pv (.str y84.1), .pv (.vs 1 (List.map eS y84.2.1)), .pv (.str y84.2.2.1), .pv (.vs 2 (List.map eGOwner y84.2.2.2.1)), .ls 2, .ls 3, .pv (.int .i64 y84.2.2.2.2.2.2.1)])), (2, some (.row 66 13 (List.map eGVar y84.2.2.2.2.1))), (3, some (.row 40 17 (List.map eGMethod y84.2.2.2.2.2.1)))] 4) [0, 1, 3, 4] ?_
   refine go ?_
   refine post_round ?_
   exact rnd_back (ih (y84.2.2.2.2.2.2.2.2.2.2.2.2.2.2.2.2.2.2.2.2.2.2.2.2.2.2.1, y84.1, y84.2.1, y84.2.2.1, y84.2.2.2.1, y84.2.2.2.2.1, y84.2.2.2.2.2.1, y84.2.2.2.2.2.2.1) hF) (impz [0, 1, 2, 3])
  refine aw_exit ?_
  iterate 2 refine post_then_exit ?_
  cases hF
  exact post_lp_break _ rfl (impz [0, 1, 2, 3])
 rintro _ rfl
 have hF := hK104
 obtain ⟨x95, x96, x97, x98, x99, x100, x101, x102⟩ := lr103
 iterate 2 refine go ?_
 refine reg_imp (imp_freeze_in [(2, some (.row 66 13 (List.map eGVar x100)))] [] 1 4 2 (FzH.spec ⟨rfl, trivial⟩) trivial rfl rfl rfl) ?_
 refine reg_imp (imp_freeze_in [(3, some (.row 40 17 (List.map eGMethod x101)))] [] 1 5 3 (FzH.spec ⟨rfl, trivial⟩) trivial rfl rfl rfl) ?_
 refine rgp (la (eGClass ({ fName := x96, fParams := x97, fSuper := x98, fAbove := x99, fFields := x100, fMethods := x101, fAt := x102 } : GClass)) agg_32) ?_
 iterate 2 refine go ?_
 refine rgp (bd ((eGGot_ref09 zGGot_ref09)) (eGGot_ref09 ({ fC := ({ fName := x96, fParams := x97, fSuper := x98, fAbove := x99, fFields := x100, fMethods := x101, fAt := x102 } : GClass), fM := zGMethod, fV := [], fN := [], fNext := w_i64 (x95 + 1), fF := zGFault } : GGot_ref09)) zer_153 plc_153) ?_
 iterate 3 refine go ?_
 cases hF
 exact post_ret rfl rfl (.cons _ _ _ _ _ (.agg _ _ _ _ _ 29 _ _ rfl rfl agg_153 rfl rfl rfl) (.p _) .nil) (.inl rfl)
theorem ref09_Of_ok {a0 : List UInt8} {r : (List GClass) × GFault} (hF : ref09_Of a0 = some r) : FZ 35 [.str a0] [.own 32 7 (List.map eGClass r.1), .p (.agg (eGFault r.2))] := by
 unfold ref09_Of at hF
 refine fn_of_body (n := 65) Tryz.func35 rfl rfl rfl fun w O => ?_
 iterate 2 refine go ?_
 refine rgp (al 0 (eGFault zGFault) zer_73) ?_
 iterate 3 refine go ?_
 obtain ⟨y3, h4, hF⟩ := bs hF
 refine rgp (cl 1 [.str a0] [.p (.vs 3 (List.map eGToken y3.1)), .p (.agg (eGFault y3.2))] (Fn.frozen (ref03_Of_ok h4))) ?_
 refine go ?_
 iterate 2 (refine rgp (op_extract rfl rfl rfl rfl rfl) ?_)
 refine rgp (al 1 (eGFault zGFault) zer_73) ?_
 iterate 9 refine go ?_
 refine cnd hF (fun hb5 hF => ?_) fun hb5 hF => ?_
 ·cases hF
 iterate 4 refine go ?_
 refine reg_imp (imp_nil_own 6 32 7 2 rfl rfl) ?_
 iterate 5 refine go ?_
 refine aw_seq ?_
 obtain ⟨x87, hF, hK88⟩ := bs hF
 refine aw_for (a0.length + 64) (fun s1 => s1 = (sX 65 [(3, some (.lp 0 0)), (6, some (.ls 1))] [bf 0 73 (eGFault zGFault), (1, some (.row 32 7 (List.map eGClass x87)))] 2)) ?_ ?_
 ·refine rnd_loop (α := (List GClass) × Int × Int) (fun q => (sX 65 [(3, some (.lp 0 0)), pf 4 (.vs 3 (List.map eGToken y3.1)), (6, some (.ls 1)), pf 7 (.int .i64 q.2.1), pf 8 (.int .i64 q.2.2)] [bf 0 73 (eGFault zGFault), (1, some (.row 32 7 (List.map eGClass q.1)))] 2)) (fun k q => ref09_Of_L1 y3 k q.1 q.2.1 q.2.2 = some x87) ([], 0, 0) (impz [0, 2]) hF (fun q h => by cases h) ?_
  clear hF
  rintro k ⟨x30, x31, x32⟩ hF ih
  refine rnd_succ ?_
  iterate 4 refine go ?_
  obtain ⟨y62, h63, hF⟩ := bs hF
  refine rgp (cl 2 [.vs 3 (List.map eGToken y3.1), .int .i64 x31] [.p (.agg (eGToken y62))] (ref09_tok_ok h63)) ?_
  refine rgp (op_field1 (p := .int .i64 y62.fKind) rfl rfl ftb_149_0 one_3 rfl rfl rfl) ?_
  iterate 2 refine go ?_
  refine cnd hF (fun hb64 hF => ?_) fun hb64 hF => ?_
  ·iterate 2 refine go ?_
   refine aw_block ?_
   iterate 4 refine go ?_
   obtain ⟨y67, h68, hF⟩ := bs hF
   refine rgp (cl 2 [.vs 3 (List.map eGToken y3.1), .int .i64 x31, .str [99, 108, 97, 115, 115]] [.p (.bool y67)] (ref09_is_ok h68)) ?_
   iterate 2 refine go ?_
   refine cnd hF (fun hb69 hF => ?_) fun hb69 hF => ?_
   ·cases hF
   iterate 5 refine go ?_
   refine rgp (op_len_ls (n := x30.length) rfl rfl rfl (List.length_map ..) slc_22 rfl rfl) ?_
   iterate 2 refine go ?_
   refine cnd hF (fun hb70 hF => ?_) fun hb70 hF => ?_
   ·cases hF
   iterate 6 refine go ?_
   obtain ⟨y73, h74, hF⟩ := bs hF
   refine rgp (cl 2 [.vs 3 (List.map eGToken y3.1), .int .i64 x31, .int .i64 x32] [.p (.agg (eGGot_ref09 y73))] (ref09_class_ok h74)) ?_
   refine rgp (al 2 (eGGot_ref09 zGGot_ref09) zer_153) ?_
   iterate 9 refine go ?_
   refine cnd hF (fun hb75 hF => ?_) fun hb75 hF => ?_
   ·cases hF
   iterate 5 refine go ?_
   refine rgp (la (eGClass y73.fC) agg_32) ?_
   refine rgp (op_lit (rows := List.map eGClass ([y73.fC] : List GClass)) (zs := (eGClass zGClass)) rfl rfl slc_22 zer_32 (by exact ⟨rfl, trivial, rfl, trivial, trivial, trivial, rfl, trivial⟩) rfl rfl rfl rfl rfl rfl rfl rfl) ?_
   obtain ⟨u78, h79, hF⟩ := bs hF
   refine rgp (op_append 3 rfl rfl rfl rfl rfl slc_22 elm_32 zer_32 rfl rfl rfl (room_map (f := eGClass) (g := eGClass) h79) (List.map_append (f := eGClass) (l₁ := x30) (l₂ := [y73.fC])).symm rfl rfl) ?_
   iterate 5 refine go ?_
   refine rgp (la (eGClass y73.fC) agg_32) ?_
   obtain ⟨y82, h83, hF⟩ := bs hF
   refine rgp (cl 4 [.agg (eGClass y73.fC)] [.p (.int .i64 y82)] (ref09_Stmts_ok h83)) ?_
   iterate 7 refine go ?_
   refine reg_nil ?_
   refine piz (sX 65 [(3, some (.lp 0 0)), pf 4 (.vs 3 (List.map eGToken y3.1)), (6, some (.ls 1)), pf 7 (.int .i64 y73.fNext), pf 8 (.int .i64 (w_i64 (x32 + y82)))] [bf 0 73 (eGFault zGFault), (1, some (.row 32 7 (List.map eGClass (x30 ++ [y73.fC]))))] 2) [0, 3] ?_
   refine go ?_
   refine post_round ?_
   exact rnd_back (ih ((x30 ++ [y73.fC]), y73.fNext, w_i64 (x32 + y82)) hF) (impz [0, 1])
  refine aw_exit ?_
  iterate 2 refine post_then_exit ?_
  cases hF
  exact post_lp_break _ rfl (impz [0, 1])
 rintro _ rfl
 have hF := hK88
 iterate 3 refine go ?_
 refine rgp (bd ((eGFault zGFault)) (eGFault ({ fErr := 0, fAt := 0 } : GFault)) zer_73 plc_73) ?_
 iterate 4 refine go ?_
 cases hF
 exact post_ret rfl rfl (.cons _ _ _ _ _ (.tmp _ _ rfl) (.own _ _ _ _ rfl nolent3) (.cons _ _ _ _ _ (.agg _ _ _ _ _ 2 _ _ rfl rfl agg_73 rfl rfl rfl) (.p _) .nil)) (.inl rfl)
theorem slices_Grow_api_Var_ok {a1 : Int} {r : (List GVar)} (hF : slices_Grow_api_Var a1 = some r) : FZ 131 [.nils, .int .i64 a1] [.own 66 13 (List.map eGVar r)] := by
 unfold slices_Grow_api_Var at hF
 refine fn_of_body (n := 27) Tryz.func131 rfl rfl rfl fun w O => ?_
 iterate 2 refine go ?_
 refine reg_imp (imp_nil_own 4 66 13 0 rfl rfl) ?_
 iterate 6 refine go ?_
 refine cnd hF (fun hb1 hF => ?_) fun hb1 hF => ?_
 ·cases hF
 iterate 6 refine go ?_
 refine rgp (op_cap_nils rfl rfl slc_29 rfl rfl) ?_
 refine go ?_
 refine rgp (op_len_nils rfl rfl slc_29 rfl rfl) ?_
 iterate 8 refine go ?_
 refine cnd hF (fun hb2 hF => ?_) fun hb2 hF => ?_
 ·iterate 3 refine go ?_
  refine rgp (op_cap_nils rfl rfl slc_29 rfl rfl) ?_
  refine rgp (op_slice_nils rfl rfl rfl slc_29 rfl rfl) ?_
  refine go ?_
  obtain ⟨u3, h4, hF⟩ := bs hF
  refine rgp (op_append_zeros 1 rfl (k := .i64) (n := w_i64 (a1 - (w_i64 (0 - 0)))) (zs := eGVar zGVar) rfl rfl rfl (zerOk_spec h4).1 (zerOk_spec h4).2 slc_29 und_3 elm_66 rfl zer_66 (by exact ⟨rfl, rfl, rfl, rfl, rfl, rfl, rfl, rfl, rfl, rfl, rfl, rfl, rfl, trivial⟩) rfl rfl (map_rep eGVar _ _) rfl rfl) ?_
  refine go ?_
  refine rgp (op_len_nils rfl rfl slc_29 rfl rfl) ?_
  obtain ⟨y5, h6, hF⟩ := bs hF
  refine rgp (op_slice_own 2 rfl rfl rfl rfl rfl slc_29 (cutL_map eGVar h6) rfl rfl) ?_
  iterate 7 refine go ?_
  cases hF
  exact post_ret rfl rfl (.cons _ _ _ _ _ (.tmp _ _ rfl) (.own _ _ _ _ rfl nolent3) .nil) (.inl rfl)
 iterate 4 refine go ?_
 refine reg_imp (imp_nil_own 26 66 13 1 rfl rfl) ?_
 iterate 3 refine go ?_
 cases hF
 exact post_ret rfl rfl (.cons _ _ _ _ _ (.tmp _ _ rfl) (.own _ _ _ _ rfl nolent3) .nil) (.inl rfl)
theorem slices_Concat_api_Var_ok {a0 : List (List GVar)} {r : (List GVar)} (hF : slices_Concat_api_Var a0 = some r) : FZ 105 [.vs 1 (List.map (eL 13 eGVar) a0)] [.own 66 13 (List.map eGVar r)] := by
 unfold slices_Concat_api_Var at hF
 refine fn_of_body (n := 36) Tryz.func105 rfl rfl rfl fun w O => ?_
 iterate 12 refine go ?_
 obtain ⟨x25, hF, hK26⟩ := bs hF
 refine aw_for ((a0.length - 0 : Int).toNat + 1) (fun s1 => s1 = (sX 36 [pf 0 (.vs 1 (List.map (eL 13 eGVar) a0)), pf 3 (.int .i64 x25)] [] 0)) ?_ ?_
 ·refine rnd_loop (α := Int × Int) (fun q => (sX 36 [pf 0 (.vs 1 (List.map (eL 13 eGVar) a0)), pf 3 (.int .i64 q.1), pf 9 (.vs 1 (List.map (eL 13 eGVar) a0)), pf 10 (.int .i64 (a0.length : Int)), pf 11 (.int .i64 q.2)] [] 0)) (fun k q => slices_Concat_api_Var_L1 a0 k q.1 q.2 = some x25) (0, 0) (impz []) hF (fun q h => by cases h) ?_
  clear hF
  rintro k ⟨x7, x8⟩ hF ih
  refine rnd_succ ?_
  iterate 3 refine go ?_
  refine aw_seq ?_
  refine cnd hF (fun hb17 hF => ?_) fun hb17 hF => ?_
  ·iterate 2 refine go ?_
   refine aw_seq ?_
   refine aw_block ?_
   refine go ?_
   obtain ⟨y20, h21, hF⟩ := bs hF
   refine rgp (ix (idx_map (eL 13 eGVar) h21) slc_220) ?_
   iterate 14 refine go ?_
   refine cnd hF (fun hb22 hF => ?_) fun hb22 hF => ?_
   ·cases hF
   iterate 6 refine go ?_
   refine rnr ?_
   exact rnd_back (ih (w_i64 (x7 + (y20.length : Int)), w_i64 (x8 + 1)) hF) (impz [])
  refine aw_exit ?_
  iterate 2 refine post_then_exit ?_
  cases hF
  exact post_lp_break _ rfl (impz [])
 rintro _ rfl
 have hF := hK26
 iterate 3 refine go ?_
 obtain ⟨y29, h30, hF⟩ := bs hF
 refine rgp (cl 0 [.nils, .int .i64 x25] [.own 66 13 (List.map eGVar y29)] (slices_Grow_api_Var_ok h30)) ?_
 iterate 8 refine go ?_
 obtain ⟨x64, hF, hK65⟩ := bs hF
 refine aw_for ((a0.length - 0 : Int).toNat + 1) (fun s1 => s1 = (sX 36 [(6, some (.ls 0))] [(0, some (.row 66 13 (List.map eGVar x64)))] 1)) ?_ ?_
 ·refine rnd_loop (α := (List GVar) × Int) (fun q => (sX 36 [(6, some (.ls 0)), pf 25 (.vs 1 (List.map (eL 13 eGVar) a0)), pf 26 (.int .i64 (a0.length : Int)), pf 27 (.int .i64 q.2)] [(0, some (.row 66 13 (List.map eGVar q.1)))] 1)) (fun k q => slices_Concat_api_Var_L2 a0 k q.1 q.2 = some x64) (y29, 0) (impz [0]) hF (fun q h => by cases h) ?_
  clear hF
  rintro k ⟨x40, x41⟩ hF ih
  refine rnd_succ ?_
  iterate 3 refine go ?_
  refine aw_seq ?_
  refine cnd hF (fun hb53 hF => ?_) fun hb53 hF => ?_
  ·iterate 2 refine go ?_
   refine aw_seq ?_
   refine aw_block ?_
   refine go ?_
   obtain ⟨y56, h57, hF⟩ := bs hF
   refine rgp (ix (idx_map (eL 13 eGVar) h57) slc_220) ?_
   iterate 6 refine go ?_
   obtain ⟨u60, h61, hF⟩ := bs hF
   refine rgp (op_append 1 rfl rfl rfl rfl rfl slc_29 elm_66 zer_66 rfl rfl rfl (room_map (f := eGVar) (g := eGVar) h61) (List.map_append (f := eGVar) (l₁ := x40) (l₂ := y56)).symm rfl rfl) ?_
   refine go ?_
   refine reg_nil ?_
   refine piz (sX 36 [(6, some (.ls 0)), pf 25 (.vs 1 (List.map (eL 13 eGVar) a0)), pf 26 (.int .i64 (a0.length : Int)), pf 27 (.int .i64 x41)] [(0, some (.row 66 13 (List.map eGVar (x40 ++ y56))))] 1) [1] ?_
   iterate 5 refine go ?_
   refine rnr ?_
   exact rnd_back (ih ((x40 ++ y56), w_i64 (x41 + 1)) hF) (impz [0])
  refine aw_exit ?_
  iterate 2 refine post_then_exit ?_
  cases hF
  exact post_lp_break _ rfl (impz [0])
 rintro _ rfl
 have hF := hK65
 iterate 6 refine go ?_
 cases hF
 exact post_ret rfl rfl (.cons _ _ _ _ _ (.tmp _ _ rfl) (.own _ _ _ _ rfl nolent3) .nil) (.inl rfl)
theorem arena_Vars_ok {a0 : GMethod} {r : (List GVar)} (hF : arena_Vars a0 = some r) : FZ 73 [.agg (eGMethod a0)] [.p (.vs 13 (List.map eGVar r))] := by
 unfold arena_Vars at hF
 refine fn_of_body (n := 9) Tryz.func73 rfl rfl rfl fun w O => ?_
 refine go ?_
 refine rgp (bo 0) ?_
 iterate 7 refine go ?_
 refine rgp (op_lit (rows := List.map (eL 13 eGVar) ([a0.fParams, a0.fLocals] : List (List GVar))) (zs := [.vs 13 (List.map eGVar [])]) rfl rfl slc_220 zer_29 (by exact ⟨trivial, trivial⟩) rfl rfl rfl rfl rfl rfl rfl rfl) ?_
 obtain ⟨y1, h2, hF⟩ := bs hF
 refine rgp (cl 1 [.vs 1 (List.map (eL 13 eGVar) [a0.fParams, a0.fLocals])] [.p (.vs 13 (List.map eGVar y1))] (Fn.frozen (slices_Concat_api_Var_ok h2))) ?_
 iterate 3 refine go ?_
 cases hF
 exact prt
theorem kind_Unique_ok {a0 : GType} {r : Bool} (hF : kind_Unique a0 = some r) : FZ 74 [.agg (eGType a0)] [.p (.bool r)] := by
 unfold kind_Unique at hF
 refine fn_of_body (n := 13) Tryz.func74 rfl rfl rfl fun w O => ?_
 refine go ?_
 refine rgp (bo 0) ?_
 iterate 7 refine go ?_
 rcases ie hF with ⟨hb1, hF⟩ | ⟨hb1, hF⟩
 ·refine gn hb1 ?_
  refine rgn hb1 (op_arr_lp (k := .i64) (m := 0) (n := 4) rfl rfl rfl arr_35 rfl rfl rfl rfl) ?_
  iterate 3 refine gn hb1 ?_
  refine rpt hb1 ?_
  iterate 3 refine go ?_
  cases hF
  exact prt
 iterate 5 refine rgo_f hb1 ?_
 refine rpf hb1 ?_
 iterate 3 refine go ?_
 cases hF
 exact prt
end Go.Proofs.YthhdlpggmmfaiaaGreat
