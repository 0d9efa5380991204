/- A part of the proof that the law UnderIs gives true for every input. -/
import Derived.Test.YtkfgkkbfipgklaaUnderIsT
import Derived.Test.YtkfgkkbfipgklaaUnderIsX
import Derived.Test.YtkfgkkbfipgklaaUnderIsI
import Derived.Test.YtkfgkkbfipgklaaUnderIsW0
/- Each Go function computes its plain function. -/
namespace Go.Proofs.Ytkfgkkbfipgklaa
open Go.RowKit Go.Abs
set_option maxRecDepth 100000
set_option maxHeartbeats 4000000
theorem ref14_Below_ok {a0 : List GClass} {a1 : List UInt8} {a2 : List UInt8} {r : Bool} (hF : ref14_Below a0 a1 a2 = some r) : Abs.Fn Try.prog 51 [.vs 7 (List.map eGClass a0), .str a1, .str a2] [.p (.bool r)] := by
  unfold ref14_Below at hF
  refine fn_of_body (n := 20) Try.func51 rfl rfl rfl ?_
  intro w O
  refine aw_seq ?_
  refine aw_region ?_
  refine reg_cons (guard_no rfl) (op_assign rfl rfl rfl rfl) ?_
  refine reg_nil ?_
  refine post_imp (s' := ⟨20, [(0, some (.pv (.vs 7 (List.map eGClass a0)))), (1, some (.pv (.str a1))), (2, some (.pv (.str a2)))], [], 0, [], [], 0, []⟩) (imp_sub [] rfl (by decide) rfl rfl ⟨by kernel_rfl, by kernel_rfl, by kernel_rfl, trivial⟩ trivial rfl rfl rfl) ?_
  refine post_next ?_
  refine aw_seq ?_
  refine aw_region ?_
  iterate 2 (refine reg_cons (guard_no rfl) (op_move rfl rfl rfl rfl) ?_)
  obtain ⟨y3, h4, hF⟩ := bind_some hF
  refine reg_cons (guard_no rfl) (op_call 0 rfl (caps := []) (args := [.vs 7 (List.map eGClass a0), .str a2]) (rs := [.p (.int .i64 y3)]) rfl rfl rfl Try_cal_13 (ref13_Find_ok h4) rfl rfl rfl) ?_
  refine reg_cons (guard_no rfl) (op_assign rfl rfl rfl rfl) ?_
  refine reg_nil ?_
  refine post_imp (s' := ⟨20, [(0, some (.pv (.vs 7 (List.map eGClass a0)))), (1, some (.pv (.str a1))), (7, some (.pv (.int .i64 y3)))], [], 0, [], [], 0, []⟩) (imp_sub [] rfl (by decide) rfl rfl ⟨by kernel_rfl, by kernel_rfl, by kernel_rfl, trivial⟩ trivial rfl rfl rfl) ?_
  refine post_next ?_
  refine aw_seq ?_
  refine aw_region ?_
  refine reg_cons (guard_no rfl) (op_move rfl rfl rfl rfl) ?_
  refine reg_cons (guard_no rfl) (op_int (k := .i64) (m := y3) (n := 0) rfl rfl rfl rfl rfl rfl) ?_
  refine reg_cons (guard_no rfl) (op_move rfl rfl rfl rfl) ?_
  rcases ite_some hF with ⟨hb5, hF⟩ | ⟨hb5, hF⟩
  · refine reg_cons (guard_on rfl rfl rfl rfl hb5) (op_move rfl rfl rfl rfl) ?_
    refine reg_cons (guard_on rfl rfl rfl rfl hb5) (op_move rfl rfl rfl rfl) ?_
    obtain ⟨y6, h7, hF⟩ := bind_some hF
    refine reg_cons (guard_on rfl rfl rfl rfl hb5) (op_call 0 rfl (caps := []) (args := [.vs 7 (List.map eGClass a0), .str a1]) (rs := [.p (.vs 1 (List.map eI y6))]) rfl rfl rfl Try_cal_33 (Fn.frozen (ref14_Chain_ok h7)) rfl rfl rfl) ?_
    refine reg_cons (guard_on rfl rfl rfl rfl hb5) (op_move rfl rfl rfl rfl) ?_
    obtain ⟨y8, h9, hF⟩ := bind_some hF
    refine reg_cons (guard_on rfl rfl rfl rfl hb5) (op_call 0 rfl (caps := []) (args := [.vs 1 (List.map eI y6), .int .i64 y3]) (rs := [.p (.bool y8)]) rfl rfl rfl Try_cal_34 (ref14_has_ok h9) rfl rfl rfl) ?_
    refine reg_cons (guard_no rfl) (op_pick_t rfl rfl hb5 rfl rfl rfl) ?_
    refine reg_cons (guard_no rfl) (op_assign rfl rfl rfl rfl) ?_
    refine reg_nil ?_
    refine post_imp (s' := ⟨20, [(6, some (.pv (.bool y8)))], [], 0, [], [], 0, []⟩) (imp_sub [] rfl (by decide) rfl rfl ⟨by kernel_rfl, trivial⟩ trivial rfl rfl rfl) ?_
    refine post_next ?_
    refine aw_ret ?_
    obtain rfl := Option.some.inj hF
    exact post_ret rfl rfl (.cons _ _ _ _ _ (.tmp _ _ rfl) (.p _) .nil) (.inl rfl)
  · refine reg_off (guard_off rfl rfl rfl rfl hb5) rfl rfl ?_
    iterate 4 (refine reg_off (guard_off rfl rfl rfl rfl hb5) rfl rfl ?_)
    refine reg_cons (guard_no rfl) (op_pick_f rfl rfl hb5 rfl rfl rfl) ?_
    refine reg_cons (guard_no rfl) (op_assign rfl rfl rfl rfl) ?_
    refine reg_nil ?_
    refine post_imp (s' := ⟨20, [(6, some (.pv (.bool false)))], [], 0, [], [], 0, []⟩) (imp_sub [] rfl (by decide) rfl rfl ⟨by kernel_rfl, trivial⟩ trivial rfl rfl rfl) ?_
    refine post_next ?_
    refine aw_ret ?_
    obtain rfl := Option.some.inj hF
    exact post_ret rfl rfl (.cons _ _ _ _ _ (.tmp _ _ rfl) (.p _) .nil) (.inl rfl)
theorem ref13_Arity_ok {a0 : List GClass} {a1 : List UInt8} {r : Int} (hF : ref13_Arity a0 a1 = some r) : Abs.Fn Try.prog 29 [.vs 7 (List.map eGClass a0), .str a1] [.p (.int .i64 r)] := by
  unfold ref13_Arity at hF
  refine fn_of_body (n := 17) Try.func29 rfl rfl rfl ?_
  intro w O
  refine aw_seq ?_
  refine aw_region ?_
  refine reg_cons (guard_no rfl) (op_assign rfl rfl rfl rfl) ?_
  refine reg_nil ?_
  refine post_imp (s' := ⟨17, [(0, some (.pv (.vs 7 (List.map eGClass a0)))), (1, some (.pv (.str a1)))], [], 0, [], [], 0, []⟩) (imp_sub [] rfl (by decide) rfl rfl ⟨by kernel_rfl, by kernel_rfl, trivial⟩ trivial rfl rfl rfl) ?_
  refine post_next ?_
  refine aw_seq ?_
  refine aw_region ?_
  iterate 2 (refine reg_cons (guard_no rfl) (op_move rfl rfl rfl rfl) ?_)
  obtain ⟨y3, h4, hF⟩ := bind_some hF
  refine reg_cons (guard_no rfl) (op_call 0 rfl (caps := []) (args := [.vs 7 (List.map eGClass a0), .str a1]) (rs := [.p (.int .i64 y3)]) rfl rfl rfl Try_cal_13 (ref13_Find_ok h4) rfl rfl rfl) ?_
  refine reg_cons (guard_no rfl) (op_assign rfl rfl rfl rfl) ?_
  refine reg_nil ?_
  refine post_imp (s' := ⟨17, [(0, some (.pv (.vs 7 (List.map eGClass a0)))), (5, some (.pv (.int .i64 y3)))], [], 0, [], [], 0, []⟩) (imp_sub [] rfl (by decide) rfl rfl ⟨by kernel_rfl, by kernel_rfl, trivial⟩ trivial rfl rfl rfl) ?_
  refine post_next ?_
  iterate 2 (refine aw_seq ?_)
  refine aw_region ?_
  refine reg_cons (guard_no rfl) (op_move rfl rfl rfl rfl) ?_
  refine reg_cons (guard_no rfl) (op_int (k := .i64) (m := y3) (n := 0) rfl rfl rfl rfl rfl rfl) ?_
  refine reg_nil ?_
  refine post_imp (s' := ⟨17, [(0, some (.pv (.vs 7 (List.map eGClass a0)))), (5, some (.pv (.int .i64 y3))), (10, some (.pv (.bool (decide (y3 < 0)))))], [], 0, [], [], 0, []⟩) (imp_sub [] rfl (by decide) rfl rfl ⟨by kernel_rfl, by kernel_rfl, by kernel_rfl, trivial⟩ trivial rfl rfl rfl) ?_
  refine post_next ?_
  rcases ite_some hF with ⟨hb5, hF⟩ | ⟨hb5, hF⟩
  · refine aw_cond_t rfl hb5 ?_
    refine aw_seq ?_
    refine aw_region ?_
    refine reg_cons (guard_no rfl) (op_assign rfl rfl rfl rfl) ?_
    refine reg_nil ?_
    refine post_imp (s' := ⟨17, [(4, some (.pv (.int .i64 (-1))))], [], 0, [], [], 0, []⟩) (imp_sub [] rfl (by decide) rfl rfl ⟨by kernel_rfl, trivial⟩ trivial rfl rfl rfl) ?_
    refine post_next ?_
    refine aw_ret ?_
    refine post_then_ret ?_
    obtain rfl := Option.some.inj hF
    exact post_ret rfl rfl (.cons _ _ _ _ _ (.tmp _ _ rfl) (.p _) .nil) (.inl rfl)
  · refine aw_cond_f rfl hb5 ?_
    refine aw_skip ?_
    refine post_next ?_
    refine aw_seq ?_
    refine aw_region ?_
    iterate 2 (refine reg_cons (guard_no rfl) (op_move rfl rfl rfl rfl) ?_)
    obtain ⟨y6, h7, hF⟩ := bind_some hF
    refine reg_cons (guard_no rfl) (op_index_vs (k := .i64) rfl rfl rfl (idx_map eGClass h7) Try_slc_22 rfl rfl) ?_
    refine reg_cons (guard_no rfl) (op_field_vp rfl rfl Try_fld_43_1 rfl rfl) ?_
    refine reg_cons (guard_no rfl) (op_load_vp (p := .vs 1 (List.map eS y6.fParams)) rfl rfl rfl Try_one_38 rfl rfl) ?_
    refine reg_cons (guard_no rfl) (op_len_vs (n := y6.fParams.length) rfl rfl (List.length_map ..) Try_slc_38 rfl rfl) ?_
    refine reg_cons (guard_no rfl) (op_assign rfl rfl rfl rfl) ?_
    refine reg_nil ?_
    refine post_imp (s' := ⟨17, [(4, some (.pv (.int .i64 (y6.fParams.length : Int))))], [], 0, [], [], 0, []⟩) (imp_sub [] rfl (by decide) rfl rfl ⟨by kernel_rfl, trivial⟩ trivial rfl rfl rfl) ?_
    refine post_next ?_
    refine aw_ret ?_
    obtain rfl := Option.some.inj hF
    exact post_ret rfl rfl (.cons _ _ _ _ _ (.tmp _ _ rfl) (.p _) .nil) (.inl rfl)
theorem ref04_Put_ok {a0 : GOwner} {a1 : List GOwner} {r : GOwner} (hF : ref04_Put a0 a1 = some r) : Abs.Fn Try.prog 87 [.agg (eGOwner a0), .vs 2 (List.map eGOwner a1)] [.p (.agg (eGOwner r))] := by
  unfold ref04_Put at hF
  refine fn_of_body (n := 38) Try.func87 rfl rfl rfl ?_
  intro w O
  refine aw_seq ?_
  refine aw_region ?_
  refine reg_cons (guard_no rfl) (op_box 0 rfl rfl rfl rfl rfl rfl) ?_
  refine reg_cons (guard_no rfl) (op_alloc 1 rfl (ps := (eGOwner zGOwner)) rfl Try_zer_24 (by exact ⟨rfl, rfl, trivial⟩) rfl rfl) ?_
  refine reg_nil ?_
  refine post_imp (s' := ⟨38, [(1, some (.pv (.vs 2 (List.map eGOwner a1)))), (2, some (.lp 0 0)), (4, some (.lp 1 0))], [(0, some (.box 24 (bxv (eGOwner a0)))), (1, some (.box 24 (bxv (eGOwner zGOwner))))], 2, [], [], 0, []⟩) (imp_sub [0, 1] rfl (by decide) rfl rfl ⟨by kernel_rfl, by kernel_rfl, by kernel_rfl, trivial⟩ ⟨by kernel_rfl, by kernel_rfl, trivial⟩ rfl rfl rfl) ?_
  refine post_next ?_
  refine aw_seq ?_
  refine aw_region ?_
  refine reg_cons (guard_no rfl) (op_assign rfl rfl rfl rfl) ?_
  refine reg_nil ?_
  refine post_imp (s' := ⟨38, [(1, some (.pv (.vs 2 (List.map eGOwner a1)))), (2, some (.lp 0 0)), (4, some (.lp 1 0)), (5, some (.pv (.int .i64 (-1))))], [(0, some (.box 24 (bxv (eGOwner a0)))), (1, some (.box 24 (bxv (eGOwner zGOwner))))], 2, [], [], 0, []⟩) (imp_sub [0, 1] rfl (by decide) rfl rfl ⟨by kernel_rfl, by kernel_rfl, by kernel_rfl, by kernel_rfl, trivial⟩ ⟨by kernel_rfl, by kernel_rfl, trivial⟩ rfl rfl rfl) ?_
  refine post_next ?_
  refine aw_seq ?_
  obtain ⟨x2, hF, hK4⟩ := bind_some hF
  refine aw_cut (fun s1 => s1 = ⟨38, [(1, some (.pv (.vs 2 (List.map eGOwner a1)))), (2, some (.lp 0 0)), (4, some (.lp 1 0)), (5, some (.pv (.int .i64 x2)))], [(0, some (.box 24 (bxv (eGOwner a0)))), (1, some (.box 24 (bxv (eGOwner zGOwner))))], 2, [], [], 0, []⟩) ?_ ?_
  · refine aw_seq ?_
    refine aw_region ?_
    refine reg_cons (guard_no rfl) (op_field_lp rfl rfl Try_fld_24_0 rfl rfl) ?_
    refine reg_cons (guard_no rfl) (op_load_lp (v := .pv (.int .i64 a0.fKind)) rfl rfl rfl rfl Try_one_3 rfl rfl) ?_
    refine reg_cons (guard_no rfl) (op_int (k := .i64) (m := a0.fKind) (n := 2) rfl rfl rfl rfl rfl rfl) ?_
    refine reg_nil ?_
    refine post_imp (s' := ⟨38, [(1, some (.pv (.vs 2 (List.map eGOwner a1)))), (2, some (.lp 0 0)), (4, some (.lp 1 0)), (5, some (.pv (.int .i64 (-1)))), (9, some (.pv (.bool (a0.fKind == 2))))], [(0, some (.box 24 (bxv (eGOwner a0)))), (1, some (.box 24 (bxv (eGOwner zGOwner))))], 2, [], [], 0, []⟩) (imp_sub [0, 1] rfl (by decide) rfl rfl ⟨by kernel_rfl, by kernel_rfl, by kernel_rfl, by kernel_rfl, by kernel_rfl, trivial⟩ ⟨by kernel_rfl, by kernel_rfl, trivial⟩ rfl rfl rfl) ?_
    refine post_next ?_
    rcases ite_some hF with ⟨hb1, hF⟩ | ⟨hb1, hF⟩
    · refine aw_cond_t rfl hb1 ?_
      refine aw_region ?_
      refine reg_cons (guard_no rfl) (op_assign rfl rfl rfl rfl) ?_
      refine reg_nil ?_
      cases hF
      exact post_cut _ rfl (imp_sub [0, 1] rfl (by decide) rfl rfl ⟨by kernel_rfl, by kernel_rfl, by kernel_rfl, by kernel_rfl, trivial⟩ ⟨by kernel_rfl, by kernel_rfl, trivial⟩ rfl rfl rfl)
    · refine aw_cond_f rfl hb1 ?_
      refine aw_skip ?_
      cases hF
      exact post_cut _ rfl (imp_sub [0, 1] rfl (by decide) rfl rfl ⟨by kernel_rfl, by kernel_rfl, by kernel_rfl, by kernel_rfl, trivial⟩ ⟨by kernel_rfl, by kernel_rfl, trivial⟩ rfl rfl rfl)
  · rintro _ rfl
    have hF := hK4
    clear hK4
    refine post_next ?_
    refine aw_seq ?_
    obtain ⟨x6, hF, hK8⟩ := bind_some hF
    refine aw_cut (fun s1 => s1 = ⟨38, [(1, some (.pv (.vs 2 (List.map eGOwner a1)))), (2, some (.lp 0 0)), (4, some (.lp 1 0)), (5, some (.pv (.int .i64 x6)))], [(0, some (.box 24 (bxv (eGOwner a0)))), (1, some (.box 24 (bxv (eGOwner zGOwner))))], 2, [], [], 0, []⟩) ?_ ?_
    · refine aw_seq ?_
      refine aw_region ?_
      refine reg_cons (guard_no rfl) (op_field_lp rfl rfl Try_fld_24_0 rfl rfl) ?_
      refine reg_cons (guard_no rfl) (op_load_lp (v := .pv (.int .i64 a0.fKind)) rfl rfl rfl rfl Try_one_3 rfl rfl) ?_
      refine reg_cons (guard_no rfl) (op_int (k := .i64) (m := a0.fKind) (n := 3) rfl rfl rfl rfl rfl rfl) ?_
      refine reg_nil ?_
      refine post_imp (s' := ⟨38, [(1, some (.pv (.vs 2 (List.map eGOwner a1)))), (2, some (.lp 0 0)), (4, some (.lp 1 0)), (5, some (.pv (.int .i64 x2))), (12, some (.pv (.bool (a0.fKind == 3))))], [(0, some (.box 24 (bxv (eGOwner a0)))), (1, some (.box 24 (bxv (eGOwner zGOwner))))], 2, [], [], 0, []⟩) (imp_sub [0, 1] rfl (by decide) rfl rfl ⟨by kernel_rfl, by kernel_rfl, by kernel_rfl, by kernel_rfl, by kernel_rfl, trivial⟩ ⟨by kernel_rfl, by kernel_rfl, trivial⟩ rfl rfl rfl) ?_
      refine post_next ?_
      rcases ite_some hF with ⟨hb5, hF⟩ | ⟨hb5, hF⟩
      · refine aw_cond_t rfl hb5 ?_
        refine aw_region ?_
        refine reg_cons (guard_no rfl) (op_field_lp rfl rfl Try_fld_24_1 rfl rfl) ?_
        refine reg_cons (guard_no rfl) (op_load_lp (v := .pv (.int .i64 a0.fN)) rfl rfl rfl rfl Try_one_3 rfl rfl) ?_
        refine reg_cons (guard_no rfl) (op_assign rfl rfl rfl rfl) ?_
        refine reg_nil ?_
        cases hF
        exact post_cut _ rfl (imp_sub [0, 1] rfl (by decide) rfl rfl ⟨by kernel_rfl, by kernel_rfl, by kernel_rfl, by kernel_rfl, trivial⟩ ⟨by kernel_rfl, by kernel_rfl, trivial⟩ rfl rfl rfl)
      · refine aw_cond_f rfl hb5 ?_
        refine aw_skip ?_
        cases hF
        exact post_cut _ rfl (imp_sub [0, 1] rfl (by decide) rfl rfl ⟨by kernel_rfl, by kernel_rfl, by kernel_rfl, by kernel_rfl, trivial⟩ ⟨by kernel_rfl, by kernel_rfl, trivial⟩ rfl rfl rfl)
    · rintro _ rfl
      have hF := hK8
      clear hK8
      refine post_next ?_
      iterate 2 (refine aw_seq ?_)
      obtain ⟨x10, hF, hK12⟩ := bind_some hF
      refine aw_cut (fun s1 => s1 = ⟨38, [(1, some (.pv (.vs 2 (List.map eGOwner a1)))), (2, some (.lp 0 0)), (4, some (.lp 1 0)), (5, some (.pv (.int .i64 x6))), (22, some (.pv (.bool x10)))], [(0, some (.box 24 (bxv (eGOwner a0)))), (1, some (.box 24 (bxv (eGOwner zGOwner))))], 2, [], [], 0, []⟩) ?_ ?_
      · refine aw_region ?_
        refine reg_cons (guard_no rfl) (op_field_lp rfl rfl Try_fld_24_0 rfl rfl) ?_
        refine reg_cons (guard_no rfl) (op_load_lp (v := .pv (.int .i64 a0.fKind)) rfl rfl rfl rfl Try_one_3 rfl rfl) ?_
        refine reg_cons (guard_no rfl) (op_int (k := .i64) (m := a0.fKind) (n := 2) rfl rfl rfl rfl rfl rfl) ?_
        refine reg_cons (guard_no rfl) (op_move rfl rfl rfl rfl) ?_
        rcases ite_some hF with ⟨hb9, hF⟩ | ⟨hb9, hF⟩
        · refine reg_cons (guard_on rfl rfl rfl rfl hb9) (op_field_lp rfl rfl Try_fld_24_0 rfl rfl) ?_
          refine reg_cons (guard_on rfl rfl rfl rfl hb9) (op_load_lp (v := .pv (.int .i64 a0.fKind)) rfl rfl rfl rfl Try_one_3 rfl rfl) ?_
          refine reg_cons (guard_on rfl rfl rfl rfl hb9) (op_int (k := .i64) (m := a0.fKind) (n := 3) rfl rfl rfl rfl rfl rfl) ?_
          refine reg_cons (guard_no rfl) (op_pick_t rfl rfl hb9 rfl rfl rfl) ?_
          refine reg_nil ?_
          cases hF
          exact post_cut _ rfl (imp_sub [0, 1] rfl (by decide) rfl rfl ⟨by kernel_rfl, by kernel_rfl, by kernel_rfl, by kernel_rfl, by kernel_rfl, trivial⟩ ⟨by kernel_rfl, by kernel_rfl, trivial⟩ rfl rfl rfl)
        · refine reg_off (guard_off rfl rfl rfl rfl hb9) rfl rfl ?_
          iterate 2 (refine reg_off (guard_off rfl rfl rfl rfl hb9) rfl rfl ?_)
          refine reg_cons (guard_no rfl) (op_pick_f rfl rfl hb9 rfl rfl rfl) ?_
          refine reg_nil ?_
          cases hF
          exact post_cut _ rfl (imp_sub [0, 1] rfl (by decide) rfl rfl ⟨by kernel_rfl, by kernel_rfl, by kernel_rfl, by kernel_rfl, by kernel_rfl, trivial⟩ ⟨by kernel_rfl, by kernel_rfl, trivial⟩ rfl rfl rfl)
      · rintro _ rfl
        have hF := hK12
        clear hK12
        refine post_next ?_
        rcases ite_some hF with ⟨hb13, hF⟩ | ⟨hb13, hF⟩
        · refine aw_cond_t rfl hb13 ?_
          refine aw_seq ?_
          refine aw_region ?_
          refine reg_cons (guard_no rfl) (op_load_lp_agg (ps := eGOwner a0) rfl rfl rfl rfl rfl rfl Try_agg_24 rfl rfl) ?_
          refine reg_cons (guard_no rfl) (op_store_lp (n := 2) rfl rfl rfl rfl rfl (or_agg Try_agg_24) (by rw [Try_non_24]; rfl) rfl rfl rfl) ?_
          refine reg_nil ?_
          refine post_imp (s' := ⟨38, [(4, some (.lp 0 0))], [(0, some (.box 24 (bxv (eGOwner a0))))], 1, [], [], 0, []⟩) (imp_sub [1] rfl (by decide) rfl rfl ⟨by kernel_rfl, trivial⟩ ⟨by kernel_rfl, trivial⟩ rfl rfl rfl) ?_
          refine post_next ?_
          refine aw_ret ?_
          refine post_then_ret ?_
          obtain rfl := Option.some.inj hF
          exact post_ret rfl rfl (.cons _ _ _ _ _ (.agg _ _ _ _ _ 2 _ _ rfl rfl Try_agg_24 rfl rfl rfl) (.p _) .nil) (.inl rfl)
        · refine aw_cond_f rfl hb13 ?_
          refine aw_skip ?_
          refine post_next ?_
          iterate 2 (refine aw_seq ?_)
          refine aw_region ?_
          refine reg_cons (guard_no rfl) (op_assign rfl rfl rfl rfl) ?_
          refine reg_nil ?_
          refine post_imp (s' := ⟨38, [(1, some (.pv (.vs 2 (List.map eGOwner a1)))), (4, some (.lp 0 0)), (5, some (.pv (.int .i64 x6))), (6, some (.pv (.int .i64 0)))], [(0, some (.box 24 (bxv (eGOwner zGOwner))))], 1, [], [], 0, []⟩) (imp_sub [1] rfl (by decide) rfl rfl ⟨by kernel_rfl, by kernel_rfl, by kernel_rfl, by kernel_rfl, trivial⟩ ⟨by kernel_rfl, trivial⟩ rfl rfl rfl) ?_
          refine post_next ?_
          obtain ⟨lr29, hF, hK30⟩ := bind_some hF
          refine aw_for ((((a1.length : Int) : Int) - (0)).toNat + 1) (fun s1 => ∃ q, lr29 = .next q ∧ s1 = ⟨38, [(4, some (.lp 0 0))], [(0, some (.box 24 (bxv (eGOwner zGOwner))))], 1, [], [], 0, []⟩) ?_ ?_
          · refine rnd_loop (α := Int) (fun q => ⟨38, [(1, some (.pv (.vs 2 (List.map eGOwner a1)))), (4, some (.lp 0 0)), (5, some (.pv (.int .i64 x6))), (6, some (.pv (.int .i64 q)))], [(0, some (.box 24 (bxv (eGOwner zGOwner))))], 1, [], [], 0, []⟩) (fun k q => ref04_Put_L1 a1 x6 k q = some lr29) 0 (imp_sub [0] rfl (by decide) rfl rfl ⟨by kernel_rfl, by kernel_rfl, by kernel_rfl, by kernel_rfl, trivial⟩ ⟨by kernel_rfl, trivial⟩ rfl rfl rfl) hF (fun q h => by cases h) ?_
            clear hF
            rintro k x18 hF ih
            refine rnd_succ ?_
            iterate 2 (refine aw_seq ?_)
            refine aw_region ?_
            iterate 2 (refine reg_cons (guard_no rfl) (op_move rfl rfl rfl rfl) ?_)
            refine reg_cons (guard_no rfl) (op_len_vs (n := a1.length) rfl rfl (List.length_map ..) Try_slc_39 rfl rfl) ?_
            refine reg_cons (guard_no rfl) (op_int (k := .i64) (m := x18) (n := (a1.length : Int)) rfl rfl rfl rfl rfl rfl) ?_
            refine reg_nil ?_
            refine post_imp (s' := ⟨38, [(1, some (.pv (.vs 2 (List.map eGOwner a1)))), (4, some (.lp 0 0)), (5, some (.pv (.int .i64 x6))), (6, some (.pv (.int .i64 x18))), (27, some (.pv (.bool (decide (x18 < (a1.length : Int))))))], [(0, some (.box 24 (bxv (eGOwner zGOwner))))], 1, [], [], 0, []⟩) (imp_sub [0] rfl (by decide) rfl rfl ⟨by kernel_rfl, by kernel_rfl, by kernel_rfl, by kernel_rfl, by kernel_rfl, trivial⟩ ⟨by kernel_rfl, trivial⟩ rfl rfl rfl) ?_
            refine post_next ?_
            rcases ite_some hF with ⟨hb24, hF⟩ | ⟨hb24, hF⟩
            · refine aw_cond_t rfl hb24 ?_
              refine aw_skip ?_
              refine post_next ?_
              refine aw_seq ?_
              refine aw_block ?_
              refine aw_seq ?_
              refine aw_region ?_
              iterate 2 (refine reg_cons (guard_no rfl) (op_move rfl rfl rfl rfl) ?_)
              refine reg_cons (guard_no rfl) (op_int (k := .i64) (m := x18) (n := x6) rfl rfl rfl rfl rfl rfl) ?_
              refine reg_nil ?_
              refine post_imp (s' := ⟨38, [(1, some (.pv (.vs 2 (List.map eGOwner a1)))), (4, some (.lp 0 0)), (5, some (.pv (.int .i64 x6))), (6, some (.pv (.int .i64 x18))), (32, some (.pv (.bool (x18 == x6))))], [(0, some (.box 24 (bxv (eGOwner zGOwner))))], 1, [], [], 0, []⟩) (imp_sub [0] rfl (by decide) rfl rfl ⟨by kernel_rfl, by kernel_rfl, by kernel_rfl, by kernel_rfl, by kernel_rfl, trivial⟩ ⟨by kernel_rfl, trivial⟩ rfl rfl rfl) ?_
              refine post_next ?_
              rcases ite_some hF with ⟨hb25, hF⟩ | ⟨hb25, hF⟩
              · refine aw_cond_t rfl hb25 ?_
                refine aw_seq ?_
                refine aw_region ?_
                iterate 2 (refine reg_cons (guard_no rfl) (op_move rfl rfl rfl rfl) ?_)
                obtain ⟨y26, h27, hF⟩ := bind_some hF
                refine reg_cons (guard_no rfl) (op_index_vs (k := .i64) rfl rfl rfl (idx_map eGOwner h27) Try_slc_39 rfl rfl) ?_
                refine reg_cons (guard_no rfl) (op_load_vp_agg (ps := eGOwner y26) rfl rfl rfl rfl Try_agg_24 rfl rfl) ?_
                refine reg_cons (guard_no rfl) (op_store_lp (n := 2) rfl rfl rfl rfl rfl (or_agg Try_agg_24) (by rw [Try_non_24]; rfl) rfl rfl rfl) ?_
                refine reg_nil ?_
                refine post_imp (s' := ⟨38, [(4, some (.lp 0 0))], [(0, some (.box 24 (bxv (eGOwner y26))))], 1, [], [], 0, []⟩) (imp_sub [0] rfl (by decide) rfl rfl ⟨by kernel_rfl, trivial⟩ ⟨by kernel_rfl, trivial⟩ rfl rfl rfl) ?_
                refine post_next ?_
                refine aw_ret ?_
                refine post_block_ret ?_
                iterate 2 (refine post_then_ret ?_)
                refine post_lp_ret ?_
                obtain rfl := Option.some.inj hF
                have hF := elim_stop hK30
                refine post_then_ret ?_
                obtain rfl := Option.some.inj hF
                exact post_ret rfl rfl (.cons _ _ _ _ _ (.agg _ _ _ _ _ 2 _ _ rfl rfl Try_agg_24 rfl rfl rfl) (.p _) .nil) (.inl rfl)
              · refine aw_cond_f rfl hb25 ?_
                refine aw_skip ?_
                refine post_block_normal ?_
                refine post_next ?_
                refine aw_region ?_
                refine reg_cons (guard_no rfl) (op_move rfl rfl rfl rfl) ?_
                refine reg_cons (guard_no rfl) (op_int (k := .i64) (m := x18) (n := 1) rfl rfl rfl rfl rfl rfl) ?_
                refine reg_cons (guard_no rfl) (op_assign rfl rfl rfl rfl) ?_
                refine reg_nil ?_
                refine post_round ?_
                exact rnd_back (ih (w_i64 (x18 + 1)) hF) (imp_sub [0] rfl (by decide) rfl rfl ⟨by kernel_rfl, by kernel_rfl, by kernel_rfl, by kernel_rfl, trivial⟩ ⟨by kernel_rfl, trivial⟩ rfl rfl rfl)
            · refine aw_cond_f rfl hb24 ?_
              refine aw_exit ?_
              iterate 2 (refine post_then_exit ?_)
              obtain rfl := Option.some.inj hF
              exact post_lp_break _ ⟨_, rfl, rfl⟩ (imp_sub [0] rfl (by decide) rfl rfl ⟨by kernel_rfl, trivial⟩ ⟨by kernel_rfl, trivial⟩ rfl rfl rfl)
          · rintro _ ⟨⟨⟩, rfl, rfl⟩
            have hF := elim_next hK30
            clear hK30
            refine post_next ?_
            refine aw_seq ?_
            refine aw_region ?_
            refine reg_cons (guard_no rfl) (op_build (zs := (eGOwner zGOwner)) (r := eGOwner ({ fKind := 8, fN := 0 } : GOwner)) rfl Try_zer_24 (by exact ⟨rfl, rfl, trivial⟩) Try_plc_24 rfl rfl rfl rfl) ?_
            refine reg_cons (guard_no rfl) (op_store_lp (n := 2) rfl rfl rfl rfl rfl (or_agg Try_agg_24) (by rw [Try_non_24]; rfl) rfl rfl rfl) ?_
            refine reg_nil ?_
            refine post_imp (s' := ⟨38, [(4, some (.lp 0 0))], [(0, some (.box 24 (bxv (eGOwner ({ fKind := 8, fN := 0 } : GOwner)))))], 1, [], [], 0, []⟩) (imp_sub [0] rfl (by decide) rfl rfl ⟨by kernel_rfl, trivial⟩ ⟨by kernel_rfl, trivial⟩ rfl rfl rfl) ?_
            refine post_next ?_
            refine aw_ret ?_
            obtain rfl := Option.some.inj hF
            exact post_ret rfl rfl (.cons _ _ _ _ _ (.agg _ _ _ _ _ 2 _ _ rfl rfl Try_agg_24 rfl rfl rfl) (.p _) .nil) (.inl rfl)
theorem ref04_All_ok {a0 : List GOwner} {a1 : List GOwner} {r : (List GOwner)} (hF : ref04_All a0 a1 = some r) : Abs.Fn Try.prog 74 [.vs 2 (List.map eGOwner a0), .vs 2 (List.map eGOwner a1)] [.own 24 2 (List.map eGOwner r)] := by
  unfold ref04_All at hF
  refine fn_of_body (n := 23) Try.func74 rfl rfl rfl ?_
  intro w O
  refine aw_seq ?_
  refine aw_region ?_
  refine reg_cons (guard_no rfl) (op_assign rfl rfl rfl rfl) ?_
  refine reg_nil ?_
  refine post_imp (s' := ⟨23, [(0, some (.pv (.vs 2 (List.map eGOwner a0)))), (1, some (.pv (.vs 2 (List.map eGOwner a1))))], [], 0, [], [], 0, []⟩) (imp_sub [] rfl (by decide) rfl rfl ⟨by kernel_rfl, by kernel_rfl, trivial⟩ trivial rfl rfl rfl) ?_
  refine post_next ?_
  refine aw_seq ?_
  refine aw_region ?_
  refine reg_cons (guard_no rfl) (op_assign rfl rfl rfl rfl) ?_
  refine reg_imp (imp_nil_own 5 24 2 0 rfl rfl) ?_
  refine reg_nil ?_
  refine post_imp (s' := ⟨23, [(0, some (.pv (.vs 2 (List.map eGOwner a0)))), (1, some (.pv (.vs 2 (List.map eGOwner a1)))), (5, some (.ls 0))], [(0, some (.row 24 2 (List.map eGOwner [])))], 1, [], [], 0, []⟩) (imp_sub [0] rfl (by decide) rfl rfl ⟨by kernel_rfl, by kernel_rfl, by kernel_rfl, trivial⟩ ⟨by kernel_rfl, trivial⟩ rfl rfl rfl) ?_
  refine post_next ?_
  iterate 2 (refine aw_seq ?_)
  refine aw_region ?_
  refine reg_cons (guard_no rfl) (op_assign rfl rfl rfl rfl) ?_
  refine reg_nil ?_
  refine post_imp (s' := ⟨23, [(0, some (.pv (.vs 2 (List.map eGOwner a0)))), (1, some (.pv (.vs 2 (List.map eGOwner a1)))), (5, some (.ls 0)), (6, some (.pv (.int .i64 0)))], [(0, some (.row 24 2 (List.map eGOwner [])))], 1, [], [], 0, []⟩) (imp_sub [0] rfl (by decide) rfl rfl ⟨by kernel_rfl, by kernel_rfl, by kernel_rfl, by kernel_rfl, trivial⟩ ⟨by kernel_rfl, trivial⟩ rfl rfl rfl) ?_
  refine post_next ?_
  obtain ⟨x46, hF, hK47⟩ := bind_some hF
  refine aw_for ((((a0.length : Int) : Int) - (0)).toNat + 1) (fun s1 => s1 = ⟨23, [(5, some (.ls 0))], [(0, some (.row 24 2 (List.map eGOwner x46)))], 1, [], [], 0, []⟩) ?_ ?_
  · refine rnd_loop (α := (List GOwner) × Int) (fun q => ⟨23, [(0, some (.pv (.vs 2 (List.map eGOwner a0)))), (1, some (.pv (.vs 2 (List.map eGOwner a1)))), (5, some (.ls 0)), (6, some (.pv (.int .i64 q.2)))], [(0, some (.row 24 2 (List.map eGOwner q.1)))], 1, [], [], 0, []⟩) (fun k q => ref04_All_L1 a0 a1 k q.1 q.2 = some x46) ([], 0) (imp_sub [0] rfl (by decide) rfl rfl ⟨by kernel_rfl, by kernel_rfl, by kernel_rfl, by kernel_rfl, trivial⟩ ⟨by kernel_rfl, trivial⟩ rfl rfl rfl) hF (fun q h => by cases h) ?_
    clear hF
    rintro k ⟨x14, x15⟩ hF ih
    refine rnd_succ ?_
    iterate 2 (refine aw_seq ?_)
    refine aw_region ?_
    iterate 2 (refine reg_cons (guard_no rfl) (op_move rfl rfl rfl rfl) ?_)
    refine reg_cons (guard_no rfl) (op_len_vs (n := a0.length) rfl rfl (List.length_map ..) Try_slc_39 rfl rfl) ?_
    refine reg_cons (guard_no rfl) (op_int (k := .i64) (m := x15) (n := (a0.length : Int)) rfl rfl rfl rfl rfl rfl) ?_
    refine reg_nil ?_
    refine post_imp (s' := ⟨23, [(0, some (.pv (.vs 2 (List.map eGOwner a0)))), (1, some (.pv (.vs 2 (List.map eGOwner a1)))), (5, some (.ls 0)), (6, some (.pv (.int .i64 x15))), (10, some (.pv (.bool (decide (x15 < (a0.length : Int))))))], [(0, some (.row 24 2 (List.map eGOwner x14)))], 1, [], [], 0, []⟩) (imp_sub [0] rfl (by decide) rfl rfl ⟨by kernel_rfl, by kernel_rfl, by kernel_rfl, by kernel_rfl, by kernel_rfl, trivial⟩ ⟨by kernel_rfl, trivial⟩ rfl rfl rfl) ?_
    refine post_next ?_
    rcases ite_some hF with ⟨hb31, hF⟩ | ⟨hb31, hF⟩
    · refine aw_cond_t rfl hb31 ?_
      refine aw_skip ?_
      refine post_next ?_
      refine aw_seq ?_
      refine aw_block ?_
      refine aw_region ?_
      iterate 3 (refine reg_cons (guard_no rfl) (op_move rfl rfl rfl rfl) ?_)
      obtain ⟨y38, h39, hF⟩ := bind_some hF
      refine reg_cons (guard_no rfl) (op_index_vs (k := .i64) rfl rfl rfl (idx_map eGOwner h39) Try_slc_39 rfl rfl) ?_
      refine reg_cons (guard_no rfl) (op_load_vp_agg (ps := eGOwner y38) rfl rfl rfl rfl Try_agg_24 rfl rfl) ?_
      refine reg_cons (guard_no rfl) (op_move rfl rfl rfl rfl) ?_
      obtain ⟨y40, h41, hF⟩ := bind_some hF
      refine reg_cons (guard_no rfl) (op_call 1 rfl (caps := []) (args := [.agg (eGOwner y38), .vs 2 (List.map eGOwner a1)]) (rs := [.p (.agg (eGOwner y40))]) rfl rfl rfl Try_cal_87 (ref04_Put_ok h41) rfl rfl rfl) ?_
      refine reg_cons (guard_no rfl) (op_lit (rows := List.map eGOwner ([y40] : List GOwner)) (zs := (eGOwner zGOwner)) rfl rfl Try_slc_39 Try_zer_24 (by exact ⟨rfl, rfl, trivial⟩) rfl rfl rfl rfl rfl rfl rfl rfl) ?_
      obtain ⟨u42, h43, hF⟩ := bind_some hF
      refine reg_cons (guard_no rfl) (op_append 1 rfl rfl rfl rfl rfl Try_slc_39 Try_elm_24 Try_zer_24 rfl rfl rfl (room_map (f := eGOwner) (g := eGOwner) h43) (List.map_append (f := eGOwner) (l₁ := x14) (l₂ := [y40])).symm rfl rfl) ?_
      refine reg_cons (guard_no rfl) (op_assign rfl rfl rfl rfl) ?_
      refine reg_nil ?_
      refine post_imp (s' := ⟨23, [(0, some (.pv (.vs 2 (List.map eGOwner a0)))), (1, some (.pv (.vs 2 (List.map eGOwner a1)))), (5, some (.ls 0)), (6, some (.pv (.int .i64 x15)))], [(0, some (.row 24 2 (List.map eGOwner (x14 ++ [y40]))))], 1, [], [], 0, []⟩) (imp_sub [1] rfl (by decide) rfl rfl ⟨by kernel_rfl, by kernel_rfl, by kernel_rfl, by kernel_rfl, trivial⟩ ⟨by kernel_rfl, trivial⟩ rfl rfl rfl) ?_
      refine post_block_normal ?_
      refine post_next ?_
      refine aw_region ?_
      refine reg_cons (guard_no rfl) (op_move rfl rfl rfl rfl) ?_
      refine reg_cons (guard_no rfl) (op_int (k := .i64) (m := x15) (n := 1) rfl rfl rfl rfl rfl rfl) ?_
      refine reg_cons (guard_no rfl) (op_assign rfl rfl rfl rfl) ?_
      refine reg_nil ?_
      refine post_round ?_
      exact rnd_back (ih ((x14 ++ [y40]), w_i64 (x15 + 1)) hF) (imp_sub [0] rfl (by decide) rfl rfl ⟨by kernel_rfl, by kernel_rfl, by kernel_rfl, by kernel_rfl, trivial⟩ ⟨by kernel_rfl, trivial⟩ rfl rfl rfl)
    · refine aw_cond_f rfl hb31 ?_
      refine aw_exit ?_
      iterate 2 (refine post_then_exit ?_)
      obtain rfl := Option.some.inj hF
      exact post_lp_break _ rfl (imp_sub [0] rfl (by decide) rfl rfl ⟨by kernel_rfl, trivial⟩ ⟨by kernel_rfl, trivial⟩ rfl rfl rfl)
  · rintro _ rfl
    have hF := hK47
    clear hK47
    refine post_next ?_
    refine aw_seq ?_
    refine aw_region ?_
    refine reg_cons (guard_no rfl) (op_move rfl rfl rfl rfl) ?_
    refine reg_cons (guard_no rfl) (op_assign rfl rfl rfl rfl) ?_
    refine reg_nil ?_
    refine post_imp (s' := ⟨23, [(4, some (.ls 0))], [(0, some (.row 24 2 (List.map eGOwner x46)))], 1, [], [], 0, []⟩) (imp_sub [0] rfl (by decide) rfl rfl ⟨by kernel_rfl, trivial⟩ ⟨by kernel_rfl, trivial⟩ rfl rfl rfl) ?_
    refine post_next ?_
    refine aw_ret ?_
    obtain rfl := Option.some.inj hF
    exact post_ret rfl rfl (.cons _ _ _ _ _ (.tmp _ _ rfl) (.own _ _ _ _ rfl nolent3) .nil) (.inl rfl)
theorem ref15_Raise_ok {a0 : List GClass} {a1 : List UInt8} {a2 : List GOwner} {a3 : List UInt8} {r : (List GOwner) × Bool} (hF : ref15_Raise a0 a1 a2 a3 = some r) : Abs.Fn Try.prog 52 [.vs 7 (List.map eGClass a0), .str a1, .vs 2 (List.map eGOwner a2), .str a3] [.own 24 2 (List.map eGOwner r.1), .p (.bool r.2)] := by
  unfold ref15_Raise at hF
  refine fn_of_body (n := 61) Try.func52 rfl rfl rfl ?_
  intro w O
  refine aw_seq ?_
  refine aw_region ?_
  iterate 2 (refine reg_cons (guard_no rfl) (op_assign rfl rfl rfl rfl) ?_)
  refine reg_nil ?_
  refine post_imp (s' := ⟨61, [(0, some (.pv (.vs 7 (List.map eGClass a0)))), (1, some (.pv (.str a1))), (2, some (.pv (.vs 2 (List.map eGOwner a2)))), (3, some (.pv (.str a3)))], [], 0, [], [], 0, []⟩) (imp_sub [] rfl (by decide) rfl rfl ⟨by kernel_rfl, by kernel_rfl, by kernel_rfl, by kernel_rfl, trivial⟩ trivial rfl rfl rfl) ?_
  refine post_next ?_
  iterate 2 (refine aw_seq ?_)
  obtain ⟨x8, hF, hK10⟩ := bind_some hF
  refine aw_cut (fun s1 => s1 = ⟨61, [(0, some (.pv (.vs 7 (List.map eGClass a0)))), (1, some (.pv (.str a1))), (2, some (.pv (.vs 2 (List.map eGOwner a2)))), (3, some (.pv (.str a3))), (26, some (.pv (.bool x8)))], [], 0, [], [], 0, []⟩) ?_ ?_
  · refine aw_region ?_
    iterate 3 (refine reg_cons (guard_no rfl) (op_move rfl rfl rfl rfl) ?_)
    obtain ⟨y3, h4, hF⟩ := bind_some hF
    refine reg_cons (guard_no rfl) (op_call 0 rfl (caps := []) (args := [.vs 7 (List.map eGClass a0), .str a1, .str a3]) (rs := [.p (.bool y3)]) rfl rfl rfl Try_cal_51 (ref14_Below_ok h4) rfl rfl rfl) ?_
    refine reg_cons (guard_no rfl) (op_not rfl rfl rfl rfl) ?_
    refine reg_cons (guard_no rfl) (op_move rfl rfl rfl rfl) ?_
    rcases ite_some hF with ⟨hb5, hF⟩ | ⟨hb5, hF⟩
    · refine reg_off (guard_off rfl rfl rfl rfl hb5) rfl rfl ?_
      iterate 6 (refine reg_off (guard_off rfl rfl rfl rfl hb5) rfl rfl ?_)
      refine reg_cons (guard_no rfl) (op_pick_t rfl rfl hb5 rfl rfl rfl) ?_
      refine reg_nil ?_
      cases hF
      exact post_cut _ rfl (imp_sub [] rfl (by decide) rfl rfl ⟨by kernel_rfl, by kernel_rfl, by kernel_rfl, by kernel_rfl, by kernel_rfl, trivial⟩ trivial rfl rfl rfl)
    · refine reg_cons (guard_on rfl rfl rfl rfl hb5) (op_move rfl rfl rfl rfl) ?_
      refine reg_cons (guard_on rfl rfl rfl rfl hb5) (op_len_vs (n := a2.length) rfl rfl (List.length_map ..) Try_slc_39 rfl rfl) ?_
      iterate 2 (refine reg_cons (guard_on rfl rfl rfl rfl hb5) (op_move rfl rfl rfl rfl) ?_)
      obtain ⟨y6, h7, hF⟩ := bind_some hF
      refine reg_cons (guard_on rfl rfl rfl rfl hb5) (op_call 0 rfl (caps := []) (args := [.vs 7 (List.map eGClass a0), .str a1]) (rs := [.p (.int .i64 y6)]) rfl rfl rfl Try_cal_29 (ref13_Arity_ok h7) rfl rfl rfl) ?_
      refine reg_cons (guard_on rfl rfl rfl rfl hb5) (op_int (k := .i64) (m := y6) (n := 1) rfl rfl rfl rfl rfl rfl) ?_
      refine reg_cons (guard_on rfl rfl rfl rfl hb5) (op_int (k := .i64) (m := (a2.length : Int)) (n := w_i64 (y6 + 1)) rfl rfl rfl rfl rfl rfl) ?_
      refine reg_cons (guard_no rfl) (op_pick_f rfl rfl hb5 rfl rfl rfl) ?_
      refine reg_nil ?_
      cases hF
      exact post_cut _ rfl (imp_sub [] rfl (by decide) rfl rfl ⟨by kernel_rfl, by kernel_rfl, by kernel_rfl, by kernel_rfl, by kernel_rfl, trivial⟩ trivial rfl rfl rfl)
  · rintro _ rfl
    have hF := hK10
    clear hK10
    refine post_next ?_
    rcases ite_some hF with ⟨hb11, hF⟩ | ⟨hb11, hF⟩
    · refine aw_cond_t rfl hb11 ?_
      refine aw_seq ?_
      refine aw_region ?_
      iterate 2 (refine reg_cons (guard_no rfl) (op_assign rfl rfl rfl rfl) ?_)
      refine reg_nil ?_
      refine post_imp (s' := ⟨61, [(8, some (.pv .nils)), (9, some (.pv (.bool false)))], [], 0, [], [], 0, []⟩) (imp_sub [] rfl (by decide) rfl rfl ⟨by kernel_rfl, by kernel_rfl, trivial⟩ trivial rfl rfl rfl) ?_
      refine post_next ?_
      refine aw_ret ?_
      refine post_then_ret ?_
      refine post_imp (imp_nil_own 8 24 2 0 rfl rfl) ?_
      obtain rfl := Option.some.inj hF
      exact post_ret rfl rfl (.cons _ _ _ _ _ (.tmp _ _ rfl) (.own _ _ _ _ rfl nolent3) (.cons _ _ _ _ _ (.tmp _ _ rfl) (.p _) .nil)) (.inl rfl)
    · refine aw_cond_f rfl hb11 ?_
      refine aw_skip ?_
      refine post_next ?_
      refine aw_seq ?_
      refine aw_region ?_
      iterate 2 (refine reg_cons (guard_no rfl) (op_move rfl rfl rfl rfl) ?_)
      obtain ⟨y14, h15, hF⟩ := bind_some hF
      refine reg_cons (guard_no rfl) (op_call 0 rfl (caps := []) (args := [.vs 7 (List.map eGClass a0), .str a1]) (rs := [.p (.vs 1 (List.map eI y14))]) rfl rfl rfl Try_cal_33 (Fn.frozen (ref14_Chain_ok h15)) rfl rfl rfl) ?_
      refine reg_cons (guard_no rfl) (op_assign rfl rfl rfl rfl) ?_
      refine reg_nil ?_
      refine post_imp (s' := ⟨61, [(0, some (.pv (.vs 7 (List.map eGClass a0)))), (2, some (.pv (.vs 2 (List.map eGOwner a2)))), (3, some (.pv (.str a3))), (10, some (.pv (.vs 1 (List.map eI y14))))], [], 0, [], [], 0, []⟩) (imp_sub [] rfl (by decide) rfl rfl ⟨by kernel_rfl, by kernel_rfl, by kernel_rfl, by kernel_rfl, trivial⟩ trivial rfl rfl rfl) ?_
      refine post_next ?_
      refine aw_seq ?_
      refine aw_region ?_
      refine reg_cons (guard_no rfl) (op_litOwn 0 rfl (rows := List.map eGOwner ([] : List GOwner)) (zs := (eGOwner zGOwner)) rfl rfl Try_slc_39 Try_zer_24 (by exact ⟨rfl, rfl, trivial⟩) rfl rfl rfl rfl rfl rfl rfl rfl) ?_
      refine reg_cons (guard_no rfl) (op_move rfl rfl rfl rfl) ?_
      obtain ⟨u18, h19, hF⟩ := bind_some hF
      refine reg_cons (guard_no rfl) (op_append 1 rfl rfl rfl rfl rfl Try_slc_39 Try_elm_24 Try_zer_24 rfl rfl rfl (room_map (f := eGOwner) (g := eGOwner) h19) (List.map_append (f := eGOwner) (l₁ := ([] : List GOwner)) (l₂ := a2)).symm rfl rfl) ?_
      refine reg_cons (guard_no rfl) (op_assign rfl rfl rfl rfl) ?_
      refine reg_nil ?_
      refine post_imp (s' := ⟨61, [(0, some (.pv (.vs 7 (List.map eGClass a0)))), (3, some (.pv (.str a3))), (10, some (.pv (.vs 1 (List.map eI y14)))), (11, some (.ls 0))], [(0, some (.row 24 2 (List.map eGOwner (([] : List GOwner) ++ a2))))], 1, [], [], 0, []⟩) (imp_sub [1] rfl (by decide) rfl rfl ⟨by kernel_rfl, by kernel_rfl, by kernel_rfl, by kernel_rfl, trivial⟩ ⟨by kernel_rfl, trivial⟩ rfl rfl rfl) ?_
      refine post_next ?_
      iterate 2 (refine aw_seq ?_)
      refine aw_region ?_
      refine reg_cons (guard_no rfl) (op_assign rfl rfl rfl rfl) ?_
      refine reg_nil ?_
      refine post_imp (s' := ⟨61, [(0, some (.pv (.vs 7 (List.map eGClass a0)))), (3, some (.pv (.str a3))), (10, some (.pv (.vs 1 (List.map eI y14)))), (11, some (.ls 0)), (12, some (.pv (.int .i64 0)))], [(0, some (.row 24 2 (List.map eGOwner (([] : List GOwner) ++ a2))))], 1, [], [], 0, []⟩) (imp_sub [0] rfl (by decide) rfl rfl ⟨by kernel_rfl, by kernel_rfl, by kernel_rfl, by kernel_rfl, by kernel_rfl, trivial⟩ ⟨by kernel_rfl, trivial⟩ rfl rfl rfl) ?_
      refine post_next ?_
      obtain ⟨x131, hF, hK132⟩ := bind_some hF
      refine aw_for (a0.length + 1) (fun s1 => s1 = ⟨61, [(11, some (.ls 0))], [(0, some (.row 24 2 (List.map eGOwner x131)))], 1, [], [], 0, []⟩) ?_ ?_
      · refine rnd_loop (α := (List GOwner) × Int) (fun q => ⟨61, [(0, some (.pv (.vs 7 (List.map eGClass a0)))), (3, some (.pv (.str a3))), (10, some (.pv (.vs 1 (List.map eI y14)))), (11, some (.ls 0)), (12, some (.pv (.int .i64 q.2)))], [(0, some (.row 24 2 (List.map eGOwner q.1)))], 1, [], [], 0, []⟩) (fun k q => ref15_Raise_L1 a0 a3 y14 k q.1 q.2 = some x131) ((([] : List GOwner) ++ a2), 0) (imp_sub [0] rfl (by decide) rfl rfl ⟨by kernel_rfl, by kernel_rfl, by kernel_rfl, by kernel_rfl, by kernel_rfl, trivial⟩ ⟨by kernel_rfl, trivial⟩ rfl rfl rfl) hF (fun q h => by cases h) ?_
        clear hF
        rintro k ⟨x55, x56⟩ hF ih
        refine rnd_succ ?_
        iterate 2 (refine aw_seq ?_)
        refine aw_region ?_
        iterate 3 (refine reg_cons (guard_no rfl) (op_move rfl rfl rfl rfl) ?_)
        obtain ⟨y98, h99, hF⟩ := bind_some hF
        refine reg_cons (guard_no rfl) (op_index_vs (k := .i64) rfl rfl rfl (idx_map eI h99) Try_slc_55 rfl rfl) ?_
        refine reg_cons (guard_no rfl) (op_load_vp (p := .int .i64 y98) rfl rfl rfl Try_one_3 rfl rfl) ?_
        obtain ⟨y100, h101, hF⟩ := bind_some hF
        refine reg_cons (guard_no rfl) (op_index_vs (k := .i64) rfl rfl rfl (idx_map eGClass h101) Try_slc_22 rfl rfl) ?_
        refine reg_cons (guard_no rfl) (op_field_vp rfl rfl Try_fld_43_0 rfl rfl) ?_
        refine reg_cons (guard_no rfl) (op_load_vp (p := .str y100.fName) rfl rfl rfl Try_one_9 rfl rfl) ?_
        refine reg_cons (guard_no rfl) (op_move rfl rfl rfl rfl) ?_
        refine reg_cons (guard_no rfl) (op_str rfl rfl rfl rfl rfl rfl) ?_
        refine reg_nil ?_
        refine post_imp (s' := ⟨61, [(0, some (.pv (.vs 7 (List.map eGClass a0)))), (3, some (.pv (.str a3))), (10, some (.pv (.vs 1 (List.map eI y14)))), (11, some (.ls 0)), (12, some (.pv (.int .i64 x56))), (42, some (.pv (.bool (!(y100.fName == a3)))))], [(0, some (.row 24 2 (List.map eGOwner x55)))], 1, [], [], 0, []⟩) (imp_sub [0] rfl (by decide) rfl rfl ⟨by kernel_rfl, by kernel_rfl, by kernel_rfl, by kernel_rfl, by kernel_rfl, by kernel_rfl, trivial⟩ ⟨by kernel_rfl, trivial⟩ rfl rfl rfl) ?_
        refine post_next ?_
        rcases ite_some hF with ⟨hb102, hF⟩ | ⟨hb102, hF⟩
        · refine aw_cond_t rfl hb102 ?_
          refine aw_skip ?_
          refine post_next ?_
          refine aw_seq ?_
          refine aw_block ?_
          refine aw_imp (imp_freeze [(0, some (.row 24 2 (List.map eGOwner x55)))] [(11, some (.pv (.vs 2 (List.map eGOwner x55))))] (FzH.spec ⟨rfl, trivial⟩) ⟨⟨_, rfl, rfl⟩, trivial⟩) ?_
          refine aw_imp (imp_names 2) ?_
          refine dr_start ⟨_, _, _⟩ rfl ?_
          refine dr_cons { need := [(11, .pv (.vs 2 (List.map eGOwner x55)))], dst := some 45, val := some (.pv (.vs 2 (List.map eGOwner x55))) } (fun m h => step_on (guard_no rfl) (op_move rfl h.1.1 rfl rfl) rfl) ⟨⟨rfl, trivial⟩, trivial, trivial⟩ ?_
          obtain ⟨y119, h120, hF⟩ := bind_some hF
          refine dr_cons { need := [(45, .pv (.vs 2 (List.map eGOwner x55)))], dst := some 46, val := some (.pv (.vp (eGOwner y119))) } (fun m h => step_on (guard_no rfl) (op_index_vs (k := .i64) rfl h.1.1 rfl (idx_map eGOwner h120) Try_slc_39 rfl rfl) rfl) ⟨⟨rfl, trivial⟩, trivial, trivial⟩ ?_
          refine dr_cons { need := [(46, .pv (.vp (eGOwner y119)))], dst := some 47, val := some (.pv (.agg (eGOwner y119))) } (fun m h => step_on (guard_no rfl) (op_load_vp_agg (ps := eGOwner y119) rfl h.1.1 rfl rfl Try_agg_24 rfl rfl) rfl) ⟨⟨rfl, trivial⟩, trivial, trivial⟩ ?_
          refine dr_cons { need := [(47, .pv (.agg (eGOwner y119)))], names := [1], dst := some 48, val := some (.ls 1), upd := [(1, some (.row 24 2 (List.map eGOwner [y119])))] } (fun m h => step_on (guard_no rfl) (op_litOwn 1 (fresh_free h.2.2.1) (rows := List.map eGOwner ([y119] : List GOwner)) (zs := (eGOwner zGOwner)) rfl rfl Try_slc_39 Try_zer_24 (by exact ⟨rfl, rfl, trivial⟩) rfl rfl rfl (evs_cons h.1.1 evs_nil) rfl rfl rfl rfl) rfl) ⟨⟨rfl, trivial⟩, trivial, ⟨rfl, trivial⟩⟩ ?_
          refine dr_cons { need := [(0, .pv (.vs 7 (List.map eGClass a0)))], dst := some 49, val := some (.pv (.vs 7 (List.map eGClass a0))) } (fun m h => step_on (guard_no rfl) (op_move rfl h.1.1 rfl rfl) rfl) ⟨⟨rfl, trivial⟩, trivial, trivial⟩ ?_
          refine dr_cons { need := [(10, .pv (.vs 1 (List.map eI y14)))], dst := some 50, val := some (.pv (.vs 1 (List.map eI y14))) } (fun m h => step_on (guard_no rfl) (op_move rfl h.1.1 rfl rfl) rfl) ⟨⟨rfl, trivial⟩, trivial, trivial⟩ ?_
          refine dr_cons { need := [(12, .pv (.int .i64 x56))], dst := some 51, val := some (.pv (.int .i64 x56)) } (fun m h => step_on (guard_no rfl) (op_move rfl h.1.1 rfl rfl) rfl) ⟨⟨rfl, trivial⟩, trivial, trivial⟩ ?_
          obtain ⟨y121, h122, hF⟩ := bind_some hF
          refine dr_cons { need := [(50, .pv (.vs 1 (List.map eI y14))), (51, .pv (.int .i64 x56))], dst := some 52, val := some (.pv (.vp (eI y121))) } (fun m h => step_on (guard_no rfl) (op_index_vs (k := .i64) rfl h.1.1 h.1.2.1 (idx_map eI h122) Try_slc_55 rfl rfl) rfl) ⟨⟨rfl, rfl, trivial⟩, trivial, trivial⟩ ?_
          refine dr_cons { need := [(52, .pv (.vp (eI y121)))], dst := some 53, val := some (.pv (.int .i64 y121)) } (fun m h => step_on (guard_no rfl) (op_load_vp (p := .int .i64 y121) rfl h.1.1 rfl Try_one_3 rfl rfl) rfl) ⟨⟨rfl, trivial⟩, trivial, trivial⟩ ?_
          obtain ⟨y123, h124, hF⟩ := bind_some hF
          refine dr_cons { need := [(49, .pv (.vs 7 (List.map eGClass a0))), (53, .pv (.int .i64 y121))], dst := some 54, val := some (.pv (.vp (eGClass y123))) } (fun m h => step_on (guard_no rfl) (op_index_vs (k := .i64) rfl h.1.1 h.1.2.1 (idx_map eGClass h124) Try_slc_22 rfl rfl) rfl) ⟨⟨rfl, rfl, trivial⟩, trivial, trivial⟩ ?_
          refine dr_cons { need := [(54, .pv (.vp (eGClass y123)))], dst := some 55, val := some (.pv (.vp (List.drop 3 (eGClass y123)))) } (fun m h => step_on (guard_no rfl) (op_field_vp rfl h.1.1 Try_fld_43_3 rfl rfl) rfl) ⟨⟨rfl, trivial⟩, trivial, trivial⟩ ?_
          refine dr_cons { need := [(55, .pv (.vp (List.drop 3 (eGClass y123))))], dst := some 56, val := some (.pv (.vs 2 (List.map eGOwner y123.fAbove))) } (fun m h => step_on (guard_no rfl) (op_load_vp (p := .vs 2 (List.map eGOwner y123.fAbove)) rfl h.1.1 rfl Try_one_39 rfl rfl) rfl) ⟨⟨rfl, trivial⟩, trivial, trivial⟩ ?_
          refine dr_cons { need := [(11, .pv (.vs 2 (List.map eGOwner x55)))], dst := some 57, val := some (.pv (.vs 2 (List.map eGOwner x55))) } (fun m h => step_on (guard_no rfl) (op_move rfl h.1.1 rfl rfl) rfl) ⟨⟨rfl, trivial⟩, trivial, trivial⟩ ?_
          obtain ⟨y125, h126, hF⟩ := bind_some hF
          refine dr_cons { need := [(57, .pv (.vs 2 (List.map eGOwner x55))), (56, .pv (.vs 2 (List.map eGOwner y123.fAbove)))], dst := some 58, val := some (.pv (.vs 2 (List.map eGOwner y125))) } (fun m h => step_on (guard_no rfl) (op_call 3 rfl (caps := []) (args := [.vs 2 (List.map eGOwner y123.fAbove), .vs 2 (List.map eGOwner x55)]) (rs := [.p (.vs 2 (List.map eGOwner y125))]) rfl rfl (evl_cons h.1.2.1 (evl_cons h.1.1 evl_nil)) Try_cal_74 (Fn.frozen (ref04_All_ok h126)) rfl rfl rfl) rfl) ⟨⟨rfl, rfl, trivial⟩, trivial, trivial⟩ ?_
          obtain ⟨u127, h128, hF⟩ := bind_some hF
          refine dr_cons { need := [(48, .ls 1), (58, .pv (.vs 2 (List.map eGOwner y125)))], hneed := [(1, .row 24 2 (List.map eGOwner [y119]))], names := [2], dst := some 59, val := some (.ls 2), upd := [(2, some (.row 24 2 (List.map eGOwner ([y119] ++ y125)))), (1, none)] } (fun m h => step_on (guard_no rfl) (op_append 2 (fresh_free h.2.2.1) rfl h.1.1 h.2.1.1 h.1.2.1 Try_slc_39 Try_elm_24 Try_zer_24 rfl rfl rfl (room_map (f := eGOwner) (g := eGOwner) h128) (List.map_append (f := eGOwner) (l₁ := [y119]) (l₂ := y125)).symm rfl rfl) rfl) ⟨⟨rfl, rfl, trivial⟩, ⟨rfl, trivial⟩, ⟨rfl, trivial⟩⟩ ?_
          refine dr_cons { need := [(59, .ls 2)], dst := some 11, val := some (.ls 2) } (fun m h => step_on (guard_no rfl) (op_assign rfl h.1.1 rfl rfl) rfl) ⟨⟨rfl, trivial⟩, trivial, trivial⟩ ?_
          refine dr_nil Try_mixed rfl (by kernel_rfl) ?_
          refine post_imp (s' := ⟨61, [(0, some (.pv (.vs 7 (List.map eGClass a0)))), (3, some (.pv (.str a3))), (10, some (.pv (.vs 1 (List.map eI y14)))), (11, some (.ls 0)), (12, some (.pv (.int .i64 x56)))], [(0, some (.row 24 2 (List.map eGOwner ([y119] ++ y125))))], 1, [], [], 0, []⟩) (imp_sub [2] rfl (by decide) rfl rfl ⟨by kernel_rfl, by kernel_rfl, by kernel_rfl, by kernel_rfl, by kernel_rfl, trivial⟩ ⟨by kernel_rfl, trivial⟩ rfl rfl rfl) ?_
          refine post_block_normal ?_
          refine post_next ?_
          refine aw_region ?_
          refine reg_cons (guard_no rfl) (op_move rfl rfl rfl rfl) ?_
          refine reg_cons (guard_no rfl) (op_int (k := .i64) (m := x56) (n := 1) rfl rfl rfl rfl rfl rfl) ?_
          refine reg_cons (guard_no rfl) (op_assign rfl rfl rfl rfl) ?_
          refine reg_nil ?_
          refine post_round ?_
          exact rnd_back (ih (([y119] ++ y125), w_i64 (x56 + 1)) hF) (imp_sub [0] rfl (by decide) rfl rfl ⟨by kernel_rfl, by kernel_rfl, by kernel_rfl, by kernel_rfl, by kernel_rfl, trivial⟩ ⟨by kernel_rfl, trivial⟩ rfl rfl rfl)
        · refine aw_cond_f rfl hb102 ?_
          refine aw_exit ?_
          iterate 2 (refine post_then_exit ?_)
          obtain rfl := Option.some.inj hF
          exact post_lp_break _ rfl (imp_sub [0] rfl (by decide) rfl rfl ⟨by kernel_rfl, trivial⟩ ⟨by kernel_rfl, trivial⟩ rfl rfl rfl)
      · rintro _ rfl
        have hF := hK132
        clear hK132
        refine post_next ?_
        refine aw_seq ?_
        refine aw_region ?_
        refine reg_cons (guard_no rfl) (op_move rfl rfl rfl rfl) ?_
        iterate 2 (refine reg_cons (guard_no rfl) (op_assign rfl rfl rfl rfl) ?_)
        refine reg_nil ?_
        refine post_imp (s' := ⟨61, [(8, some (.ls 0)), (9, some (.pv (.bool true)))], [(0, some (.row 24 2 (List.map eGOwner x131)))], 1, [], [], 0, []⟩) (imp_sub [0] rfl (by decide) rfl rfl ⟨by kernel_rfl, by kernel_rfl, trivial⟩ ⟨by kernel_rfl, trivial⟩ rfl rfl rfl) ?_
        refine post_next ?_
        refine aw_ret ?_
        obtain rfl := Option.some.inj hF
        exact post_ret rfl rfl (.cons _ _ _ _ _ (.tmp _ _ rfl) (.own _ _ _ _ rfl nolent3) (.cons _ _ _ _ _ (.tmp _ _ rfl) (.p _) .nil)) (.inl rfl)
abbrev ref27_Is_e336 (y100 : GOwner) (y102 : GOwner) : Eff := { need := [(82, .pv (.bool (!(bGOwner y100 y102)))), (105, .pv (.bool true))], dst := some 106, val := some (.pv (.bool true)) }
abbrev ref27_Is_e157  : Eff := { need := [(106, .pv (.bool true))], dst := some 107, val := some (.tup []) }
abbrev ref27_Is_e158  : Eff := { need := [(106, .pv (.bool true))], dst := some 108, val := some (.tup []) }
abbrev ref27_Is_e159  : Eff := { need := [(106, .pv (.bool true))], dst := some 109, val := some (.tup []) }
abbrev ref27_Is_e160  : Eff := { need := [(106, .pv (.bool true))], dst := some 110, val := some (.tup []) }
abbrev ref27_Is_e161  : Eff := { need := [(106, .pv (.bool true))], dst := some 111, val := some (.tup []) }
abbrev ref27_Is_e337 (y100 : GOwner) (y102 : GOwner) : Eff := { need := [(82, .pv (.bool (!(bGOwner y100 y102)))), (106, .pv (.bool true))], dst := some 112, val := some (.pv (.bool true)) }
abbrev ref27_Is_e338 (y100 : GOwner) (y102 : GOwner) : Eff := { need := [(82, .pv (.bool (!(bGOwner y100 y102)))), (112, .pv (.bool true))], dst := some 113, val := some (.pv (.bool true)) }
theorem ref27_Is_ok {a0 : List GClass} {a1 : GType} {a2 : GType} {r : Bool} (hF : ref27_Is a0 a1 a2 = some r) : Abs.Fn Try.prog 24 [.vs 7 (List.map eGClass a0), .agg (eGType a1), .agg (eGType a2)] [.p (.bool r)] := by
  unfold ref27_Is at hF
  refine fn_of_body (n := 114) Try.func24 rfl rfl rfl ?_
  intro w O
  refine aw_seq ?_
  refine aw_region ?_
  refine reg_cons (guard_no rfl) (op_box 0 rfl rfl rfl rfl rfl rfl) ?_
  refine reg_cons (guard_no rfl) (op_box 1 rfl rfl rfl rfl rfl rfl) ?_
  refine reg_cons (guard_no rfl) (op_assign rfl rfl rfl rfl) ?_
  refine reg_nil ?_
  refine post_imp (s' := ⟨114, [(0, some (.pv (.vs 7 (List.map eGClass a0)))), (4, some (.lp 0 0)), (5, some (.lp 1 0))], [(0, some (.box 27 (bxv (eGType a1)))), (1, some (.box 27 (bxv (eGType a2))))], 2, [], [], 0, []⟩) (imp_sub [0, 1] rfl (by decide) rfl rfl ⟨by kernel_rfl, by kernel_rfl, by kernel_rfl, trivial⟩ ⟨by kernel_rfl, by kernel_rfl, trivial⟩ rfl rfl rfl) ?_
  refine post_next ?_
  iterate 2 (refine aw_seq ?_)
  obtain ⟨x2, hF, hK4⟩ := bind_some hF
  refine aw_cut (fun s1 => s1 = ⟨114, [(0, some (.pv (.vs 7 (List.map eGClass a0)))), (4, some (.lp 0 0)), (5, some (.lp 1 0)), (18, some (.pv (.bool x2)))], [(0, some (.box 27 (bxv (eGType a1)))), (1, some (.box 27 (bxv (eGType a2))))], 2, [], [], 0, []⟩) ?_ ?_
  · refine aw_region ?_
    refine reg_cons (guard_no rfl) (op_field_lp rfl rfl Try_fld_27_0 rfl rfl) ?_
    refine reg_cons (guard_no rfl) (op_load_lp (v := .pv (.int .i64 a1.fKind)) rfl rfl rfl rfl Try_one_3 rfl rfl) ?_
    refine reg_cons (guard_no rfl) (op_int (k := .i64) (m := a1.fKind) (n := 1) rfl rfl rfl rfl rfl rfl) ?_
    refine reg_cons (guard_no rfl) (op_move rfl rfl rfl rfl) ?_
    rcases ite_some hF with ⟨hb1, hF⟩ | ⟨hb1, hF⟩
    · refine reg_cons (guard_on rfl rfl rfl rfl hb1) (op_field_lp rfl rfl Try_fld_27_0 rfl rfl) ?_
      refine reg_cons (guard_on rfl rfl rfl rfl hb1) (op_load_lp (v := .pv (.int .i64 a2.fKind)) rfl rfl rfl rfl Try_one_3 rfl rfl) ?_
      refine reg_cons (guard_on rfl rfl rfl rfl hb1) (op_int (k := .i64) (m := a2.fKind) (n := 1) rfl rfl rfl rfl rfl rfl) ?_
      refine reg_cons (guard_no rfl) (op_pick_t rfl rfl hb1 rfl rfl rfl) ?_
      refine reg_nil ?_
      cases hF
      exact post_cut _ rfl (imp_sub [0, 1] rfl (by decide) rfl rfl ⟨by kernel_rfl, by kernel_rfl, by kernel_rfl, by kernel_rfl, trivial⟩ ⟨by kernel_rfl, by kernel_rfl, trivial⟩ rfl rfl rfl)
    · refine reg_off (guard_off rfl rfl rfl rfl hb1) rfl rfl ?_
      iterate 2 (refine reg_off (guard_off rfl rfl rfl rfl hb1) rfl rfl ?_)
      refine reg_cons (guard_no rfl) (op_pick_f rfl rfl hb1 rfl rfl rfl) ?_
      refine reg_nil ?_
      cases hF
      exact post_cut _ rfl (imp_sub [0, 1] rfl (by decide) rfl rfl ⟨by kernel_rfl, by kernel_rfl, by kernel_rfl, by kernel_rfl, trivial⟩ ⟨by kernel_rfl, by kernel_rfl, trivial⟩ rfl rfl rfl)
  · rintro _ rfl
    have hF := hK4
    clear hK4
    refine post_next ?_
    rcases ite_some hF with ⟨hb5, hF⟩ | ⟨hb5, hF⟩
    · refine aw_cond_t rfl hb5 ?_
      refine aw_seq ?_
      refine aw_region ?_
      refine reg_cons (guard_no rfl) (op_assign rfl rfl rfl rfl) ?_
      refine reg_nil ?_
      refine post_imp (s' := ⟨114, [(6, some (.pv (.bool true)))], [], 0, [], [], 0, []⟩) (imp_sub [] rfl (by decide) rfl rfl ⟨by kernel_rfl, trivial⟩ trivial rfl rfl rfl) ?_
      refine post_next ?_
      refine aw_ret ?_
      refine post_then_ret ?_
      obtain rfl := Option.some.inj hF
      exact post_ret rfl rfl (.cons _ _ _ _ _ (.tmp _ _ rfl) (.p _) .nil) (.inl rfl)
    · refine aw_cond_f rfl hb5 ?_
      refine aw_skip ?_
      refine post_next ?_
      iterate 2 (refine aw_seq ?_)
      obtain ⟨x12, hF, hK14⟩ := bind_some hF
      refine aw_cut (fun s1 => s1 = ⟨114, [(0, some (.pv (.vs 7 (List.map eGClass a0)))), (4, some (.lp 0 0)), (5, some (.lp 1 0)), (29, some (.pv (.bool x12)))], [(0, some (.box 27 (bxv (eGType a1)))), (1, some (.box 27 (bxv (eGType a2))))], 2, [], [], 0, []⟩) ?_ ?_
      · refine aw_region ?_
        refine reg_cons (guard_no rfl) (op_field_lp rfl rfl Try_fld_27_0 rfl rfl) ?_
        refine reg_cons (guard_no rfl) (op_load_lp (v := .pv (.int .i64 a2.fKind)) rfl rfl rfl rfl Try_one_3 rfl rfl) ?_
        refine reg_cons (guard_no rfl) (op_int (k := .i64) (m := a2.fKind) (n := 2) rfl rfl rfl rfl rfl rfl) ?_
        refine reg_cons (guard_no rfl) (op_move rfl rfl rfl rfl) ?_
        rcases ite_some hF with ⟨hb6, hF⟩ | ⟨hb6, hF⟩
        · refine reg_off (guard_off rfl rfl rfl rfl hb6) rfl rfl ?_
          refine reg_off (guard_off rfl rfl rfl rfl hb6) rfl rfl ?_
          refine reg_cons (guard_no rfl) (op_pick_t rfl rfl hb6 rfl rfl rfl) ?_
          refine reg_cons (guard_no rfl) (op_move rfl rfl rfl rfl) ?_
          iterate 2 (refine reg_off (guard_off rfl rfl rfl rfl rfl) rfl rfl ?_)
          refine reg_cons (guard_no rfl) (op_pick_t rfl rfl rfl rfl rfl rfl) ?_
          refine reg_nil ?_
          cases hF
          exact post_cut _ rfl (imp_sub [0, 1] rfl (by decide) rfl rfl ⟨by kernel_rfl, by kernel_rfl, by kernel_rfl, by kernel_rfl, trivial⟩ ⟨by kernel_rfl, by kernel_rfl, trivial⟩ rfl rfl rfl)
        · refine reg_cons (guard_on rfl rfl rfl rfl hb6) (op_load_lp_agg (ps := eGType a1) rfl rfl rfl rfl rfl rfl Try_agg_27 rfl rfl) ?_
          obtain ⟨y7, h8, hF⟩ := bind_some hF
          refine reg_cons (guard_on rfl rfl rfl rfl hb6) (op_call 2 rfl (caps := []) (args := [.agg (eGType a1)]) (rs := [.p (.bool y7)]) rfl rfl rfl Try_cal_50 (ref27_dim_ok h8) rfl rfl rfl) ?_
          refine reg_cons (guard_no rfl) (op_pick_f rfl rfl hb6 rfl rfl rfl) ?_
          refine reg_cons (guard_no rfl) (op_move rfl rfl rfl rfl) ?_
          rcases ite_some hF with ⟨hb9, hF⟩ | ⟨hb9, hF⟩
          · refine reg_off (guard_off rfl rfl rfl rfl hb9) rfl rfl ?_
            refine reg_off (guard_off rfl rfl rfl rfl hb9) rfl rfl ?_
            refine reg_cons (guard_no rfl) (op_pick_t rfl rfl hb9 rfl rfl rfl) ?_
            refine reg_nil ?_
            cases hF
            exact post_cut _ rfl (imp_sub [0, 1] rfl (by decide) rfl rfl ⟨by kernel_rfl, by kernel_rfl, by kernel_rfl, by kernel_rfl, trivial⟩ ⟨by kernel_rfl, by kernel_rfl, trivial⟩ rfl rfl rfl)
          · refine reg_cons (guard_on rfl rfl rfl rfl hb9) (op_load_lp_agg (ps := eGType a2) rfl rfl rfl rfl rfl rfl Try_agg_27 rfl rfl) ?_
            obtain ⟨y10, h11, hF⟩ := bind_some hF
            refine reg_cons (guard_on rfl rfl rfl rfl hb9) (op_call 2 rfl (caps := []) (args := [.agg (eGType a2)]) (rs := [.p (.bool y10)]) rfl rfl rfl Try_cal_50 (ref27_dim_ok h11) rfl rfl rfl) ?_
            refine reg_cons (guard_no rfl) (op_pick_f rfl rfl hb9 rfl rfl rfl) ?_
            refine reg_nil ?_
            cases hF
            exact post_cut _ rfl (imp_sub [0, 1] rfl (by decide) rfl rfl ⟨by kernel_rfl, by kernel_rfl, by kernel_rfl, by kernel_rfl, trivial⟩ ⟨by kernel_rfl, by kernel_rfl, trivial⟩ rfl rfl rfl)
      · rintro _ rfl
        have hF := hK14
        clear hK14
        refine post_next ?_
        rcases ite_some hF with ⟨hb15, hF⟩ | ⟨hb15, hF⟩
        · refine aw_cond_t rfl hb15 ?_
          refine aw_seq ?_
          refine aw_region ?_
          refine reg_cons (guard_no rfl) (op_assign rfl rfl rfl rfl) ?_
          refine reg_nil ?_
          refine post_imp (s' := ⟨114, [(6, some (.pv (.bool false)))], [], 0, [], [], 0, []⟩) (imp_sub [] rfl (by decide) rfl rfl ⟨by kernel_rfl, trivial⟩ trivial rfl rfl rfl) ?_
          refine post_next ?_
          refine aw_ret ?_
          refine post_then_ret ?_
          obtain rfl := Option.some.inj hF
          exact post_ret rfl rfl (.cons _ _ _ _ _ (.tmp _ _ rfl) (.p _) .nil) (.inl rfl)
        · refine aw_cond_f rfl hb15 ?_
          refine aw_skip ?_
          refine post_next ?_
          iterate 2 (refine aw_seq ?_)
          refine aw_region ?_
          refine reg_cons (guard_no rfl) (op_field_lp rfl rfl Try_fld_27_0 rfl rfl) ?_
          refine reg_cons (guard_no rfl) (op_load_lp (v := .pv (.int .i64 a1.fKind)) rfl rfl rfl rfl Try_one_3 rfl rfl) ?_
          refine reg_cons (guard_no rfl) (op_int (k := .i64) (m := a1.fKind) (n := 3) rfl rfl rfl rfl rfl rfl) ?_
          refine reg_nil ?_
          refine post_imp (s' := ⟨114, [(0, some (.pv (.vs 7 (List.map eGClass a0)))), (4, some (.lp 0 0)), (5, some (.lp 1 0)), (32, some (.pv (.bool (a1.fKind == 3))))], [(0, some (.box 27 (bxv (eGType a1)))), (1, some (.box 27 (bxv (eGType a2))))], 2, [], [], 0, []⟩) (imp_sub [0, 1] rfl (by decide) rfl rfl ⟨by kernel_rfl, by kernel_rfl, by kernel_rfl, by kernel_rfl, trivial⟩ ⟨by kernel_rfl, by kernel_rfl, trivial⟩ rfl rfl rfl) ?_
          refine post_next ?_
          rcases ite_some hF with ⟨hb16, hF⟩ | ⟨hb16, hF⟩
          · refine aw_cond_t rfl hb16 ?_
            refine aw_seq ?_
            refine aw_region ?_
            refine reg_cons (guard_no rfl) (op_assign rfl rfl rfl rfl) ?_
            refine reg_nil ?_
            refine post_imp (s' := ⟨114, [(6, some (.pv (.bool true)))], [], 0, [], [], 0, []⟩) (imp_sub [] rfl (by decide) rfl rfl ⟨by kernel_rfl, trivial⟩ trivial rfl rfl rfl) ?_
            refine post_next ?_
            refine aw_ret ?_
            refine post_then_ret ?_
            obtain rfl := Option.some.inj hF
            exact post_ret rfl rfl (.cons _ _ _ _ _ (.tmp _ _ rfl) (.p _) .nil) (.inl rfl)
          · refine aw_cond_f rfl hb16 ?_
            refine aw_skip ?_
            refine post_next ?_
            iterate 2 (refine aw_seq ?_)
            obtain ⟨x20, hF, hK22⟩ := bind_some hF
            refine aw_cut (fun s1 => s1 = ⟨114, [(0, some (.pv (.vs 7 (List.map eGClass a0)))), (4, some (.lp 0 0)), (5, some (.lp 1 0)), (44, some (.pv (.bool x20)))], [(0, some (.box 27 (bxv (eGType a1)))), (1, some (.box 27 (bxv (eGType a2))))], 2, [], [], 0, []⟩) ?_ ?_
            · refine aw_region ?_
              refine reg_cons (guard_no rfl) (op_field_lp rfl rfl Try_fld_27_0 rfl rfl) ?_
              refine reg_cons (guard_no rfl) (op_load_lp (v := .pv (.int .i64 a1.fKind)) rfl rfl rfl rfl Try_one_3 rfl rfl) ?_
              refine reg_cons (guard_no rfl) (op_int (k := .i64) (m := a1.fKind) (n := 2) rfl rfl rfl rfl rfl rfl) ?_
              refine reg_cons (guard_no rfl) (op_move rfl rfl rfl rfl) ?_
              rcases ite_some hF with ⟨hb17, hF⟩ | ⟨hb17, hF⟩
              · refine reg_off (guard_off rfl rfl rfl rfl hb17) rfl rfl ?_
                iterate 6 (refine reg_off (guard_off rfl rfl rfl rfl hb17) rfl rfl ?_)
                refine reg_cons (guard_no rfl) (op_pick_t rfl rfl hb17 rfl rfl rfl) ?_
                refine reg_nil ?_
                cases hF
                exact post_cut _ rfl (imp_sub [0, 1] rfl (by decide) rfl rfl ⟨by kernel_rfl, by kernel_rfl, by kernel_rfl, by kernel_rfl, trivial⟩ ⟨by kernel_rfl, by kernel_rfl, trivial⟩ rfl rfl rfl)
              · refine reg_cons (guard_on rfl rfl rfl rfl hb17) (op_move rfl rfl rfl rfl) ?_
                refine reg_cons (guard_on rfl rfl rfl rfl hb17) (op_field_lp rfl rfl Try_fld_27_1 rfl rfl) ?_
                refine reg_cons (guard_on rfl rfl rfl rfl hb17) (op_load_lp (v := .pv (.str a1.fClass)) rfl rfl rfl rfl Try_one_9 rfl rfl) ?_
                refine reg_cons (guard_on rfl rfl rfl rfl hb17) (op_field_lp rfl rfl Try_fld_27_1 rfl rfl) ?_
                refine reg_cons (guard_on rfl rfl rfl rfl hb17) (op_load_lp (v := .pv (.str a2.fClass)) rfl rfl rfl rfl Try_one_9 rfl rfl) ?_
                obtain ⟨y18, h19, hF⟩ := bind_some hF
                refine reg_cons (guard_on rfl rfl rfl rfl hb17) (op_call 2 rfl (caps := []) (args := [.vs 7 (List.map eGClass a0), .str a1.fClass, .str a2.fClass]) (rs := [.p (.bool y18)]) rfl rfl rfl Try_cal_51 (ref14_Below_ok h19) rfl rfl rfl) ?_
                refine reg_cons (guard_on rfl rfl rfl rfl hb17) (op_not rfl rfl rfl rfl) ?_
                refine reg_cons (guard_no rfl) (op_pick_f rfl rfl hb17 rfl rfl rfl) ?_
                refine reg_nil ?_
                cases hF
                exact post_cut _ rfl (imp_sub [0, 1] rfl (by decide) rfl rfl ⟨by kernel_rfl, by kernel_rfl, by kernel_rfl, by kernel_rfl, trivial⟩ ⟨by kernel_rfl, by kernel_rfl, trivial⟩ rfl rfl rfl)
            · rintro _ rfl
              have hF := hK22
              clear hK22
              refine post_next ?_
              rcases ite_some hF with ⟨hb23, hF⟩ | ⟨hb23, hF⟩
              · refine aw_cond_t rfl hb23 ?_
                refine aw_seq ?_
                refine aw_region ?_
                refine reg_cons (guard_no rfl) (op_assign rfl rfl rfl rfl) ?_
                refine reg_nil ?_
                refine post_imp (s' := ⟨114, [(6, some (.pv (.bool false)))], [], 0, [], [], 0, []⟩) (imp_sub [] rfl (by decide) rfl rfl ⟨by kernel_rfl, trivial⟩ trivial rfl rfl rfl) ?_
                refine post_next ?_
                refine aw_ret ?_
                refine post_then_ret ?_
                obtain rfl := Option.some.inj hF
                exact post_ret rfl rfl (.cons _ _ _ _ _ (.tmp _ _ rfl) (.p _) .nil) (.inl rfl)
              · refine aw_cond_f rfl hb23 ?_
                refine aw_skip ?_
                refine post_next ?_
                refine aw_seq ?_
                refine dr_start ⟨_, _, _⟩ rfl ?_
                refine dr_cons { need := [(0, .pv (.vs 7 (List.map eGClass a0)))], dst := some 46, val := some (.pv (.vs 7 (List.map eGClass a0))) } (fun m h => step_on (guard_no rfl) (op_move rfl h.1.1 rfl rfl) rfl) ⟨⟨rfl, trivial⟩, trivial, trivial⟩ ?_
                refine dr_cons { need := [(4, .lp 0 0)], dst := some 47, val := some (.lp 0 1) } (fun m h => step_on (guard_no rfl) (op_field_lp rfl h.1.1 Try_fld_27_1 rfl rfl) rfl) ⟨⟨rfl, trivial⟩, trivial, trivial⟩ ?_
                refine dr_cons { need := [(47, .lp 0 1)], hneed := [(0, .box 27 (bxv (eGType a1)))], dst := some 48, val := some (.pv (.str a1.fClass)) } (fun m h => step_on (guard_no rfl) (op_load_lp (v := .pv (.str a1.fClass)) rfl h.1.1 h.2.1.1 rfl Try_one_9 rfl rfl) rfl) ⟨⟨rfl, trivial⟩, ⟨rfl, trivial⟩, trivial⟩ ?_
                refine dr_cons { need := [(4, .lp 0 0)], hneed := [(0, .box 27 (bxv (eGType a1)))], dst := some 49, val := some (.pv (.agg (eGType a1))) } (fun m h => step_on (guard_no rfl) (op_load_lp_agg (ps := eGType a1) rfl h.1.1 h.2.1.1 rfl rfl rfl Try_agg_27 rfl rfl) rfl) ⟨⟨rfl, trivial⟩, ⟨rfl, trivial⟩, trivial⟩ ?_
                obtain ⟨y28, h29, hF⟩ := bind_some hF
                refine dr_cons { need := [(49, .pv (.agg (eGType a1)))], dst := some 50, val := some (.pv (.vs 2 (List.map eGOwner y28))) } (fun m h => step_on (guard_no rfl) (op_call 2 rfl (caps := []) (args := [.agg (eGType a1)]) (rs := [.p (.vs 2 (List.map eGOwner y28))]) rfl rfl (evl_cons h.1.1 evl_nil) Try_cal_22 (Fn.frozen (ref05_Owners_ok h29)) rfl rfl rfl) rfl) ⟨⟨rfl, trivial⟩, trivial, trivial⟩ ?_
                refine dr_cons { need := [(5, .lp 1 0)], dst := some 51, val := some (.lp 1 1) } (fun m h => step_on (guard_no rfl) (op_field_lp rfl h.1.1 Try_fld_27_1 rfl rfl) rfl) ⟨⟨rfl, trivial⟩, trivial, trivial⟩ ?_
                refine dr_cons { need := [(51, .lp 1 1)], hneed := [(1, .box 27 (bxv (eGType a2)))], dst := some 52, val := some (.pv (.str a2.fClass)) } (fun m h => step_on (guard_no rfl) (op_load_lp (v := .pv (.str a2.fClass)) rfl h.1.1 h.2.1.1 rfl Try_one_9 rfl rfl) rfl) ⟨⟨rfl, trivial⟩, ⟨rfl, trivial⟩, trivial⟩ ?_
                obtain ⟨y30, h31, hF⟩ := bind_some hF
                refine dr_cons { need := [(52, .pv (.str a2.fClass)), (50, .pv (.vs 2 (List.map eGOwner y28))), (48, .pv (.str a1.fClass)), (46, .pv (.vs 7 (List.map eGClass a0)))], dst := some 53, val := some (.tup [.pv (.vs 2 (List.map eGOwner y30.1)), .pv (.bool y30.2)]) } (fun m h => step_on (guard_no rfl) (op_call 2 rfl (caps := []) (args := [.vs 7 (List.map eGClass a0), .str a1.fClass, .vs 2 (List.map eGOwner y28), .str a2.fClass]) (rs := [.p (.vs 2 (List.map eGOwner y30.1)), .p (.bool y30.2)]) rfl rfl (evl_cons h.1.2.2.2.1 (evl_cons h.1.2.2.1 (evl_cons h.1.2.1 (evl_cons h.1.1 evl_nil)))) Try_cal_52 (Fn.frozen (ref15_Raise_ok h31)) rfl rfl rfl) rfl) ⟨⟨rfl, rfl, rfl, rfl, trivial⟩, trivial, trivial⟩ ?_
                refine dr_cons { need := [(53, .tup [.pv (.vs 2 (List.map eGOwner y30.1)), .pv (.bool y30.2)])], dst := some 45, val := some (.tup [.pv (.vs 2 (List.map eGOwner y30.1)), .pv (.bool y30.2)]) } (fun m h => step_on (guard_no rfl) (op_move rfl h.1.1 rfl rfl) rfl) ⟨⟨rfl, trivial⟩, trivial, trivial⟩ ?_
                refine dr_cons { need := [(45, .tup [.pv (.vs 2 (List.map eGOwner y30.1)), .pv (.bool y30.2)])], dst := some 54, val := some (.pv (.vs 2 (List.map eGOwner y30.1))) } (fun m h => step_on (guard_no rfl) (op_extract rfl h.1.1 rfl rfl rfl) rfl) ⟨⟨rfl, trivial⟩, trivial, trivial⟩ ?_
                refine dr_cons { need := [(45, .tup [.pv (.vs 2 (List.map eGOwner y30.1)), .pv (.bool y30.2)])], dst := some 55, val := some (.pv (.bool y30.2)) } (fun m h => step_on (guard_no rfl) (op_extract rfl h.1.1 rfl rfl rfl) rfl) ⟨⟨rfl, trivial⟩, trivial, trivial⟩ ?_
                refine dr_cons { need := [(54, .pv (.vs 2 (List.map eGOwner y30.1)))], dst := some 7, val := some (.pv (.vs 2 (List.map eGOwner y30.1))) } (fun m h => step_on (guard_no rfl) (op_assign rfl h.1.1 rfl rfl) rfl) ⟨⟨rfl, trivial⟩, trivial, trivial⟩ ?_
                refine dr_cons { need := [(55, .pv (.bool y30.2))], dst := some 8, val := some (.pv (.bool y30.2)) } (fun m h => step_on (guard_no rfl) (op_assign rfl h.1.1 rfl rfl) rfl) ⟨⟨rfl, trivial⟩, trivial, trivial⟩ ?_
                refine dr_nil Try_mixed rfl (by kernel_rfl) ?_
                refine post_imp (s' := ⟨114, [(5, some (.lp 0 0)), (7, some (.pv (.vs 2 (List.map eGOwner y30.1)))), (8, some (.pv (.bool y30.2)))], [(0, some (.box 27 (bxv (eGType a2))))], 1, [], [], 0, []⟩) (imp_sub [1] rfl (by decide) rfl rfl ⟨by kernel_rfl, by kernel_rfl, by kernel_rfl, trivial⟩ ⟨by kernel_rfl, trivial⟩ rfl rfl rfl) ?_
                refine post_next ?_
                refine aw_seq ?_
                refine aw_region ?_
                refine reg_cons (guard_no rfl) (op_load_lp_agg (ps := eGType a2) rfl rfl rfl rfl rfl rfl Try_agg_27 rfl rfl) ?_
                obtain ⟨y34, h35, hF⟩ := bind_some hF
                refine reg_cons (guard_no rfl) (op_call 1 rfl (caps := []) (args := [.agg (eGType a2)]) (rs := [.p (.vs 2 (List.map eGOwner y34))]) rfl rfl rfl Try_cal_22 (Fn.frozen (ref05_Owners_ok h35)) rfl rfl rfl) ?_
                refine reg_cons (guard_no rfl) (op_assign rfl rfl rfl rfl) ?_
                refine reg_nil ?_
                refine post_imp (s' := ⟨114, [(7, some (.pv (.vs 2 (List.map eGOwner y30.1)))), (8, some (.pv (.bool y30.2))), (9, some (.pv (.vs 2 (List.map eGOwner y34))))], [], 0, [], [], 0, []⟩) (imp_sub [] rfl (by decide) rfl rfl ⟨by kernel_rfl, by kernel_rfl, by kernel_rfl, trivial⟩ trivial rfl rfl rfl) ?_
                refine post_next ?_
                iterate 2 (refine aw_seq ?_)
                obtain ⟨x37, hF, hK39⟩ := bind_some hF
                refine aw_cut (fun s1 => s1 = ⟨114, [(7, some (.pv (.vs 2 (List.map eGOwner y30.1)))), (9, some (.pv (.vs 2 (List.map eGOwner y34)))), (66, some (.pv (.bool x37)))], [], 0, [], [], 0, []⟩) ?_ ?_
                · refine aw_region ?_
                  refine reg_cons (guard_no rfl) (op_move rfl rfl rfl rfl) ?_
                  refine reg_cons (guard_no rfl) (op_not rfl rfl rfl rfl) ?_
                  refine reg_cons (guard_no rfl) (op_move rfl rfl rfl rfl) ?_
                  rcases ite_some hF with ⟨hb36, hF⟩ | ⟨hb36, hF⟩
                  · refine reg_off (guard_off rfl rfl rfl rfl hb36) rfl rfl ?_
                    iterate 4 (refine reg_off (guard_off rfl rfl rfl rfl hb36) rfl rfl ?_)
                    refine reg_cons (guard_no rfl) (op_pick_t rfl rfl hb36 rfl rfl rfl) ?_
                    refine reg_nil ?_
                    cases hF
                    exact post_cut _ rfl (imp_sub [] rfl (by decide) rfl rfl ⟨by kernel_rfl, by kernel_rfl, by kernel_rfl, trivial⟩ trivial rfl rfl rfl)
                  · refine reg_cons (guard_on rfl rfl rfl rfl hb36) (op_move rfl rfl rfl rfl) ?_
                    refine reg_cons (guard_on rfl rfl rfl rfl hb36) (op_len_vs (n := y30.1.length) rfl rfl (List.length_map ..) Try_slc_39 rfl rfl) ?_
                    refine reg_cons (guard_on rfl rfl rfl rfl hb36) (op_move rfl rfl rfl rfl) ?_
                    refine reg_cons (guard_on rfl rfl rfl rfl hb36) (op_len_vs (n := y34.length) rfl rfl (List.length_map ..) Try_slc_39 rfl rfl) ?_
                    refine reg_cons (guard_on rfl rfl rfl rfl hb36) (op_int (k := .i64) (m := (y30.1.length : Int)) (n := (y34.length : Int)) rfl rfl rfl rfl rfl rfl) ?_
                    refine reg_cons (guard_no rfl) (op_pick_f rfl rfl hb36 rfl rfl rfl) ?_
                    refine reg_nil ?_
                    cases hF
                    exact post_cut _ rfl (imp_sub [] rfl (by decide) rfl rfl ⟨by kernel_rfl, by kernel_rfl, by kernel_rfl, trivial⟩ trivial rfl rfl rfl)
                · rintro _ rfl
                  have hF := hK39
                  clear hK39
                  refine post_next ?_
                  rcases ite_some hF with ⟨hb40, hF⟩ | ⟨hb40, hF⟩
                  · refine aw_cond_t rfl hb40 ?_
                    refine aw_seq ?_
                    refine aw_region ?_
                    refine reg_cons (guard_no rfl) (op_assign rfl rfl rfl rfl) ?_
                    refine reg_nil ?_
                    refine post_imp (s' := ⟨114, [(6, some (.pv (.bool false)))], [], 0, [], [], 0, []⟩) (imp_sub [] rfl (by decide) rfl rfl ⟨by kernel_rfl, trivial⟩ trivial rfl rfl rfl) ?_
                    refine post_next ?_
                    refine aw_ret ?_
                    refine post_then_ret ?_
                    obtain rfl := Option.some.inj hF
                    exact post_ret rfl rfl (.cons _ _ _ _ _ (.tmp _ _ rfl) (.p _) .nil) (.inl rfl)
                  · refine aw_cond_f rfl hb40 ?_
                    refine aw_skip ?_
                    refine post_next ?_
                    iterate 2 (refine aw_seq ?_)
                    refine aw_region ?_
                    refine reg_cons (guard_no rfl) (op_assign rfl rfl rfl rfl) ?_
                    refine reg_nil ?_
                    refine post_imp (s' := ⟨114, [(7, some (.pv (.vs 2 (List.map eGOwner y30.1)))), (9, some (.pv (.vs 2 (List.map eGOwner y34)))), (10, some (.pv (.int .i64 0)))], [], 0, [], [], 0, []⟩) (imp_sub [] rfl (by decide) rfl rfl ⟨by kernel_rfl, by kernel_rfl, by kernel_rfl, trivial⟩ trivial rfl rfl rfl) ?_
                    refine post_next ?_
                    obtain ⟨lr122, hF, hK123⟩ := bind_some hF
                    refine aw_for ((((y30.1.length : Int) : Int) - (0)).toNat + 1) (fun s1 => ∃ q, lr122 = .next q ∧ s1 = ⟨114, [], [], 0, [], [], 0, []⟩) ?_ ?_
                    · refine rnd_loop (α := Int) (fun q => ⟨114, [(7, some (.pv (.vs 2 (List.map eGOwner y30.1)))), (9, some (.pv (.vs 2 (List.map eGOwner y34)))), (10, some (.pv (.int .i64 q)))], [], 0, [], [], 0, []⟩) (fun k q => ref27_Is_L1 y30 y34 k q = some lr122) 0 (imp_sub [] rfl (by decide) rfl rfl ⟨by kernel_rfl, by kernel_rfl, by kernel_rfl, trivial⟩ trivial rfl rfl rfl) hF (fun q h => by cases h) ?_
                      clear hF
                      rintro k x67 hF ih
                      refine rnd_succ ?_
                      iterate 2 (refine aw_seq ?_)
                      refine aw_region ?_
                      iterate 2 (refine reg_cons (guard_no rfl) (op_move rfl rfl rfl rfl) ?_)
                      refine reg_cons (guard_no rfl) (op_len_vs (n := y30.1.length) rfl rfl (List.length_map ..) Try_slc_39 rfl rfl) ?_
                      refine reg_cons (guard_no rfl) (op_int (k := .i64) (m := x67) (n := (y30.1.length : Int)) rfl rfl rfl rfl rfl rfl) ?_
                      refine reg_nil ?_
                      refine post_imp (s' := ⟨114, [(7, some (.pv (.vs 2 (List.map eGOwner y30.1)))), (9, some (.pv (.vs 2 (List.map eGOwner y34)))), (10, some (.pv (.int .i64 x67))), (70, some (.pv (.bool (decide (x67 < (y30.1.length : Int))))))], [], 0, [], [], 0, []⟩) (imp_sub [] rfl (by decide) rfl rfl ⟨by kernel_rfl, by kernel_rfl, by kernel_rfl, by kernel_rfl, trivial⟩ trivial rfl rfl rfl) ?_
                      refine post_next ?_
                      rcases ite_some hF with ⟨hb95, hF⟩ | ⟨hb95, hF⟩
                      · refine aw_cond_t rfl hb95 ?_
                        refine aw_skip ?_
                        refine post_next ?_
                        refine aw_seq ?_
                        refine aw_block ?_
                        refine aw_seq ?_
                        obtain ⟨x117, hF, hK119⟩ := bind_some hF
                        refine aw_cut (fun s1 => s1 = ⟨114, [(7, some (.pv (.vs 2 (List.map eGOwner y30.1)))), (9, some (.pv (.vs 2 (List.map eGOwner y34)))), (10, some (.pv (.int .i64 x67))), (113, some (.pv (.bool x117)))], [], 0, [], [], 0, []⟩) ?_ ?_
                        · refine dr_start ⟨_, _, _⟩ rfl ?_
                          refine dr_cons { need := [(7, .pv (.vs 2 (List.map eGOwner y30.1)))], dst := some 73, val := some (.pv (.vs 2 (List.map eGOwner y30.1))) } (fun m h => step_on (guard_no rfl) (op_move rfl h.1.1 rfl rfl) rfl) ⟨⟨rfl, trivial⟩, trivial, trivial⟩ ?_
                          refine dr_cons { need := [(10, .pv (.int .i64 x67))], dst := some 74, val := some (.pv (.int .i64 x67)) } (fun m h => step_on (guard_no rfl) (op_move rfl h.1.1 rfl rfl) rfl) ⟨⟨rfl, trivial⟩, trivial, trivial⟩ ?_
                          obtain ⟨y100, h101, hF⟩ := bind_some hF
                          refine dr_cons { need := [(73, .pv (.vs 2 (List.map eGOwner y30.1))), (74, .pv (.int .i64 x67))], dst := some 75, val := some (.pv (.vp (eGOwner y100))) } (fun m h => step_on (guard_no rfl) (op_index_vs (k := .i64) rfl h.1.1 h.1.2.1 (idx_map eGOwner h101) Try_slc_39 rfl rfl) rfl) ⟨⟨rfl, rfl, trivial⟩, trivial, trivial⟩ ?_
                          refine dr_cons { need := [(75, .pv (.vp (eGOwner y100)))], dst := some 76, val := some (.pv (.agg (eGOwner y100))) } (fun m h => step_on (guard_no rfl) (op_load_vp_agg (ps := eGOwner y100) rfl h.1.1 rfl rfl Try_agg_24 rfl rfl) rfl) ⟨⟨rfl, trivial⟩, trivial, trivial⟩ ?_
                          refine dr_cons { need := [(9, .pv (.vs 2 (List.map eGOwner y34)))], dst := some 77, val := some (.pv (.vs 2 (List.map eGOwner y34))) } (fun m h => step_on (guard_no rfl) (op_move rfl h.1.1 rfl rfl) rfl) ⟨⟨rfl, trivial⟩, trivial, trivial⟩ ?_
                          refine dr_cons { need := [(10, .pv (.int .i64 x67))], dst := some 78, val := some (.pv (.int .i64 x67)) } (fun m h => step_on (guard_no rfl) (op_move rfl h.1.1 rfl rfl) rfl) ⟨⟨rfl, trivial⟩, trivial, trivial⟩ ?_
                          obtain ⟨y102, h103, hF⟩ := bind_some hF
                          refine dr_cons { need := [(77, .pv (.vs 2 (List.map eGOwner y34))), (78, .pv (.int .i64 x67))], dst := some 79, val := some (.pv (.vp (eGOwner y102))) } (fun m h => step_on (guard_no rfl) (op_index_vs (k := .i64) rfl h.1.1 h.1.2.1 (idx_map eGOwner h103) Try_slc_39 rfl rfl) rfl) ⟨⟨rfl, rfl, trivial⟩, trivial, trivial⟩ ?_
                          refine dr_cons { need := [(79, .pv (.vp (eGOwner y102)))], dst := some 80, val := some (.pv (.agg (eGOwner y102))) } (fun m h => step_on (guard_no rfl) (op_load_vp_agg (ps := eGOwner y102) rfl h.1.1 rfl rfl Try_agg_24 rfl rfl) rfl) ⟨⟨rfl, trivial⟩, trivial, trivial⟩ ?_
                          refine dr_cons { need := [(76, .pv (.agg (eGOwner y100))), (80, .pv (.agg (eGOwner y102)))], dst := some 81, val := some (.pv (.bool (!(bGOwner y100 y102)))) } (fun m h => step_on (guard_no rfl) (op_eqAgg_neq (r := bGOwner y100 y102) rfl h.1.1 h.1.2.1 Try_eqt_24 rfl rfl rfl rfl rfl) rfl) ⟨⟨rfl, rfl, trivial⟩, trivial, trivial⟩ ?_
                          refine dr_cons { need := [(81, .pv (.bool (!(bGOwner y100 y102))))], dst := some 82, val := some (.pv (.bool (!(bGOwner y100 y102)))) } (fun m h => step_on (guard_no rfl) (op_move rfl h.1.1 rfl rfl) rfl) ⟨⟨rfl, trivial⟩, trivial, trivial⟩ ?_
                          rcases ite_some hF with ⟨hb104, hF⟩ | ⟨hb104, hF⟩
                          · refine dr_cons { need := [(82, .pv (.bool (!(bGOwner y100 y102)))), (10, .pv (.int .i64 x67))], dst := some 83, val := some (.pv (.int .i64 x67)) } (fun m h => step_on (guard_on rfl rfl rfl h.1.1 hb104) (op_move rfl h.1.2.1 rfl rfl) rfl) ⟨⟨rfl, rfl, trivial⟩, trivial, trivial⟩ ?_
                            refine dr_cons { need := [(82, .pv (.bool (!(bGOwner y100 y102)))), (83, .pv (.int .i64 x67))], dst := some 84, val := some (.pv (.bool (decide (x67 > 0)))) } (fun m h => step_on (guard_on rfl rfl rfl h.1.1 hb104) (op_int (k := .i64) (m := x67) (n := 0) rfl h.1.2.1 rfl rfl rfl rfl) rfl) ⟨⟨rfl, rfl, trivial⟩, trivial, trivial⟩ ?_
                            refine dr_cons { need := [(82, .pv (.bool (!(bGOwner y100 y102)))), (84, .pv (.bool (decide (x67 > 0))))], dst := some 85, val := some (.pv (.bool (decide (x67 > 0)))) } (fun m h => step_on (guard_on rfl rfl rfl h.1.1 hb104) (op_move rfl h.1.2.1 rfl rfl) rfl) ⟨⟨rfl, rfl, trivial⟩, trivial, trivial⟩ ?_
                            rcases ite_some hF with ⟨hb105, hF⟩ | ⟨hb105, hF⟩
                            · refine dr_cons { need := [(85, .pv (.bool (decide (x67 > 0))))], dst := some 86, val := some (.tup []) } (fun m h => step_off (guard_off rfl rfl rfl h.1.1 hb105) rfl rfl) ⟨⟨rfl, trivial⟩, trivial, trivial⟩ ?_
                              refine dr_cons { need := [(85, .pv (.bool (decide (x67 > 0))))], dst := some 87, val := some (.tup []) } (fun m h => step_off (guard_off rfl rfl rfl h.1.1 hb105) rfl rfl) ⟨⟨rfl, trivial⟩, trivial, trivial⟩ ?_
                              refine dr_cons { need := [(85, .pv (.bool (decide (x67 > 0))))], dst := some 88, val := some (.tup []) } (fun m h => step_off (guard_off rfl rfl rfl h.1.1 hb105) rfl rfl) ⟨⟨rfl, trivial⟩, trivial, trivial⟩ ?_
                              refine dr_cons { need := [(85, .pv (.bool (decide (x67 > 0))))], dst := some 89, val := some (.tup []) } (fun m h => step_off (guard_off rfl rfl rfl h.1.1 hb105) rfl rfl) ⟨⟨rfl, trivial⟩, trivial, trivial⟩ ?_
                              refine dr_cons { need := [(85, .pv (.bool (decide (x67 > 0))))], dst := some 90, val := some (.tup []) } (fun m h => step_off (guard_off rfl rfl rfl h.1.1 hb105) rfl rfl) ⟨⟨rfl, trivial⟩, trivial, trivial⟩ ?_
                              refine dr_cons { need := [(82, .pv (.bool (!(bGOwner y100 y102)))), (85, .pv (.bool (decide (x67 > 0))))], dst := some 91, val := some (.pv (.bool true)) } (fun m h => step_on (guard_on rfl rfl rfl h.1.1 hb104) (op_pick_t rfl h.1.2.1 hb105 rfl rfl rfl) rfl) ⟨⟨rfl, rfl, trivial⟩, trivial, trivial⟩ ?_
                              refine dr_cons { need := [(82, .pv (.bool (!(bGOwner y100 y102)))), (91, .pv (.bool true))], dst := some 92, val := some (.pv (.bool true)) } (fun m h => step_on (guard_on rfl rfl rfl h.1.1 hb104) (op_move rfl h.1.2.1 rfl rfl) rfl) ⟨⟨rfl, rfl, trivial⟩, trivial, trivial⟩ ?_
                              refine dr_cons { need := [(92, .pv (.bool true))], dst := some 93, val := some (.tup []) } (fun m h => step_off (guard_off rfl rfl rfl h.1.1 rfl) rfl rfl) ⟨⟨rfl, trivial⟩, trivial, trivial⟩ ?_
                              refine dr_cons { need := [(92, .pv (.bool true))], dst := some 94, val := some (.tup []) } (fun m h => step_off (guard_off rfl rfl rfl h.1.1 rfl) rfl rfl) ⟨⟨rfl, trivial⟩, trivial, trivial⟩ ?_
                              refine dr_cons { need := [(92, .pv (.bool true))], dst := some 95, val := some (.tup []) } (fun m h => step_off (guard_off rfl rfl rfl h.1.1 rfl) rfl rfl) ⟨⟨rfl, trivial⟩, trivial, trivial⟩ ?_
                              refine dr_cons { need := [(92, .pv (.bool true))], dst := some 96, val := some (.tup []) } (fun m h => step_off (guard_off rfl rfl rfl h.1.1 rfl) rfl rfl) ⟨⟨rfl, trivial⟩, trivial, trivial⟩ ?_
                              refine dr_cons { need := [(92, .pv (.bool true))], dst := some 97, val := some (.tup []) } (fun m h => step_off (guard_off rfl rfl rfl h.1.1 rfl) rfl rfl) ⟨⟨rfl, trivial⟩, trivial, trivial⟩ ?_
                              refine dr_cons { need := [(82, .pv (.bool (!(bGOwner y100 y102)))), (92, .pv (.bool true))], dst := some 98, val := some (.pv (.bool true)) } (fun m h => step_on (guard_on rfl rfl rfl h.1.1 hb104) (op_pick_t rfl h.1.2.1 rfl rfl rfl rfl) rfl) ⟨⟨rfl, rfl, trivial⟩, trivial, trivial⟩ ?_
                              refine dr_cons { need := [(82, .pv (.bool (!(bGOwner y100 y102)))), (98, .pv (.bool true))], dst := some 99, val := some (.pv (.bool true)) } (fun m h => step_on (guard_on rfl rfl rfl h.1.1 hb104) (op_move rfl h.1.2.1 rfl rfl) rfl) ⟨⟨rfl, rfl, trivial⟩, trivial, trivial⟩ ?_
                              refine dr_cons { need := [(99, .pv (.bool true))], dst := some 100, val := some (.tup []) } (fun m h => step_off (guard_off rfl rfl rfl h.1.1 rfl) rfl rfl) ⟨⟨rfl, trivial⟩, trivial, trivial⟩ ?_
                              refine dr_cons { need := [(99, .pv (.bool true))], dst := some 101, val := some (.tup []) } (fun m h => step_off (guard_off rfl rfl rfl h.1.1 rfl) rfl rfl) ⟨⟨rfl, trivial⟩, trivial, trivial⟩ ?_
                              refine dr_cons { need := [(99, .pv (.bool true))], dst := some 102, val := some (.tup []) } (fun m h => step_off (guard_off rfl rfl rfl h.1.1 rfl) rfl rfl) ⟨⟨rfl, trivial⟩, trivial, trivial⟩ ?_
                              refine dr_cons { need := [(99, .pv (.bool true))], dst := some 103, val := some (.tup []) } (fun m h => step_off (guard_off rfl rfl rfl h.1.1 rfl) rfl rfl) ⟨⟨rfl, trivial⟩, trivial, trivial⟩ ?_
                              refine dr_cons { need := [(99, .pv (.bool true))], dst := some 104, val := some (.tup []) } (fun m h => step_off (guard_off rfl rfl rfl h.1.1 rfl) rfl rfl) ⟨⟨rfl, trivial⟩, trivial, trivial⟩ ?_
                              refine dr_cons { need := [(82, .pv (.bool (!(bGOwner y100 y102)))), (99, .pv (.bool true))], dst := some 105, val := some (.pv (.bool true)) } (fun m h => step_on (guard_on rfl rfl rfl h.1.1 hb104) (op_pick_t rfl h.1.2.1 rfl rfl rfl rfl) rfl) ⟨⟨rfl, rfl, trivial⟩, trivial, trivial⟩ ?_
                              refine dr_cons (ref27_Is_e336 y100 y102) (fun m h => step_on (guard_on rfl rfl rfl h.1.1 hb104) (op_move rfl h.1.2.1 rfl rfl) rfl) ⟨⟨rfl, rfl, trivial⟩, trivial, trivial⟩ ?_
                              refine dr_cons ref27_Is_e157 (fun m h => step_off (guard_off rfl rfl rfl h.1.1 rfl) rfl rfl) ⟨⟨rfl, trivial⟩, trivial, trivial⟩ ?_
                              refine dr_cons ref27_Is_e158 (fun m h => step_off (guard_off rfl rfl rfl h.1.1 rfl) rfl rfl) ⟨⟨rfl, trivial⟩, trivial, trivial⟩ ?_
                              refine dr_cons ref27_Is_e159 (fun m h => step_off (guard_off rfl rfl rfl h.1.1 rfl) rfl rfl) ⟨⟨rfl, trivial⟩, trivial, trivial⟩ ?_
                              refine dr_cons ref27_Is_e160 (fun m h => step_off (guard_off rfl rfl rfl h.1.1 rfl) rfl rfl) ⟨⟨rfl, trivial⟩, trivial, trivial⟩ ?_
                              refine dr_cons ref27_Is_e161 (fun m h => step_off (guard_off rfl rfl rfl h.1.1 rfl) rfl rfl) ⟨⟨rfl, trivial⟩, trivial, trivial⟩ ?_
                              refine dr_cons (ref27_Is_e337 y100 y102) (fun m h => step_on (guard_on rfl rfl rfl h.1.1 hb104) (op_pick_t rfl h.1.2.1 rfl rfl rfl rfl) rfl) ⟨⟨rfl, rfl, trivial⟩, trivial, trivial⟩ ?_
                              refine dr_cons (ref27_Is_e338 y100 y102) (fun m h => step_on (guard_no rfl) (op_pick_t rfl h.1.1 hb104 h.1.2.1 rfl rfl) rfl) ⟨⟨rfl, rfl, trivial⟩, trivial, trivial⟩ ?_
                              refine dr_nil Try_mixed rfl (by kernel_rfl) ?_
                              refine post_imp (s' := ⟨114, [(7, some (.pv (.vs 2 (List.map eGOwner y30.1)))), (9, some (.pv (.vs 2 (List.map eGOwner y34)))), (10, some (.pv (.int .i64 x67))), (113, some (.pv (.bool true)))], [], 0, [], [], 0, []⟩) (imp_sub [] rfl (by decide) rfl rfl ⟨by kernel_rfl, by kernel_rfl, by kernel_rfl, by kernel_rfl, trivial⟩ trivial rfl rfl rfl) ?_
                              cases hF
                              exact post_cut _ rfl (imp_sub [] rfl (by decide) rfl rfl ⟨by kernel_rfl, by kernel_rfl, by kernel_rfl, by kernel_rfl, trivial⟩ trivial rfl rfl rfl)
                            · refine dr_cons { need := [(85, .pv (.bool (decide (x67 > 0)))), (9, .pv (.vs 2 (List.map eGOwner y34)))], dst := some 86, val := some (.pv (.vs 2 (List.map eGOwner y34))) } (fun m h => step_on (guard_on rfl rfl rfl h.1.1 hb105) (op_move rfl h.1.2.1 rfl rfl) rfl) ⟨⟨rfl, rfl, trivial⟩, trivial, trivial⟩ ?_
                              obtain ⟨y106, h107, hF⟩ := bind_some hF
                              refine dr_cons { need := [(85, .pv (.bool (decide (x67 > 0)))), (86, .pv (.vs 2 (List.map eGOwner y34)))], dst := some 87, val := some (.pv (.vp (eGOwner y106))) } (fun m h => step_on (guard_on rfl rfl rfl h.1.1 hb105) (op_index_vs (k := .i64) rfl h.1.2.1 rfl (idx_map eGOwner h107) Try_slc_39 rfl rfl) rfl) ⟨⟨rfl, rfl, trivial⟩, trivial, trivial⟩ ?_
                              refine dr_cons { need := [(85, .pv (.bool (decide (x67 > 0)))), (87, .pv (.vp (eGOwner y106)))], dst := some 88, val := some (.pv (.vp (List.drop 0 (eGOwner y106)))) } (fun m h => step_on (guard_on rfl rfl rfl h.1.1 hb105) (op_field_vp rfl h.1.2.1 Try_fld_24_0 rfl rfl) rfl) ⟨⟨rfl, rfl, trivial⟩, trivial, trivial⟩ ?_
                              refine dr_cons { need := [(85, .pv (.bool (decide (x67 > 0)))), (88, .pv (.vp (List.drop 0 (eGOwner y106))))], dst := some 89, val := some (.pv (.int .i64 y106.fKind)) } (fun m h => step_on (guard_on rfl rfl rfl h.1.1 hb105) (op_load_vp (p := .int .i64 y106.fKind) rfl h.1.2.1 rfl Try_one_3 rfl rfl) rfl) ⟨⟨rfl, rfl, trivial⟩, trivial, trivial⟩ ?_
                              refine dr_cons { need := [(85, .pv (.bool (decide (x67 > 0)))), (89, .pv (.int .i64 y106.fKind))], dst := some 90, val := some (.pv (.bool (y106.fKind != 5))) } (fun m h => step_on (guard_on rfl rfl rfl h.1.1 hb105) (op_int (k := .i64) (m := y106.fKind) (n := 5) rfl h.1.2.1 rfl rfl rfl rfl) rfl) ⟨⟨rfl, rfl, trivial⟩, trivial, trivial⟩ ?_
                              refine dr_cons { need := [(82, .pv (.bool (!(bGOwner y100 y102)))), (85, .pv (.bool (decide (x67 > 0)))), (90, .pv (.bool (y106.fKind != 5)))], dst := some 91, val := some (.pv (.bool (y106.fKind != 5))) } (fun m h => step_on (guard_on rfl rfl rfl h.1.1 hb104) (op_pick_f rfl h.1.2.1 hb105 h.1.2.2.1 rfl rfl) rfl) ⟨⟨rfl, rfl, rfl, trivial⟩, trivial, trivial⟩ ?_
                              refine dr_cons { need := [(82, .pv (.bool (!(bGOwner y100 y102)))), (91, .pv (.bool (y106.fKind != 5)))], dst := some 92, val := some (.pv (.bool (y106.fKind != 5))) } (fun m h => step_on (guard_on rfl rfl rfl h.1.1 hb104) (op_move rfl h.1.2.1 rfl rfl) rfl) ⟨⟨rfl, rfl, trivial⟩, trivial, trivial⟩ ?_
                              rcases ite_some hF with ⟨hb108, hF⟩ | ⟨hb108, hF⟩
                              · refine dr_cons { need := [(92, .pv (.bool (y106.fKind != 5)))], dst := some 93, val := some (.tup []) } (fun m h => step_off (guard_off rfl rfl rfl h.1.1 hb108) rfl rfl) ⟨⟨rfl, trivial⟩, trivial, trivial⟩ ?_
                                refine dr_cons { need := [(92, .pv (.bool (y106.fKind != 5)))], dst := some 94, val := some (.tup []) } (fun m h => step_off (guard_off rfl rfl rfl h.1.1 hb108) rfl rfl) ⟨⟨rfl, trivial⟩, trivial, trivial⟩ ?_
                                refine dr_cons { need := [(92, .pv (.bool (y106.fKind != 5)))], dst := some 95, val := some (.tup []) } (fun m h => step_off (guard_off rfl rfl rfl h.1.1 hb108) rfl rfl) ⟨⟨rfl, trivial⟩, trivial, trivial⟩ ?_
                                refine dr_cons { need := [(92, .pv (.bool (y106.fKind != 5)))], dst := some 96, val := some (.tup []) } (fun m h => step_off (guard_off rfl rfl rfl h.1.1 hb108) rfl rfl) ⟨⟨rfl, trivial⟩, trivial, trivial⟩ ?_
                                refine dr_cons { need := [(92, .pv (.bool (y106.fKind != 5)))], dst := some 97, val := some (.tup []) } (fun m h => step_off (guard_off rfl rfl rfl h.1.1 hb108) rfl rfl) ⟨⟨rfl, trivial⟩, trivial, trivial⟩ ?_
                                refine dr_cons { need := [(82, .pv (.bool (!(bGOwner y100 y102)))), (92, .pv (.bool (y106.fKind != 5)))], dst := some 98, val := some (.pv (.bool true)) } (fun m h => step_on (guard_on rfl rfl rfl h.1.1 hb104) (op_pick_t rfl h.1.2.1 hb108 rfl rfl rfl) rfl) ⟨⟨rfl, rfl, trivial⟩, trivial, trivial⟩ ?_
                                refine dr_cons { need := [(82, .pv (.bool (!(bGOwner y100 y102)))), (98, .pv (.bool true))], dst := some 99, val := some (.pv (.bool true)) } (fun m h => step_on (guard_on rfl rfl rfl h.1.1 hb104) (op_move rfl h.1.2.1 rfl rfl) rfl) ⟨⟨rfl, rfl, trivial⟩, trivial, trivial⟩ ?_
                                refine dr_cons { need := [(99, .pv (.bool true))], dst := some 100, val := some (.tup []) } (fun m h => step_off (guard_off rfl rfl rfl h.1.1 rfl) rfl rfl) ⟨⟨rfl, trivial⟩, trivial, trivial⟩ ?_
                                refine dr_cons { need := [(99, .pv (.bool true))], dst := some 101, val := some (.tup []) } (fun m h => step_off (guard_off rfl rfl rfl h.1.1 rfl) rfl rfl) ⟨⟨rfl, trivial⟩, trivial, trivial⟩ ?_
                                refine dr_cons { need := [(99, .pv (.bool true))], dst := some 102, val := some (.tup []) } (fun m h => step_off (guard_off rfl rfl rfl h.1.1 rfl) rfl rfl) ⟨⟨rfl, trivial⟩, trivial, trivial⟩ ?_
                                refine dr_cons { need := [(99, .pv (.bool true))], dst := some 103, val := some (.tup []) } (fun m h => step_off (guard_off rfl rfl rfl h.1.1 rfl) rfl rfl) ⟨⟨rfl, trivial⟩, trivial, trivial⟩ ?_
                                refine dr_cons { need := [(99, .pv (.bool true))], dst := some 104, val := some (.tup []) } (fun m h => step_off (guard_off rfl rfl rfl h.1.1 rfl) rfl rfl) ⟨⟨rfl, trivial⟩, trivial, trivial⟩ ?_
                                refine dr_cons { need := [(82, .pv (.bool (!(bGOwner y100 y102)))), (99, .pv (.bool true))], dst := some 105, val := some (.pv (.bool true)) } (fun m h => step_on (guard_on rfl rfl rfl h.1.1 hb104) (op_pick_t rfl h.1.2.1 rfl rfl rfl rfl) rfl) ⟨⟨rfl, rfl, trivial⟩, trivial, trivial⟩ ?_
                                refine dr_cons (ref27_Is_e336 y100 y102) (fun m h => step_on (guard_on rfl rfl rfl h.1.1 hb104) (op_move rfl h.1.2.1 rfl rfl) rfl) ⟨⟨rfl, rfl, trivial⟩, trivial, trivial⟩ ?_
                                refine dr_cons ref27_Is_e157 (fun m h => step_off (guard_off rfl rfl rfl h.1.1 rfl) rfl rfl) ⟨⟨rfl, trivial⟩, trivial, trivial⟩ ?_
                                refine dr_cons ref27_Is_e158 (fun m h => step_off (guard_off rfl rfl rfl h.1.1 rfl) rfl rfl) ⟨⟨rfl, trivial⟩, trivial, trivial⟩ ?_
                                refine dr_cons ref27_Is_e159 (fun m h => step_off (guard_off rfl rfl rfl h.1.1 rfl) rfl rfl) ⟨⟨rfl, trivial⟩, trivial, trivial⟩ ?_
                                refine dr_cons ref27_Is_e160 (fun m h => step_off (guard_off rfl rfl rfl h.1.1 rfl) rfl rfl) ⟨⟨rfl, trivial⟩, trivial, trivial⟩ ?_
                                refine dr_cons ref27_Is_e161 (fun m h => step_off (guard_off rfl rfl rfl h.1.1 rfl) rfl rfl) ⟨⟨rfl, trivial⟩, trivial, trivial⟩ ?_
                                refine dr_cons (ref27_Is_e337 y100 y102) (fun m h => step_on (guard_on rfl rfl rfl h.1.1 hb104) (op_pick_t rfl h.1.2.1 rfl rfl rfl rfl) rfl) ⟨⟨rfl, rfl, trivial⟩, trivial, trivial⟩ ?_
                                refine dr_cons (ref27_Is_e338 y100 y102) (fun m h => step_on (guard_no rfl) (op_pick_t rfl h.1.1 hb104 h.1.2.1 rfl rfl) rfl) ⟨⟨rfl, rfl, trivial⟩, trivial, trivial⟩ ?_
                                refine dr_nil Try_mixed rfl (by kernel_rfl) ?_
                                refine post_imp (s' := ⟨114, [(7, some (.pv (.vs 2 (List.map eGOwner y30.1)))), (9, some (.pv (.vs 2 (List.map eGOwner y34)))), (10, some (.pv (.int .i64 x67))), (113, some (.pv (.bool true)))], [], 0, [], [], 0, []⟩) (imp_sub [] rfl (by decide) rfl rfl ⟨by kernel_rfl, by kernel_rfl, by kernel_rfl, by kernel_rfl, trivial⟩ trivial rfl rfl rfl) ?_
                                cases hF
                                exact post_cut _ rfl (imp_sub [] rfl (by decide) rfl rfl ⟨by kernel_rfl, by kernel_rfl, by kernel_rfl, by kernel_rfl, trivial⟩ trivial rfl rfl rfl)
                              · refine dr_cons { need := [(92, .pv (.bool (y106.fKind != 5))), (7, .pv (.vs 2 (List.map eGOwner y30.1)))], dst := some 93, val := some (.pv (.vs 2 (List.map eGOwner y30.1))) } (fun m h => step_on (guard_on rfl rfl rfl h.1.1 hb108) (op_move rfl h.1.2.1 rfl rfl) rfl) ⟨⟨rfl, rfl, trivial⟩, trivial, trivial⟩ ?_
                                obtain ⟨y109, h110, hF⟩ := bind_some hF
                                refine dr_cons { need := [(92, .pv (.bool (y106.fKind != 5))), (93, .pv (.vs 2 (List.map eGOwner y30.1)))], dst := some 94, val := some (.pv (.vp (eGOwner y109))) } (fun m h => step_on (guard_on rfl rfl rfl h.1.1 hb108) (op_index_vs (k := .i64) rfl h.1.2.1 rfl (idx_map eGOwner h110) Try_slc_39 rfl rfl) rfl) ⟨⟨rfl, rfl, trivial⟩, trivial, trivial⟩ ?_
                                refine dr_cons { need := [(92, .pv (.bool (y106.fKind != 5))), (94, .pv (.vp (eGOwner y109)))], dst := some 95, val := some (.pv (.vp (List.drop 0 (eGOwner y109)))) } (fun m h => step_on (guard_on rfl rfl rfl h.1.1 hb108) (op_field_vp rfl h.1.2.1 Try_fld_24_0 rfl rfl) rfl) ⟨⟨rfl, rfl, trivial⟩, trivial, trivial⟩ ?_
                                refine dr_cons { need := [(92, .pv (.bool (y106.fKind != 5))), (95, .pv (.vp (List.drop 0 (eGOwner y109))))], dst := some 96, val := some (.pv (.int .i64 y109.fKind)) } (fun m h => step_on (guard_on rfl rfl rfl h.1.1 hb108) (op_load_vp (p := .int .i64 y109.fKind) rfl h.1.2.1 rfl Try_one_3 rfl rfl) rfl) ⟨⟨rfl, rfl, trivial⟩, trivial, trivial⟩ ?_
                                refine dr_cons { need := [(92, .pv (.bool (y106.fKind != 5))), (96, .pv (.int .i64 y109.fKind))], dst := some 97, val := some (.pv (.bool (y109.fKind == 6))) } (fun m h => step_on (guard_on rfl rfl rfl h.1.1 hb108) (op_int (k := .i64) (m := y109.fKind) (n := 6) rfl h.1.2.1 rfl rfl rfl rfl) rfl) ⟨⟨rfl, rfl, trivial⟩, trivial, trivial⟩ ?_
                                refine dr_cons { need := [(82, .pv (.bool (!(bGOwner y100 y102)))), (92, .pv (.bool (y106.fKind != 5))), (97, .pv (.bool (y109.fKind == 6)))], dst := some 98, val := some (.pv (.bool (y109.fKind == 6))) } (fun m h => step_on (guard_on rfl rfl rfl h.1.1 hb104) (op_pick_f rfl h.1.2.1 hb108 h.1.2.2.1 rfl rfl) rfl) ⟨⟨rfl, rfl, rfl, trivial⟩, trivial, trivial⟩ ?_
                                refine dr_cons { need := [(82, .pv (.bool (!(bGOwner y100 y102)))), (98, .pv (.bool (y109.fKind == 6)))], dst := some 99, val := some (.pv (.bool (y109.fKind == 6))) } (fun m h => step_on (guard_on rfl rfl rfl h.1.1 hb104) (op_move rfl h.1.2.1 rfl rfl) rfl) ⟨⟨rfl, rfl, trivial⟩, trivial, trivial⟩ ?_
                                rcases ite_some hF with ⟨hb111, hF⟩ | ⟨hb111, hF⟩
                                · refine dr_cons { need := [(99, .pv (.bool (y109.fKind == 6)))], dst := some 100, val := some (.tup []) } (fun m h => step_off (guard_off rfl rfl rfl h.1.1 hb111) rfl rfl) ⟨⟨rfl, trivial⟩, trivial, trivial⟩ ?_
                                  refine dr_cons { need := [(99, .pv (.bool (y109.fKind == 6)))], dst := some 101, val := some (.tup []) } (fun m h => step_off (guard_off rfl rfl rfl h.1.1 hb111) rfl rfl) ⟨⟨rfl, trivial⟩, trivial, trivial⟩ ?_
                                  refine dr_cons { need := [(99, .pv (.bool (y109.fKind == 6)))], dst := some 102, val := some (.tup []) } (fun m h => step_off (guard_off rfl rfl rfl h.1.1 hb111) rfl rfl) ⟨⟨rfl, trivial⟩, trivial, trivial⟩ ?_
                                  refine dr_cons { need := [(99, .pv (.bool (y109.fKind == 6)))], dst := some 103, val := some (.tup []) } (fun m h => step_off (guard_off rfl rfl rfl h.1.1 hb111) rfl rfl) ⟨⟨rfl, trivial⟩, trivial, trivial⟩ ?_
                                  refine dr_cons { need := [(99, .pv (.bool (y109.fKind == 6)))], dst := some 104, val := some (.tup []) } (fun m h => step_off (guard_off rfl rfl rfl h.1.1 hb111) rfl rfl) ⟨⟨rfl, trivial⟩, trivial, trivial⟩ ?_
                                  refine dr_cons { need := [(82, .pv (.bool (!(bGOwner y100 y102)))), (99, .pv (.bool (y109.fKind == 6)))], dst := some 105, val := some (.pv (.bool true)) } (fun m h => step_on (guard_on rfl rfl rfl h.1.1 hb104) (op_pick_t rfl h.1.2.1 hb111 rfl rfl rfl) rfl) ⟨⟨rfl, rfl, trivial⟩, trivial, trivial⟩ ?_
                                  refine dr_cons (ref27_Is_e336 y100 y102) (fun m h => step_on (guard_on rfl rfl rfl h.1.1 hb104) (op_move rfl h.1.2.1 rfl rfl) rfl) ⟨⟨rfl, rfl, trivial⟩, trivial, trivial⟩ ?_
                                  refine dr_cons ref27_Is_e157 (fun m h => step_off (guard_off rfl rfl rfl h.1.1 rfl) rfl rfl) ⟨⟨rfl, trivial⟩, trivial, trivial⟩ ?_
                                  refine dr_cons ref27_Is_e158 (fun m h => step_off (guard_off rfl rfl rfl h.1.1 rfl) rfl rfl) ⟨⟨rfl, trivial⟩, trivial, trivial⟩ ?_
                                  refine dr_cons ref27_Is_e159 (fun m h => step_off (guard_off rfl rfl rfl h.1.1 rfl) rfl rfl) ⟨⟨rfl, trivial⟩, trivial, trivial⟩ ?_
                                  refine dr_cons ref27_Is_e160 (fun m h => step_off (guard_off rfl rfl rfl h.1.1 rfl) rfl rfl) ⟨⟨rfl, trivial⟩, trivial, trivial⟩ ?_
                                  refine dr_cons ref27_Is_e161 (fun m h => step_off (guard_off rfl rfl rfl h.1.1 rfl) rfl rfl) ⟨⟨rfl, trivial⟩, trivial, trivial⟩ ?_
                                  refine dr_cons (ref27_Is_e337 y100 y102) (fun m h => step_on (guard_on rfl rfl rfl h.1.1 hb104) (op_pick_t rfl h.1.2.1 rfl rfl rfl rfl) rfl) ⟨⟨rfl, rfl, trivial⟩, trivial, trivial⟩ ?_
                                  refine dr_cons (ref27_Is_e338 y100 y102) (fun m h => step_on (guard_no rfl) (op_pick_t rfl h.1.1 hb104 h.1.2.1 rfl rfl) rfl) ⟨⟨rfl, rfl, trivial⟩, trivial, trivial⟩ ?_
                                  refine dr_nil Try_mixed rfl (by kernel_rfl) ?_
                                  refine post_imp (s' := ⟨114, [(7, some (.pv (.vs 2 (List.map eGOwner y30.1)))), (9, some (.pv (.vs 2 (List.map eGOwner y34)))), (10, some (.pv (.int .i64 x67))), (113, some (.pv (.bool true)))], [], 0, [], [], 0, []⟩) (imp_sub [] rfl (by decide) rfl rfl ⟨by kernel_rfl, by kernel_rfl, by kernel_rfl, by kernel_rfl, trivial⟩ trivial rfl rfl rfl) ?_
                                  cases hF
                                  exact post_cut _ rfl (imp_sub [] rfl (by decide) rfl rfl ⟨by kernel_rfl, by kernel_rfl, by kernel_rfl, by kernel_rfl, trivial⟩ trivial rfl rfl rfl)
                                · refine dr_cons { need := [(99, .pv (.bool (y109.fKind == 6))), (7, .pv (.vs 2 (List.map eGOwner y30.1)))], dst := some 100, val := some (.pv (.vs 2 (List.map eGOwner y30.1))) } (fun m h => step_on (guard_on rfl rfl rfl h.1.1 hb111) (op_move rfl h.1.2.1 rfl rfl) rfl) ⟨⟨rfl, rfl, trivial⟩, trivial, trivial⟩ ?_
                                  obtain ⟨y112, h113, hF⟩ := bind_some hF
                                  refine dr_cons { need := [(99, .pv (.bool (y109.fKind == 6))), (100, .pv (.vs 2 (List.map eGOwner y30.1)))], dst := some 101, val := some (.pv (.vp (eGOwner y112))) } (fun m h => step_on (guard_on rfl rfl rfl h.1.1 hb111) (op_index_vs (k := .i64) rfl h.1.2.1 rfl (idx_map eGOwner h113) Try_slc_39 rfl rfl) rfl) ⟨⟨rfl, rfl, trivial⟩, trivial, trivial⟩ ?_
                                  refine dr_cons { need := [(99, .pv (.bool (y109.fKind == 6))), (101, .pv (.vp (eGOwner y112)))], dst := some 102, val := some (.pv (.vp (List.drop 0 (eGOwner y112)))) } (fun m h => step_on (guard_on rfl rfl rfl h.1.1 hb111) (op_field_vp rfl h.1.2.1 Try_fld_24_0 rfl rfl) rfl) ⟨⟨rfl, rfl, trivial⟩, trivial, trivial⟩ ?_
                                  refine dr_cons { need := [(99, .pv (.bool (y109.fKind == 6))), (102, .pv (.vp (List.drop 0 (eGOwner y112))))], dst := some 103, val := some (.pv (.int .i64 y112.fKind)) } (fun m h => step_on (guard_on rfl rfl rfl h.1.1 hb111) (op_load_vp (p := .int .i64 y112.fKind) rfl h.1.2.1 rfl Try_one_3 rfl rfl) rfl) ⟨⟨rfl, rfl, trivial⟩, trivial, trivial⟩ ?_
                                  refine dr_cons { need := [(99, .pv (.bool (y109.fKind == 6))), (103, .pv (.int .i64 y112.fKind))], dst := some 104, val := some (.pv (.bool (y112.fKind == 8))) } (fun m h => step_on (guard_on rfl rfl rfl h.1.1 hb111) (op_int (k := .i64) (m := y112.fKind) (n := 8) rfl h.1.2.1 rfl rfl rfl rfl) rfl) ⟨⟨rfl, rfl, trivial⟩, trivial, trivial⟩ ?_
                                  refine dr_cons { need := [(82, .pv (.bool (!(bGOwner y100 y102)))), (99, .pv (.bool (y109.fKind == 6))), (104, .pv (.bool (y112.fKind == 8)))], dst := some 105, val := some (.pv (.bool (y112.fKind == 8))) } (fun m h => step_on (guard_on rfl rfl rfl h.1.1 hb104) (op_pick_f rfl h.1.2.1 hb111 h.1.2.2.1 rfl rfl) rfl) ⟨⟨rfl, rfl, rfl, trivial⟩, trivial, trivial⟩ ?_
                                  refine dr_cons { need := [(82, .pv (.bool (!(bGOwner y100 y102)))), (105, .pv (.bool (y112.fKind == 8)))], dst := some 106, val := some (.pv (.bool (y112.fKind == 8))) } (fun m h => step_on (guard_on rfl rfl rfl h.1.1 hb104) (op_move rfl h.1.2.1 rfl rfl) rfl) ⟨⟨rfl, rfl, trivial⟩, trivial, trivial⟩ ?_
                                  rcases ite_some hF with ⟨hb114, hF⟩ | ⟨hb114, hF⟩
                                  · refine dr_cons { need := [(106, .pv (.bool (y112.fKind == 8)))], dst := some 107, val := some (.tup []) } (fun m h => step_off (guard_off rfl rfl rfl h.1.1 hb114) rfl rfl) ⟨⟨rfl, trivial⟩, trivial, trivial⟩ ?_
                                    refine dr_cons { need := [(106, .pv (.bool (y112.fKind == 8)))], dst := some 108, val := some (.tup []) } (fun m h => step_off (guard_off rfl rfl rfl h.1.1 hb114) rfl rfl) ⟨⟨rfl, trivial⟩, trivial, trivial⟩ ?_
                                    refine dr_cons { need := [(106, .pv (.bool (y112.fKind == 8)))], dst := some 109, val := some (.tup []) } (fun m h => step_off (guard_off rfl rfl rfl h.1.1 hb114) rfl rfl) ⟨⟨rfl, trivial⟩, trivial, trivial⟩ ?_
                                    refine dr_cons { need := [(106, .pv (.bool (y112.fKind == 8)))], dst := some 110, val := some (.tup []) } (fun m h => step_off (guard_off rfl rfl rfl h.1.1 hb114) rfl rfl) ⟨⟨rfl, trivial⟩, trivial, trivial⟩ ?_
                                    refine dr_cons { need := [(106, .pv (.bool (y112.fKind == 8)))], dst := some 111, val := some (.tup []) } (fun m h => step_off (guard_off rfl rfl rfl h.1.1 hb114) rfl rfl) ⟨⟨rfl, trivial⟩, trivial, trivial⟩ ?_
                                    refine dr_cons { need := [(82, .pv (.bool (!(bGOwner y100 y102)))), (106, .pv (.bool (y112.fKind == 8)))], dst := some 112, val := some (.pv (.bool true)) } (fun m h => step_on (guard_on rfl rfl rfl h.1.1 hb104) (op_pick_t rfl h.1.2.1 hb114 rfl rfl rfl) rfl) ⟨⟨rfl, rfl, trivial⟩, trivial, trivial⟩ ?_
                                    refine dr_cons (ref27_Is_e338 y100 y102) (fun m h => step_on (guard_no rfl) (op_pick_t rfl h.1.1 hb104 h.1.2.1 rfl rfl) rfl) ⟨⟨rfl, rfl, trivial⟩, trivial, trivial⟩ ?_
                                    refine dr_nil Try_mixed rfl (by kernel_rfl) ?_
                                    refine post_imp (s' := ⟨114, [(7, some (.pv (.vs 2 (List.map eGOwner y30.1)))), (9, some (.pv (.vs 2 (List.map eGOwner y34)))), (10, some (.pv (.int .i64 x67))), (113, some (.pv (.bool true)))], [], 0, [], [], 0, []⟩) (imp_sub [] rfl (by decide) rfl rfl ⟨by kernel_rfl, by kernel_rfl, by kernel_rfl, by kernel_rfl, trivial⟩ trivial rfl rfl rfl) ?_
                                    cases hF
                                    exact post_cut _ rfl (imp_sub [] rfl (by decide) rfl rfl ⟨by kernel_rfl, by kernel_rfl, by kernel_rfl, by kernel_rfl, trivial⟩ trivial rfl rfl rfl)
                                  · refine dr_cons { need := [(106, .pv (.bool (y112.fKind == 8))), (7, .pv (.vs 2 (List.map eGOwner y30.1)))], dst := some 107, val := some (.pv (.vs 2 (List.map eGOwner y30.1))) } (fun m h => step_on (guard_on rfl rfl rfl h.1.1 hb114) (op_move rfl h.1.2.1 rfl rfl) rfl) ⟨⟨rfl, rfl, trivial⟩, trivial, trivial⟩ ?_
                                    obtain ⟨y115, h116, hF⟩ := bind_some hF
                                    refine dr_cons { need := [(106, .pv (.bool (y112.fKind == 8))), (107, .pv (.vs 2 (List.map eGOwner y30.1)))], dst := some 108, val := some (.pv (.vp (eGOwner y115))) } (fun m h => step_on (guard_on rfl rfl rfl h.1.1 hb114) (op_index_vs (k := .i64) rfl h.1.2.1 rfl (idx_map eGOwner h116) Try_slc_39 rfl rfl) rfl) ⟨⟨rfl, rfl, trivial⟩, trivial, trivial⟩ ?_
                                    refine dr_cons { need := [(106, .pv (.bool (y112.fKind == 8))), (108, .pv (.vp (eGOwner y115)))], dst := some 109, val := some (.pv (.vp (List.drop 0 (eGOwner y115)))) } (fun m h => step_on (guard_on rfl rfl rfl h.1.1 hb114) (op_field_vp rfl h.1.2.1 Try_fld_24_0 rfl rfl) rfl) ⟨⟨rfl, rfl, trivial⟩, trivial, trivial⟩ ?_
                                    refine dr_cons { need := [(106, .pv (.bool (y112.fKind == 8))), (109, .pv (.vp (List.drop 0 (eGOwner y115))))], dst := some 110, val := some (.pv (.int .i64 y115.fKind)) } (fun m h => step_on (guard_on rfl rfl rfl h.1.1 hb114) (op_load_vp (p := .int .i64 y115.fKind) rfl h.1.2.1 rfl Try_one_3 rfl rfl) rfl) ⟨⟨rfl, rfl, trivial⟩, trivial, trivial⟩ ?_
                                    refine dr_cons { need := [(106, .pv (.bool (y112.fKind == 8))), (110, .pv (.int .i64 y115.fKind))], dst := some 111, val := some (.pv (.bool (y115.fKind == 7))) } (fun m h => step_on (guard_on rfl rfl rfl h.1.1 hb114) (op_int (k := .i64) (m := y115.fKind) (n := 7) rfl h.1.2.1 rfl rfl rfl rfl) rfl) ⟨⟨rfl, rfl, trivial⟩, trivial, trivial⟩ ?_
                                    refine dr_cons { need := [(82, .pv (.bool (!(bGOwner y100 y102)))), (106, .pv (.bool (y112.fKind == 8))), (111, .pv (.bool (y115.fKind == 7)))], dst := some 112, val := some (.pv (.bool (y115.fKind == 7))) } (fun m h => step_on (guard_on rfl rfl rfl h.1.1 hb104) (op_pick_f rfl h.1.2.1 hb114 h.1.2.2.1 rfl rfl) rfl) ⟨⟨rfl, rfl, rfl, trivial⟩, trivial, trivial⟩ ?_
                                    refine dr_cons { need := [(82, .pv (.bool (!(bGOwner y100 y102)))), (112, .pv (.bool (y115.fKind == 7)))], dst := some 113, val := some (.pv (.bool (y115.fKind == 7))) } (fun m h => step_on (guard_no rfl) (op_pick_t rfl h.1.1 hb104 h.1.2.1 rfl rfl) rfl) ⟨⟨rfl, rfl, trivial⟩, trivial, trivial⟩ ?_
                                    refine dr_nil Try_mixed rfl (by kernel_rfl) ?_
                                    refine post_imp (s' := ⟨114, [(7, some (.pv (.vs 2 (List.map eGOwner y30.1)))), (9, some (.pv (.vs 2 (List.map eGOwner y34)))), (10, some (.pv (.int .i64 x67))), (113, some (.pv (.bool (y115.fKind == 7))))], [], 0, [], [], 0, []⟩) (imp_sub [] rfl (by decide) rfl rfl ⟨by kernel_rfl, by kernel_rfl, by kernel_rfl, by kernel_rfl, trivial⟩ trivial rfl rfl rfl) ?_
                                    cases hF
                                    exact post_cut _ rfl (imp_sub [] rfl (by decide) rfl rfl ⟨by kernel_rfl, by kernel_rfl, by kernel_rfl, by kernel_rfl, trivial⟩ trivial rfl rfl rfl)
                          · refine dr_cons { need := [(82, .pv (.bool (!(bGOwner y100 y102))))], dst := some 83, val := some (.tup []) } (fun m h => step_off (guard_off rfl rfl rfl h.1.1 hb104) rfl rfl) ⟨⟨rfl, trivial⟩, trivial, trivial⟩ ?_
                            refine dr_cons { need := [(82, .pv (.bool (!(bGOwner y100 y102))))], dst := some 84, val := some (.tup []) } (fun m h => step_off (guard_off rfl rfl rfl h.1.1 hb104) rfl rfl) ⟨⟨rfl, trivial⟩, trivial, trivial⟩ ?_
                            refine dr_cons { need := [(82, .pv (.bool (!(bGOwner y100 y102))))], dst := some 85, val := some (.tup []) } (fun m h => step_off (guard_off rfl rfl rfl h.1.1 hb104) rfl rfl) ⟨⟨rfl, trivial⟩, trivial, trivial⟩ ?_
                            refine dr_cons { need := [(85, .tup [])], dst := some 86, val := some (.tup []) } (fun m h => step_off (guard_undef rfl rfl rfl h.1.1) rfl rfl) ⟨⟨rfl, trivial⟩, trivial, trivial⟩ ?_
                            refine dr_cons { need := [(85, .tup [])], dst := some 87, val := some (.tup []) } (fun m h => step_off (guard_undef rfl rfl rfl h.1.1) rfl rfl) ⟨⟨rfl, trivial⟩, trivial, trivial⟩ ?_
                            refine dr_cons { need := [(85, .tup [])], dst := some 88, val := some (.tup []) } (fun m h => step_off (guard_undef rfl rfl rfl h.1.1) rfl rfl) ⟨⟨rfl, trivial⟩, trivial, trivial⟩ ?_
                            refine dr_cons { need := [(85, .tup [])], dst := some 89, val := some (.tup []) } (fun m h => step_off (guard_undef rfl rfl rfl h.1.1) rfl rfl) ⟨⟨rfl, trivial⟩, trivial, trivial⟩ ?_
                            refine dr_cons { need := [(85, .tup [])], dst := some 90, val := some (.tup []) } (fun m h => step_off (guard_undef rfl rfl rfl h.1.1) rfl rfl) ⟨⟨rfl, trivial⟩, trivial, trivial⟩ ?_
                            refine dr_cons { need := [(82, .pv (.bool (!(bGOwner y100 y102))))], dst := some 91, val := some (.tup []) } (fun m h => step_off (guard_off rfl rfl rfl h.1.1 hb104) rfl rfl) ⟨⟨rfl, trivial⟩, trivial, trivial⟩ ?_
                            refine dr_cons { need := [(82, .pv (.bool (!(bGOwner y100 y102))))], dst := some 92, val := some (.tup []) } (fun m h => step_off (guard_off rfl rfl rfl h.1.1 hb104) rfl rfl) ⟨⟨rfl, trivial⟩, trivial, trivial⟩ ?_
                            refine dr_cons { need := [(92, .tup [])], dst := some 93, val := some (.tup []) } (fun m h => step_off (guard_undef rfl rfl rfl h.1.1) rfl rfl) ⟨⟨rfl, trivial⟩, trivial, trivial⟩ ?_
                            refine dr_cons { need := [(92, .tup [])], dst := some 94, val := some (.tup []) } (fun m h => step_off (guard_undef rfl rfl rfl h.1.1) rfl rfl) ⟨⟨rfl, trivial⟩, trivial, trivial⟩ ?_
                            refine dr_cons { need := [(92, .tup [])], dst := some 95, val := some (.tup []) } (fun m h => step_off (guard_undef rfl rfl rfl h.1.1) rfl rfl) ⟨⟨rfl, trivial⟩, trivial, trivial⟩ ?_
                            refine dr_cons { need := [(92, .tup [])], dst := some 96, val := some (.tup []) } (fun m h => step_off (guard_undef rfl rfl rfl h.1.1) rfl rfl) ⟨⟨rfl, trivial⟩, trivial, trivial⟩ ?_
                            refine dr_cons { need := [(92, .tup [])], dst := some 97, val := some (.tup []) } (fun m h => step_off (guard_undef rfl rfl rfl h.1.1) rfl rfl) ⟨⟨rfl, trivial⟩, trivial, trivial⟩ ?_
                            refine dr_cons { need := [(82, .pv (.bool (!(bGOwner y100 y102))))], dst := some 98, val := some (.tup []) } (fun m h => step_off (guard_off rfl rfl rfl h.1.1 hb104) rfl rfl) ⟨⟨rfl, trivial⟩, trivial, trivial⟩ ?_
                            refine dr_cons { need := [(82, .pv (.bool (!(bGOwner y100 y102))))], dst := some 99, val := some (.tup []) } (fun m h => step_off (guard_off rfl rfl rfl h.1.1 hb104) rfl rfl) ⟨⟨rfl, trivial⟩, trivial, trivial⟩ ?_
                            refine dr_cons { need := [(99, .tup [])], dst := some 100, val := some (.tup []) } (fun m h => step_off (guard_undef rfl rfl rfl h.1.1) rfl rfl) ⟨⟨rfl, trivial⟩, trivial, trivial⟩ ?_
                            refine dr_cons { need := [(99, .tup [])], dst := some 101, val := some (.tup []) } (fun m h => step_off (guard_undef rfl rfl rfl h.1.1) rfl rfl) ⟨⟨rfl, trivial⟩, trivial, trivial⟩ ?_
                            refine dr_cons { need := [(99, .tup [])], dst := some 102, val := some (.tup []) } (fun m h => step_off (guard_undef rfl rfl rfl h.1.1) rfl rfl) ⟨⟨rfl, trivial⟩, trivial, trivial⟩ ?_
                            refine dr_cons { need := [(99, .tup [])], dst := some 103, val := some (.tup []) } (fun m h => step_off (guard_undef rfl rfl rfl h.1.1) rfl rfl) ⟨⟨rfl, trivial⟩, trivial, trivial⟩ ?_
                            refine dr_cons { need := [(99, .tup [])], dst := some 104, val := some (.tup []) } (fun m h => step_off (guard_undef rfl rfl rfl h.1.1) rfl rfl) ⟨⟨rfl, trivial⟩, trivial, trivial⟩ ?_
                            refine dr_cons { need := [(82, .pv (.bool (!(bGOwner y100 y102))))], dst := some 105, val := some (.tup []) } (fun m h => step_off (guard_off rfl rfl rfl h.1.1 hb104) rfl rfl) ⟨⟨rfl, trivial⟩, trivial, trivial⟩ ?_
                            refine dr_cons { need := [(82, .pv (.bool (!(bGOwner y100 y102))))], dst := some 106, val := some (.tup []) } (fun m h => step_off (guard_off rfl rfl rfl h.1.1 hb104) rfl rfl) ⟨⟨rfl, trivial⟩, trivial, trivial⟩ ?_
                            refine dr_cons { need := [(106, .tup [])], dst := some 107, val := some (.tup []) } (fun m h => step_off (guard_undef rfl rfl rfl h.1.1) rfl rfl) ⟨⟨rfl, trivial⟩, trivial, trivial⟩ ?_
                            refine dr_cons { need := [(106, .tup [])], dst := some 108, val := some (.tup []) } (fun m h => step_off (guard_undef rfl rfl rfl h.1.1) rfl rfl) ⟨⟨rfl, trivial⟩, trivial, trivial⟩ ?_
                            refine dr_cons { need := [(106, .tup [])], dst := some 109, val := some (.tup []) } (fun m h => step_off (guard_undef rfl rfl rfl h.1.1) rfl rfl) ⟨⟨rfl, trivial⟩, trivial, trivial⟩ ?_
                            refine dr_cons { need := [(106, .tup [])], dst := some 110, val := some (.tup []) } (fun m h => step_off (guard_undef rfl rfl rfl h.1.1) rfl rfl) ⟨⟨rfl, trivial⟩, trivial, trivial⟩ ?_
                            refine dr_cons { need := [(106, .tup [])], dst := some 111, val := some (.tup []) } (fun m h => step_off (guard_undef rfl rfl rfl h.1.1) rfl rfl) ⟨⟨rfl, trivial⟩, trivial, trivial⟩ ?_
                            refine dr_cons { need := [(82, .pv (.bool (!(bGOwner y100 y102))))], dst := some 112, val := some (.tup []) } (fun m h => step_off (guard_off rfl rfl rfl h.1.1 hb104) rfl rfl) ⟨⟨rfl, trivial⟩, trivial, trivial⟩ ?_
                            refine dr_cons { need := [(82, .pv (.bool (!(bGOwner y100 y102))))], dst := some 113, val := some (.pv (.bool false)) } (fun m h => step_on (guard_no rfl) (op_pick_f rfl h.1.1 hb104 rfl rfl rfl) rfl) ⟨⟨rfl, trivial⟩, trivial, trivial⟩ ?_
                            refine dr_nil Try_mixed rfl (by kernel_rfl) ?_
                            refine post_imp (s' := ⟨114, [(7, some (.pv (.vs 2 (List.map eGOwner y30.1)))), (9, some (.pv (.vs 2 (List.map eGOwner y34)))), (10, some (.pv (.int .i64 x67))), (113, some (.pv (.bool false)))], [], 0, [], [], 0, []⟩) (imp_sub [] rfl (by decide) rfl rfl ⟨by kernel_rfl, by kernel_rfl, by kernel_rfl, by kernel_rfl, trivial⟩ trivial rfl rfl rfl) ?_
                            cases hF
                            exact post_cut _ rfl (imp_sub [] rfl (by decide) rfl rfl ⟨by kernel_rfl, by kernel_rfl, by kernel_rfl, by kernel_rfl, trivial⟩ trivial rfl rfl rfl)
                        · rintro _ rfl
                          have hF := hK119
                          clear hK119
                          refine post_next ?_
                          rcases ite_some hF with ⟨hb120, hF⟩ | ⟨hb120, hF⟩
                          · refine aw_cond_t rfl hb120 ?_
                            refine aw_seq ?_
                            refine aw_region ?_
                            refine reg_cons (guard_no rfl) (op_assign rfl rfl rfl rfl) ?_
                            refine reg_nil ?_
                            refine post_imp (s' := ⟨114, [(6, some (.pv (.bool false)))], [], 0, [], [], 0, []⟩) (imp_sub [] rfl (by decide) rfl rfl ⟨by kernel_rfl, trivial⟩ trivial rfl rfl rfl) ?_
                            refine post_next ?_
                            refine aw_ret ?_
                            refine post_block_ret ?_
                            iterate 2 (refine post_then_ret ?_)
                            refine post_lp_ret ?_
                            obtain rfl := Option.some.inj hF
                            have hF := elim_stop hK123
                            refine post_then_ret ?_
                            obtain rfl := Option.some.inj hF
                            exact post_ret rfl rfl (.cons _ _ _ _ _ (.tmp _ _ rfl) (.p _) .nil) (.inl rfl)
                          · refine aw_cond_f rfl hb120 ?_
                            refine aw_skip ?_
                            refine post_block_normal ?_
                            refine post_next ?_
                            refine aw_region ?_
                            refine reg_cons (guard_no rfl) (op_move rfl rfl rfl rfl) ?_
                            refine reg_cons (guard_no rfl) (op_int (k := .i64) (m := x67) (n := 1) rfl rfl rfl rfl rfl rfl) ?_
                            refine reg_cons (guard_no rfl) (op_assign rfl rfl rfl rfl) ?_
                            refine reg_nil ?_
                            refine post_round ?_
                            exact rnd_back (ih (w_i64 (x67 + 1)) hF) (imp_sub [] rfl (by decide) rfl rfl ⟨by kernel_rfl, by kernel_rfl, by kernel_rfl, trivial⟩ trivial rfl rfl rfl)
                      · refine aw_cond_f rfl hb95 ?_
                        refine aw_exit ?_
                        iterate 2 (refine post_then_exit ?_)
                        obtain rfl := Option.some.inj hF
                        exact post_lp_break _ ⟨_, rfl, rfl⟩ (imp_sub [] rfl (by decide) rfl rfl trivial trivial rfl rfl rfl)
                    · rintro _ ⟨⟨⟩, rfl, rfl⟩
                      have hF := elim_next hK123
                      clear hK123
                      refine post_next ?_
                      refine aw_seq ?_
                      refine aw_region ?_
                      refine reg_cons (guard_no rfl) (op_assign rfl rfl rfl rfl) ?_
                      refine reg_nil ?_
                      refine post_imp (s' := ⟨114, [(6, some (.pv (.bool true)))], [], 0, [], [], 0, []⟩) (imp_sub [] rfl (by decide) rfl rfl ⟨by kernel_rfl, trivial⟩ trivial rfl rfl rfl) ?_
                      refine post_next ?_
                      refine aw_ret ?_
                      obtain rfl := Option.some.inj hF
                      exact post_ret rfl rfl (.cons _ _ _ _ _ (.tmp _ _ rfl) (.p _) .nil) (.inl rfl)
theorem kind_Unique_ok {a0 : GType} {r : Bool} (hF : kind_Unique a0 = some r) : Abs.Fn Try.prog 46 [.agg (eGType a0)] [.p (.bool r)] := by
  unfold kind_Unique at hF
  refine fn_of_body (n := 13) Try.func46 rfl rfl rfl ?_
  intro w O
  refine aw_seq ?_
  refine aw_region ?_
  refine reg_cons (guard_no rfl) (op_box 0 rfl rfl rfl rfl rfl rfl) ?_
  refine reg_cons (guard_no rfl) (op_assign rfl rfl rfl rfl) ?_
  refine reg_nil ?_
  refine post_imp (s' := ⟨13, [(1, some (.lp 0 0))], [(0, some (.box 27 (bxv (eGType a0))))], 1, [], [], 0, []⟩) (imp_sub [0] rfl (by decide) rfl rfl ⟨by kernel_rfl, trivial⟩ ⟨by kernel_rfl, trivial⟩ rfl rfl rfl) ?_
  refine post_next ?_
  refine aw_seq ?_
  refine aw_region ?_
  refine reg_cons (guard_no rfl) (op_field_lp rfl rfl Try_fld_27_0 rfl rfl) ?_
  refine reg_cons (guard_no rfl) (op_load_lp (v := .pv (.int .i64 a0.fKind)) rfl rfl rfl rfl Try_one_3 rfl rfl) ?_
  refine reg_cons (guard_no rfl) (op_int (k := .i64) (m := a0.fKind) (n := 2) rfl rfl rfl rfl rfl rfl) ?_
  refine reg_cons (guard_no rfl) (op_move rfl rfl rfl rfl) ?_
  rcases ite_some hF with ⟨hb1, hF⟩ | ⟨hb1, hF⟩
  · refine reg_cons (guard_on rfl rfl rfl rfl hb1) (op_field_lp rfl rfl Try_fld_27_3 rfl rfl) ?_
    refine reg_cons (guard_on rfl rfl rfl rfl hb1) (op_arr_lp (k := .i64) (m := 0) (n := 4) rfl rfl rfl Try_arr_25 rfl rfl rfl rfl) ?_
    refine reg_cons (guard_on rfl rfl rfl rfl hb1) (op_field_lp rfl rfl Try_fld_24_0 rfl rfl) ?_
    refine reg_cons (guard_on rfl rfl rfl rfl hb1) (op_load_lp (v := .pv (.int .i64 a0.fOwn.a0.fKind)) rfl rfl rfl rfl Try_one_3 rfl rfl) ?_
    refine reg_cons (guard_on rfl rfl rfl rfl hb1) (op_int (k := .i64) (m := a0.fOwn.a0.fKind) (n := 6) rfl rfl rfl rfl rfl rfl) ?_
    refine reg_cons (guard_no rfl) (op_pick_t rfl rfl hb1 rfl rfl rfl) ?_
    refine reg_cons (guard_no rfl) (op_assign rfl rfl rfl rfl) ?_
    refine reg_nil ?_
    refine post_imp (s' := ⟨13, [(2, some (.pv (.bool (a0.fOwn.a0.fKind == 6))))], [], 0, [], [], 0, []⟩) (imp_sub [] rfl (by decide) rfl rfl ⟨by kernel_rfl, trivial⟩ trivial rfl rfl rfl) ?_
    refine post_next ?_
    refine aw_ret ?_
    obtain rfl := Option.some.inj hF
    exact post_ret rfl rfl (.cons _ _ _ _ _ (.tmp _ _ rfl) (.p _) .nil) (.inl rfl)
  · refine reg_off (guard_off rfl rfl rfl rfl hb1) rfl rfl ?_
    iterate 4 (refine reg_off (guard_off rfl rfl rfl rfl hb1) rfl rfl ?_)
    refine reg_cons (guard_no rfl) (op_pick_f rfl rfl hb1 rfl rfl rfl) ?_
    refine reg_cons (guard_no rfl) (op_assign rfl rfl rfl rfl) ?_
    refine reg_nil ?_
    refine post_imp (s' := ⟨13, [(2, some (.pv (.bool false)))], [], 0, [], [], 0, []⟩) (imp_sub [] rfl (by decide) rfl rfl ⟨by kernel_rfl, trivial⟩ trivial rfl rfl rfl) ?_
    refine post_next ?_
    refine aw_ret ?_
    obtain rfl := Option.some.inj hF
    exact post_ret rfl rfl (.cons _ _ _ _ _ (.tmp _ _ rfl) (.p _) .nil) (.inl rfl)
theorem under_Given_ok {a0 : List GClass} {a1 : GType} {a2 : GType} {r : Bool} (hF : under_Given a0 a1 a2 = some r) : Abs.Fn Try.prog 25 [.vs 7 (List.map eGClass a0), .agg (eGType a1), .agg (eGType a2)] [.p (.bool r)] := by
  unfold under_Given at hF
  refine fn_of_body (n := 34) Try.func25 rfl rfl rfl ?_
  intro w O
  refine aw_seq ?_
  refine aw_region ?_
  refine reg_cons (guard_no rfl) (op_box 0 rfl rfl rfl rfl rfl rfl) ?_
  refine reg_cons (guard_no rfl) (op_box 1 rfl rfl rfl rfl rfl rfl) ?_
  refine reg_cons (guard_no rfl) (op_assign rfl rfl rfl rfl) ?_
  refine reg_nil ?_
  refine post_imp (s' := ⟨34, [(0, some (.pv (.vs 7 (List.map eGClass a0)))), (4, some (.lp 0 0)), (5, some (.lp 1 0))], [(0, some (.box 27 (bxv (eGType a1)))), (1, some (.box 27 (bxv (eGType a2))))], 2, [], [], 0, []⟩) (imp_sub [0, 1] rfl (by decide) rfl rfl ⟨by kernel_rfl, by kernel_rfl, by kernel_rfl, trivial⟩ ⟨by kernel_rfl, by kernel_rfl, trivial⟩ rfl rfl rfl) ?_
  refine post_next ?_
  refine aw_seq ?_
  refine aw_region ?_
  refine reg_cons (guard_no rfl) (op_lit (rows := List.map eI ([6, 5, 8, 7] : List Int)) (zs := [.int .i64 0]) rfl rfl Try_slc_55 Try_zer_3 (by exact ⟨rfl, trivial⟩) rfl rfl rfl rfl rfl rfl rfl rfl) ?_
  obtain ⟨y3, h4, hF⟩ := bind_some hF
  refine reg_cons (guard_no rfl) (op_call 2 rfl (caps := []) (args := [.vs 1 (List.map eI [6, 5, 8, 7])]) (rs := [.p (.fn 65 [.vp ((eL 1 eI) y3)])]) rfl rfl rfl Try_cal_39 (under_of_ok h4) rfl rfl rfl) ?_
  refine reg_cons (guard_no rfl) (op_assign rfl rfl rfl rfl) ?_
  refine reg_nil ?_
  refine post_imp (s' := ⟨34, [(0, some (.pv (.vs 7 (List.map eGClass a0)))), (4, some (.lp 0 0)), (5, some (.lp 1 0)), (7, some (.pv (.fn 65 [.vp ((eL 1 eI) y3)])))], [(0, some (.box 27 (bxv (eGType a1)))), (1, some (.box 27 (bxv (eGType a2))))], 2, [], [], 0, []⟩) (imp_sub [0, 1] rfl (by decide) rfl rfl ⟨by kernel_rfl, by kernel_rfl, by kernel_rfl, by kernel_rfl, trivial⟩ ⟨by kernel_rfl, by kernel_rfl, trivial⟩ rfl rfl rfl) ?_
  refine post_next ?_
  iterate 2 (refine aw_seq ?_)
  obtain ⟨x13, hF, hK15⟩ := bind_some hF
  refine aw_cut (fun s1 => s1 = ⟨34, [(0, some (.pv (.vs 7 (List.map eGClass a0)))), (4, some (.lp 0 0)), (5, some (.lp 1 0)), (24, some (.pv (.bool x13)))], [(0, some (.box 27 (bxv (eGType a1)))), (1, some (.box 27 (bxv (eGType a2))))], 2, [], [], 0, []⟩) ?_ ?_
  · refine aw_region ?_
    refine reg_cons (guard_no rfl) (op_load_lp_agg (ps := eGType a1) rfl rfl rfl rfl rfl rfl Try_agg_27 rfl rfl) ?_
    obtain ⟨y7, h8, hF⟩ := bind_some hF
    refine reg_cons (guard_no rfl) (op_call 2 rfl (caps := []) (args := [.agg (eGType a1)]) (rs := [.p (.bool y7)]) rfl rfl rfl Try_cal_46 (kind_Unique_ok h8) rfl rfl rfl) ?_
    refine reg_cons (guard_no rfl) (op_not rfl rfl rfl rfl) ?_
    refine reg_cons (guard_no rfl) (op_move rfl rfl rfl rfl) ?_
    rcases ite_some hF with ⟨hb9, hF⟩ | ⟨hb9, hF⟩
    · refine reg_off (guard_off rfl rfl rfl rfl hb9) rfl rfl ?_
      iterate 2 (refine reg_off (guard_off rfl rfl rfl rfl hb9) rfl rfl ?_)
      refine reg_cons (guard_no rfl) (op_pick_t rfl rfl hb9 rfl rfl rfl) ?_
      refine reg_cons (guard_no rfl) (op_move rfl rfl rfl rfl) ?_
      iterate 5 (refine reg_off (guard_off rfl rfl rfl rfl rfl) rfl rfl ?_)
      refine reg_cons (guard_no rfl) (op_pick_t rfl rfl rfl rfl rfl rfl) ?_
      refine reg_nil ?_
      cases hF
      exact post_cut _ rfl (imp_sub [0, 1] rfl (by decide) rfl rfl ⟨by kernel_rfl, by kernel_rfl, by kernel_rfl, by kernel_rfl, trivial⟩ ⟨by kernel_rfl, by kernel_rfl, trivial⟩ rfl rfl rfl)
    · refine reg_cons (guard_on rfl rfl rfl rfl hb9) (op_field_lp rfl rfl Try_fld_27_0 rfl rfl) ?_
      refine reg_cons (guard_on rfl rfl rfl rfl hb9) (op_load_lp (v := .pv (.int .i64 a2.fKind)) rfl rfl rfl rfl Try_one_3 rfl rfl) ?_
      refine reg_cons (guard_on rfl rfl rfl rfl hb9) (op_int (k := .i64) (m := a2.fKind) (n := 2) rfl rfl rfl rfl rfl rfl) ?_
      refine reg_cons (guard_no rfl) (op_pick_f rfl rfl hb9 rfl rfl rfl) ?_
      refine reg_cons (guard_no rfl) (op_move rfl rfl rfl rfl) ?_
      rcases ite_some hF with ⟨hb10, hF⟩ | ⟨hb10, hF⟩
      · refine reg_off (guard_off rfl rfl rfl rfl hb10) rfl rfl ?_
        iterate 4 (refine reg_off (guard_off rfl rfl rfl rfl hb10) rfl rfl ?_)
        refine reg_cons (guard_no rfl) (op_pick_t rfl rfl hb10 rfl rfl rfl) ?_
        refine reg_nil ?_
        cases hF
        exact post_cut _ rfl (imp_sub [0, 1] rfl (by decide) rfl rfl ⟨by kernel_rfl, by kernel_rfl, by kernel_rfl, by kernel_rfl, trivial⟩ ⟨by kernel_rfl, by kernel_rfl, trivial⟩ rfl rfl rfl)
      · refine reg_cons (guard_on rfl rfl rfl rfl hb10) (op_move rfl rfl rfl rfl) ?_
        refine reg_cons (guard_on rfl rfl rfl rfl hb10) (op_field_lp rfl rfl Try_fld_27_3 rfl rfl) ?_
        refine reg_cons (guard_on rfl rfl rfl rfl hb10) (op_arr_lp (k := .i64) (m := 0) (n := 4) rfl rfl rfl Try_arr_25 rfl rfl rfl rfl) ?_
        refine reg_cons (guard_on rfl rfl rfl rfl hb10) (op_load_lp_agg (ps := eGOwner a2.fOwn.a0) rfl rfl rfl rfl rfl rfl Try_agg_24 rfl rfl) ?_
        obtain ⟨y11, h12, hF⟩ := bind_some hF
        refine reg_cons (guard_on rfl rfl rfl rfl hb10) (op_call 2 rfl (caps := [.vp ((eL 1 eI) y3)]) (args := [.agg (eGOwner a2.fOwn.a0)]) (rs := [.p (.bool y11)]) rfl rfl rfl Try_cal_65 (under_of_1_ok h12) rfl rfl rfl) ?_
        refine reg_cons (guard_no rfl) (op_pick_f rfl rfl hb10 rfl rfl rfl) ?_
        refine reg_nil ?_
        cases hF
        exact post_cut _ rfl (imp_sub [0, 1] rfl (by decide) rfl rfl ⟨by kernel_rfl, by kernel_rfl, by kernel_rfl, by kernel_rfl, trivial⟩ ⟨by kernel_rfl, by kernel_rfl, trivial⟩ rfl rfl rfl)
  · rintro _ rfl
    have hF := hK15
    clear hK15
    refine post_next ?_
    rcases ite_some hF with ⟨hb16, hF⟩ | ⟨hb16, hF⟩
    · refine aw_cond_t rfl hb16 ?_
      refine aw_seq ?_
      refine aw_region ?_
      refine reg_cons (guard_no rfl) (op_assign rfl rfl rfl rfl) ?_
      refine reg_nil ?_
      refine post_imp (s' := ⟨34, [(6, some (.pv (.bool false)))], [], 0, [], [], 0, []⟩) (imp_sub [] rfl (by decide) rfl rfl ⟨by kernel_rfl, trivial⟩ trivial rfl rfl rfl) ?_
      refine post_next ?_
      refine aw_ret ?_
      refine post_then_ret ?_
      obtain rfl := Option.some.inj hF
      exact post_ret rfl rfl (.cons _ _ _ _ _ (.tmp _ _ rfl) (.p _) .nil) (.inl rfl)
    · refine aw_cond_f rfl hb16 ?_
      refine aw_skip ?_
      refine post_next ?_
      refine aw_seq ?_
      refine aw_region ?_
      refine reg_cons (guard_no rfl) (op_field_lp rfl rfl Try_fld_27_3 rfl rfl) ?_
      refine reg_cons (guard_no rfl) (op_arr_lp (k := .i64) (m := 0) (n := 4) rfl rfl rfl Try_arr_25 rfl rfl rfl rfl) ?_
      refine reg_cons (guard_no rfl) (op_load_lp_agg (ps := eGOwner a2.fOwn.a0) rfl rfl rfl rfl rfl rfl Try_agg_24 rfl rfl) ?_
      refine reg_cons (guard_no rfl) (op_field_lp rfl rfl Try_fld_27_3 rfl rfl) ?_
      refine reg_cons (guard_no rfl) (op_arr_lp (k := .i64) (m := 0) (n := 4) rfl rfl rfl Try_arr_25 rfl rfl rfl rfl) ?_
      refine reg_cons (guard_no rfl) (op_store_lp (n := 2) rfl rfl rfl rfl rfl (or_agg Try_agg_24) (by rw [Try_non_24]; rfl) rfl rfl rfl) ?_
      refine reg_nil ?_
      refine post_imp (s' := ⟨34, [(0, some (.pv (.vs 7 (List.map eGClass a0)))), (4, some (.lp 0 0)), (5, some (.lp 1 0))], [(0, some (.box 27 (bxv (eGType ({ a1 with fOwn := ({ a1.fOwn with a0 := a2.fOwn.a0 } : A4 GOwner) } : GType))))), (1, some (.box 27 (bxv (eGType a2))))], 2, [], [], 0, []⟩) (imp_sub [0, 1] rfl (by decide) rfl rfl ⟨by kernel_rfl, by kernel_rfl, by kernel_rfl, trivial⟩ ⟨by kernel_rfl, by kernel_rfl, trivial⟩ rfl rfl rfl) ?_
      refine post_next ?_
      refine aw_seq ?_
      refine aw_region ?_
      refine reg_cons (guard_no rfl) (op_move rfl rfl rfl rfl) ?_
      refine reg_cons (guard_no rfl) (op_load_lp_agg (ps := eGType ({ a1 with fOwn := ({ a1.fOwn with a0 := a2.fOwn.a0 } : A4 GOwner) } : GType)) rfl rfl rfl rfl rfl rfl Try_agg_27 rfl rfl) ?_
      refine reg_cons (guard_no rfl) (op_load_lp_agg (ps := eGType a2) rfl rfl rfl rfl rfl rfl Try_agg_27 rfl rfl) ?_
      obtain ⟨y17, h18, hF⟩ := bind_some hF
      refine reg_cons (guard_no rfl) (op_call 2 rfl (caps := []) (args := [.vs 7 (List.map eGClass a0), .agg (eGType ({ a1 with fOwn := ({ a1.fOwn with a0 := a2.fOwn.a0 } : A4 GOwner) } : GType)), .agg (eGType a2)]) (rs := [.p (.bool y17)]) rfl rfl rfl Try_cal_12 (under_Is_ok h18) rfl rfl rfl) ?_
      refine reg_cons (guard_no rfl) (op_assign rfl rfl rfl rfl) ?_
      refine reg_nil ?_
      refine post_imp (s' := ⟨34, [(6, some (.pv (.bool y17)))], [], 0, [], [], 0, []⟩) (imp_sub [] rfl (by decide) rfl rfl ⟨by kernel_rfl, trivial⟩ trivial rfl rfl rfl) ?_
      refine post_next ?_
      refine aw_ret ?_
      obtain rfl := Option.some.inj hF
      exact post_ret rfl rfl (.cons _ _ _ _ _ (.tmp _ _ rfl) (.p _) .nil) (.inl rfl)
theorem ref05_Unique_ok {a0 : GType} {r : Bool} (hF : ref05_Unique a0 = some r) : Abs.Fn Try.prog 20 [.agg (eGType a0)] [.p (.bool r)] := by
  unfold ref05_Unique at hF
  refine fn_of_body (n := 13) Try.func20 rfl rfl rfl ?_
  intro w O
  refine aw_seq ?_
  refine aw_region ?_
  refine reg_cons (guard_no rfl) (op_box 0 rfl rfl rfl rfl rfl rfl) ?_
  refine reg_cons (guard_no rfl) (op_assign rfl rfl rfl rfl) ?_
  refine reg_nil ?_
  refine post_imp (s' := ⟨13, [(1, some (.lp 0 0))], [(0, some (.box 27 (bxv (eGType a0))))], 1, [], [], 0, []⟩) (imp_sub [0] rfl (by decide) rfl rfl ⟨by kernel_rfl, trivial⟩ ⟨by kernel_rfl, trivial⟩ rfl rfl rfl) ?_
  refine post_next ?_
  refine aw_seq ?_
  refine aw_region ?_
  refine reg_cons (guard_no rfl) (op_field_lp rfl rfl Try_fld_27_0 rfl rfl) ?_
  refine reg_cons (guard_no rfl) (op_load_lp (v := .pv (.int .i64 a0.fKind)) rfl rfl rfl rfl Try_one_3 rfl rfl) ?_
  refine reg_cons (guard_no rfl) (op_int (k := .i64) (m := a0.fKind) (n := 2) rfl rfl rfl rfl rfl rfl) ?_
  refine reg_cons (guard_no rfl) (op_move rfl rfl rfl rfl) ?_
  rcases ite_some hF with ⟨hb1, hF⟩ | ⟨hb1, hF⟩
  · refine reg_cons (guard_on rfl rfl rfl rfl hb1) (op_field_lp rfl rfl Try_fld_27_3 rfl rfl) ?_
    refine reg_cons (guard_on rfl rfl rfl rfl hb1) (op_arr_lp (k := .i64) (m := 0) (n := 4) rfl rfl rfl Try_arr_25 rfl rfl rfl rfl) ?_
    refine reg_cons (guard_on rfl rfl rfl rfl hb1) (op_field_lp rfl rfl Try_fld_24_0 rfl rfl) ?_
    refine reg_cons (guard_on rfl rfl rfl rfl hb1) (op_load_lp (v := .pv (.int .i64 a0.fOwn.a0.fKind)) rfl rfl rfl rfl Try_one_3 rfl rfl) ?_
    refine reg_cons (guard_on rfl rfl rfl rfl hb1) (op_int (k := .i64) (m := a0.fOwn.a0.fKind) (n := 6) rfl rfl rfl rfl rfl rfl) ?_
    refine reg_cons (guard_no rfl) (op_pick_t rfl rfl hb1 rfl rfl rfl) ?_
    refine reg_cons (guard_no rfl) (op_assign rfl rfl rfl rfl) ?_
    refine reg_nil ?_
    refine post_imp (s' := ⟨13, [(2, some (.pv (.bool (a0.fOwn.a0.fKind == 6))))], [], 0, [], [], 0, []⟩) (imp_sub [] rfl (by decide) rfl rfl ⟨by kernel_rfl, trivial⟩ trivial rfl rfl rfl) ?_
    refine post_next ?_
    refine aw_ret ?_
    obtain rfl := Option.some.inj hF
    exact post_ret rfl rfl (.cons _ _ _ _ _ (.tmp _ _ rfl) (.p _) .nil) (.inl rfl)
  · refine reg_off (guard_off rfl rfl rfl rfl hb1) rfl rfl ?_
    iterate 4 (refine reg_off (guard_off rfl rfl rfl rfl hb1) rfl rfl ?_)
    refine reg_cons (guard_no rfl) (op_pick_f rfl rfl hb1 rfl rfl rfl) ?_
    refine reg_cons (guard_no rfl) (op_assign rfl rfl rfl rfl) ?_
    refine reg_nil ?_
    refine post_imp (s' := ⟨13, [(2, some (.pv (.bool false)))], [], 0, [], [], 0, []⟩) (imp_sub [] rfl (by decide) rfl rfl ⟨by kernel_rfl, trivial⟩ trivial rfl rfl rfl) ?_
    refine post_next ?_
    refine aw_ret ?_
    obtain rfl := Option.some.inj hF
    exact post_ret rfl rfl (.cons _ _ _ _ _ (.tmp _ _ rfl) (.p _) .nil) (.inl rfl)
theorem ref27_Given_ok {a0 : List GClass} {a1 : GType} {a2 : GType} {r : Bool} (hF : ref27_Given a0 a1 a2 = some r) : Abs.Fn Try.prog 26 [.vs 7 (List.map eGClass a0), .agg (eGType a1), .agg (eGType a2)] [.p (.bool r)] := by
  unfold ref27_Given at hF
  refine fn_of_body (n := 45) Try.func26 rfl rfl rfl ?_
  intro w O
  refine aw_seq ?_
  refine aw_region ?_
  refine reg_cons (guard_no rfl) (op_box 0 rfl rfl rfl rfl rfl rfl) ?_
  refine reg_cons (guard_no rfl) (op_box 1 rfl rfl rfl rfl rfl rfl) ?_
  refine reg_cons (guard_no rfl) (op_assign rfl rfl rfl rfl) ?_
  refine reg_nil ?_
  refine post_imp (s' := ⟨45, [(0, some (.pv (.vs 7 (List.map eGClass a0)))), (4, some (.lp 0 0)), (5, some (.lp 1 0))], [(0, some (.box 27 (bxv (eGType a1)))), (1, some (.box 27 (bxv (eGType a2))))], 2, [], [], 0, []⟩) (imp_sub [0, 1] rfl (by decide) rfl rfl ⟨by kernel_rfl, by kernel_rfl, by kernel_rfl, trivial⟩ ⟨by kernel_rfl, by kernel_rfl, trivial⟩ rfl rfl rfl) ?_
  refine post_next ?_
  refine aw_seq ?_
  refine aw_region ?_
  refine reg_cons (guard_no rfl) (op_field_lp rfl rfl Try_fld_27_3 rfl rfl) ?_
  refine reg_cons (guard_no rfl) (op_arr_lp (k := .i64) (m := 0) (n := 4) rfl rfl rfl Try_arr_25 rfl rfl rfl rfl) ?_
  refine reg_cons (guard_no rfl) (op_field_lp rfl rfl Try_fld_24_0 rfl rfl) ?_
  refine reg_cons (guard_no rfl) (op_load_lp (v := .pv (.int .i64 a2.fOwn.a0.fKind)) rfl rfl rfl rfl Try_one_3 rfl rfl) ?_
  refine reg_cons (guard_no rfl) (op_assign rfl rfl rfl rfl) ?_
  refine reg_nil ?_
  refine post_imp (s' := ⟨45, [(0, some (.pv (.vs 7 (List.map eGClass a0)))), (4, some (.lp 0 0)), (5, some (.lp 1 0)), (7, some (.pv (.int .i64 a2.fOwn.a0.fKind)))], [(0, some (.box 27 (bxv (eGType a1)))), (1, some (.box 27 (bxv (eGType a2))))], 2, [], [], 0, []⟩) (imp_sub [0, 1] rfl (by decide) rfl rfl ⟨by kernel_rfl, by kernel_rfl, by kernel_rfl, by kernel_rfl, trivial⟩ ⟨by kernel_rfl, by kernel_rfl, trivial⟩ rfl rfl rfl) ?_
  refine post_next ?_
  iterate 2 (refine aw_seq ?_)
  obtain ⟨x10, hF, hK12⟩ := bind_some hF
  refine aw_cut (fun s1 => s1 = ⟨45, [(0, some (.pv (.vs 7 (List.map eGClass a0)))), (4, some (.lp 0 0)), (5, some (.lp 1 0)), (35, some (.pv (.bool x10)))], [(0, some (.box 27 (bxv (eGType a1)))), (1, some (.box 27 (bxv (eGType a2))))], 2, [], [], 0, []⟩) ?_ ?_
  · refine aw_region ?_
    refine reg_cons (guard_no rfl) (op_load_lp_agg (ps := eGType a1) rfl rfl rfl rfl rfl rfl Try_agg_27 rfl rfl) ?_
    obtain ⟨y3, h4, hF⟩ := bind_some hF
    refine reg_cons (guard_no rfl) (op_call 2 rfl (caps := []) (args := [.agg (eGType a1)]) (rs := [.p (.bool y3)]) rfl rfl rfl Try_cal_20 (ref05_Unique_ok h4) rfl rfl rfl) ?_
    refine reg_cons (guard_no rfl) (op_not rfl rfl rfl rfl) ?_
    refine reg_cons (guard_no rfl) (op_move rfl rfl rfl rfl) ?_
    rcases ite_some hF with ⟨hb5, hF⟩ | ⟨hb5, hF⟩
    · refine reg_off (guard_off rfl rfl rfl rfl hb5) rfl rfl ?_
      iterate 2 (refine reg_off (guard_off rfl rfl rfl rfl hb5) rfl rfl ?_)
      refine reg_cons (guard_no rfl) (op_pick_t rfl rfl hb5 rfl rfl rfl) ?_
      refine reg_cons (guard_no rfl) (op_move rfl rfl rfl rfl) ?_
      iterate 2 (refine reg_off (guard_off rfl rfl rfl rfl rfl) rfl rfl ?_)
      refine reg_cons (guard_no rfl) (op_pick_t rfl rfl rfl rfl rfl rfl) ?_
      refine reg_cons (guard_no rfl) (op_move rfl rfl rfl rfl) ?_
      iterate 2 (refine reg_off (guard_off rfl rfl rfl rfl rfl) rfl rfl ?_)
      refine reg_cons (guard_no rfl) (op_pick_t rfl rfl rfl rfl rfl rfl) ?_
      refine reg_cons (guard_no rfl) (op_move rfl rfl rfl rfl) ?_
      iterate 2 (refine reg_off (guard_off rfl rfl rfl rfl rfl) rfl rfl ?_)
      refine reg_cons (guard_no rfl) (op_pick_t rfl rfl rfl rfl rfl rfl) ?_
      refine reg_cons (guard_no rfl) (op_move rfl rfl rfl rfl) ?_
      iterate 2 (refine reg_off (guard_off rfl rfl rfl rfl rfl) rfl rfl ?_)
      refine reg_cons (guard_no rfl) (op_pick_t rfl rfl rfl rfl rfl rfl) ?_
      refine reg_nil ?_
      cases hF
      exact post_cut _ rfl (imp_sub [0, 1] rfl (by decide) rfl rfl ⟨by kernel_rfl, by kernel_rfl, by kernel_rfl, by kernel_rfl, trivial⟩ ⟨by kernel_rfl, by kernel_rfl, trivial⟩ rfl rfl rfl)
    · refine reg_cons (guard_on rfl rfl rfl rfl hb5) (op_field_lp rfl rfl Try_fld_27_0 rfl rfl) ?_
      refine reg_cons (guard_on rfl rfl rfl rfl hb5) (op_load_lp (v := .pv (.int .i64 a2.fKind)) rfl rfl rfl rfl Try_one_3 rfl rfl) ?_
      refine reg_cons (guard_on rfl rfl rfl rfl hb5) (op_int (k := .i64) (m := a2.fKind) (n := 2) rfl rfl rfl rfl rfl rfl) ?_
      refine reg_cons (guard_no rfl) (op_pick_f rfl rfl hb5 rfl rfl rfl) ?_
      refine reg_cons (guard_no rfl) (op_move rfl rfl rfl rfl) ?_
      rcases ite_some hF with ⟨hb6, hF⟩ | ⟨hb6, hF⟩
      · refine reg_off (guard_off rfl rfl rfl rfl hb6) rfl rfl ?_
        refine reg_off (guard_off rfl rfl rfl rfl hb6) rfl rfl ?_
        refine reg_cons (guard_no rfl) (op_pick_t rfl rfl hb6 rfl rfl rfl) ?_
        refine reg_cons (guard_no rfl) (op_move rfl rfl rfl rfl) ?_
        iterate 2 (refine reg_off (guard_off rfl rfl rfl rfl rfl) rfl rfl ?_)
        refine reg_cons (guard_no rfl) (op_pick_t rfl rfl rfl rfl rfl rfl) ?_
        refine reg_cons (guard_no rfl) (op_move rfl rfl rfl rfl) ?_
        iterate 2 (refine reg_off (guard_off rfl rfl rfl rfl rfl) rfl rfl ?_)
        refine reg_cons (guard_no rfl) (op_pick_t rfl rfl rfl rfl rfl rfl) ?_
        refine reg_cons (guard_no rfl) (op_move rfl rfl rfl rfl) ?_
        iterate 2 (refine reg_off (guard_off rfl rfl rfl rfl rfl) rfl rfl ?_)
        refine reg_cons (guard_no rfl) (op_pick_t rfl rfl rfl rfl rfl rfl) ?_
        refine reg_nil ?_
        cases hF
        exact post_cut _ rfl (imp_sub [0, 1] rfl (by decide) rfl rfl ⟨by kernel_rfl, by kernel_rfl, by kernel_rfl, by kernel_rfl, trivial⟩ ⟨by kernel_rfl, by kernel_rfl, trivial⟩ rfl rfl rfl)
      · refine reg_cons (guard_on rfl rfl rfl rfl hb6) (op_move rfl rfl rfl rfl) ?_
        refine reg_cons (guard_on rfl rfl rfl rfl hb6) (op_int (k := .i64) (m := a2.fOwn.a0.fKind) (n := 6) rfl rfl rfl rfl rfl rfl) ?_
        refine reg_cons (guard_no rfl) (op_pick_f rfl rfl hb6 rfl rfl rfl) ?_
        refine reg_cons (guard_no rfl) (op_move rfl rfl rfl rfl) ?_
        rcases ite_some hF with ⟨hb7, hF⟩ | ⟨hb7, hF⟩
        · refine reg_off (guard_off rfl rfl rfl rfl hb7) rfl rfl ?_
          refine reg_off (guard_off rfl rfl rfl rfl hb7) rfl rfl ?_
          refine reg_cons (guard_no rfl) (op_pick_t rfl rfl hb7 rfl rfl rfl) ?_
          refine reg_cons (guard_no rfl) (op_move rfl rfl rfl rfl) ?_
          iterate 2 (refine reg_off (guard_off rfl rfl rfl rfl rfl) rfl rfl ?_)
          refine reg_cons (guard_no rfl) (op_pick_t rfl rfl rfl rfl rfl rfl) ?_
          refine reg_cons (guard_no rfl) (op_move rfl rfl rfl rfl) ?_
          iterate 2 (refine reg_off (guard_off rfl rfl rfl rfl rfl) rfl rfl ?_)
          refine reg_cons (guard_no rfl) (op_pick_t rfl rfl rfl rfl rfl rfl) ?_
          refine reg_nil ?_
          cases hF
          exact post_cut _ rfl (imp_sub [0, 1] rfl (by decide) rfl rfl ⟨by kernel_rfl, by kernel_rfl, by kernel_rfl, by kernel_rfl, trivial⟩ ⟨by kernel_rfl, by kernel_rfl, trivial⟩ rfl rfl rfl)
        · refine reg_cons (guard_on rfl rfl rfl rfl hb7) (op_move rfl rfl rfl rfl) ?_
          refine reg_cons (guard_on rfl rfl rfl rfl hb7) (op_int (k := .i64) (m := a2.fOwn.a0.fKind) (n := 5) rfl rfl rfl rfl rfl rfl) ?_
          refine reg_cons (guard_no rfl) (op_pick_f rfl rfl hb7 rfl rfl rfl) ?_
          refine reg_cons (guard_no rfl) (op_move rfl rfl rfl rfl) ?_
          rcases ite_some hF with ⟨hb8, hF⟩ | ⟨hb8, hF⟩
          · refine reg_off (guard_off rfl rfl rfl rfl hb8) rfl rfl ?_
            refine reg_off (guard_off rfl rfl rfl rfl hb8) rfl rfl ?_
            refine reg_cons (guard_no rfl) (op_pick_t rfl rfl hb8 rfl rfl rfl) ?_
            refine reg_cons (guard_no rfl) (op_move rfl rfl rfl rfl) ?_
            iterate 2 (refine reg_off (guard_off rfl rfl rfl rfl rfl) rfl rfl ?_)
            refine reg_cons (guard_no rfl) (op_pick_t rfl rfl rfl rfl rfl rfl) ?_
            refine reg_nil ?_
            cases hF
            exact post_cut _ rfl (imp_sub [0, 1] rfl (by decide) rfl rfl ⟨by kernel_rfl, by kernel_rfl, by kernel_rfl, by kernel_rfl, trivial⟩ ⟨by kernel_rfl, by kernel_rfl, trivial⟩ rfl rfl rfl)
          · refine reg_cons (guard_on rfl rfl rfl rfl hb8) (op_move rfl rfl rfl rfl) ?_
            refine reg_cons (guard_on rfl rfl rfl rfl hb8) (op_int (k := .i64) (m := a2.fOwn.a0.fKind) (n := 8) rfl rfl rfl rfl rfl rfl) ?_
            refine reg_cons (guard_no rfl) (op_pick_f rfl rfl hb8 rfl rfl rfl) ?_
            refine reg_cons (guard_no rfl) (op_move rfl rfl rfl rfl) ?_
            rcases ite_some hF with ⟨hb9, hF⟩ | ⟨hb9, hF⟩
            · refine reg_off (guard_off rfl rfl rfl rfl hb9) rfl rfl ?_
              refine reg_off (guard_off rfl rfl rfl rfl hb9) rfl rfl ?_
              refine reg_cons (guard_no rfl) (op_pick_t rfl rfl hb9 rfl rfl rfl) ?_
              refine reg_nil ?_
              cases hF
              exact post_cut _ rfl (imp_sub [0, 1] rfl (by decide) rfl rfl ⟨by kernel_rfl, by kernel_rfl, by kernel_rfl, by kernel_rfl, trivial⟩ ⟨by kernel_rfl, by kernel_rfl, trivial⟩ rfl rfl rfl)
            · refine reg_cons (guard_on rfl rfl rfl rfl hb9) (op_move rfl rfl rfl rfl) ?_
              refine reg_cons (guard_on rfl rfl rfl rfl hb9) (op_int (k := .i64) (m := a2.fOwn.a0.fKind) (n := 7) rfl rfl rfl rfl rfl rfl) ?_
              refine reg_cons (guard_no rfl) (op_pick_f rfl rfl hb9 rfl rfl rfl) ?_
              refine reg_nil ?_
              cases hF
              exact post_cut _ rfl (imp_sub [0, 1] rfl (by decide) rfl rfl ⟨by kernel_rfl, by kernel_rfl, by kernel_rfl, by kernel_rfl, trivial⟩ ⟨by kernel_rfl, by kernel_rfl, trivial⟩ rfl rfl rfl)
  · rintro _ rfl
    have hF := hK12
    clear hK12
    refine post_next ?_
    rcases ite_some hF with ⟨hb13, hF⟩ | ⟨hb13, hF⟩
    · refine aw_cond_t rfl hb13 ?_
      refine aw_seq ?_
      refine aw_region ?_
      refine reg_cons (guard_no rfl) (op_assign rfl rfl rfl rfl) ?_
      refine reg_nil ?_
      refine post_imp (s' := ⟨45, [(6, some (.pv (.bool false)))], [], 0, [], [], 0, []⟩) (imp_sub [] rfl (by decide) rfl rfl ⟨by kernel_rfl, trivial⟩ trivial rfl rfl rfl) ?_
      refine post_next ?_
      refine aw_ret ?_
      refine post_then_ret ?_
      obtain rfl := Option.some.inj hF
      exact post_ret rfl rfl (.cons _ _ _ _ _ (.tmp _ _ rfl) (.p _) .nil) (.inl rfl)
    · refine aw_cond_f rfl hb13 ?_
      refine aw_skip ?_
      refine post_next ?_
      refine aw_seq ?_
      refine aw_region ?_
      refine reg_cons (guard_no rfl) (op_field_lp rfl rfl Try_fld_27_3 rfl rfl) ?_
      refine reg_cons (guard_no rfl) (op_arr_lp (k := .i64) (m := 0) (n := 4) rfl rfl rfl Try_arr_25 rfl rfl rfl rfl) ?_
      refine reg_cons (guard_no rfl) (op_load_lp_agg (ps := eGOwner a2.fOwn.a0) rfl rfl rfl rfl rfl rfl Try_agg_24 rfl rfl) ?_
      refine reg_cons (guard_no rfl) (op_field_lp rfl rfl Try_fld_27_3 rfl rfl) ?_
      refine reg_cons (guard_no rfl) (op_arr_lp (k := .i64) (m := 0) (n := 4) rfl rfl rfl Try_arr_25 rfl rfl rfl rfl) ?_
      refine reg_cons (guard_no rfl) (op_store_lp (n := 2) rfl rfl rfl rfl rfl (or_agg Try_agg_24) (by rw [Try_non_24]; rfl) rfl rfl rfl) ?_
      refine reg_nil ?_
      refine post_imp (s' := ⟨45, [(0, some (.pv (.vs 7 (List.map eGClass a0)))), (4, some (.lp 0 0)), (5, some (.lp 1 0))], [(0, some (.box 27 (bxv (eGType ({ a1 with fOwn := ({ a1.fOwn with a0 := a2.fOwn.a0 } : A4 GOwner) } : GType))))), (1, some (.box 27 (bxv (eGType a2))))], 2, [], [], 0, []⟩) (imp_sub [0, 1] rfl (by decide) rfl rfl ⟨by kernel_rfl, by kernel_rfl, by kernel_rfl, trivial⟩ ⟨by kernel_rfl, by kernel_rfl, trivial⟩ rfl rfl rfl) ?_
      refine post_next ?_
      refine aw_seq ?_
      refine aw_region ?_
      refine reg_cons (guard_no rfl) (op_move rfl rfl rfl rfl) ?_
      refine reg_cons (guard_no rfl) (op_load_lp_agg (ps := eGType ({ a1 with fOwn := ({ a1.fOwn with a0 := a2.fOwn.a0 } : A4 GOwner) } : GType)) rfl rfl rfl rfl rfl rfl Try_agg_27 rfl rfl) ?_
      refine reg_cons (guard_no rfl) (op_load_lp_agg (ps := eGType a2) rfl rfl rfl rfl rfl rfl Try_agg_27 rfl rfl) ?_
      obtain ⟨y14, h15, hF⟩ := bind_some hF
      refine reg_cons (guard_no rfl) (op_call 2 rfl (caps := []) (args := [.vs 7 (List.map eGClass a0), .agg (eGType ({ a1 with fOwn := ({ a1.fOwn with a0 := a2.fOwn.a0 } : A4 GOwner) } : GType)), .agg (eGType a2)]) (rs := [.p (.bool y14)]) rfl rfl rfl Try_cal_24 (ref27_Is_ok h15) rfl rfl rfl) ?_
      refine reg_cons (guard_no rfl) (op_assign rfl rfl rfl rfl) ?_
      refine reg_nil ?_
      refine post_imp (s' := ⟨45, [(6, some (.pv (.bool y14)))], [], 0, [], [], 0, []⟩) (imp_sub [] rfl (by decide) rfl rfl ⟨by kernel_rfl, trivial⟩ trivial rfl rfl rfl) ?_
      refine post_next ?_
      refine aw_ret ?_
      obtain rfl := Option.some.inj hF
      exact post_ret rfl rfl (.cons _ _ _ _ _ (.tmp _ _ rfl) (.p _) .nil) (.inl rfl)
theorem under_Same_ok {a0 : GType} {a1 : GType} {r : Bool} (hF : under_Same a0 a1 = some r) : Abs.Fn Try.prog 27 [.agg (eGType a0), .agg (eGType a1)] [.p (.bool r)] := by
  unfold under_Same at hF
  refine fn_of_body (n := 30) Try.func27 rfl rfl rfl ?_
  intro w O
  refine aw_seq ?_
  refine aw_region ?_
  refine reg_cons (guard_no rfl) (op_box 0 rfl rfl rfl rfl rfl rfl) ?_
  refine reg_cons (guard_no rfl) (op_box 1 rfl rfl rfl rfl rfl rfl) ?_
  refine reg_cons (guard_no rfl) (op_assign rfl rfl rfl rfl) ?_
  refine reg_nil ?_
  refine post_imp (s' := ⟨30, [(2, some (.lp 0 0)), (3, some (.lp 1 0))], [(0, some (.box 27 (bxv (eGType a0)))), (1, some (.box 27 (bxv (eGType a1))))], 2, [], [], 0, []⟩) (imp_sub [0, 1] rfl (by decide) rfl rfl ⟨by kernel_rfl, by kernel_rfl, trivial⟩ ⟨by kernel_rfl, by kernel_rfl, trivial⟩ rfl rfl rfl) ?_
  refine post_next ?_
  iterate 2 (refine aw_seq ?_)
  refine aw_region ?_
  refine reg_cons (guard_no rfl) (op_field_lp rfl rfl Try_fld_27_0 rfl rfl) ?_
  refine reg_cons (guard_no rfl) (op_load_lp (v := .pv (.int .i64 a0.fKind)) rfl rfl rfl rfl Try_one_3 rfl rfl) ?_
  refine reg_cons (guard_no rfl) (op_field_lp rfl rfl Try_fld_27_0 rfl rfl) ?_
  refine reg_cons (guard_no rfl) (op_load_lp (v := .pv (.int .i64 a1.fKind)) rfl rfl rfl rfl Try_one_3 rfl rfl) ?_
  refine reg_cons (guard_no rfl) (op_int (k := .i64) (m := a0.fKind) (n := a1.fKind) rfl rfl rfl rfl rfl rfl) ?_
  refine reg_nil ?_
  refine post_imp (s' := ⟨30, [(2, some (.lp 0 0)), (3, some (.lp 1 0)), (9, some (.pv (.bool (a0.fKind != a1.fKind))))], [(0, some (.box 27 (bxv (eGType a0)))), (1, some (.box 27 (bxv (eGType a1))))], 2, [], [], 0, []⟩) (imp_sub [0, 1] rfl (by decide) rfl rfl ⟨by kernel_rfl, by kernel_rfl, by kernel_rfl, trivial⟩ ⟨by kernel_rfl, by kernel_rfl, trivial⟩ rfl rfl rfl) ?_
  refine post_next ?_
  rcases ite_some hF with ⟨hb1, hF⟩ | ⟨hb1, hF⟩
  · refine aw_cond_t rfl hb1 ?_
    refine aw_seq ?_
    refine aw_region ?_
    refine reg_cons (guard_no rfl) (op_assign rfl rfl rfl rfl) ?_
    refine reg_nil ?_
    refine post_imp (s' := ⟨30, [(4, some (.pv (.bool false)))], [], 0, [], [], 0, []⟩) (imp_sub [] rfl (by decide) rfl rfl ⟨by kernel_rfl, trivial⟩ trivial rfl rfl rfl) ?_
    refine post_next ?_
    refine aw_ret ?_
    refine post_then_ret ?_
    obtain rfl := Option.some.inj hF
    exact post_ret rfl rfl (.cons _ _ _ _ _ (.tmp _ _ rfl) (.p _) .nil) (.inl rfl)
  · refine aw_cond_f rfl hb1 ?_
    refine aw_skip ?_
    refine post_next ?_
    iterate 2 (refine aw_seq ?_)
    refine aw_region ?_
    refine reg_cons (guard_no rfl) (op_field_lp rfl rfl Try_fld_27_0 rfl rfl) ?_
    refine reg_cons (guard_no rfl) (op_load_lp (v := .pv (.int .i64 a0.fKind)) rfl rfl rfl rfl Try_one_3 rfl rfl) ?_
    refine reg_cons (guard_no rfl) (op_int (k := .i64) (m := a0.fKind) (n := 2) rfl rfl rfl rfl rfl rfl) ?_
    refine reg_nil ?_
    refine post_imp (s' := ⟨30, [(2, some (.lp 0 0)), (3, some (.lp 1 0)), (12, some (.pv (.bool (a0.fKind != 2))))], [(0, some (.box 27 (bxv (eGType a0)))), (1, some (.box 27 (bxv (eGType a1))))], 2, [], [], 0, []⟩) (imp_sub [0, 1] rfl (by decide) rfl rfl ⟨by kernel_rfl, by kernel_rfl, by kernel_rfl, trivial⟩ ⟨by kernel_rfl, by kernel_rfl, trivial⟩ rfl rfl rfl) ?_
    refine post_next ?_
    rcases ite_some hF with ⟨hb2, hF⟩ | ⟨hb2, hF⟩
    · refine aw_cond_t rfl hb2 ?_
      refine aw_seq ?_
      refine aw_region ?_
      refine reg_cons (guard_no rfl) (op_assign rfl rfl rfl rfl) ?_
      refine reg_nil ?_
      refine post_imp (s' := ⟨30, [(4, some (.pv (.bool true)))], [], 0, [], [], 0, []⟩) (imp_sub [] rfl (by decide) rfl rfl ⟨by kernel_rfl, trivial⟩ trivial rfl rfl rfl) ?_
      refine post_next ?_
      refine aw_ret ?_
      refine post_then_ret ?_
      obtain rfl := Option.some.inj hF
      exact post_ret rfl rfl (.cons _ _ _ _ _ (.tmp _ _ rfl) (.p _) .nil) (.inl rfl)
    · refine aw_cond_f rfl hb2 ?_
      refine aw_skip ?_
      refine post_next ?_
      refine aw_seq ?_
      refine dr_start ⟨_, _, _⟩ rfl ?_
      refine dr_cons { need := [(2, .lp 0 0)], dst := some 13, val := some (.lp 0 1) } (fun m h => step_on (guard_no rfl) (op_field_lp rfl h.1.1 Try_fld_27_1 rfl rfl) rfl) ⟨⟨rfl, trivial⟩, trivial, trivial⟩ ?_
      refine dr_cons { need := [(13, .lp 0 1)], hneed := [(0, .box 27 (bxv (eGType a0)))], dst := some 14, val := some (.pv (.str a0.fClass)) } (fun m h => step_on (guard_no rfl) (op_load_lp (v := .pv (.str a0.fClass)) rfl h.1.1 h.2.1.1 rfl Try_one_9 rfl rfl) rfl) ⟨⟨rfl, trivial⟩, ⟨rfl, trivial⟩, trivial⟩ ?_
      refine dr_cons { need := [(3, .lp 1 0)], dst := some 15, val := some (.lp 1 1) } (fun m h => step_on (guard_no rfl) (op_field_lp rfl h.1.1 Try_fld_27_1 rfl rfl) rfl) ⟨⟨rfl, trivial⟩, trivial, trivial⟩ ?_
      refine dr_cons { need := [(15, .lp 1 1)], hneed := [(1, .box 27 (bxv (eGType a1)))], dst := some 16, val := some (.pv (.str a1.fClass)) } (fun m h => step_on (guard_no rfl) (op_load_lp (v := .pv (.str a1.fClass)) rfl h.1.1 h.2.1.1 rfl Try_one_9 rfl rfl) rfl) ⟨⟨rfl, trivial⟩, ⟨rfl, trivial⟩, trivial⟩ ?_
      refine dr_cons { need := [(14, .pv (.str a0.fClass)), (16, .pv (.str a1.fClass))], dst := some 17, val := some (.pv (.bool (a0.fClass == a1.fClass))) } (fun m h => step_on (guard_no rfl) (op_str rfl h.1.1 h.1.2.1 rfl rfl rfl) rfl) ⟨⟨rfl, rfl, trivial⟩, trivial, trivial⟩ ?_
      refine dr_cons { need := [(17, .pv (.bool (a0.fClass == a1.fClass)))], dst := some 18, val := some (.pv (.bool (a0.fClass == a1.fClass))) } (fun m h => step_on (guard_no rfl) (op_move rfl h.1.1 rfl rfl) rfl) ⟨⟨rfl, trivial⟩, trivial, trivial⟩ ?_
      rcases ite_some hF with ⟨hb3, hF⟩ | ⟨hb3, hF⟩
      · refine dr_cons { need := [(18, .pv (.bool (a0.fClass == a1.fClass))), (2, .lp 0 0)], hneed := [(0, .box 27 (bxv (eGType a0)))], dst := some 19, val := some (.pv (.agg (eGType a0))) } (fun m h => step_on (guard_on rfl rfl rfl h.1.1 hb3) (op_load_lp_agg (ps := eGType a0) rfl h.1.2.1 h.2.1.1 rfl rfl rfl Try_agg_27 rfl rfl) rfl) ⟨⟨rfl, rfl, trivial⟩, ⟨rfl, trivial⟩, trivial⟩ ?_
        obtain ⟨y4, h5, hF⟩ := bind_some hF
        refine dr_cons { need := [(18, .pv (.bool (a0.fClass == a1.fClass))), (19, .pv (.agg (eGType a0)))], dst := some 20, val := some (.pv (.bool y4)) } (fun m h => step_on (guard_on rfl rfl rfl h.1.1 hb3) (op_call 2 rfl (caps := []) (args := [.agg (eGType a0)]) (rs := [.p (.bool y4)]) rfl rfl (evl_cons h.1.2.1 evl_nil) Try_cal_35 (under_dim_ok h5) rfl rfl rfl) rfl) ⟨⟨rfl, rfl, trivial⟩, trivial, trivial⟩ ?_
        refine dr_cons { need := [(18, .pv (.bool (a0.fClass == a1.fClass))), (20, .pv (.bool y4))], dst := some 21, val := some (.pv (.bool (!y4))) } (fun m h => step_on (guard_on rfl rfl rfl h.1.1 hb3) (op_not rfl h.1.2.1 rfl rfl) rfl) ⟨⟨rfl, rfl, trivial⟩, trivial, trivial⟩ ?_
        refine dr_cons { need := [(18, .pv (.bool (a0.fClass == a1.fClass))), (21, .pv (.bool (!y4)))], dst := some 22, val := some (.pv (.bool (!y4))) } (fun m h => step_on (guard_no rfl) (op_pick_t rfl h.1.1 hb3 h.1.2.1 rfl rfl) rfl) ⟨⟨rfl, rfl, trivial⟩, trivial, trivial⟩ ?_
        refine dr_cons { need := [(22, .pv (.bool (!y4)))], dst := some 23, val := some (.pv (.bool (!y4))) } (fun m h => step_on (guard_no rfl) (op_move rfl h.1.1 rfl rfl) rfl) ⟨⟨rfl, trivial⟩, trivial, trivial⟩ ?_
        rcases ite_some hF with ⟨hb6, hF⟩ | ⟨hb6, hF⟩
        · refine dr_cons { need := [(23, .pv (.bool (!y4))), (2, .lp 0 0)], hneed := [(0, .box 27 (bxv (eGType a0)))], dst := some 24, val := some (.pv (.agg (eGType a0))) } (fun m h => step_on (guard_on rfl rfl rfl h.1.1 hb6) (op_load_lp_agg (ps := eGType a0) rfl h.1.2.1 h.2.1.1 rfl rfl rfl Try_agg_27 rfl rfl) rfl) ⟨⟨rfl, rfl, trivial⟩, ⟨rfl, trivial⟩, trivial⟩ ?_
          obtain ⟨y7, h8, hF⟩ := bind_some hF
          refine dr_cons { need := [(23, .pv (.bool (!y4))), (24, .pv (.agg (eGType a0)))], dst := some 25, val := some (.pv (.vs 2 (List.map eGOwner y7))) } (fun m h => step_on (guard_on rfl rfl rfl h.1.1 hb6) (op_call 2 rfl (caps := []) (args := [.agg (eGType a0)]) (rs := [.p (.vs 2 (List.map eGOwner y7))]) rfl rfl (evl_cons h.1.2.1 evl_nil) Try_cal_38 (kind_Owners_ok h8) rfl rfl rfl) rfl) ⟨⟨rfl, rfl, trivial⟩, trivial, trivial⟩ ?_
          refine dr_cons { need := [(23, .pv (.bool (!y4))), (3, .lp 1 0)], hneed := [(1, .box 27 (bxv (eGType a1)))], dst := some 26, val := some (.pv (.agg (eGType a1))) } (fun m h => step_on (guard_on rfl rfl rfl h.1.1 hb6) (op_load_lp_agg (ps := eGType a1) rfl h.1.2.1 h.2.1.1 rfl rfl rfl Try_agg_27 rfl rfl) rfl) ⟨⟨rfl, rfl, trivial⟩, ⟨rfl, trivial⟩, trivial⟩ ?_
          obtain ⟨y9, h10, hF⟩ := bind_some hF
          refine dr_cons { need := [(23, .pv (.bool (!y4))), (26, .pv (.agg (eGType a1)))], dst := some 27, val := some (.pv (.vs 2 (List.map eGOwner y9))) } (fun m h => step_on (guard_on rfl rfl rfl h.1.1 hb6) (op_call 2 rfl (caps := []) (args := [.agg (eGType a1)]) (rs := [.p (.vs 2 (List.map eGOwner y9))]) rfl rfl (evl_cons h.1.2.1 evl_nil) Try_cal_38 (kind_Owners_ok h10) rfl rfl rfl) rfl) ⟨⟨rfl, rfl, trivial⟩, trivial, trivial⟩ ?_
          obtain ⟨y11, h12, hF⟩ := bind_some hF
          refine dr_cons { need := [(23, .pv (.bool (!y4))), (27, .pv (.vs 2 (List.map eGOwner y9))), (25, .pv (.vs 2 (List.map eGOwner y7)))], dst := some 28, val := some (.pv (.bool y11)) } (fun m h => step_on (guard_on rfl rfl rfl h.1.1 hb6) (op_call 2 rfl (caps := []) (args := [.vs 2 (List.map eGOwner y7), .vs 2 (List.map eGOwner y9)]) (rs := [.p (.bool y11)]) rfl rfl (evl_cons h.1.2.2.1 (evl_cons h.1.2.1 evl_nil)) Try_cal_40 (slices_Equal_api_Owner_ok h12) rfl rfl rfl) rfl) ⟨⟨rfl, rfl, rfl, trivial⟩, trivial, trivial⟩ ?_
          refine dr_cons { need := [(23, .pv (.bool (!y4))), (28, .pv (.bool y11))], dst := some 29, val := some (.pv (.bool y11)) } (fun m h => step_on (guard_no rfl) (op_pick_t rfl h.1.1 hb6 h.1.2.1 rfl rfl) rfl) ⟨⟨rfl, rfl, trivial⟩, trivial, trivial⟩ ?_
          refine dr_cons { need := [(29, .pv (.bool y11))], dst := some 4, val := some (.pv (.bool y11)) } (fun m h => step_on (guard_no rfl) (op_assign rfl h.1.1 rfl rfl) rfl) ⟨⟨rfl, trivial⟩, trivial, trivial⟩ ?_
          refine dr_nil Try_mixed rfl (by kernel_rfl) ?_
          refine post_imp (s' := ⟨30, [(4, some (.pv (.bool y11)))], [], 0, [], [], 0, []⟩) (imp_sub [] rfl (by decide) rfl rfl ⟨by kernel_rfl, trivial⟩ trivial rfl rfl rfl) ?_
          refine post_next ?_
          refine aw_ret ?_
          obtain rfl := Option.some.inj hF
          exact post_ret rfl rfl (.cons _ _ _ _ _ (.tmp _ _ rfl) (.p _) .nil) (.inl rfl)
        · refine dr_cons { need := [(23, .pv (.bool (!y4)))], dst := some 24, val := some (.tup []) } (fun m h => step_off (guard_off rfl rfl rfl h.1.1 hb6) rfl rfl) ⟨⟨rfl, trivial⟩, trivial, trivial⟩ ?_
          refine dr_cons { need := [(23, .pv (.bool (!y4)))], dst := some 25, val := some (.tup []) } (fun m h => step_off (guard_off rfl rfl rfl h.1.1 hb6) rfl rfl) ⟨⟨rfl, trivial⟩, trivial, trivial⟩ ?_
          refine dr_cons { need := [(23, .pv (.bool (!y4)))], dst := some 26, val := some (.tup []) } (fun m h => step_off (guard_off rfl rfl rfl h.1.1 hb6) rfl rfl) ⟨⟨rfl, trivial⟩, trivial, trivial⟩ ?_
          refine dr_cons { need := [(23, .pv (.bool (!y4)))], dst := some 27, val := some (.tup []) } (fun m h => step_off (guard_off rfl rfl rfl h.1.1 hb6) rfl rfl) ⟨⟨rfl, trivial⟩, trivial, trivial⟩ ?_
          refine dr_cons { need := [(23, .pv (.bool (!y4)))], dst := some 28, val := some (.tup []) } (fun m h => step_off (guard_off rfl rfl rfl h.1.1 hb6) rfl rfl) ⟨⟨rfl, trivial⟩, trivial, trivial⟩ ?_
          refine dr_cons { need := [(23, .pv (.bool (!y4)))], dst := some 29, val := some (.pv (.bool false)) } (fun m h => step_on (guard_no rfl) (op_pick_f rfl h.1.1 hb6 rfl rfl rfl) rfl) ⟨⟨rfl, trivial⟩, trivial, trivial⟩ ?_
          refine dr_cons { need := [(29, .pv (.bool false))], dst := some 4, val := some (.pv (.bool false)) } (fun m h => step_on (guard_no rfl) (op_assign rfl h.1.1 rfl rfl) rfl) ⟨⟨rfl, trivial⟩, trivial, trivial⟩ ?_
          refine dr_nil Try_mixed rfl (by kernel_rfl) ?_
          refine post_imp (s' := ⟨30, [(4, some (.pv (.bool false)))], [], 0, [], [], 0, []⟩) (imp_sub [] rfl (by decide) rfl rfl ⟨by kernel_rfl, trivial⟩ trivial rfl rfl rfl) ?_
          refine post_next ?_
          refine aw_ret ?_
          obtain rfl := Option.some.inj hF
          exact post_ret rfl rfl (.cons _ _ _ _ _ (.tmp _ _ rfl) (.p _) .nil) (.inl rfl)
      · refine dr_cons { need := [(18, .pv (.bool (a0.fClass == a1.fClass)))], dst := some 19, val := some (.tup []) } (fun m h => step_off (guard_off rfl rfl rfl h.1.1 hb3) rfl rfl) ⟨⟨rfl, trivial⟩, trivial, trivial⟩ ?_
        refine dr_cons { need := [(18, .pv (.bool (a0.fClass == a1.fClass)))], dst := some 20, val := some (.tup []) } (fun m h => step_off (guard_off rfl rfl rfl h.1.1 hb3) rfl rfl) ⟨⟨rfl, trivial⟩, trivial, trivial⟩ ?_
        refine dr_cons { need := [(18, .pv (.bool (a0.fClass == a1.fClass)))], dst := some 21, val := some (.tup []) } (fun m h => step_off (guard_off rfl rfl rfl h.1.1 hb3) rfl rfl) ⟨⟨rfl, trivial⟩, trivial, trivial⟩ ?_
        refine dr_cons { need := [(18, .pv (.bool (a0.fClass == a1.fClass)))], dst := some 22, val := some (.pv (.bool false)) } (fun m h => step_on (guard_no rfl) (op_pick_f rfl h.1.1 hb3 rfl rfl rfl) rfl) ⟨⟨rfl, trivial⟩, trivial, trivial⟩ ?_
        refine dr_cons { need := [(22, .pv (.bool false))], dst := some 23, val := some (.pv (.bool false)) } (fun m h => step_on (guard_no rfl) (op_move rfl h.1.1 rfl rfl) rfl) ⟨⟨rfl, trivial⟩, trivial, trivial⟩ ?_
        refine dr_cons { need := [(23, .pv (.bool false))], dst := some 24, val := some (.tup []) } (fun m h => step_off (guard_off rfl rfl rfl h.1.1 rfl) rfl rfl) ⟨⟨rfl, trivial⟩, trivial, trivial⟩ ?_
        refine dr_cons { need := [(23, .pv (.bool false))], dst := some 25, val := some (.tup []) } (fun m h => step_off (guard_off rfl rfl rfl h.1.1 rfl) rfl rfl) ⟨⟨rfl, trivial⟩, trivial, trivial⟩ ?_
        refine dr_cons { need := [(23, .pv (.bool false))], dst := some 26, val := some (.tup []) } (fun m h => step_off (guard_off rfl rfl rfl h.1.1 rfl) rfl rfl) ⟨⟨rfl, trivial⟩, trivial, trivial⟩ ?_
        refine dr_cons { need := [(23, .pv (.bool false))], dst := some 27, val := some (.tup []) } (fun m h => step_off (guard_off rfl rfl rfl h.1.1 rfl) rfl rfl) ⟨⟨rfl, trivial⟩, trivial, trivial⟩ ?_
        refine dr_cons { need := [(23, .pv (.bool false))], dst := some 28, val := some (.tup []) } (fun m h => step_off (guard_off rfl rfl rfl h.1.1 rfl) rfl rfl) ⟨⟨rfl, trivial⟩, trivial, trivial⟩ ?_
        refine dr_cons { need := [(23, .pv (.bool false))], dst := some 29, val := some (.pv (.bool false)) } (fun m h => step_on (guard_no rfl) (op_pick_f rfl h.1.1 rfl rfl rfl rfl) rfl) ⟨⟨rfl, trivial⟩, trivial, trivial⟩ ?_
        refine dr_cons { need := [(29, .pv (.bool false))], dst := some 4, val := some (.pv (.bool false)) } (fun m h => step_on (guard_no rfl) (op_assign rfl h.1.1 rfl rfl) rfl) ⟨⟨rfl, trivial⟩, trivial, trivial⟩ ?_
        refine dr_nil Try_mixed rfl (by kernel_rfl) ?_
        refine post_imp (s' := ⟨30, [(4, some (.pv (.bool false)))], [], 0, [], [], 0, []⟩) (imp_sub [] rfl (by decide) rfl rfl ⟨by kernel_rfl, trivial⟩ trivial rfl rfl rfl) ?_
        refine post_next ?_
        refine aw_ret ?_
        obtain rfl := Option.some.inj hF
        exact post_ret rfl rfl (.cons _ _ _ _ _ (.tmp _ _ rfl) (.p _) .nil) (.inl rfl)
theorem ref27_Same_ok {a0 : GType} {a1 : GType} {r : Bool} (hF : ref27_Same a0 a1 = some r) : Abs.Fn Try.prog 28 [.agg (eGType a0), .agg (eGType a1)] [.p (.bool r)] := by
  unfold ref27_Same at hF
  refine fn_of_body (n := 55) Try.func28 rfl rfl rfl ?_
  intro w O
  refine aw_seq ?_
  refine aw_region ?_
  refine reg_cons (guard_no rfl) (op_box 0 rfl rfl rfl rfl rfl rfl) ?_
  refine reg_cons (guard_no rfl) (op_box 1 rfl rfl rfl rfl rfl rfl) ?_
  refine reg_cons (guard_no rfl) (op_assign rfl rfl rfl rfl) ?_
  refine reg_nil ?_
  refine post_imp (s' := ⟨55, [(2, some (.lp 0 0)), (3, some (.lp 1 0))], [(0, some (.box 27 (bxv (eGType a0)))), (1, some (.box 27 (bxv (eGType a1))))], 2, [], [], 0, []⟩) (imp_sub [0, 1] rfl (by decide) rfl rfl ⟨by kernel_rfl, by kernel_rfl, trivial⟩ ⟨by kernel_rfl, by kernel_rfl, trivial⟩ rfl rfl rfl) ?_
  refine post_next ?_
  refine aw_seq ?_
  refine dr_start ⟨_, _, _⟩ rfl ?_
  refine dr_cons { need := [(2, .lp 0 0)], hneed := [(0, .box 27 (bxv (eGType a0)))], dst := some 8, val := some (.pv (.agg (eGType a0))) } (fun m h => step_on (guard_no rfl) (op_load_lp_agg (ps := eGType a0) rfl h.1.1 h.2.1.1 rfl rfl rfl Try_agg_27 rfl rfl) rfl) ⟨⟨rfl, trivial⟩, ⟨rfl, trivial⟩, trivial⟩ ?_
  obtain ⟨y5, h6, hF⟩ := bind_some hF
  refine dr_cons { need := [(8, .pv (.agg (eGType a0)))], dst := some 9, val := some (.pv (.vs 2 (List.map eGOwner y5))) } (fun m h => step_on (guard_no rfl) (op_call 2 rfl (caps := []) (args := [.agg (eGType a0)]) (rs := [.p (.vs 2 (List.map eGOwner y5))]) rfl rfl (evl_cons h.1.1 evl_nil) Try_cal_22 (Fn.frozen (ref05_Owners_ok h6)) rfl rfl rfl) rfl) ⟨⟨rfl, trivial⟩, trivial, trivial⟩ ?_
  refine dr_cons { need := [(3, .lp 1 0)], hneed := [(1, .box 27 (bxv (eGType a1)))], dst := some 10, val := some (.pv (.agg (eGType a1))) } (fun m h => step_on (guard_no rfl) (op_load_lp_agg (ps := eGType a1) rfl h.1.1 h.2.1.1 rfl rfl rfl Try_agg_27 rfl rfl) rfl) ⟨⟨rfl, trivial⟩, ⟨rfl, trivial⟩, trivial⟩ ?_
  obtain ⟨y7, h8, hF⟩ := bind_some hF
  refine dr_cons { need := [(10, .pv (.agg (eGType a1)))], dst := some 11, val := some (.pv (.vs 2 (List.map eGOwner y7))) } (fun m h => step_on (guard_no rfl) (op_call 2 rfl (caps := []) (args := [.agg (eGType a1)]) (rs := [.p (.vs 2 (List.map eGOwner y7))]) rfl rfl (evl_cons h.1.1 evl_nil) Try_cal_22 (Fn.frozen (ref05_Owners_ok h8)) rfl rfl rfl) rfl) ⟨⟨rfl, trivial⟩, trivial, trivial⟩ ?_
  refine dr_cons { need := [(9, .pv (.vs 2 (List.map eGOwner y5)))], dst := some 5, val := some (.pv (.vs 2 (List.map eGOwner y5))) } (fun m h => step_on (guard_no rfl) (op_assign rfl h.1.1 rfl rfl) rfl) ⟨⟨rfl, trivial⟩, trivial, trivial⟩ ?_
  refine dr_cons { need := [(11, .pv (.vs 2 (List.map eGOwner y7)))], dst := some 6, val := some (.pv (.vs 2 (List.map eGOwner y7))) } (fun m h => step_on (guard_no rfl) (op_assign rfl h.1.1 rfl rfl) rfl) ⟨⟨rfl, trivial⟩, trivial, trivial⟩ ?_
  refine dr_nil Try_mixed rfl (by kernel_rfl) ?_
  refine post_imp (s' := ⟨55, [(2, some (.lp 0 0)), (3, some (.lp 1 0)), (5, some (.pv (.vs 2 (List.map eGOwner y5)))), (6, some (.pv (.vs 2 (List.map eGOwner y7))))], [(0, some (.box 27 (bxv (eGType a0)))), (1, some (.box 27 (bxv (eGType a1))))], 2, [], [], 0, []⟩) (imp_sub [0, 1] rfl (by decide) rfl rfl ⟨by kernel_rfl, by kernel_rfl, by kernel_rfl, by kernel_rfl, trivial⟩ ⟨by kernel_rfl, by kernel_rfl, trivial⟩ rfl rfl rfl) ?_
  refine post_next ?_
  iterate 2 (refine aw_seq ?_)
  obtain ⟨x18, hF, hK20⟩ := bind_some hF
  refine aw_cut (fun s1 => s1 = ⟨55, [(5, some (.pv (.vs 2 (List.map eGOwner y5)))), (6, some (.pv (.vs 2 (List.map eGOwner y7)))), (39, some (.pv (.bool x18)))], [], 0, [], [], 0, []⟩) ?_ ?_
  · refine aw_region ?_
    refine reg_cons (guard_no rfl) (op_field_lp rfl rfl Try_fld_27_0 rfl rfl) ?_
    refine reg_cons (guard_no rfl) (op_load_lp (v := .pv (.int .i64 a0.fKind)) rfl rfl rfl rfl Try_one_3 rfl rfl) ?_
    refine reg_cons (guard_no rfl) (op_field_lp rfl rfl Try_fld_27_0 rfl rfl) ?_
    refine reg_cons (guard_no rfl) (op_load_lp (v := .pv (.int .i64 a1.fKind)) rfl rfl rfl rfl Try_one_3 rfl rfl) ?_
    refine reg_cons (guard_no rfl) (op_int (k := .i64) (m := a0.fKind) (n := a1.fKind) rfl rfl rfl rfl rfl rfl) ?_
    refine reg_cons (guard_no rfl) (op_move rfl rfl rfl rfl) ?_
    rcases ite_some hF with ⟨hb9, hF⟩ | ⟨hb9, hF⟩
    · refine reg_off (guard_off rfl rfl rfl rfl hb9) rfl rfl ?_
      iterate 3 (refine reg_off (guard_off rfl rfl rfl rfl hb9) rfl rfl ?_)
      iterate 5 (refine reg_off (guard_undef rfl rfl rfl rfl) rfl rfl ?_)
      refine reg_off (guard_off rfl rfl rfl rfl hb9) rfl rfl ?_
      refine reg_cons (guard_no rfl) (op_pick_t rfl rfl hb9 rfl rfl rfl) ?_
      refine reg_cons (guard_no rfl) (op_move rfl rfl rfl rfl) ?_
      iterate 5 (refine reg_off (guard_off rfl rfl rfl rfl rfl) rfl rfl ?_)
      refine reg_cons (guard_no rfl) (op_pick_t rfl rfl rfl rfl rfl rfl) ?_
      refine reg_cons (guard_no rfl) (op_move rfl rfl rfl rfl) ?_
      iterate 2 (refine reg_off (guard_off rfl rfl rfl rfl rfl) rfl rfl ?_)
      refine reg_cons (guard_no rfl) (op_pick_t rfl rfl rfl rfl rfl rfl) ?_
      refine reg_nil ?_
      cases hF
      exact post_cut _ rfl (imp_sub [] rfl (by decide) rfl rfl ⟨by kernel_rfl, by kernel_rfl, by kernel_rfl, trivial⟩ trivial rfl rfl rfl)
    · refine reg_cons (guard_on rfl rfl rfl rfl hb9) (op_field_lp rfl rfl Try_fld_27_0 rfl rfl) ?_
      refine reg_cons (guard_on rfl rfl rfl rfl hb9) (op_load_lp (v := .pv (.int .i64 a0.fKind)) rfl rfl rfl rfl Try_one_3 rfl rfl) ?_
      refine reg_cons (guard_on rfl rfl rfl rfl hb9) (op_int (k := .i64) (m := a0.fKind) (n := 2) rfl rfl rfl rfl rfl rfl) ?_
      refine reg_cons (guard_on rfl rfl rfl rfl hb9) (op_move rfl rfl rfl rfl) ?_
      rcases ite_some hF with ⟨hb10, hF⟩ | ⟨hb10, hF⟩
      · refine reg_cons (guard_on rfl rfl rfl rfl hb10) (op_field_lp rfl rfl Try_fld_27_1 rfl rfl) ?_
        refine reg_cons (guard_on rfl rfl rfl rfl hb10) (op_load_lp (v := .pv (.str a0.fClass)) rfl rfl rfl rfl Try_one_9 rfl rfl) ?_
        refine reg_cons (guard_on rfl rfl rfl rfl hb10) (op_field_lp rfl rfl Try_fld_27_1 rfl rfl) ?_
        refine reg_cons (guard_on rfl rfl rfl rfl hb10) (op_load_lp (v := .pv (.str a1.fClass)) rfl rfl rfl rfl Try_one_9 rfl rfl) ?_
        refine reg_cons (guard_on rfl rfl rfl rfl hb10) (op_str rfl rfl rfl rfl rfl rfl) ?_
        refine reg_cons (guard_on rfl rfl rfl rfl hb9) (op_pick_t rfl rfl hb10 rfl rfl rfl) ?_
        refine reg_cons (guard_no rfl) (op_pick_f rfl rfl hb9 rfl rfl rfl) ?_
        refine reg_cons (guard_no rfl) (op_move rfl rfl rfl rfl) ?_
        rcases ite_some hF with ⟨hb11, hF⟩ | ⟨hb11, hF⟩
        · refine reg_off (guard_off rfl rfl rfl rfl hb11) rfl rfl ?_
          iterate 4 (refine reg_off (guard_off rfl rfl rfl rfl hb11) rfl rfl ?_)
          refine reg_cons (guard_no rfl) (op_pick_t rfl rfl hb11 rfl rfl rfl) ?_
          refine reg_cons (guard_no rfl) (op_move rfl rfl rfl rfl) ?_
          iterate 2 (refine reg_off (guard_off rfl rfl rfl rfl rfl) rfl rfl ?_)
          refine reg_cons (guard_no rfl) (op_pick_t rfl rfl rfl rfl rfl rfl) ?_
          refine reg_nil ?_
          cases hF
          exact post_cut _ rfl (imp_sub [] rfl (by decide) rfl rfl ⟨by kernel_rfl, by kernel_rfl, by kernel_rfl, trivial⟩ trivial rfl rfl rfl)
        · refine reg_cons (guard_on rfl rfl rfl rfl hb11) (op_move rfl rfl rfl rfl) ?_
          refine reg_cons (guard_on rfl rfl rfl rfl hb11) (op_len_vs (n := y5.length) rfl rfl (List.length_map ..) Try_slc_39 rfl rfl) ?_
          refine reg_cons (guard_on rfl rfl rfl rfl hb11) (op_move rfl rfl rfl rfl) ?_
          refine reg_cons (guard_on rfl rfl rfl rfl hb11) (op_len_vs (n := y7.length) rfl rfl (List.length_map ..) Try_slc_39 rfl rfl) ?_
          refine reg_cons (guard_on rfl rfl rfl rfl hb11) (op_int (k := .i64) (m := (y5.length : Int)) (n := (y7.length : Int)) rfl rfl rfl rfl rfl rfl) ?_
          refine reg_cons (guard_no rfl) (op_pick_f rfl rfl hb11 rfl rfl rfl) ?_
          refine reg_cons (guard_no rfl) (op_move rfl rfl rfl rfl) ?_
          rcases ite_some hF with ⟨hb12, hF⟩ | ⟨hb12, hF⟩
          · refine reg_off (guard_off rfl rfl rfl rfl hb12) rfl rfl ?_
            refine reg_off (guard_off rfl rfl rfl rfl hb12) rfl rfl ?_
            refine reg_cons (guard_no rfl) (op_pick_t rfl rfl hb12 rfl rfl rfl) ?_
            refine reg_nil ?_
            cases hF
            exact post_cut _ rfl (imp_sub [] rfl (by decide) rfl rfl ⟨by kernel_rfl, by kernel_rfl, by kernel_rfl, trivial⟩ trivial rfl rfl rfl)
          · refine reg_cons (guard_on rfl rfl rfl rfl hb12) (op_load_lp_agg (ps := eGType a0) rfl rfl rfl rfl rfl rfl Try_agg_27 rfl rfl) ?_
            obtain ⟨y13, h14, hF⟩ := bind_some hF
            refine reg_cons (guard_on rfl rfl rfl rfl hb12) (op_call 2 rfl (caps := []) (args := [.agg (eGType a0)]) (rs := [.p (.bool y13)]) rfl rfl rfl Try_cal_50 (ref27_dim_ok h14) rfl rfl rfl) ?_
            refine reg_cons (guard_no rfl) (op_pick_f rfl rfl hb12 rfl rfl rfl) ?_
            refine reg_nil ?_
            cases hF
            exact post_cut _ rfl (imp_sub [] rfl (by decide) rfl rfl ⟨by kernel_rfl, by kernel_rfl, by kernel_rfl, trivial⟩ trivial rfl rfl rfl)
      · refine reg_off (guard_off rfl rfl rfl rfl hb10) rfl rfl ?_
        iterate 4 (refine reg_off (guard_off rfl rfl rfl rfl hb10) rfl rfl ?_)
        refine reg_cons (guard_on rfl rfl rfl rfl hb9) (op_pick_f rfl rfl hb10 rfl rfl rfl) ?_
        refine reg_cons (guard_no rfl) (op_pick_f rfl rfl hb9 rfl rfl rfl) ?_
        refine reg_cons (guard_no rfl) (op_move rfl rfl rfl rfl) ?_
        refine reg_cons (guard_on rfl rfl rfl rfl rfl) (op_move rfl rfl rfl rfl) ?_
        refine reg_cons (guard_on rfl rfl rfl rfl rfl) (op_len_vs (n := y5.length) rfl rfl (List.length_map ..) Try_slc_39 rfl rfl) ?_
        refine reg_cons (guard_on rfl rfl rfl rfl rfl) (op_move rfl rfl rfl rfl) ?_
        refine reg_cons (guard_on rfl rfl rfl rfl rfl) (op_len_vs (n := y7.length) rfl rfl (List.length_map ..) Try_slc_39 rfl rfl) ?_
        refine reg_cons (guard_on rfl rfl rfl rfl rfl) (op_int (k := .i64) (m := (y5.length : Int)) (n := (y7.length : Int)) rfl rfl rfl rfl rfl rfl) ?_
        refine reg_cons (guard_no rfl) (op_pick_f rfl rfl rfl rfl rfl rfl) ?_
        refine reg_cons (guard_no rfl) (op_move rfl rfl rfl rfl) ?_
        rcases ite_some hF with ⟨hb15, hF⟩ | ⟨hb15, hF⟩
        · refine reg_off (guard_off rfl rfl rfl rfl hb15) rfl rfl ?_
          refine reg_off (guard_off rfl rfl rfl rfl hb15) rfl rfl ?_
          refine reg_cons (guard_no rfl) (op_pick_t rfl rfl hb15 rfl rfl rfl) ?_
          refine reg_nil ?_
          cases hF
          exact post_cut _ rfl (imp_sub [] rfl (by decide) rfl rfl ⟨by kernel_rfl, by kernel_rfl, by kernel_rfl, trivial⟩ trivial rfl rfl rfl)
        · refine reg_cons (guard_on rfl rfl rfl rfl hb15) (op_load_lp_agg (ps := eGType a0) rfl rfl rfl rfl rfl rfl Try_agg_27 rfl rfl) ?_
          obtain ⟨y16, h17, hF⟩ := bind_some hF
          refine reg_cons (guard_on rfl rfl rfl rfl hb15) (op_call 2 rfl (caps := []) (args := [.agg (eGType a0)]) (rs := [.p (.bool y16)]) rfl rfl rfl Try_cal_50 (ref27_dim_ok h17) rfl rfl rfl) ?_
          refine reg_cons (guard_no rfl) (op_pick_f rfl rfl hb15 rfl rfl rfl) ?_
          refine reg_nil ?_
          cases hF
          exact post_cut _ rfl (imp_sub [] rfl (by decide) rfl rfl ⟨by kernel_rfl, by kernel_rfl, by kernel_rfl, trivial⟩ trivial rfl rfl rfl)
  · rintro _ rfl
    have hF := hK20
    clear hK20
    refine post_next ?_
    rcases ite_some hF with ⟨hb21, hF⟩ | ⟨hb21, hF⟩
    · refine aw_cond_t rfl hb21 ?_
      refine aw_seq ?_
      refine aw_region ?_
      refine reg_cons (guard_no rfl) (op_assign rfl rfl rfl rfl) ?_
      refine reg_nil ?_
      refine post_imp (s' := ⟨55, [(4, some (.pv (.bool false)))], [], 0, [], [], 0, []⟩) (imp_sub [] rfl (by decide) rfl rfl ⟨by kernel_rfl, trivial⟩ trivial rfl rfl rfl) ?_
      refine post_next ?_
      refine aw_ret ?_
      refine post_then_ret ?_
      obtain rfl := Option.some.inj hF
      exact post_ret rfl rfl (.cons _ _ _ _ _ (.tmp _ _ rfl) (.p _) .nil) (.inl rfl)
    · refine aw_cond_f rfl hb21 ?_
      refine aw_skip ?_
      refine post_next ?_
      iterate 2 (refine aw_seq ?_)
      refine aw_region ?_
      refine reg_cons (guard_no rfl) (op_assign rfl rfl rfl rfl) ?_
      refine reg_nil ?_
      refine post_imp (s' := ⟨55, [(5, some (.pv (.vs 2 (List.map eGOwner y5)))), (6, some (.pv (.vs 2 (List.map eGOwner y7)))), (7, some (.pv (.int .i64 0)))], [], 0, [], [], 0, []⟩) (imp_sub [] rfl (by decide) rfl rfl ⟨by kernel_rfl, by kernel_rfl, by kernel_rfl, trivial⟩ trivial rfl rfl rfl) ?_
      refine post_next ?_
      obtain ⟨lr55, hF, hK56⟩ := bind_some hF
      refine aw_for ((((y5.length : Int) : Int) - (0)).toNat + 1) (fun s1 => ∃ q, lr55 = .next q ∧ s1 = ⟨55, [], [], 0, [], [], 0, []⟩) ?_ ?_
      · refine rnd_loop (α := Int) (fun q => ⟨55, [(5, some (.pv (.vs 2 (List.map eGOwner y5)))), (6, some (.pv (.vs 2 (List.map eGOwner y7)))), (7, some (.pv (.int .i64 q)))], [], 0, [], [], 0, []⟩) (fun k q => ref27_Same_L1 y5 y7 k q = some lr55) 0 (imp_sub [] rfl (by decide) rfl rfl ⟨by kernel_rfl, by kernel_rfl, by kernel_rfl, trivial⟩ trivial rfl rfl rfl) hF (fun q h => by cases h) ?_
        clear hF
        rintro k x32 hF ih
        refine rnd_succ ?_
        iterate 2 (refine aw_seq ?_)
        refine aw_region ?_
        iterate 2 (refine reg_cons (guard_no rfl) (op_move rfl rfl rfl rfl) ?_)
        refine reg_cons (guard_no rfl) (op_len_vs (n := y5.length) rfl rfl (List.length_map ..) Try_slc_39 rfl rfl) ?_
        refine reg_cons (guard_no rfl) (op_int (k := .i64) (m := x32) (n := (y5.length : Int)) rfl rfl rfl rfl rfl rfl) ?_
        refine reg_nil ?_
        refine post_imp (s' := ⟨55, [(5, some (.pv (.vs 2 (List.map eGOwner y5)))), (6, some (.pv (.vs 2 (List.map eGOwner y7)))), (7, some (.pv (.int .i64 x32))), (43, some (.pv (.bool (decide (x32 < (y5.length : Int))))))], [], 0, [], [], 0, []⟩) (imp_sub [] rfl (by decide) rfl rfl ⟨by kernel_rfl, by kernel_rfl, by kernel_rfl, by kernel_rfl, trivial⟩ trivial rfl rfl rfl) ?_
        refine post_next ?_
        rcases ite_some hF with ⟨hb44, hF⟩ | ⟨hb44, hF⟩
        · refine aw_cond_t rfl hb44 ?_
          refine aw_skip ?_
          refine post_next ?_
          refine aw_seq ?_
          refine aw_block ?_
          refine aw_seq ?_
          refine dr_start ⟨_, _, _⟩ rfl ?_
          refine dr_cons { need := [(5, .pv (.vs 2 (List.map eGOwner y5)))], dst := some 46, val := some (.pv (.vs 2 (List.map eGOwner y5))) } (fun m h => step_on (guard_no rfl) (op_move rfl h.1.1 rfl rfl) rfl) ⟨⟨rfl, trivial⟩, trivial, trivial⟩ ?_
          refine dr_cons { need := [(7, .pv (.int .i64 x32))], dst := some 47, val := some (.pv (.int .i64 x32)) } (fun m h => step_on (guard_no rfl) (op_move rfl h.1.1 rfl rfl) rfl) ⟨⟨rfl, trivial⟩, trivial, trivial⟩ ?_
          obtain ⟨y49, h50, hF⟩ := bind_some hF
          refine dr_cons { need := [(46, .pv (.vs 2 (List.map eGOwner y5))), (47, .pv (.int .i64 x32))], dst := some 48, val := some (.pv (.vp (eGOwner y49))) } (fun m h => step_on (guard_no rfl) (op_index_vs (k := .i64) rfl h.1.1 h.1.2.1 (idx_map eGOwner h50) Try_slc_39 rfl rfl) rfl) ⟨⟨rfl, rfl, trivial⟩, trivial, trivial⟩ ?_
          refine dr_cons { need := [(48, .pv (.vp (eGOwner y49)))], dst := some 49, val := some (.pv (.agg (eGOwner y49))) } (fun m h => step_on (guard_no rfl) (op_load_vp_agg (ps := eGOwner y49) rfl h.1.1 rfl rfl Try_agg_24 rfl rfl) rfl) ⟨⟨rfl, trivial⟩, trivial, trivial⟩ ?_
          refine dr_cons { need := [(6, .pv (.vs 2 (List.map eGOwner y7)))], dst := some 50, val := some (.pv (.vs 2 (List.map eGOwner y7))) } (fun m h => step_on (guard_no rfl) (op_move rfl h.1.1 rfl rfl) rfl) ⟨⟨rfl, trivial⟩, trivial, trivial⟩ ?_
          refine dr_cons { need := [(7, .pv (.int .i64 x32))], dst := some 51, val := some (.pv (.int .i64 x32)) } (fun m h => step_on (guard_no rfl) (op_move rfl h.1.1 rfl rfl) rfl) ⟨⟨rfl, trivial⟩, trivial, trivial⟩ ?_
          obtain ⟨y51, h52, hF⟩ := bind_some hF
          refine dr_cons { need := [(50, .pv (.vs 2 (List.map eGOwner y7))), (51, .pv (.int .i64 x32))], dst := some 52, val := some (.pv (.vp (eGOwner y51))) } (fun m h => step_on (guard_no rfl) (op_index_vs (k := .i64) rfl h.1.1 h.1.2.1 (idx_map eGOwner h52) Try_slc_39 rfl rfl) rfl) ⟨⟨rfl, rfl, trivial⟩, trivial, trivial⟩ ?_
          refine dr_cons { need := [(52, .pv (.vp (eGOwner y51)))], dst := some 53, val := some (.pv (.agg (eGOwner y51))) } (fun m h => step_on (guard_no rfl) (op_load_vp_agg (ps := eGOwner y51) rfl h.1.1 rfl rfl Try_agg_24 rfl rfl) rfl) ⟨⟨rfl, trivial⟩, trivial, trivial⟩ ?_
          refine dr_cons { need := [(49, .pv (.agg (eGOwner y49))), (53, .pv (.agg (eGOwner y51)))], dst := some 54, val := some (.pv (.bool (!(bGOwner y49 y51)))) } (fun m h => step_on (guard_no rfl) (op_eqAgg_neq (r := bGOwner y49 y51) rfl h.1.1 h.1.2.1 Try_eqt_24 rfl rfl rfl rfl rfl) rfl) ⟨⟨rfl, rfl, trivial⟩, trivial, trivial⟩ ?_
          refine dr_nil Try_mixed rfl (by kernel_rfl) ?_
          refine post_imp (s' := ⟨55, [(5, some (.pv (.vs 2 (List.map eGOwner y5)))), (6, some (.pv (.vs 2 (List.map eGOwner y7)))), (7, some (.pv (.int .i64 x32))), (54, some (.pv (.bool (!(bGOwner y49 y51)))))], [], 0, [], [], 0, []⟩) (imp_sub [] rfl (by decide) rfl rfl ⟨by kernel_rfl, by kernel_rfl, by kernel_rfl, by kernel_rfl, trivial⟩ trivial rfl rfl rfl) ?_
          refine post_next ?_
          rcases ite_some hF with ⟨hb53, hF⟩ | ⟨hb53, hF⟩
          · refine aw_cond_t rfl hb53 ?_
            refine aw_seq ?_
            refine aw_region ?_
            refine reg_cons (guard_no rfl) (op_assign rfl rfl rfl rfl) ?_
            refine reg_nil ?_
            refine post_imp (s' := ⟨55, [(4, some (.pv (.bool false)))], [], 0, [], [], 0, []⟩) (imp_sub [] rfl (by decide) rfl rfl ⟨by kernel_rfl, trivial⟩ trivial rfl rfl rfl) ?_
            refine post_next ?_
            refine aw_ret ?_
            refine post_block_ret ?_
            iterate 2 (refine post_then_ret ?_)
            refine post_lp_ret ?_
            obtain rfl := Option.some.inj hF
            have hF := elim_stop hK56
            refine post_then_ret ?_
            obtain rfl := Option.some.inj hF
            exact post_ret rfl rfl (.cons _ _ _ _ _ (.tmp _ _ rfl) (.p _) .nil) (.inl rfl)
          · refine aw_cond_f rfl hb53 ?_
            refine aw_skip ?_
            refine post_block_normal ?_
            refine post_next ?_
            refine aw_region ?_
            refine reg_cons (guard_no rfl) (op_move rfl rfl rfl rfl) ?_
            refine reg_cons (guard_no rfl) (op_int (k := .i64) (m := x32) (n := 1) rfl rfl rfl rfl rfl rfl) ?_
            refine reg_cons (guard_no rfl) (op_assign rfl rfl rfl rfl) ?_
            refine reg_nil ?_
            refine post_round ?_
            exact rnd_back (ih (w_i64 (x32 + 1)) hF) (imp_sub [] rfl (by decide) rfl rfl ⟨by kernel_rfl, by kernel_rfl, by kernel_rfl, trivial⟩ trivial rfl rfl rfl)
        · refine aw_cond_f rfl hb44 ?_
          refine aw_exit ?_
          iterate 2 (refine post_then_exit ?_)
          obtain rfl := Option.some.inj hF
          exact post_lp_break _ ⟨_, rfl, rfl⟩ (imp_sub [] rfl (by decide) rfl rfl trivial trivial rfl rfl rfl)
      · rintro _ ⟨⟨⟩, rfl, rfl⟩
        have hF := elim_next hK56
        clear hK56
        refine post_next ?_
        refine aw_seq ?_
        refine aw_region ?_
        refine reg_cons (guard_no rfl) (op_assign rfl rfl rfl rfl) ?_
        refine reg_nil ?_
        refine post_imp (s' := ⟨55, [(4, some (.pv (.bool true)))], [], 0, [], [], 0, []⟩) (imp_sub [] rfl (by decide) rfl rfl ⟨by kernel_rfl, trivial⟩ trivial rfl rfl rfl) ?_
        refine post_next ?_
        refine aw_ret ?_
        obtain rfl := Option.some.inj hF
        exact post_ret rfl rfl (.cons _ _ _ _ _ (.tmp _ _ rfl) (.p _) .nil) (.inl rfl)
abbrev law27_UnderIs_e493  : Eff := { need := [(41, .pv (.bool false))], dst := some 6, val := some (.pv (.bool false)) }
theorem law27_UnderIs_ok {a0 : List GClass} {a1 : GType} {a2 : GType} {r : Bool} (hF : law27_UnderIs a0 a1 a2 = some r) : Abs.Fn Try.prog 6 [.vs 7 (List.map eGClass a0), .agg (eGType a1), .agg (eGType a2)] [.p (.bool r)] := by
  unfold law27_UnderIs at hF
  refine fn_of_body (n := 42) Try.func6 rfl rfl rfl ?_
  intro w O
  refine aw_seq ?_
  refine aw_region ?_
  refine reg_cons (guard_no rfl) (op_box 0 rfl rfl rfl rfl rfl rfl) ?_
  refine reg_cons (guard_no rfl) (op_box 1 rfl rfl rfl rfl rfl rfl) ?_
  refine reg_cons (guard_no rfl) (op_assign rfl rfl rfl rfl) ?_
  refine reg_nil ?_
  refine post_imp (s' := ⟨42, [(0, some (.pv (.vs 7 (List.map eGClass a0)))), (4, some (.lp 0 0)), (5, some (.lp 1 0))], [(0, some (.box 27 (bxv (eGType a1)))), (1, some (.box 27 (bxv (eGType a2))))], 2, [], [], 0, []⟩) (imp_sub [0, 1] rfl (by decide) rfl rfl ⟨by kernel_rfl, by kernel_rfl, by kernel_rfl, trivial⟩ ⟨by kernel_rfl, by kernel_rfl, trivial⟩ rfl rfl rfl) ?_
  refine post_next ?_
  iterate 2 (refine aw_seq ?_)
  refine aw_region ?_
  refine reg_cons (guard_no rfl) (op_move rfl rfl rfl rfl) ?_
  obtain ⟨y3, h4, hF⟩ := bind_some hF
  refine reg_cons (guard_no rfl) (op_call 2 rfl (caps := []) (args := [.vs 7 (List.map eGClass a0)]) (rs := [.p (.bool y3)]) rfl rfl rfl Try_cal_8 (law27_great_ok h4) rfl rfl rfl) ?_
  refine reg_nil ?_
  refine post_imp (s' := ⟨42, [(0, some (.pv (.vs 7 (List.map eGClass a0)))), (4, some (.lp 0 0)), (5, some (.lp 1 0)), (8, some (.pv (.bool y3)))], [(0, some (.box 27 (bxv (eGType a1)))), (1, some (.box 27 (bxv (eGType a2))))], 2, [], [], 0, []⟩) (imp_sub [0, 1] rfl (by decide) rfl rfl ⟨by kernel_rfl, by kernel_rfl, by kernel_rfl, by kernel_rfl, trivial⟩ ⟨by kernel_rfl, by kernel_rfl, trivial⟩ rfl rfl rfl) ?_
  refine post_next ?_
  rcases ite_some hF with ⟨hb5, hF⟩ | ⟨hb5, hF⟩
  · refine aw_cond_t rfl hb5 ?_
    refine aw_seq ?_
    refine aw_region ?_
    obtain ⟨y6, h7, hF⟩ := bind_some hF
    refine reg_cons (guard_no rfl) (op_call 2 rfl (caps := []) (args := []) (rs := [.p (.bool y6)]) rfl rfl rfl Try_cal_11 (law27_awake_ok h7) rfl rfl rfl) ?_
    refine reg_cons (guard_no rfl) (op_assign rfl rfl rfl rfl) ?_
    refine reg_nil ?_
    refine post_imp (s' := ⟨42, [(6, some (.pv (.bool y6)))], [], 0, [], [], 0, []⟩) (imp_sub [] rfl (by decide) rfl rfl ⟨by kernel_rfl, trivial⟩ trivial rfl rfl rfl) ?_
    refine post_next ?_
    refine aw_ret ?_
    refine post_then_ret ?_
    obtain rfl := Option.some.inj hF
    exact post_ret rfl rfl (.cons _ _ _ _ _ (.tmp _ _ rfl) (.p _) .nil) (.inl rfl)
  · refine aw_cond_f rfl hb5 ?_
    refine aw_skip ?_
    refine post_next ?_
    refine aw_seq ?_
    refine dr_start ⟨_, _, _⟩ rfl ?_
    refine dr_cons { need := [(0, .pv (.vs 7 (List.map eGClass a0)))], dst := some 10, val := some (.pv (.vs 7 (List.map eGClass a0))) } (fun m h => step_on (guard_no rfl) (op_move rfl h.1.1 rfl rfl) rfl) ⟨⟨rfl, trivial⟩, trivial, trivial⟩ ?_
    refine dr_cons { need := [(4, .lp 0 0)], hneed := [(0, .box 27 (bxv (eGType a1)))], dst := some 11, val := some (.pv (.agg (eGType a1))) } (fun m h => step_on (guard_no rfl) (op_load_lp_agg (ps := eGType a1) rfl h.1.1 h.2.1.1 rfl rfl rfl Try_agg_27 rfl rfl) rfl) ⟨⟨rfl, trivial⟩, ⟨rfl, trivial⟩, trivial⟩ ?_
    refine dr_cons { need := [(5, .lp 1 0)], hneed := [(1, .box 27 (bxv (eGType a2)))], dst := some 12, val := some (.pv (.agg (eGType a2))) } (fun m h => step_on (guard_no rfl) (op_load_lp_agg (ps := eGType a2) rfl h.1.1 h.2.1.1 rfl rfl rfl Try_agg_27 rfl rfl) rfl) ⟨⟨rfl, trivial⟩, ⟨rfl, trivial⟩, trivial⟩ ?_
    obtain ⟨y8, h9, hF⟩ := bind_some hF
    refine dr_cons { need := [(12, .pv (.agg (eGType a2))), (11, .pv (.agg (eGType a1))), (10, .pv (.vs 7 (List.map eGClass a0)))], dst := some 13, val := some (.pv (.bool y8)) } (fun m h => step_on (guard_no rfl) (op_call 2 rfl (caps := []) (args := [.vs 7 (List.map eGClass a0), .agg (eGType a1), .agg (eGType a2)]) (rs := [.p (.bool y8)]) rfl rfl (evl_cons h.1.2.2.1 (evl_cons h.1.2.1 (evl_cons h.1.1 evl_nil))) Try_cal_12 (under_Is_ok h9) rfl rfl rfl) rfl) ⟨⟨rfl, rfl, rfl, trivial⟩, trivial, trivial⟩ ?_
    refine dr_cons { need := [(0, .pv (.vs 7 (List.map eGClass a0)))], dst := some 14, val := some (.pv (.vs 7 (List.map eGClass a0))) } (fun m h => step_on (guard_no rfl) (op_move rfl h.1.1 rfl rfl) rfl) ⟨⟨rfl, trivial⟩, trivial, trivial⟩ ?_
    refine dr_cons { need := [(4, .lp 0 0)], hneed := [(0, .box 27 (bxv (eGType a1)))], dst := some 15, val := some (.pv (.agg (eGType a1))) } (fun m h => step_on (guard_no rfl) (op_load_lp_agg (ps := eGType a1) rfl h.1.1 h.2.1.1 rfl rfl rfl Try_agg_27 rfl rfl) rfl) ⟨⟨rfl, trivial⟩, ⟨rfl, trivial⟩, trivial⟩ ?_
    refine dr_cons { need := [(5, .lp 1 0)], hneed := [(1, .box 27 (bxv (eGType a2)))], dst := some 16, val := some (.pv (.agg (eGType a2))) } (fun m h => step_on (guard_no rfl) (op_load_lp_agg (ps := eGType a2) rfl h.1.1 h.2.1.1 rfl rfl rfl Try_agg_27 rfl rfl) rfl) ⟨⟨rfl, trivial⟩, ⟨rfl, trivial⟩, trivial⟩ ?_
    obtain ⟨y10, h11, hF⟩ := bind_some hF
    refine dr_cons { need := [(16, .pv (.agg (eGType a2))), (15, .pv (.agg (eGType a1))), (14, .pv (.vs 7 (List.map eGClass a0)))], dst := some 17, val := some (.pv (.bool y10)) } (fun m h => step_on (guard_no rfl) (op_call 2 rfl (caps := []) (args := [.vs 7 (List.map eGClass a0), .agg (eGType a1), .agg (eGType a2)]) (rs := [.p (.bool y10)]) rfl rfl (evl_cons h.1.2.2.1 (evl_cons h.1.2.1 (evl_cons h.1.1 evl_nil))) Try_cal_24 (ref27_Is_ok h11) rfl rfl rfl) rfl) ⟨⟨rfl, rfl, rfl, trivial⟩, trivial, trivial⟩ ?_
    refine dr_cons { need := [(13, .pv (.bool y8)), (17, .pv (.bool y10))], dst := some 18, val := some (.pv (.bool (y8 == y10))) } (fun m h => step_on (guard_no rfl) (op_eqBool_eql rfl h.1.1 h.1.2.1 Try_und_4 rfl rfl) rfl) ⟨⟨rfl, rfl, trivial⟩, trivial, trivial⟩ ?_
    refine dr_cons { need := [(18, .pv (.bool (y8 == y10)))], dst := some 19, val := some (.pv (.bool (y8 == y10))) } (fun m h => step_on (guard_no rfl) (op_move rfl h.1.1 rfl rfl) rfl) ⟨⟨rfl, trivial⟩, trivial, trivial⟩ ?_
    rcases ite_some hF with ⟨hb12, hF⟩ | ⟨hb12, hF⟩
    · refine dr_cons { need := [(19, .pv (.bool (y8 == y10))), (0, .pv (.vs 7 (List.map eGClass a0)))], dst := some 20, val := some (.pv (.vs 7 (List.map eGClass a0))) } (fun m h => step_on (guard_on rfl rfl rfl h.1.1 hb12) (op_move rfl h.1.2.1 rfl rfl) rfl) ⟨⟨rfl, rfl, trivial⟩, trivial, trivial⟩ ?_
      refine dr_cons { need := [(19, .pv (.bool (y8 == y10))), (4, .lp 0 0)], hneed := [(0, .box 27 (bxv (eGType a1)))], dst := some 21, val := some (.pv (.agg (eGType a1))) } (fun m h => step_on (guard_on rfl rfl rfl h.1.1 hb12) (op_load_lp_agg (ps := eGType a1) rfl h.1.2.1 h.2.1.1 rfl rfl rfl Try_agg_27 rfl rfl) rfl) ⟨⟨rfl, rfl, trivial⟩, ⟨rfl, trivial⟩, trivial⟩ ?_
      refine dr_cons { need := [(19, .pv (.bool (y8 == y10))), (5, .lp 1 0)], hneed := [(1, .box 27 (bxv (eGType a2)))], dst := some 22, val := some (.pv (.agg (eGType a2))) } (fun m h => step_on (guard_on rfl rfl rfl h.1.1 hb12) (op_load_lp_agg (ps := eGType a2) rfl h.1.2.1 h.2.1.1 rfl rfl rfl Try_agg_27 rfl rfl) rfl) ⟨⟨rfl, rfl, trivial⟩, ⟨rfl, trivial⟩, trivial⟩ ?_
      obtain ⟨y13, h14, hF⟩ := bind_some hF
      refine dr_cons { need := [(19, .pv (.bool (y8 == y10))), (22, .pv (.agg (eGType a2))), (21, .pv (.agg (eGType a1))), (20, .pv (.vs 7 (List.map eGClass a0)))], dst := some 23, val := some (.pv (.bool y13)) } (fun m h => step_on (guard_on rfl rfl rfl h.1.1 hb12) (op_call 2 rfl (caps := []) (args := [.vs 7 (List.map eGClass a0), .agg (eGType a1), .agg (eGType a2)]) (rs := [.p (.bool y13)]) rfl rfl (evl_cons h.1.2.2.2.1 (evl_cons h.1.2.2.1 (evl_cons h.1.2.1 evl_nil))) Try_cal_25 (under_Given_ok h14) rfl rfl rfl) rfl) ⟨⟨rfl, rfl, rfl, rfl, trivial⟩, trivial, trivial⟩ ?_
      refine dr_cons { need := [(19, .pv (.bool (y8 == y10))), (0, .pv (.vs 7 (List.map eGClass a0)))], dst := some 24, val := some (.pv (.vs 7 (List.map eGClass a0))) } (fun m h => step_on (guard_on rfl rfl rfl h.1.1 hb12) (op_move rfl h.1.2.1 rfl rfl) rfl) ⟨⟨rfl, rfl, trivial⟩, trivial, trivial⟩ ?_
      refine dr_cons { need := [(19, .pv (.bool (y8 == y10))), (4, .lp 0 0)], hneed := [(0, .box 27 (bxv (eGType a1)))], dst := some 25, val := some (.pv (.agg (eGType a1))) } (fun m h => step_on (guard_on rfl rfl rfl h.1.1 hb12) (op_load_lp_agg (ps := eGType a1) rfl h.1.2.1 h.2.1.1 rfl rfl rfl Try_agg_27 rfl rfl) rfl) ⟨⟨rfl, rfl, trivial⟩, ⟨rfl, trivial⟩, trivial⟩ ?_
      refine dr_cons { need := [(19, .pv (.bool (y8 == y10))), (5, .lp 1 0)], hneed := [(1, .box 27 (bxv (eGType a2)))], dst := some 26, val := some (.pv (.agg (eGType a2))) } (fun m h => step_on (guard_on rfl rfl rfl h.1.1 hb12) (op_load_lp_agg (ps := eGType a2) rfl h.1.2.1 h.2.1.1 rfl rfl rfl Try_agg_27 rfl rfl) rfl) ⟨⟨rfl, rfl, trivial⟩, ⟨rfl, trivial⟩, trivial⟩ ?_
      obtain ⟨y15, h16, hF⟩ := bind_some hF
      refine dr_cons { need := [(19, .pv (.bool (y8 == y10))), (26, .pv (.agg (eGType a2))), (25, .pv (.agg (eGType a1))), (24, .pv (.vs 7 (List.map eGClass a0)))], dst := some 27, val := some (.pv (.bool y15)) } (fun m h => step_on (guard_on rfl rfl rfl h.1.1 hb12) (op_call 2 rfl (caps := []) (args := [.vs 7 (List.map eGClass a0), .agg (eGType a1), .agg (eGType a2)]) (rs := [.p (.bool y15)]) rfl rfl (evl_cons h.1.2.2.2.1 (evl_cons h.1.2.2.1 (evl_cons h.1.2.1 evl_nil))) Try_cal_26 (ref27_Given_ok h16) rfl rfl rfl) rfl) ⟨⟨rfl, rfl, rfl, rfl, trivial⟩, trivial, trivial⟩ ?_
      refine dr_cons { need := [(19, .pv (.bool (y8 == y10))), (23, .pv (.bool y13)), (27, .pv (.bool y15))], dst := some 28, val := some (.pv (.bool (y13 == y15))) } (fun m h => step_on (guard_on rfl rfl rfl h.1.1 hb12) (op_eqBool_eql rfl h.1.2.1 h.1.2.2.1 Try_und_4 rfl rfl) rfl) ⟨⟨rfl, rfl, rfl, trivial⟩, trivial, trivial⟩ ?_
      refine dr_cons { need := [(19, .pv (.bool (y8 == y10))), (28, .pv (.bool (y13 == y15)))], dst := some 29, val := some (.pv (.bool (y13 == y15))) } (fun m h => step_on (guard_no rfl) (op_pick_t rfl h.1.1 hb12 h.1.2.1 rfl rfl) rfl) ⟨⟨rfl, rfl, trivial⟩, trivial, trivial⟩ ?_
      refine dr_cons { need := [(29, .pv (.bool (y13 == y15)))], dst := some 30, val := some (.pv (.bool (y13 == y15))) } (fun m h => step_on (guard_no rfl) (op_move rfl h.1.1 rfl rfl) rfl) ⟨⟨rfl, trivial⟩, trivial, trivial⟩ ?_
      rcases ite_some hF with ⟨hb17, hF⟩ | ⟨hb17, hF⟩
      · refine dr_cons { need := [(30, .pv (.bool (y13 == y15))), (4, .lp 0 0)], hneed := [(0, .box 27 (bxv (eGType a1)))], dst := some 31, val := some (.pv (.agg (eGType a1))) } (fun m h => step_on (guard_on rfl rfl rfl h.1.1 hb17) (op_load_lp_agg (ps := eGType a1) rfl h.1.2.1 h.2.1.1 rfl rfl rfl Try_agg_27 rfl rfl) rfl) ⟨⟨rfl, rfl, trivial⟩, ⟨rfl, trivial⟩, trivial⟩ ?_
        refine dr_cons { need := [(30, .pv (.bool (y13 == y15))), (5, .lp 1 0)], hneed := [(1, .box 27 (bxv (eGType a2)))], dst := some 32, val := some (.pv (.agg (eGType a2))) } (fun m h => step_on (guard_on rfl rfl rfl h.1.1 hb17) (op_load_lp_agg (ps := eGType a2) rfl h.1.2.1 h.2.1.1 rfl rfl rfl Try_agg_27 rfl rfl) rfl) ⟨⟨rfl, rfl, trivial⟩, ⟨rfl, trivial⟩, trivial⟩ ?_
        obtain ⟨y18, h19, hF⟩ := bind_some hF
        refine dr_cons { need := [(30, .pv (.bool (y13 == y15))), (32, .pv (.agg (eGType a2))), (31, .pv (.agg (eGType a1)))], dst := some 33, val := some (.pv (.bool y18)) } (fun m h => step_on (guard_on rfl rfl rfl h.1.1 hb17) (op_call 2 rfl (caps := []) (args := [.agg (eGType a1), .agg (eGType a2)]) (rs := [.p (.bool y18)]) rfl rfl (evl_cons h.1.2.2.1 (evl_cons h.1.2.1 evl_nil)) Try_cal_27 (under_Same_ok h19) rfl rfl rfl) rfl) ⟨⟨rfl, rfl, rfl, trivial⟩, trivial, trivial⟩ ?_
        refine dr_cons { need := [(30, .pv (.bool (y13 == y15))), (4, .lp 0 0)], hneed := [(0, .box 27 (bxv (eGType a1)))], dst := some 34, val := some (.pv (.agg (eGType a1))) } (fun m h => step_on (guard_on rfl rfl rfl h.1.1 hb17) (op_load_lp_agg (ps := eGType a1) rfl h.1.2.1 h.2.1.1 rfl rfl rfl Try_agg_27 rfl rfl) rfl) ⟨⟨rfl, rfl, trivial⟩, ⟨rfl, trivial⟩, trivial⟩ ?_
        refine dr_cons { need := [(30, .pv (.bool (y13 == y15))), (5, .lp 1 0)], hneed := [(1, .box 27 (bxv (eGType a2)))], dst := some 35, val := some (.pv (.agg (eGType a2))) } (fun m h => step_on (guard_on rfl rfl rfl h.1.1 hb17) (op_load_lp_agg (ps := eGType a2) rfl h.1.2.1 h.2.1.1 rfl rfl rfl Try_agg_27 rfl rfl) rfl) ⟨⟨rfl, rfl, trivial⟩, ⟨rfl, trivial⟩, trivial⟩ ?_
        obtain ⟨y20, h21, hF⟩ := bind_some hF
        refine dr_cons { need := [(30, .pv (.bool (y13 == y15))), (35, .pv (.agg (eGType a2))), (34, .pv (.agg (eGType a1)))], dst := some 36, val := some (.pv (.bool y20)) } (fun m h => step_on (guard_on rfl rfl rfl h.1.1 hb17) (op_call 2 rfl (caps := []) (args := [.agg (eGType a1), .agg (eGType a2)]) (rs := [.p (.bool y20)]) rfl rfl (evl_cons h.1.2.2.1 (evl_cons h.1.2.1 evl_nil)) Try_cal_28 (ref27_Same_ok h21) rfl rfl rfl) rfl) ⟨⟨rfl, rfl, rfl, trivial⟩, trivial, trivial⟩ ?_
        refine dr_cons { need := [(30, .pv (.bool (y13 == y15))), (33, .pv (.bool y18)), (36, .pv (.bool y20))], dst := some 37, val := some (.pv (.bool (y18 == y20))) } (fun m h => step_on (guard_on rfl rfl rfl h.1.1 hb17) (op_eqBool_eql rfl h.1.2.1 h.1.2.2.1 Try_und_4 rfl rfl) rfl) ⟨⟨rfl, rfl, rfl, trivial⟩, trivial, trivial⟩ ?_
        refine dr_cons { need := [(30, .pv (.bool (y13 == y15))), (37, .pv (.bool (y18 == y20)))], dst := some 38, val := some (.pv (.bool (y18 == y20))) } (fun m h => step_on (guard_no rfl) (op_pick_t rfl h.1.1 hb17 h.1.2.1 rfl rfl) rfl) ⟨⟨rfl, rfl, trivial⟩, trivial, trivial⟩ ?_
        refine dr_cons { need := [(38, .pv (.bool (y18 == y20)))], dst := some 39, val := some (.pv (.bool (y18 == y20))) } (fun m h => step_on (guard_no rfl) (op_move rfl h.1.1 rfl rfl) rfl) ⟨⟨rfl, trivial⟩, trivial, trivial⟩ ?_
        rcases ite_some hF with ⟨hb22, hF⟩ | ⟨hb22, hF⟩
        · obtain ⟨y23, h24, hF⟩ := bind_some hF
          refine dr_cons { need := [(39, .pv (.bool (y18 == y20)))], dst := some 40, val := some (.pv (.bool y23)) } (fun m h => step_on (guard_on rfl rfl rfl h.1.1 hb22) (op_call 2 rfl (caps := []) (args := []) (rs := [.p (.bool y23)]) rfl rfl evl_nil Try_cal_11 (law27_awake_ok h24) rfl rfl rfl) rfl) ⟨⟨rfl, trivial⟩, trivial, trivial⟩ ?_
          refine dr_cons { need := [(39, .pv (.bool (y18 == y20))), (40, .pv (.bool y23))], dst := some 41, val := some (.pv (.bool y23)) } (fun m h => step_on (guard_no rfl) (op_pick_t rfl h.1.1 hb22 h.1.2.1 rfl rfl) rfl) ⟨⟨rfl, rfl, trivial⟩, trivial, trivial⟩ ?_
          refine dr_cons { need := [(41, .pv (.bool y23))], dst := some 6, val := some (.pv (.bool y23)) } (fun m h => step_on (guard_no rfl) (op_assign rfl h.1.1 rfl rfl) rfl) ⟨⟨rfl, trivial⟩, trivial, trivial⟩ ?_
          refine dr_nil Try_mixed rfl (by kernel_rfl) ?_
          refine post_imp (s' := ⟨42, [(6, some (.pv (.bool y23)))], [], 0, [], [], 0, []⟩) (imp_sub [] rfl (by decide) rfl rfl ⟨by kernel_rfl, trivial⟩ trivial rfl rfl rfl) ?_
          refine post_next ?_
          refine aw_ret ?_
          obtain rfl := Option.some.inj hF
          exact post_ret rfl rfl (.cons _ _ _ _ _ (.tmp _ _ rfl) (.p _) .nil) (.inl rfl)
        · refine dr_cons { need := [(39, .pv (.bool (y18 == y20)))], dst := some 40, val := some (.tup []) } (fun m h => step_off (guard_off rfl rfl rfl h.1.1 hb22) rfl rfl) ⟨⟨rfl, trivial⟩, trivial, trivial⟩ ?_
          refine dr_cons { need := [(39, .pv (.bool (y18 == y20)))], dst := some 41, val := some (.pv (.bool false)) } (fun m h => step_on (guard_no rfl) (op_pick_f rfl h.1.1 hb22 rfl rfl rfl) rfl) ⟨⟨rfl, trivial⟩, trivial, trivial⟩ ?_
          refine dr_cons law27_UnderIs_e493 (fun m h => step_on (guard_no rfl) (op_assign rfl h.1.1 rfl rfl) rfl) ⟨⟨rfl, trivial⟩, trivial, trivial⟩ ?_
          refine dr_nil Try_mixed rfl (by kernel_rfl) ?_
          refine post_imp (s' := ⟨42, [(6, some (.pv (.bool false)))], [], 0, [], [], 0, []⟩) (imp_sub [] rfl (by decide) rfl rfl ⟨by kernel_rfl, trivial⟩ trivial rfl rfl rfl) ?_
          refine post_next ?_
          refine aw_ret ?_
          obtain rfl := Option.some.inj hF
          exact post_ret rfl rfl (.cons _ _ _ _ _ (.tmp _ _ rfl) (.p _) .nil) (.inl rfl)
      · refine dr_cons { need := [(30, .pv (.bool (y13 == y15)))], dst := some 31, val := some (.tup []) } (fun m h => step_off (guard_off rfl rfl rfl h.1.1 hb17) rfl rfl) ⟨⟨rfl, trivial⟩, trivial, trivial⟩ ?_
        refine dr_cons { need := [(30, .pv (.bool (y13 == y15)))], dst := some 32, val := some (.tup []) } (fun m h => step_off (guard_off rfl rfl rfl h.1.1 hb17) rfl rfl) ⟨⟨rfl, trivial⟩, trivial, trivial⟩ ?_
        refine dr_cons { need := [(30, .pv (.bool (y13 == y15)))], dst := some 33, val := some (.tup []) } (fun m h => step_off (guard_off rfl rfl rfl h.1.1 hb17) rfl rfl) ⟨⟨rfl, trivial⟩, trivial, trivial⟩ ?_
        refine dr_cons { need := [(30, .pv (.bool (y13 == y15)))], dst := some 34, val := some (.tup []) } (fun m h => step_off (guard_off rfl rfl rfl h.1.1 hb17) rfl rfl) ⟨⟨rfl, trivial⟩, trivial, trivial⟩ ?_
        refine dr_cons { need := [(30, .pv (.bool (y13 == y15)))], dst := some 35, val := some (.tup []) } (fun m h => step_off (guard_off rfl rfl rfl h.1.1 hb17) rfl rfl) ⟨⟨rfl, trivial⟩, trivial, trivial⟩ ?_
        refine dr_cons { need := [(30, .pv (.bool (y13 == y15)))], dst := some 36, val := some (.tup []) } (fun m h => step_off (guard_off rfl rfl rfl h.1.1 hb17) rfl rfl) ⟨⟨rfl, trivial⟩, trivial, trivial⟩ ?_
        refine dr_cons { need := [(30, .pv (.bool (y13 == y15)))], dst := some 37, val := some (.tup []) } (fun m h => step_off (guard_off rfl rfl rfl h.1.1 hb17) rfl rfl) ⟨⟨rfl, trivial⟩, trivial, trivial⟩ ?_
        refine dr_cons { need := [(30, .pv (.bool (y13 == y15)))], dst := some 38, val := some (.pv (.bool false)) } (fun m h => step_on (guard_no rfl) (op_pick_f rfl h.1.1 hb17 rfl rfl rfl) rfl) ⟨⟨rfl, trivial⟩, trivial, trivial⟩ ?_
        refine dr_cons { need := [(38, .pv (.bool false))], dst := some 39, val := some (.pv (.bool false)) } (fun m h => step_on (guard_no rfl) (op_move rfl h.1.1 rfl rfl) rfl) ⟨⟨rfl, trivial⟩, trivial, trivial⟩ ?_
        refine dr_cons { need := [(39, .pv (.bool false))], dst := some 40, val := some (.tup []) } (fun m h => step_off (guard_off rfl rfl rfl h.1.1 rfl) rfl rfl) ⟨⟨rfl, trivial⟩, trivial, trivial⟩ ?_
        refine dr_cons { need := [(39, .pv (.bool false))], dst := some 41, val := some (.pv (.bool false)) } (fun m h => step_on (guard_no rfl) (op_pick_f rfl h.1.1 rfl rfl rfl rfl) rfl) ⟨⟨rfl, trivial⟩, trivial, trivial⟩ ?_
        refine dr_cons law27_UnderIs_e493 (fun m h => step_on (guard_no rfl) (op_assign rfl h.1.1 rfl rfl) rfl) ⟨⟨rfl, trivial⟩, trivial, trivial⟩ ?_
        refine dr_nil Try_mixed rfl (by kernel_rfl) ?_
        refine post_imp (s' := ⟨42, [(6, some (.pv (.bool false)))], [], 0, [], [], 0, []⟩) (imp_sub [] rfl (by decide) rfl rfl ⟨by kernel_rfl, trivial⟩ trivial rfl rfl rfl) ?_
        refine post_next ?_
        refine aw_ret ?_
        obtain rfl := Option.some.inj hF
        exact post_ret rfl rfl (.cons _ _ _ _ _ (.tmp _ _ rfl) (.p _) .nil) (.inl rfl)
    · refine dr_cons { need := [(19, .pv (.bool (y8 == y10)))], dst := some 20, val := some (.tup []) } (fun m h => step_off (guard_off rfl rfl rfl h.1.1 hb12) rfl rfl) ⟨⟨rfl, trivial⟩, trivial, trivial⟩ ?_
      refine dr_cons { need := [(19, .pv (.bool (y8 == y10)))], dst := some 21, val := some (.tup []) } (fun m h => step_off (guard_off rfl rfl rfl h.1.1 hb12) rfl rfl) ⟨⟨rfl, trivial⟩, trivial, trivial⟩ ?_
      refine dr_cons { need := [(19, .pv (.bool (y8 == y10)))], dst := some 22, val := some (.tup []) } (fun m h => step_off (guard_off rfl rfl rfl h.1.1 hb12) rfl rfl) ⟨⟨rfl, trivial⟩, trivial, trivial⟩ ?_
      refine dr_cons { need := [(19, .pv (.bool (y8 == y10)))], dst := some 23, val := some (.tup []) } (fun m h => step_off (guard_off rfl rfl rfl h.1.1 hb12) rfl rfl) ⟨⟨rfl, trivial⟩, trivial, trivial⟩ ?_
      refine dr_cons { need := [(19, .pv (.bool (y8 == y10)))], dst := some 24, val := some (.tup []) } (fun m h => step_off (guard_off rfl rfl rfl h.1.1 hb12) rfl rfl) ⟨⟨rfl, trivial⟩, trivial, trivial⟩ ?_
      refine dr_cons { need := [(19, .pv (.bool (y8 == y10)))], dst := some 25, val := some (.tup []) } (fun m h => step_off (guard_off rfl rfl rfl h.1.1 hb12) rfl rfl) ⟨⟨rfl, trivial⟩, trivial, trivial⟩ ?_
      refine dr_cons { need := [(19, .pv (.bool (y8 == y10)))], dst := some 26, val := some (.tup []) } (fun m h => step_off (guard_off rfl rfl rfl h.1.1 hb12) rfl rfl) ⟨⟨rfl, trivial⟩, trivial, trivial⟩ ?_
      refine dr_cons { need := [(19, .pv (.bool (y8 == y10)))], dst := some 27, val := some (.tup []) } (fun m h => step_off (guard_off rfl rfl rfl h.1.1 hb12) rfl rfl) ⟨⟨rfl, trivial⟩, trivial, trivial⟩ ?_
      refine dr_cons { need := [(19, .pv (.bool (y8 == y10)))], dst := some 28, val := some (.tup []) } (fun m h => step_off (guard_off rfl rfl rfl h.1.1 hb12) rfl rfl) ⟨⟨rfl, trivial⟩, trivial, trivial⟩ ?_
      refine dr_cons { need := [(19, .pv (.bool (y8 == y10)))], dst := some 29, val := some (.pv (.bool false)) } (fun m h => step_on (guard_no rfl) (op_pick_f rfl h.1.1 hb12 rfl rfl rfl) rfl) ⟨⟨rfl, trivial⟩, trivial, trivial⟩ ?_
      refine dr_cons { need := [(29, .pv (.bool false))], dst := some 30, val := some (.pv (.bool false)) } (fun m h => step_on (guard_no rfl) (op_move rfl h.1.1 rfl rfl) rfl) ⟨⟨rfl, trivial⟩, trivial, trivial⟩ ?_
      refine dr_cons { need := [(30, .pv (.bool false))], dst := some 31, val := some (.tup []) } (fun m h => step_off (guard_off rfl rfl rfl h.1.1 rfl) rfl rfl) ⟨⟨rfl, trivial⟩, trivial, trivial⟩ ?_
      refine dr_cons { need := [(30, .pv (.bool false))], dst := some 32, val := some (.tup []) } (fun m h => step_off (guard_off rfl rfl rfl h.1.1 rfl) rfl rfl) ⟨⟨rfl, trivial⟩, trivial, trivial⟩ ?_
      refine dr_cons { need := [(30, .pv (.bool false))], dst := some 33, val := some (.tup []) } (fun m h => step_off (guard_off rfl rfl rfl h.1.1 rfl) rfl rfl) ⟨⟨rfl, trivial⟩, trivial, trivial⟩ ?_
      refine dr_cons { need := [(30, .pv (.bool false))], dst := some 34, val := some (.tup []) } (fun m h => step_off (guard_off rfl rfl rfl h.1.1 rfl) rfl rfl) ⟨⟨rfl, trivial⟩, trivial, trivial⟩ ?_
      refine dr_cons { need := [(30, .pv (.bool false))], dst := some 35, val := some (.tup []) } (fun m h => step_off (guard_off rfl rfl rfl h.1.1 rfl) rfl rfl) ⟨⟨rfl, trivial⟩, trivial, trivial⟩ ?_
      refine dr_cons { need := [(30, .pv (.bool false))], dst := some 36, val := some (.tup []) } (fun m h => step_off (guard_off rfl rfl rfl h.1.1 rfl) rfl rfl) ⟨⟨rfl, trivial⟩, trivial, trivial⟩ ?_
      refine dr_cons { need := [(30, .pv (.bool false))], dst := some 37, val := some (.tup []) } (fun m h => step_off (guard_off rfl rfl rfl h.1.1 rfl) rfl rfl) ⟨⟨rfl, trivial⟩, trivial, trivial⟩ ?_
      refine dr_cons { need := [(30, .pv (.bool false))], dst := some 38, val := some (.pv (.bool false)) } (fun m h => step_on (guard_no rfl) (op_pick_f rfl h.1.1 rfl rfl rfl rfl) rfl) ⟨⟨rfl, trivial⟩, trivial, trivial⟩ ?_
      refine dr_cons { need := [(38, .pv (.bool false))], dst := some 39, val := some (.pv (.bool false)) } (fun m h => step_on (guard_no rfl) (op_move rfl h.1.1 rfl rfl) rfl) ⟨⟨rfl, trivial⟩, trivial, trivial⟩ ?_
      refine dr_cons { need := [(39, .pv (.bool false))], dst := some 40, val := some (.tup []) } (fun m h => step_off (guard_off rfl rfl rfl h.1.1 rfl) rfl rfl) ⟨⟨rfl, trivial⟩, trivial, trivial⟩ ?_
      refine dr_cons { need := [(39, .pv (.bool false))], dst := some 41, val := some (.pv (.bool false)) } (fun m h => step_on (guard_no rfl) (op_pick_f rfl h.1.1 rfl rfl rfl rfl) rfl) ⟨⟨rfl, trivial⟩, trivial, trivial⟩ ?_
      refine dr_cons law27_UnderIs_e493 (fun m h => step_on (guard_no rfl) (op_assign rfl h.1.1 rfl rfl) rfl) ⟨⟨rfl, trivial⟩, trivial, trivial⟩ ?_
      refine dr_nil Try_mixed rfl (by kernel_rfl) ?_
      refine post_imp (s' := ⟨42, [(6, some (.pv (.bool false)))], [], 0, [], [], 0, []⟩) (imp_sub [] rfl (by decide) rfl rfl ⟨by kernel_rfl, trivial⟩ trivial rfl rfl rfl) ?_
      refine post_next ?_
      refine aw_ret ?_
      obtain rfl := Option.some.inj hF
      exact post_ret rfl rfl (.cons _ _ _ _ _ (.tmp _ _ rfl) (.p _) .nil) (.inl rfl)
end Go.Proofs.Ytkfgkkbfipgklaa
