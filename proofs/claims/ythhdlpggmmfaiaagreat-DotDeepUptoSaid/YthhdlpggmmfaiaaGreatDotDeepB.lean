/- A part of the proof that the law DotDeep gives true for every input. -/
import Derived.Test.YthhdlpggmmfaiaaGreatDotDeepA3
import Derived.Test.YthhdlpggmmfaiaaGreatProg
/- The methods of strings.Builder. -/
namespace Go.Proofs.YthhdlpggmmfaiaaGreat
open Go.RowKit Go.Abs

section
open Go.Lib
set_option maxHeartbeats 2000000
set_option maxRecDepth 100000
theorem bld_size : (Tryz.prog.info? 113).map (·.size) = some 2 := by kernel_rfl
theorem bld_lies : liesAt Tryz.prog Tryz.prog.depth 113 (2 / Tryz.prog.cellsOf 113) 0 113 1 = true := by kernel_rfl
theorem bld_byte : (Tryz.prog.info? 5).map (fun i => (i.zero, i.size, i.bytes)) = some (some (.int .u8 0), 1, 1) := by kernel_rfl
theorem bld_cellsByte : Tryz.prog.cellsOf 5 = 1 := by kernel_rfl
theorem bld_cc_used (b : Nat) (w : World) (h0 : w.cell? ⟨b, 0, none⟩ = some (.pointer (some ⟨b, 0, none⟩))) :
    Calls Tryz.prog 77 #[.pointer (some ⟨b, 0, none⟩)] w fun e w' => e = .returned (.tuple #[]) ∧ w' = w := by
  obtain ⟨j, hj, _⟩ := Option.map_eq_some_iff.1 bld_size
  have mixed : Tryz.prog.follows .mixedOrders = true := by kernel_rfl
  have t113 := Tryz.underlying113; have a113 := Tryz.isAgg113; have z113 := Tryz.sizeOf113; have v113 := Tryz.zeroValue113; have u113 := run_underlying Tryz.underlying113
  have t110 := Tryz.underlying110; have a110 := Tryz.isAgg110; have z110 := Tryz.sizeOf110; have v110 := Tryz.zeroValue110; have u110 := run_underlying Tryz.underlying110
  have t9 := Tryz.underlying9; have a9 := Tryz.isAgg9; have z9 := Tryz.sizeOf9; have v9 := Tryz.zeroValue9; have u9 := run_underlying Tryz.underlying9
  have t4 := Tryz.underlying4; have a4 := Tryz.isAgg4; have z4 := Tryz.sizeOf4; have v4 := Tryz.zeroValue4; have u4 := run_underlying Tryz.underlying4
  have t195 := Tryz.underlying195; have a195 := Tryz.isAgg195; have z195 := Tryz.sizeOf195; have v195 := Tryz.zeroValue195; have u195 := run_underlying Tryz.underlying195
  go_enter Tryz.func77, Tryz.ntmps77
  go_wp2
  rw [Lib.run_neq_ptr_same w _ Tryz.underlying110 hj]
  go_wp2
  go_end0
  exact ⟨rfl, rfl⟩
theorem bld_cc_fresh (b : Nat) (w : World) (h0 : w.cell? ⟨b, 0, none⟩ = some (.pointer none)) (hsh : w.shape? b = some (113, 2)) (hfz : w.frozen? ⟨b, 0, none⟩ = false) :
    Calls Tryz.prog 77 #[.pointer (some ⟨b, 0, none⟩)] w fun e w' => e = .returned (.tuple #[]) ∧ w' = w.setCell ⟨b, 0, none⟩ (.pointer (some ⟨b, 0, none⟩)) := by
  obtain ⟨j, hj, hjs⟩ := Option.map_eq_some_iff.1 bld_size
  have mixed : Tryz.prog.follows .mixedOrders = true := by kernel_rfl
  have t113 := Tryz.underlying113; have a113 := Tryz.isAgg113; have z113 := Tryz.sizeOf113; have v113 := Tryz.zeroValue113; have u113 := run_underlying Tryz.underlying113
  have t110 := Tryz.underlying110; have a110 := Tryz.isAgg110; have z110 := Tryz.sizeOf110; have v110 := Tryz.zeroValue110; have u110 := run_underlying Tryz.underlying110
  have t9 := Tryz.underlying9; have a9 := Tryz.isAgg9; have z9 := Tryz.sizeOf9; have v9 := Tryz.zeroValue9; have u9 := run_underlying Tryz.underlying9
  have t4 := Tryz.underlying4; have a4 := Tryz.isAgg4; have z4 := Tryz.sizeOf4; have v4 := Tryz.zeroValue4; have u4 := run_underlying Tryz.underlying4
  have t195 := Tryz.underlying195; have a195 := Tryz.isAgg195; have z195 := Tryz.sizeOf195; have v195 := Tryz.zeroValue195; have u195 := run_underlying Tryz.underlying195
  go_enter Tryz.func77, Tryz.ntmps77
  go_wp2
  rw [Lib.run_to_unsafe w ⟨b, 0, none⟩ Tryz.underlying110 Tryz.underlying195 hj (by rw [hjs]; decide) hsh (Nat.zero_lt_succ 1)]
  simp only [Result.andThen]
  rw [Oper.upon_value]
  go_wp2
  rw [run_callFunc_extern Tryz.func108 (by kernel_rfl) (by kernel_rfl) (by kernel_rfl) (e := Extern.AbiNoEscape.same) (by kernel_rfl)]
  rw [Lib.run_noEscape]
  simp only [Result.andThen]
  rw [Oper.upon_value]
  go_wp2
  rw [Lib.run_from_unsafe w ⟨b, 0, none⟩ Tryz.underlying195 Tryz.underlying110 hj hsh bld_lies]
  simp only [Result.andThen]
  rw [Oper.upon_value]
  go_wp2
  go_end0
  exact ⟨rfl, rfl⟩
theorem bld_cc {b : Nat} {p v : Value} {w : World} (hbk : w.heap[b]? = some (.cells #[p, v] 113 (0, 0))) (hp : p = .pointer none ∨ p = .pointer (some ⟨b, 0, none⟩)) :
    Calls Tryz.prog 77 #[.pointer (some ⟨b, 0, none⟩)] w fun e w' => e = .returned (.tuple #[]) ∧ w'.heap[b]? = some (.cells #[.pointer (some ⟨b, 0, none⟩), v] 113 (0, 0)) ∧ w.grownBy w' (some b) := by
  rcases hp with rfl | rfl
  · refine (bld_cc_fresh b w (by rw [Lib.cell_of_heap hbk]; rfl) (by simp [World.shape?, hbk]) (by simp [World.frozen?, hbk])).mono ?_
    rintro e w' ⟨rfl, rfl⟩
    exact ⟨rfl, setCell_at0 hbk, setCell_grown w b 0 _⟩
  · refine (bld_cc_used b w (by rw [Lib.cell_of_heap hbk]; rfl)).mono ?_
    rintro e w' ⟨rfl, rfl⟩
    exact ⟨rfl, hbk, World.grownBy.refl _ _⟩
theorem bld_ws {b n : Nat} {p v : Value} {xs : List Value} (s : ByteArray) {w : World} (hbk : w.heap[b]? = some (.cells #[p, v] 113 (0, 0))) (hp : p = .pointer none ∨ p = .pointer (some ⟨b, 0, none⟩)) (hown : ownsW w 5 1 v n xs) (hlen : n + s.size ≤ 140737488355328) :
    Calls Tryz.prog 47 #[.pointer (some ⟨b, 0, none⟩), .string s] w fun e w' => e = .returned (.tuple #[.int .i64 s.size, .nilIface]) ∧ ∃ v', w'.heap[b]? = some (.cells #[.pointer (some ⟨b, 0, none⟩), v'] 113 (0, 0)) ∧ ownsW w' 5 1 v' (n + s.size) (xs ++ Lib.strCells s) ∧
      (blkOf v' = blkOf v ∨ ∃ g, blkOf v' = some g ∧ w.heap.size ≤ g) ∧ BldFr b v w w' := by
  obtain ⟨i0, hi, hz0, hz1, hz2⟩ := info_parts bld_byte
  have mixed : Tryz.prog.follows .mixedOrders = true := by kernel_rfl
  have t113 := Tryz.underlying113; have a113 := Tryz.isAgg113; have z113 := Tryz.sizeOf113; have v113 := Tryz.zeroValue113; have u113 := run_underlying Tryz.underlying113
  have t110 := Tryz.underlying110; have a110 := Tryz.isAgg110; have z110 := Tryz.sizeOf110; have v110 := Tryz.zeroValue110; have u110 := run_underlying Tryz.underlying110
  have t111 := Tryz.underlying111; have a111 := Tryz.isAgg111; have z111 := Tryz.sizeOf111; have v111 := Tryz.zeroValue111; have u111 := run_underlying Tryz.underlying111
  have t3 := Tryz.underlying3; have a3 := Tryz.isAgg3; have z3 := Tryz.sizeOf3; have v3 := Tryz.zeroValue3; have u3 := run_underlying Tryz.underlying3
  have t9 := Tryz.underlying9; have a9 := Tryz.isAgg9; have z9 := Tryz.sizeOf9; have v9 := Tryz.zeroValue9; have u9 := run_underlying Tryz.underlying9
  have t4 := Tryz.underlying4; have a4 := Tryz.isAgg4; have z4 := Tryz.sizeOf4; have v4 := Tryz.zeroValue4; have u4 := run_underlying Tryz.underlying4
  have t195 := Tryz.underlying195; have a195 := Tryz.isAgg195; have z195 := Tryz.sizeOf195; have v195 := Tryz.zeroValue195; have u195 := run_underlying Tryz.underlying195
  have t5 := Tryz.underlying5; have a5 := Tryz.isAgg5; have z5 := Tryz.sizeOf5; have v5 := Tryz.zeroValue5; have u5 := run_underlying Tryz.underlying5
  have hlt0 : b < w.heap.size := (Array.getElem?_eq_some_iff.1 hbk).1
  have hneb : blkOf v ≠ some b := ownsW_ne hown hbk (by decide)
  have e52 : ∀ args w, (callFunc 77 args).run Tryz.prog w = .ok (.enter 77 args) w := enters_of Tryz.func77 (by kernel_rfl) rfl
  go_enter Tryz.func47, Tryz.ntmps47
  go_wp2_with (go_at_fn 77; refine (bld_cc hbk hp).mono ?_)
  rintro e w1 ⟨rfl, hb1, hg1⟩
  have hown1 : ownsW w1 5 1 v n xs := hown.kept hg1 fun g hg h => hneb (by rw [hg]; exact h)
  have c0 : w1.cell? ⟨b, 0, none⟩ = some (.pointer (some ⟨b, 0, none⟩)) := by rw [Lib.cell_of_heap hb1]; rfl
  have c1 : w1.cell? ⟨b, 1, none⟩ = some v := by rw [Lib.cell_of_heap hb1]; rfl
  go_wp2_with (at_builtin; refine wpList_append_strW rfl _ _ 111 9 rfl 5 i0 Tryz.underlying111 Tryz.underlying9 hi hz0 hz1 hz2 _ _ _ rfl hown1 s rfl hlen ?_)
  intro v' w2 hown' hgrow hblk
  have hlt : b < w1.heap.size := by have := hg1.size; omega
  have hb2 : w2.heap[b]? = some (.cells #[.pointer (some ⟨b, 0, none⟩), v] 113 (0, 0)) := by
    rw [hgrow.block b hlt (fun e => hneb e.symm)]
    exact hb1
  have d0 : w2.cell? ⟨b, 0, none⟩ = some (.pointer (some ⟨b, 0, none⟩)) := by rw [Lib.cell_of_heap hb2]; rfl
  have d1 : w2.cell? ⟨b, 1, none⟩ = some v := by rw [Lib.cell_of_heap hb2]; rfl
  have f1 : w2.frozen? ⟨b, 1, none⟩ = false := Lib.frozen_of_heap hb2 1
  have hne' : blkOf v' ≠ some b := ownsW_ne hown' hb2 (by decide)
  obtain ⟨ao, n', cap, rfl⟩ : ∃ ao n' cap, v' = .slice ao n' cap := by
    rcases hown'.2 with ⟨hv, _⟩ | ⟨g, cap, cur, hv, _⟩
    · exact ⟨_, _, _, hv⟩
    · exact ⟨_, _, _, hv⟩
  go_wp2
  go_ret2
  have hs3 := setCell_grown w2 b 1 (.slice ao n' cap)
  refine ⟨rfl, _, setCell_at (j := 0) hb2, hown'.kept hs3 fun g hg h => hne' (by rw [hg]; exact h), ?_, ?_⟩
  · rcases hblk with h | h
    · exact .inl h
    · exact .inr ⟨_, h, hg1.size⟩
  · refine ⟨(hs3.os.trans hgrow.os).trans hg1.os, (hs3.tape.trans hgrow.tape).trans hg1.tape, (hs3.output.trans hgrow.output).trans hg1.output, Nat.le_trans (Nat.le_trans hg1.size hgrow.size) hs3.size, fun k hk h1 h2 => ?_⟩
    have k1 : k < w1.heap.size := by have := hg1.size; omega
    have k2 : k < w2.heap.size := by have := hgrow.size; omega
    rw [hs3.block k k2 (by simpa using h1), hgrow.block k k1 (fun e => h2 e.symm), hg1.block k hk (by simpa using h1)]
theorem bld_st {b : Nat} {p v : Value} (l : List UInt8) {w : World} (hbk : w.heap[b]? = some (.cells #[p, v] 113 (0, 0))) (hown : ownsW w 5 1 v l.length (Lib.byteCells l)) :
    Calls Tryz.prog 50 #[.pointer (some ⟨b, 0, none⟩)] w fun e w' => e = .returned (.string ⟨l.toArray⟩) ∧ BldFr b v w w' := by
  have hlt : b < w.heap.size := (Array.getElem?_eq_some_iff.1 hbk).1
  have mixed : Tryz.prog.follows .mixedOrders = true := by kernel_rfl
  have t113 := Tryz.underlying113; have a113 := Tryz.isAgg113; have z113 := Tryz.sizeOf113; have v113 := Tryz.zeroValue113; have u113 := run_underlying Tryz.underlying113
  have t110 := Tryz.underlying110; have a110 := Tryz.isAgg110; have z110 := Tryz.sizeOf110; have v110 := Tryz.zeroValue110; have u110 := run_underlying Tryz.underlying110
  have t111 := Tryz.underlying111; have a111 := Tryz.isAgg111; have z111 := Tryz.sizeOf111; have v111 := Tryz.zeroValue111; have u111 := run_underlying Tryz.underlying111
  have t166 := Tryz.underlying166; have a166 := Tryz.isAgg166; have z166 := Tryz.sizeOf166; have v166 := Tryz.zeroValue166; have u166 := run_underlying Tryz.underlying166
  have t3 := Tryz.underlying3; have a3 := Tryz.isAgg3; have z3 := Tryz.sizeOf3; have v3 := Tryz.zeroValue3; have u3 := run_underlying Tryz.underlying3
  have t9 := Tryz.underlying9; have a9 := Tryz.isAgg9; have z9 := Tryz.sizeOf9; have v9 := Tryz.zeroValue9; have u9 := run_underlying Tryz.underlying9
  have t5 := Tryz.underlying5; have a5 := Tryz.isAgg5; have z5 := Tryz.sizeOf5; have v5 := Tryz.zeroValue5; have u5 := run_underlying Tryz.underlying5
  have hUS0 : ∀ (W : World) (q : Option Addr), (Builtin.unsafeString_ #[166, 3] 9 #[.pointer q, .int .i64 0]).run Tryz.prog W = .ok (.string .empty) W := fun W q => Lib.run_unsafeString_none W _ _ _ q
  by_cases h0 : l = []
  · subst h0
    rcases hown.2 with ⟨rfl, _⟩ | ⟨g, cap, cur, rfl, _, hg, hnc, hcm, hcs, htake⟩
    · have c1 : w.drew.cell? ⟨b, 1, none⟩ = some (.slice none 0 0) := by
        have : w.drew.heap[b]? = some (.cells #[p, .slice none 0 0] 113 (0, 0)) := hbk
        rw [Lib.cell_of_heap this]; rfl
      have hSD : (Builtin.unsafeSliceData_ #[111] 166 #[.slice none 0 0]).run Tryz.prog w.drew = .ok (.pointer none) w.drew := rfl
      have hUS := hUS0 w.drew none
      go_enter Tryz.func50, Tryz.ntmps50
      go_wp2
      go_region_o
      all_goals (go_wp2; go_ret; exact ⟨rfl, ⟨rfl, rfl, rfl, Nat.le_refl _, fun _ _ _ _ => rfl⟩⟩)
    · simp only [List.length_nil] at *
      by_cases hc0 : cap = 0
      · subst hc0
        have c1 : w.drew.cell? ⟨b, 1, none⟩ = some (.slice (some ⟨g, 0, none⟩) 0 0) := by
          have : w.drew.heap[b]? = some (.cells #[p, .slice (some ⟨g, 0, none⟩) 0 0] 113 (0, 0)) := hbk
          rw [Lib.cell_of_heap this]; rfl
        have hSD : (Builtin.unsafeSliceData_ #[111] 166 #[.slice (some ⟨g, 0, none⟩) 0 0]).run Tryz.prog w.drew = .ok (.pointer (some ⟨w.drew.heap.size, 0, none⟩)) (w.drew.alloc (.view ⟨g, 0, none⟩ 5)) :=
          Lib.run_unsafeSliceData_zero w.drew _ _ 5 Tryz.underlying166 ⟨g, 0, none⟩ 0 (5, cur.size) (by have hg' : w.drew.heap[g]? = some (.cells cur 5 (0, 0)) := hg; simp [World.shape?, hg'])
        have c2 : (w.drew.alloc (.view ⟨g, 0, none⟩ 5)).cell? ⟨b, 1, none⟩ = some (.slice (some ⟨g, 0, none⟩) 0 0) := by
          have : (w.drew.alloc (.view ⟨g, 0, none⟩ 5)).heap[b]? = _ := (Lib.alloc_old w.drew _ b hlt).trans hbk
          rw [Lib.cell_of_heap this]; rfl
        have c3 : (w.alloc (.view ⟨g, 0, none⟩ 5)).drew.cell? ⟨b, 1, none⟩ = some (.slice (some ⟨g, 0, none⟩) 0 0) := c2
        have c0 : w.cell? ⟨b, 1, none⟩ = some (.slice (some ⟨g, 0, none⟩) 0 0) := c1
        have hUS := hUS0
        go_enter Tryz.func50, Tryz.ntmps50
        go_wp2
        go_region_o
        all_goals (go_wp2; go_ret; exact ⟨rfl, by first | exact bldFr_alloc _ _ _ _ | exact bldFr_alloc' _ _ _ _⟩)
      · have c1 : w.drew.cell? ⟨b, 1, none⟩ = some (.slice (some ⟨g, 0, none⟩) 0 cap) := by
          have : w.drew.heap[b]? = some (.cells #[p, .slice (some ⟨g, 0, none⟩) 0 cap] 113 (0, 0)) := hbk
          rw [Lib.cell_of_heap this]; rfl
        have hSD : (Builtin.unsafeSliceData_ #[111] 166 #[.slice (some ⟨g, 0, none⟩) 0 cap]).run Tryz.prog w.drew = .ok (.pointer (some ⟨g, 0, none⟩)) w.drew :=
          Lib.run_unsafeSliceData_row _ _ _ _ _ _ hc0
        have hUS := hUS0 w.drew (some ⟨g, 0, none⟩)
        clear hc0
        go_enter Tryz.func50, Tryz.ntmps50
        go_wp2
        go_region_o
        all_goals (go_wp2; go_ret; exact ⟨rfl, ⟨rfl, rfl, rfl, Nat.le_refl _, fun _ _ _ _ => rfl⟩⟩)
  · have hl0 : l.length ≠ 0 := by simpa using h0
    obtain ⟨g, cap, cur, rfl, hg, hnc, hcm, hcs, htake⟩ : ∃ g cap cur, v = .slice (some ⟨g, 0, none⟩) l.length cap ∧ w.heap[g]? = some (.cells cur 5 (0, 0)) ∧ l.length ≤ cap ∧ cap ≤ maxLen ∧ cap * 1 ≤ cur.size ∧ cur.toList.take (l.length * 1) = Lib.byteCells l := by
      rcases hown.2 with ⟨_, hz⟩ | ⟨g, cap, cur, hv, _, r⟩
      · exact absurd hz hl0
      · exact ⟨g, cap, cur, hv, r⟩
    have c1 : w.drew.cell? ⟨b, 1, none⟩ = some (.slice (some ⟨g, 0, none⟩) l.length cap) := by
      have : w.drew.heap[b]? = some (.cells #[p, .slice (some ⟨g, 0, none⟩) l.length cap] 113 (0, 0)) := hbk
      rw [Lib.cell_of_heap this]; rfl
    have hSD : (Builtin.unsafeSliceData_ #[111] 166 #[.slice (some ⟨g, 0, none⟩) l.length cap]).run Tryz.prog w.drew = .ok (.pointer (some ⟨g, 0, none⟩)) w.drew :=
      Lib.run_unsafeSliceData_row _ _ _ _ _ _ (by omega)
    have hUS : (Builtin.unsafeString_ #[166, 3] 9 #[.pointer (some ⟨g, 0, none⟩), .int .i64 l.length]).run Tryz.prog w.drew = .ok (.string ⟨l.toArray⟩) (w.drew.freeze ⟨g, 0, none⟩ l.length) := by
      refine Lib.run_unsafeString_row w.drew 166 3 9 5 Tryz.underlying166 bld_cellsByte g cur.size (by have hg' : w.drew.heap[g]? = some (.cells cur 5 (0, 0)) := hg; simp [World.shape?, hg']) l h0 (by omega) (by unfold maxLen at hcm; omega) ?_
      intro j x hx
      exact hown.cells (g := g) rfl j (.int .u8 x.toNat) (by simp [Lib.byteCells, hx])
    go_enter Tryz.func50, Tryz.ntmps50
    go_wp2
    go_region_o
    all_goals (go_wp2; go_ret; exact ⟨rfl, bldFr_freeze _ _ _ rfl⟩)
theorem bldW_ok {G : List (Nat × List PV)} {x : List Int} {s : List UInt8} {u : Unit} (h : room ((x.length : Int) + (s.length : Int)) 1 = some u) : FnW G Tryz.prog 47 [.lp 0 0, .pv (.str s)] [(0, some (.box 113 [.bp 0, .ls 1])), (1, some (.row 5 1 (x.map fun b => [PV.int .u8 b])))] 2 [(0, 0)]
    [.pv (.int .i64 (s.length : Int)), .pv .nili] [(0, some (.box 113 [.bp 0, .ls 1])), (1, some (.row 5 1 ((x ++ bytesL s).map fun b => [PV.int .u8 b])))] 2 := by
  have hl : (bytesL s).length = s.length := by simp [bytesL]
  have hr := room_spec h
  have hc : Lib.strCells ⟨s.toArray⟩ = (bytesL s).map (.int .u8) := by simp [Lib.strCells, bytesL]
  have hz : (⟨s.toArray⟩ : ByteArray).size = s.length := by simp [ByteArray.size]
  refine fnW_bld (by decide) (.pv (.str s)) (.string ⟨s.toArray⟩) (fun w O θ v hv => ?_) (bytesL s) _ (.tuple #[.int .i64 (s.length : Int), .nilIface]) (fun w O θ => ?_) (fun b n p v xs w h1 h2 h3 h4 => ?_) (by rw [hl]; omega)
  · cases hv with
    | pv _ _ hv => exact rd_str hv
  · refine .tup _ _ rfl fun i c u hc hu => ?_
    match i, hc, hu with
    | 0, hc, hu => cases hc; cases hu; exact .pv _ _ (.int _ _)
    | 1, hc, hu => cases hc; cases hu; exact .pv _ _ .nili
  · have := bld_ws ⟨s.toArray⟩ h1 h2 h3 (by rw [hz, ← hl]; exact h4)
    rw [hz, hc] at this
    rw [hl]
    exact this
theorem bldS_ok {G : List (Nat × List PV)} {x : List Int} {s : List UInt8} (h : strB x = some s) : FnW G Tryz.prog 50 [.lp 0 0] [(0, some (.box 113 [.bp 0, .ls 1])), (1, some (.row 5 1 (x.map fun b => [PV.int .u8 b])))] 2 [] [.pv (.str s)] [] 0 :=
  fnW_bst (fun b p v l w h1 h2 => bld_st l h1 h2) h
end
end Go.Proofs.YthhdlpggmmfaiaaGreat
