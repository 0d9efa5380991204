/- A part of the proof that the law PureAll gives true for every input. -/
import Derived.Test.YtiefoagopfeibaaGreatPureAllA4
import Derived.Shelf.SlicesG.Cmp
import Derived.StillTailTactics
import Derived.Test.YtiefoagopfeibaaGreatProg
/- slices.SortFunc at this seat. -/
namespace Go.Proofs
open Go.Shelf
def Tryz.sortQ_ren : Go.Shelf.Ren := ⟨fun | 6 => 28 | 15 => 56 | 14 => 55 | 28 => 108 | 29 => 109 | 20 => 100 | 21 => 101 | 22 => 102 | 23 => 103 | 24 => 104 | 25 => 105 | 26 => 106 | 27 => 107 | 46 => 141 | 47 => 142 | 48 => 143 | 49 => 144 | 50 => 145 | 57 => 170 | n => n, fun | 22 => 57 | 24 => 59 | 25 => 87 | 3 => 3 | 39 => 130 | 0 => 0 | 53 => 170 | 55 => 172 | 4 => 4 | 46 => 164 | 45 => 163 | 50 => 143 | 5 => 5 | 9 => 9 | 66 => 198 | 70 => 202 | 76 => 225 | 77 => 226 | n => n, fun | n => n⟩
theorem Tryz.sortQ : Go.Proofs.SlLaysF0.n6 Tryz.prog Tryz.sortQ_ren := {
  mixed := by kernel_rfl
  f6 := ⟨Tryz.f28.name, by decide, Tryz.func28.trans (congrArg some (by kernel_rfl))⟩
  f14 := ⟨Tryz.f55.name, by decide, Tryz.func55.trans (congrArg some (by kernel_rfl))⟩
  f15 := Tryz.func56.trans (congrArg some (by kernel_rfl))
  f20 := ⟨Tryz.f100.name, by decide, Tryz.func100.trans (congrArg some (by kernel_rfl))⟩
  f21 := ⟨Tryz.f101.name, by decide, Tryz.func101.trans (congrArg some (by kernel_rfl))⟩
  f22 := ⟨Tryz.f102.name, by decide, Tryz.func102.trans (congrArg some (by kernel_rfl))⟩
  f23 := ⟨Tryz.f103.name, by decide, Tryz.func103.trans (congrArg some (by kernel_rfl))⟩
  f24 := ⟨Tryz.f104.name, by decide, Tryz.func104.trans (congrArg some (by kernel_rfl))⟩
  f25 := ⟨Tryz.f105.name, by decide, Tryz.func105.trans (congrArg some (by kernel_rfl))⟩
  f26 := ⟨Tryz.f106.name, by decide, Tryz.func106.trans (congrArg some (by kernel_rfl))⟩
  f27 := ⟨Tryz.f107.name, by decide, Tryz.func107.trans (congrArg some (by kernel_rfl))⟩
  f28 := Tryz.func108.trans (congrArg some (by kernel_rfl))
  f29 := Tryz.func109.trans (congrArg some (by kernel_rfl))
  f46 := ⟨Tryz.f141.name, by decide, Tryz.func141.trans (congrArg some (by kernel_rfl))⟩
  f47 := Tryz.func142.trans (congrArg some (by kernel_rfl))
  f48 := Tryz.func143.trans (congrArg some (by kernel_rfl))
  f49 := ⟨Tryz.f144.name, by decide, Tryz.func144.trans (congrArg some (by kernel_rfl))⟩
  f50 := ⟨Tryz.f145.name, by decide, Tryz.func145.trans (congrArg some (by kernel_rfl))⟩
  f57 := ⟨Tryz.f170.name, by decide, Tryz.func170.trans (congrArg some (by kernel_rfl))⟩
  t0 := Tryz.underlying0
  a0 := Tryz.isAgg0
  z0 := Tryz.sizeOf0
  v0 := Tryz.zeroValue0
  t3 := Tryz.underlying3
  a3 := Tryz.isAgg3
  z3 := Tryz.sizeOf3
  v3 := Tryz.zeroValue3
  t4 := Tryz.underlying4
  a4 := Tryz.isAgg4
  z4 := Tryz.sizeOf4
  v4 := Tryz.zeroValue4
  t5 := Tryz.underlying5
  a5 := Tryz.isAgg5
  z5 := Tryz.sizeOf5
  v5 := Tryz.zeroValue5
  t9 := Tryz.underlying9
  a9 := Tryz.isAgg9
  z9 := Tryz.sizeOf9
  v9 := Tryz.zeroValue9
  t22 := Tryz.underlying57
  a22 := Tryz.isAgg57
  z22 := Tryz.sizeOf57
  v22 := Tryz.zeroValue57
  t25 := Tryz.underlying87
  a25 := Tryz.isAgg87
  z25 := Tryz.sizeOf87
  v25 := Tryz.zeroValue87
  t39 := Tryz.underlying130
  a39 := Tryz.isAgg130
  z39 := Tryz.sizeOf130
  v39 := Tryz.zeroValue130
  t45 := Tryz.underlying163
  a45 := Tryz.isAgg163
  z45 := Tryz.sizeOf163
  v45 := Tryz.zeroValue163
  t46 := Tryz.underlying164
  a46 := Tryz.isAgg164
  z46 := Tryz.sizeOf164
  v46 := Tryz.zeroValue164
  t50 := Tryz.underlying143
  a50 := Tryz.isAgg143
  z50 := Tryz.sizeOf143
  v50 := Tryz.zeroValue143
  t53 := Tryz.underlying170
  a53 := Tryz.isAgg170
  z53 := Tryz.sizeOf170
  v53 := Tryz.zeroValue170
  t55 := Tryz.underlying172
  a55 := Tryz.isAgg172
  z55 := Tryz.sizeOf172
  v55 := Tryz.zeroValue172
  t66 := Tryz.underlying198
  a66 := Tryz.isAgg198
  z66 := Tryz.sizeOf198
  v66 := Tryz.zeroValue198
  t70 := Tryz.underlying202
  a70 := Tryz.isAgg202
  z70 := Tryz.sizeOf202
  v70 := Tryz.zeroValue202
  t76 := Tryz.underlying225
  a76 := Tryz.isAgg225
  z76 := Tryz.sizeOf225
  v76 := Tryz.zeroValue225
  t77 := Tryz.underlying226
  a77 := Tryz.isAgg226
  z77 := Tryz.sizeOf226
  v77 := Tryz.zeroValue226 }
def Tryz.cmpInt_ren : Go.Shelf.Ren := ⟨fun | 5 => 31 | 7 => 57 | n => n, fun | 22 => 3 | 3 => 3 | 4 => 4 | n => n, fun | n => n⟩
theorem Tryz.cmpInt : Go.Proofs.SlLaysC2.n5 Tryz.prog Tryz.cmpInt_ren := {
  mixed := by kernel_rfl
  f5 := ⟨Tryz.f31.name, by decide, Tryz.func31.trans (congrArg some (by kernel_rfl))⟩
  f7 := ⟨Tryz.f57.name, by decide, Tryz.func57.trans (congrArg some (by kernel_rfl))⟩
  t3 := Tryz.underlying3
  a3 := Tryz.isAgg3
  z3 := Tryz.sizeOf3
  v3 := Tryz.zeroValue3
  t4 := Tryz.underlying4
  a4 := Tryz.isAgg4
  z4 := Tryz.sizeOf4
  v4 := Tryz.zeroValue4
  t22 := Tryz.underlying3
  a22 := Tryz.isAgg3
  z22 := Tryz.sizeOf3
  v22 := Tryz.zeroValue3 }
end Go.Proofs
namespace Go.Proofs.YtiefoagopfeibaaGreat
open Go.Shelf Go.RowKit Go.Lib Go.Sort Go.Abs
set_option maxHeartbeats 4000000
set_option maxRecDepth 100000
theorem Ss (a b : Int) (g : Nat) (W : World) (h0 : W.cell? ⟨g, 0, none⟩ = some (.int .i64 a)) (h1 : W.cell? ⟨g, 1, none⟩ = some (.int .i64 b)) :
    Calls Tryz.prog 30 #[.slice (some ⟨g, 0, none⟩) 2 2] W fun e w' => e = .returned (.int .i64 (if a ≠ 0 then a else b)) ∧ w' = W := by
  go_enter Tryz.func30, Tryz.ntmps30
  go_wp2
  refine wp_loop_rounds 3 ?_
  rw [rounds_succ]
  by_cases ha : a = 0
  · subst ha
    go_wp2
    rw [rounds_succ]
    by_cases hb : b = 0
    · subst hb
      go_wp2
      rw [rounds_succ]
      go_wp2
      go_ret
      exact ⟨rfl, rfl⟩
    · go_wp2
      go_ret
      simp [hb]
  · go_wp2
    go_ret
    simp [ha]

theorem EZ (W : World) (o2 : Obj) (cs : Array Value) (e : TypeId) (j : Nat) : ((W.alloc (.cells cs e)).alloc o2).cell? ⟨W.heap.size, j, none⟩ = cs[j]? := by
  have : ((W.alloc (.cells cs e)).alloc o2).heap[W.heap.size]? = some (.cells cs e) := by
    show ((W.heap.push (.cells cs e)).push o2)[W.heap.size]? = _
    rw [Array.getElem?_push_lt (by simp), Array.getElem_push_eq]
  unfold World.cell?
  simp only [this]
  rfl
theorem Cu (W : World) (o1 : Obj) (cs : Array Value) (e : TypeId) (j : Nat) : ((W.alloc o1).alloc (.cells cs e)).cell? ⟨W.heap.size + 1, j, none⟩ = cs[j]? := by
  have : ((W.alloc o1).alloc (.cells cs e)).heap[W.heap.size + 1]? = some (.cells cs e) := by
    show ((W.heap.push o1).push (.cells cs e))[W.heap.size + 1]? = _
    have h : (W.heap.push o1).size = W.heap.size + 1 := by simp
    rw [← h, Array.getElem?_push_size]
  unfold World.cell?
  simp only [this]
  rfl
theorem ED (W : World) (cs : Array Value) (e : TypeId) (j : Nat) : (W.alloc (.cells cs e)).cell? ⟨W.heap.size, j, none⟩ = cs[j]? := by
  have : (W.alloc (.cells cs e)).heap[W.heap.size]? = some (.cells cs e) := by
    show (W.heap.push (.cells cs e))[W.heap.size]? = _
    rw [Array.getElem?_push_size]
  unfold World.cell?
  simp only [this]
  rfl
theorem Nu (W : World) (o1 o2 o3 : Obj) : ∃ q os', ((((W.alloc o1).alloc o2).drew).alloc o3) = grow (W.drewN q) os' :=
  ⟨1, #[o1, o2, o3], by
    rw [alloc_eq_grow, alloc_eq_grow, alloc_eq_grow, grow_grow]
    show grow (grow (W.drewN 1) _) _ = _
    rw [grow_grow]
    rfl⟩
theorem Qc (x y : A2 Int) (W : World) : Calls Tryz.prog 29 #[.agg #[.int .i64 x.a0, .int .i64 x.a1], .agg #[.int .i64 y.a0, .int .i64 y.a1]] W fun e w' => e = .returned (.int .i64 (Abs.cfP x y)) ∧ ∃ q os', w' = grow (W.drewN q) os' := by
  have hc := fun (p q : Int) W' => AnyG.cmp_Compare_int Tryz.cmpInt p q W'
  change ∀ p q W', Calls Tryz.prog 31 _ _ _ at hc
  obtain ⟨orf, hor, hcf⟩ : ∃ orf : Int → Int → Int, (∀ (a b : Int) (g : Nat) (W : World) (_ : W.cell? ⟨g, 0, none⟩ = some (.int .i64 a)) (_ : W.cell? ⟨g, 1, none⟩ = some (.int .i64 b)),
    Calls Tryz.prog 30 #[.slice (some ⟨g, 0, none⟩) 2 2] W fun e w' => e = .returned (.int .i64 (orf a b)) ∧ w' = W) ∧ Abs.cfP x y = orf (Lib.compareInt x.a0 y.a0) (Lib.compareInt x.a1 y.a1) := ⟨fun a b => if a ≠ 0 then a else b, Ss, rfl⟩
  rw [hcf]
  clear hcf
  generalize Lib.compareInt = cmpf at hc ⊢
  have hmix : Tryz.prog.follows .mixedOrders = true := by kernel_rfl
  have hgrow := Nu W (.cells #[.int .i64 x.a0, .int .i64 x.a1] 59) (.cells #[.int .i64 y.a0, .int .i64 y.a1] 59)
  have a0 := EZ W (.cells #[.int .i64 y.a0, .int .i64 y.a1] 59) #[.int .i64 x.a0, .int .i64 x.a1] 59 0
  have a1 := EZ W (.cells #[.int .i64 y.a0, .int .i64 y.a1] 59) #[.int .i64 x.a0, .int .i64 x.a1] 59 1
  have b0 := Cu W (.cells #[.int .i64 x.a0, .int .i64 x.a1] 59) #[.int .i64 y.a0, .int .i64 y.a1] 59 0
  have b1 := Cu W (.cells #[.int .i64 x.a0, .int .i64 x.a1] 59) #[.int .i64 y.a0, .int .i64 y.a1] 59 1
  generalize x.a0 = xa at *
  generalize x.a1 = xb at *
  generalize y.a0 = ya at *
  generalize y.a1 = yb at *
  change _ = some (Value.int .i64 xa) at a0
  change _ = some (Value.int .i64 xb) at a1
  change _ = some (Value.int .i64 ya) at b0
  change _ = some (Value.int .i64 yb) at b1
  go_enter Tryz.func29, Tryz.ntmps29
  go_wp2
  generalize (W.alloc (.cells #[.int .i64 xa, .int .i64 xb] 59)).alloc (.cells #[.int .i64 ya, .int .i64 yb] 59) = W2 at *
  refine wp_region_still_tail 10 hmix (by kernel_rfl) ?_
  change wpStill _ _ (World.drew W2) _ _ _
  have a0' : (World.drew W2).cell? ⟨W.heap.size, 0, none⟩ = _ := a0
  have a1' : (World.drew W2).cell? ⟨W.heap.size, 1, none⟩ = _ := a1
  have b0' : (World.drew W2).cell? ⟨W.heap.size + 1, 0, none⟩ = _ := b0
  have b1' : (World.drew W2).cell? ⟨W.heap.size + 1, 1, none⟩ = _ := b1
  clear a0 a1 b0 b1
  generalize hW3 : World.drew W2 = W3 at *
  generalize W.heap.size = n0 at *
  simp only [List.take_succ_cons, List.take_zero, List.drop_succ_cons, List.drop_zero]
  iterate 4 still_step
  still_call (hc _ _ _)
  iterate 4 still_step
  still_call (hc _ _ _)
  refine wpStill_nil ?_
  change wpList _ _ _ _ _ (World.drew W2)
  rw [hW3]
  clear hW3
  go_wp2_with (go_at_call 30; refine (hor _ _ _ _ ((ED _ _ _ 0).trans rfl) ((ED _ _ _ 1).trans rfl)).mono ?_; rintro e w' ⟨rfl, rfl⟩)
  go_ret
  exact ⟨rfl, hgrow _⟩
theorem Rj {G : List (Nat × List PV)} {x r : List (A2 Int)} (h : sV x = some r) : Abs.FnW G Tryz.prog 28 [.ls 0, .pv (.fn 29 [])] [(0, some (.row 59 2 (List.map (eA2 eI) x)))] 1 [(0, 0)] [] [(0, some (.row 59 2 (List.map (eA2 eI) r)))] 1 := by
  have eg : ∀ args w, (callFunc 29 args).run Tryz.prog w = .ok (.enter 29 args) w := enters_of Tryz.func29 (by kernel_rfl) rfl
  refine PR (fun blk cap d w hH hb hsz => ?_) (fun p cap fv w => ?_) h
  · exact AnyQ.slices_SortFunc_total Tryz.sortQ 2 Tryz.isAgg59 Tryz.sizeOf59 pC (fun _ => rfl) (fun x v hv => by simp [pC] at hv; rcases hv with rfl | rfl <;> rfl) cfP UW 29 #[] blk 0 cap d w eg (fun _ _ _ _ x y => Qc x y _) hH hb hsz UX
  · exact AnyF.slices_SortFunc_none { Tryz.sortQ with } p cap fv w
end Go.Proofs.YtiefoagopfeibaaGreat
