/- The abstract layer that the proof stands on: no condition. -/
import Derived.Test.YtkfgkkbfipgklaaAbsBA
/- A call that writes into boxes of the caller's. -/
namespace Go.Abs
open Go.RowKit

def capsOf : AV → Option (Nat × List AV)
  | .fn f caps => some (f, caps)
  | .pv (.fn f ps) => some (f, ps.map .pv)
  | _ => none
/-- A name that stands for nothing, at or behind the next free one. -/
def freshG (s : St) (k : Nat) : Bool := Nat.ble s.next k || s.free.elem k
def keptB (L0 : List Nat) (kb : List (Nat × Nat)) (j x : Nat) : Bool := kb.any fun ij => Nat.beq ij.2 j && (match L0[ij.1]? with | some y => Nat.beq y x | none => false)
/-- Each name behind the call is a kept one or a new one. -/
def FrL (s : St) (L0 : List Nat) (kb : List (Nat × Nat)) : Nat → List Nat → Prop
  | _, [] => True
  | j, x :: l => (keptB L0 kb j x = true ∨ freshG s x = true) ∧ FrL s L0 kb (j + 1) l
theorem FrL.spec {s : St} {L0 : List Nat} {kb : List (Nat × Nat)} : ∀ {l : List Nat} {k : Nat}, FrL s L0 kb k l → ∀ (j x : Nat), l[j]? = some x → keptB L0 kb (k + j) x = true ∨ freshG s x = true
  | [], k, h, j, x, e => by simp at e
  | y :: l, k, h, j, x, e => by
    cases j with
    | zero => simp at e; subst e; exact h.1
    | succ j => have := FrL.spec h.2 j x (by simpa using e); rw [show k + (j + 1) = k + 1 + j by omega]; exact this
def keysB (hp : List (Nat × Option Blk)) (n : Nat) : Bool := decide ((hp.map (·.1)).Nodup) && hp.all fun x => Nat.blt x.1 n && x.2.isSome
theorem look_of_mem {α : Type} : ∀ {l : List (Nat × Option α)} {k : Nat} {x : Option α}, (l.map (·.1)).Nodup → (k, x) ∈ l → look k l = x
  | [], k, x, _, h => by simp at h
  | (k', x') :: l, k, x, hn, h => by
    simp only [List.map_cons, List.nodup_cons] at hn
    rw [look_cons]
    rcases List.mem_cons.1 h with h | h
    · cases h; simp
    · split
      · rename_i e; subst e
        exact (hn.1 (List.mem_map.2 ⟨_, h, rfl⟩)).elim
      · exact look_of_mem hn.2 h
def dropB (hp hp' : List (Nat × Option Blk)) (ρ0 ρ1 : Nat → Nat) (drop : List Nat) : Bool := hp.all fun x => drop.elem (ρ0 x.1) || hp'.any fun y => Nat.beq (ρ1 y.1) (ρ0 x.1)
def updW (hp' : List (Nat × Option Blk)) (ρ1 : Nat → Nat) (drop : List Nat) : List (Nat × Option Blk) := hp'.map (fun x => (ρ1 x.1, x.2.map (Blk.map ρ1))) ++ drop.map (fun k => (k, none))
def St.callW (s : St) (hp' : List (Nat × Option Blk)) (L1 drop : List Nat) (nx : Nat) : St :=
  { s with hp := updW hp' (fun i => L1.getD i 0) drop ++ s.hp, next := nx, free := s.free.filter fun x => !(L1.elem x) }

section
variable {ro : Option Nat} {P : Program} {c : Cx} {s s' : St} {o : Oper} {d : Option Nat}

theorem updW_look {hp hp' : List (Nat × Option Blk)} {ρ0 ρ1 : Nat → Nat} {drop : List Nat} {n' : Nat} {shp : List (Nat × Option Blk)} (hk : keysB hp' n' = true) (hd : dropB hp hp' ρ0 ρ1 drop = true) {x : Nat} {b : Blk} (h : look x (updW hp' ρ1 drop ++ shp) = some b) :
    (∃ j b', x = ρ1 j ∧ look j hp' = some b' ∧ b = b'.map ρ1) ∨ (look x shp = some b ∧ ∀ i bi, look i hp = some bi → x ≠ ρ0 i) := by
  unfold keysB at hk
  simp only [Bool.and_eq_true, decide_eq_true_eq] at hk
  rcases look_append x (updW hp' ρ1 drop) shp with ⟨y, hy, he⟩ | ⟨hno, he⟩
  · rw [he] at h; subst h
    unfold updW at hy
    rcases List.mem_append.1 hy with hy | hy
    · obtain ⟨⟨j, z⟩, hz, e⟩ := List.mem_map.1 hy
      injection e with e1 e2
      cases z with
      | none => simp at e2
      | some b' =>
        simp at e2
        exact .inl ⟨j, b', e1.symm, look_of_mem hk.1 hz, e2.symm⟩
    · obtain ⟨k, _, e⟩ := List.mem_map.1 hy
      injection e with _ e2; cases e2
  · rw [he] at h
    refine .inr ⟨h, fun i bi hi e => ?_⟩
    have := List.all_eq_true.1 hd (i, some bi) (look_mem hi)
    simp only [Bool.or_eq_true, List.any_eq_true] at this
    rcases this with h1 | ⟨⟨j, z⟩, h1, h2⟩
    · exact hno none (by unfold updW; exact List.mem_append.2 (.inr (List.mem_map.2 ⟨ρ0 i, by simpa using h1, by rw [e]⟩)))
    · have h2 := Nat.eq_of_beq_eq_true h2
      exact hno _ (by unfold updW; exact List.mem_append.2 (.inl (List.mem_map.2 ⟨(j, z), h1, by rw [e, ← h2]⟩)))

theorem sim_of_callW {O O' : Nat → Prop} {θ θ' : Nat → Option Value} {a : Act} {w w' : World} (hs : SimAt c s O θ a w) {hp hp' : List (Nat × Option Blk)} {n n' : Nat} {kb : List (Nat × Nat)} (L0 L1 drop : List Nat) (nx : Nat)
    (hn0 : L0.length = n) (hH : SubH s.hp (fun i => L0.getD i s.next) hp) (hn1 : L1.length = n') (hnd1 : L1.Nodup) (hfr : FrL s L0 kb 0 L1) (hk : keysB hp' n' = true) (hdr : dropB hp hp' (fun i => L0.getD i s.next) (fun i => L1.getD i 0) drop = true)
    (hnx : Nat.ble s.next nx = true) (hnx1 : L1.all (fun x => Nat.blt x nx) = true)
    (he : Ext (HpOf hp (fun i => θ (L0.getD i s.next))) w w') (hO1 : ∀ g, O g → ¬ HpOf hp (fun i => θ (L0.getD i s.next)) g → O' g) (hO2 : ∀ g, O' g → g < w'.heap.size) (_hO3 : ∀ g, O' g → g < w.heap.size → O g)
    (hpre : PreW w' O' θ' hp' n') (hnew : ∀ g, HpOf hp' θ' g → HpOf hp (fun i => θ (L0.getD i s.next)) g ∨ w.heap.size ≤ g) (hkb : ∀ ij ∈ kb, θ' ij.2 = θ (L0.getD ij.1 s.next)) :
    ∃ O2 θ2, SimAt c (s.callW hp' L1 drop nx) O2 θ2 a w' ∧ (∀ g, O2 g → O' g) ∧ (∀ j v, θ' j = some v → θ2 (L1.getD j 0) = some v) := by
  classical
  have hnone : θ s.next = none := by
    cases h : θ s.next with
    | none => rfl
    | some v => have := (hs.dom _ _ h).1; omega
  let B : Nat → Prop := HpOf hp (fun i => θ (L0.getD i s.next))
  have hB : ∀ g, B g → O g ∧ g < w.heap.size ∧ (¬ c.L g → c.w0.heap.size ≤ g) ∧ ¬ c.X g ∧ HpB s θ g ∧ ∃ o, w.heap[g]? = some o ∧ memB o = true := by
    rintro g ⟨i, bi, v, h1, h2, h3⟩
    have h4 := SubH.spec hH i bi (look_mem h1)
    obtain ⟨v', h5, h6, h7⟩ := hs.hp _ _ h4
    have : v' = v := by have h2' : θ (L0.getD i s.next) = some v := h2; rw [h5] at h2'; exact Option.some.inj h2'
    subst this
    obtain ⟨h8, h9, h10, h11⟩ := h7 g h3
    exact ⟨h8, h9, h10, h11, ⟨_, _, v', h4, h5, h3⟩, h6.cells h3⟩
  let θ2 : Nat → Option Value := fun x => if h : ∃ j : Nat, L1[j]? = some x then θ' h.choose else θ x
  have hθj : ∀ (j x : Nat), L1[j]? = some x → θ2 x = θ' j := by
    intro j x hx
    have hex : ∃ j : Nat, L1[j]? = some x := ⟨j, hx⟩
    show (if h : ∃ j : Nat, L1[j]? = some x then θ' h.choose else θ x) = _
    rw [dif_pos hex, nodup_inj hnd1 _ _ x hex.choose_spec hx]
  have hlt1 : ∀ j v, θ' j = some v → L1[j]? = some (L1.getD j 0) := by
    intro j v h
    have := hpre.dom j v h
    rw [List.getD_eq_getElem?_getD, List.getElem?_eq_getElem (by omega)]; rfl
  have hθ1 : ∀ j v, θ' j = some v → θ2 (L1.getD j 0) = some v := fun j v h => by rw [hθj j _ (hlt1 j v h)]; exact h
  have hfresh : ∀ x, freshG s x = true → θ x = none := by
    intro x hx
    cases h : θ x with
    | none => rfl
    | some v =>
      obtain ⟨h1, h2⟩ := hs.dom x v h
      simp only [freshG, Bool.or_eq_true, List.elem_eq_mem, decide_eq_true_eq] at hx
      rcases hx with hx | hx
      · have := Nat.le_of_ble_eq_true hx; omega
      · exact (h2 hx).elim
  have hθ : ∀ x v, θ x = some v → θ2 x = some v := by
    intro x v hx
    by_cases hex : ∃ j : Nat, L1[j]? = some x
    · obtain ⟨j, hj⟩ := hex
      rw [hθj j x hj]
      have := FrL.spec hfr j x hj
      rw [Nat.zero_add] at this
      rcases this with h1 | h1
      · unfold keptB at h1
        obtain ⟨⟨i, j'⟩, h2, h3⟩ := List.any_eq_true.1 h1
        simp only [Bool.and_eq_true] at h3
        obtain ⟨h3, h4⟩ := h3
        have h3 := Nat.eq_of_beq_eq_true h3
        subst h3
        split at h4
        · rename_i y hy
          have h4 := Nat.eq_of_beq_eq_true h4
          subst h4
          have := hkb _ h2
          simp only at this hy
          rw [this, List.getD_eq_getElem?_getD, hy]; exact hx
        · cases h4
      · rw [hfresh x h1] at hx; cases hx
    · show (if h : ∃ j : Nat, L1[j]? = some x then θ' h.choose else θ x) = _
      rw [dif_neg hex]; exact hx
  let O2 : Nat → Prop := fun g => (O g ∧ ¬ B g) ∨ HpOf hp' θ' g
  have hO2' : ∀ g, O2 g → O' g := by
    rintro g (⟨h1, h2⟩ | ⟨id, b, v, h1, h2, h3⟩)
    · exact hO1 g h1 h2
    · obtain ⟨v', h4, _, h5⟩ := hpre.own id b h1
      rw [h2] at h4; cases h4
      exact (h5 g h3).1
  have hO2O : ∀ g, O2 g → O g ∨ w.heap.size ≤ g := by
    rintro g (⟨h1, h2⟩ | h)
    · exact .inl h1
    · rcases hnew g h with h | h
      · exact .inl (hB g h).1
      · exact .inr h
  have hO : ∀ b, b < w.heap.size → ¬ O b → ¬ O2 b ∧ w'.heap[b]? = w.heap[b]? := by
    intro b hb hn
    refine ⟨fun h => ?_, he.block b hb (fun h => hn (hB b h).1)⟩
    rcases hO2O b h with h | h
    · exact hn h
    · omega
  have hmono' : ∀ b, b < w'.heap.size → ¬ O' b → ¬ O2 b ∧ w'.heap[b]? = w'.heap[b]? := fun b _ hn => ⟨fun h => hn (hO2' b h), rfl⟩
  -- the names of the new state
  have hget : ∀ x b, look x (s.callW hp' L1 drop nx).hp = some b → (∃ j b', x = L1.getD j 0 ∧ look j hp' = some b' ∧ b = b'.map (fun i => L1.getD i 0)) ∨
      (look x s.hp = some b ∧ ∀ v g, θ x = some v → blkOf v = some g → ¬ B g) := by
    intro x b hx
    rcases updW_look hk hdr hx with h | ⟨h1, h2⟩
    · exact .inl h
    · refine .inr ⟨h1, ?_⟩
      rintro v g hv hg ⟨i, bi, vi, h3, h4, h5⟩
      exact h2 i bi h3 (hs.inj x _ b _ v vi g h1 (SubH.spec hH i bi (look_mem h3)) hv h4 hg h5)
  refine ⟨O2, θ2, ?_, hO2', hθ1⟩
  refine ⟨hs.size, hs.df, fun t x hx => (hs.fr t x hx).mono he.size hO hθ, ?_, ?_, ?_, ?_, ?_, ?_, ?_, ?_, hs.xlt, hs.llt, ?_, ?_, hs.kp, ?_⟩
  · intro x b hb
    rcases hget x b hb with ⟨j, b', rfl, h1, rfl⟩ | ⟨h1, h2⟩
    · obtain ⟨v, hv, hbo, hg⟩ := hpre.own j b' h1
      refine ⟨v, hθ1 j v hv, (hbo.mono (Nat.le_refl _) hmono' (fun _ _ h => h) (fun _ _ => rfl)).mapF _ hθ1, fun g hgg => ?_⟩
      have hh : HpOf hp' θ' g := ⟨j, b', v, h1, hv, hgg⟩
      refine ⟨.inr hh, (hg g hgg).2, ?_, ?_⟩
      · intro hL
        rcases hnew g hh with h3 | h3
        · exact (hB g h3).2.2.1 hL
        · exact Nat.le_trans hs.ext.size h3
      · intro hX
        rcases hnew g hh with h3 | h3
        · exact (hB g h3).2.2.2.1 hX
        · have := hs.xlt g hX; have := hs.ext.size; omega
    · obtain ⟨v, hv, hbo, hg⟩ := hs.hp x b h1
      refine ⟨v, hθ _ _ hv, hbo.mono he.size hO hθ (fun g hgg => he.block g (hg g hgg).2.1 (h2 v g hv hgg)), fun g hgg => ?_⟩
      obtain ⟨h5, h6, h7⟩ := hg g hgg
      exact ⟨.inl ⟨h5, h2 v g hv hgg⟩, Nat.lt_of_lt_of_le h6 he.size, h7⟩
  · intro x y bx b_y vx vy g hx hy hvx hvy hgx hgy
    rcases hget x bx hx with ⟨j, b', rfl, h1, rfl⟩ | ⟨h1, h2⟩ <;> rcases hget y b_y hy with ⟨k, b'', rfl, h3, rfl⟩ | ⟨h3, h4⟩
    · obtain ⟨v1, k1, _, _⟩ := hpre.own j b' h1
      obtain ⟨v2, k2, _, _⟩ := hpre.own k b'' h3
      have e1 := hθ1 j v1 k1
      have e2 := hθ1 k v2 k2
      rw [hvx] at e1; rw [hvy] at e2
      cases e1; cases e2
      rw [hpre.inj j k b' b'' vx vy g h1 h3 k1 k2 hgx hgy]
    · exfalso
      obtain ⟨v1, k1, _, _⟩ := hpre.own j b' h1
      have e1 := hθ1 j v1 k1
      rw [hvx] at e1; cases e1
      obtain ⟨v2, k2, _, k3⟩ := hs.hp y b_y h3
      have e2 := hθ _ _ k2
      rw [hvy] at e2; cases e2
      rcases hnew g ⟨j, b', vx, h1, k1, hgx⟩ with h5 | h5
      · exact h4 vy g k2 hgy h5
      · have := (k3 g hgy).2.1; omega
    · exfalso
      obtain ⟨v1, k1, _, _⟩ := hpre.own k b'' h3
      have e1 := hθ1 k v1 k1
      rw [hvy] at e1; cases e1
      obtain ⟨v2, k2, _, k3⟩ := hs.hp x bx h1
      have e2 := hθ _ _ k2
      rw [hvx] at e2; cases e2
      rcases hnew g ⟨k, b'', vy, h3, k1, hgy⟩ with h5 | h5
      · exact h2 vx g k2 hgx h5
      · have := (k3 g hgx).2.1; omega
    · obtain ⟨v1, k1, _, _⟩ := hs.hp x bx h1
      obtain ⟨v2, k2, _, _⟩ := hs.hp y b_y h3
      have e1 := hθ _ _ k1
      have e2 := hθ _ _ k2
      rw [hvx] at e1; rw [hvy] at e2
      cases e1; cases e2
      exact hs.inj x y bx b_y vx vy g h1 h3 k1 k2 hgx hgy
  · intro x v hx
    show x < nx ∧ x ∉ s.free.filter fun x => !(L1.elem x)
    by_cases hex : ∃ j : Nat, L1[j]? = some x
    · obtain ⟨j, hj⟩ := hex
      have hm : x ∈ L1 := List.mem_of_getElem? hj
      have := List.all_eq_true.1 hnx1 x hm
      refine ⟨by simpa [Nat.blt_eq] using this, ?_⟩
      simp [hm]
    · have hx' : (if h : ∃ j : Nat, L1[j]? = some x then θ' h.choose else θ x) = some v := hx
      rw [dif_neg hex] at hx'
      obtain ⟨h1, h2⟩ := hs.dom x v hx'
      exact ⟨Nat.lt_of_lt_of_le h1 (Nat.le_of_ble_eq_true hnx), fun h => h2 (List.mem_filter.1 h).1⟩
  · intro k hk
    exact Nat.lt_of_lt_of_le (hs.flt k (List.mem_filter.1 hk).1) (Nat.le_of_ble_eq_true hnx)
  · intro x v hx
    by_cases hex : ∃ j : Nat, L1[j]? = some x
    · obtain ⟨j, hj⟩ := hex
      rw [hθj j x hj] at hx
      exact hpre.one j v hx
    · have hx' : (if h : ∃ j : Nat, L1[j]? = some x then θ' h.choose else θ x) = some v := hx
      rw [dif_neg hex] at hx'
      exact hs.one x v hx'
  · intro g hg; exact hO2 g (hO2' g hg)
  · exact ⟨he.os.trans hs.ext.os, he.tape.trans hs.ext.tape, he.output.trans hs.ext.output, Nat.le_trans hs.ext.size he.size, fun b hb hL =>
      (he.block b (Nat.lt_of_lt_of_le hb hs.ext.size) (fun h => by have := (hB b h).2.2.1 hL; omega)).trans (hs.ext.block b hb hL)⟩
  · intro g hX
    exact .inl ⟨hs.xo g hX, fun h => (hB g h).2.2.2.1 hX⟩
  · intro d hd
    obtain ⟨D, rfl, hD, hOD, h0⟩ := hs.marks d hd
    have hnB : ¬ B D := fun h => by obtain ⟨_, _, _, _, _, o, h1, h2⟩ := hB D h; rw [hD] at h1; cases h1; cases h2
    have hlt : D < w.heap.size := hs.olt D hOD
    exact ⟨D, rfl, by rw [he.block D hlt hnB]; exact hD, .inl ⟨hOD, hnB⟩, h0⟩
  · intro g hg hlt
    rcases hO2O g hg with h | h
    · exact hs.oc g h hlt
    · have := hs.ext.size; omega
  · refine c.Jst hs.jn ⟨he.os, he.tape, he.output, he.size, fun b hb hn => he.block b hb (fun h => hn.elim (fun h1 => h1 (.inr (.inl (hB b h).2.2.2.2.1))) (fun h1 => h1 (hB b h).1)), hO2O, fun g h1 h2 => .inl ⟨h1, fun h => h2 (.inr (.inl (hB g h).2.2.2.2.1))⟩, fun g hg => hO2 g (hO2' g hg), fun g hI => ?_⟩
    rcases hI with hI | ⟨x, b, v, h1, h2, h3⟩ | hI
    · exact .inl (.inl hI)
    · rcases hget x b h1 with ⟨j, b', rfl, h4, rfl⟩ | ⟨h4, h5⟩
      · obtain ⟨v1, k1, _, _⟩ := hpre.own j b' h4
        have e1 := hθ1 j v1 k1
        rw [h2] at e1; cases e1
        rcases hnew g ⟨j, b', v, h4, k1, h3⟩ with h6 | h6
        · exact .inl (.inr (.inl (hB g h6).2.2.2.2.1))
        · exact .inr h6
      · obtain ⟨v1, k1, _, _⟩ := hs.hp x b h4
        have e1 := hθ _ _ k1
        rw [h2] at e1; cases e1
        exact .inl (.inr (.inl ⟨x, b, v, h4, k1, h3⟩))
    · exact .inl (.inr (.inr hI))

theorem op_callW {fo : Operand} {xs : List Operand} {ts : Array TypeId} {f : Nat} {fa : AV} {as caps args : List AV} {hp hp' : List (Nat × Option Blk)} {n n' : Nat} {kb : List (Nat × Nat)} {rs : List AV} (L0 L1 drop : List Nat) (nx : Nat) (ho : o.op = .call { callee := .value fo, args := xs.toArray, argTypes := ts }) (hf : ev s fo = some fa) (hx : evl s xs = some as)
    (hfa : capsOf fa = some (f, caps)) (hcat : as ++ caps = AV.mapL (fun i => L0.getD i s.next) args) (hB : callB P f = true) (h : FnW P f args hp n kb rs hp' n') (hn0 : L0.length = n) (hnd0 : L0.Nodup) (hH : SubH s.hp (fun i => L0.getD i s.next) hp)
    (hn1 : L1.length = n') (hnd1 : L1.Nodup) (hfr : FrL s L0 kb 0 L1) (hk : keysB hp' n' = true) (hdr : dropB hp hp' (fun i => L0.getD i s.next) (fun i => L1.getD i 0) drop = true) (hnx : Nat.ble s.next nx = true) (hnx1 : L1.all (fun x => Nat.blt x nx) = true)
    (hd : o.dst = d) (hn : dOk s d = true) : OpOk ro P c o s ((s.callW hp' L1 drop nx).put d (some ((topW rs).map (fun i => L1.getD i 0)))) := by
  rintro a w ⟨O, θ, hs⟩ K Q hK
  obtain ⟨e1, e2⟩ := evl_ok hs hx
  have hfv := ev_ok hs hf
  have hnone : θ s.next = none := by
    cases h : θ s.next with
    | none => rfl
    | some v => have := (hs.dom _ _ h).1; omega
  have hcaps : ∃ us : Array Value, a.eval fo = .func (.func f) #[] us ∧ us.size = caps.length ∧ ∀ (i : Nat) (x : AV) (u : Value), caps[i]? = some x → us[i]? = some u → RdA w O θ x u := by
    generalize hfe : a.eval fo = fv at hfv
    cases hfv with
    | fn f' caps' us h1 h2 =>
      simp only [capsOf, Option.some.injEq, Prod.mk.injEq] at hfa
      obtain ⟨rfl, rfl⟩ := hfa
      exact ⟨us, rfl, h1, h2⟩
    | pv p _ h1 =>
      cases h1 with
      | fn f' caps' us h1 h2 =>
        simp only [capsOf, Option.some.injEq, Prod.mk.injEq] at hfa
        obtain ⟨rfl, rfl⟩ := hfa
        refine ⟨us, rfl, by simpa using h1, fun i x u hx hu => ?_⟩
        rw [List.getElem?_map, Option.map_eq_some_iff] at hx
        obtain ⟨p, hp, rfl⟩ := hx
        exact .pv _ _ (h2 i p u hp hu)
      | _ => simp [capsOf] at hfa
    | _ => simp [capsOf] at hfa
  obtain ⟨us, hfe, hus, hcr⟩ := hcaps
  refine ⟨fun f _ => trivial, ?_⟩
  have hrun : (execOp a.eval o).run P w = .ok (.enter f ((xs.map a.eval).toArray ++ us)) w := by
    simp [execOp, ho, resolve, Deferred.ofValue, hfe, invoke, callB_spec hB]
  rw [Oper.semAt_plain _ _ _ (by rw [ho]; intro k h; cases h), hrun]
  refine ⟨fun h => by simp [FF, Fence.wide] at h, ?_⟩
  have hlen : as.length + caps.length = args.length := by
    have := congrArg List.length hcat
    rw [List.length_append, AV.mapL_length] at this
    exact this
  have harg : ∀ (i : Nat) (x : AV) (u : Value), (as ++ caps)[i]? = some x → ((xs.map a.eval).toArray ++ us)[i]? = some u → RdA w O θ x u := by
    intro i x u hx hu
    rw [List.getElem?_append] at hx
    split at hx
    · rename_i hi
      rw [Array.getElem?_append_left (by simp; omega)] at hu
      exact e2 i x u hx (by simpa using hu)
    · rename_i hi
      rw [Array.getElem?_append_right (by simp; omega)] at hu
      refine hcr _ x u hx ?_
      have : (xs.map a.eval).toArray.size = as.length := by simpa using e1
      rw [this] at hu
      exact hu
  have hlt0 : ∀ i v, θ (L0.getD i s.next) = some v → L0[i]? = some (L0.getD i s.next) := by
    intro i v hv
    rw [List.getD_eq_getElem?_getD] at hv ⊢
    cases h : L0[i]? with
    | none => rw [h] at hv; simp only [Option.getD_none] at hv; rw [hnone] at hv; cases hv
    | some y => rfl
  have hpre : PreW w O (fun i => θ (L0.getD i s.next)) hp n := by
    refine ⟨fun i b hb => ?_, fun i j bi bj vi vj g hi hj hvi hvj hgi hgj => ?_, fun i v hv => ?_, fun i v hv => hs.one _ v hv⟩
    · obtain ⟨v, h1, h2, h3⟩ := hs.hp _ _ (SubH.spec hH i b (look_mem hb))
      exact ⟨v, h1, h2.ren _ (fun _ _ h => h), fun g hg => ⟨(h3 g hg).1, (h3 g hg).2.1⟩⟩
    · have := hs.inj _ _ _ _ vi vj g (SubH.spec hH i bi (look_mem hi)) (SubH.spec hH j bj (look_mem hj)) hvi hvj hgi hgj
      have h1 := hlt0 i vi hvi
      have h2 := hlt0 j vj hvj
      rw [this] at h1
      exact nodup_inj hnd0 i j _ h1 h2
    · have := hlt0 i v hv
      have := (List.getElem?_eq_some_iff.1 this).1
      omega
  have hcall := h w O (fun i => θ (L0.getD i s.next)) ((xs.map a.eval).toArray ++ us) hs.olt hpre (by
      have : (xs.map a.eval).toArray.size = as.length := by simpa using e1
      rw [Array.size_append, this, hus]; exact hlen) (fun i x v hx hv => by
    refine RdA.ren (fun i => L0.getD i s.next) (fun _ _ h => h) (harg i (x.map _) v ?_ hv) x rfl
    rw [hcat, AV.mapL_get, hx]; rfl)
  refine CallsIn.mono (callsIn_wide (n := 0 - 1).2 hcall) ?_
  rintro e w' ⟨v, O', θ', rfl, he, hO1, hO2, hO3, hpre', hnew, hkb, hr⟩
  obtain ⟨O2, θ2, g1, g2, g3⟩ := sim_of_callW hs L0 L1 drop nx hn0 hH hn1 hnd1 hfr hk hdr hnx hnx1 he hO1 hO2 hO3 hpre' hnew hkb
  subst hd
  refine hK _ _ ⟨O2, θ2, g1.put _ _ _ (dOk_lt hn) (dOk_kt hn) ?_⟩
  exact (hr.mono (Nat.le_refl _) (fun b _ hn => ⟨fun h => hn (g2 b h), rfl⟩) (fun _ _ h => h)).mapF _ g3

/-- A name more that stands for nothing. -/
theorem FnW.nils {P : Program} {f n n' : Nat} {args : List AV} {hp hp' : List (Nat × Option Blk)} {kb : List (Nat × Nat)} {rs : List AV} (i sz : Nat) (hi : args[i]? = some (.pv (.vs sz []))) (h : FnW P f args hp n kb rs hp' n') : FnW P f (args.set i (.pv .nils)) hp n kb rs hp' n' := by
  intro w O θ vs h1 h2 h3 h4
  refine h w O θ vs h1 h2 (by rw [h3, List.length_set]) fun j x v hx hv => ?_
  by_cases hji : j = i
  · subst hji
    rw [hi] at hx; cases hx
    have hl : j < args.length := (List.getElem?_eq_some_iff.1 hi).1
    have := h4 j (.pv .nils) v (by rw [List.getElem?_set_self hl]) hv
    have h5 := rda_pv this
    cases h5
    exact .pv _ _ (Rd.vs0 sz)
  · exact h4 j x v (by rw [List.getElem?_set_ne (fun e => hji e.symm)]; exact hx) hv
end
end Go.Abs
