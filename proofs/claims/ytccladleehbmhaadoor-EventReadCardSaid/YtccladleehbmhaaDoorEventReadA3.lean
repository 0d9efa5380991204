/- The abstract layer that the proof stands on: no condition. -/
import Derived.Test.YtccladleehbmhaaDoorEventReadA2
import Derived.Lib.ConvBytes
import Derived.Laws.BytesString
import Derived.Lib.Join
import Derived.Lib.AppendZeros
import Derived.ProofKit
import Derived.OpenShut
import Derived.LaidMore
import Derived.Stop.Joined
/- A call that writes into boxes of the caller's. -/
namespace Go.Abs
variable {G : List (Nat × List PV)}
open Go.RowKit

def capsOf : AV → Option (Nat × List AV)
  | .fn f caps => some (f, caps)
  | .pv (.fn f ps) => some (f, ps.map .pv)
  | _ => none
/-- A name that stands for nothing, at or behind the next free one. -/
def freshG (s : St) (k : Nat) : Bool := Nat.ble s.next k || s.free.elem k
def keptB (L0 : List Nat) (kb : List (Nat × Nat)) (j x : Nat) : Bool := kb.any fun ij => Nat.beq ij.2 j && (match L0[ij.1]? with | some y => Nat.beq y x | none => false)
/-- Each name behind the call is a kept one or a new one. -/
def FrL (s : St) (L0 : List Nat) (kb : List (Nat × Nat)) : Nat → List Nat → Prop
  | _, [] => True
  | j, x :: l => (keptB L0 kb j x = true ∨ freshG s x = true) ∧ FrL s L0 kb (j + 1) l
theorem FrL.spec {s : St} {L0 : List Nat} {kb : List (Nat × Nat)} : ∀ {l : List Nat} {k : Nat}, FrL s L0 kb k l → ∀ (j x : Nat), l[j]? = some x → keptB L0 kb (k + j) x = true ∨ freshG s x = true
  | [], k, h, j, x, e => by simp at e
  | y :: l, k, h, j, x, e => by
    cases j with
    | zero => simp at e; subst e; exact h.1
    | succ j => have := FrL.spec h.2 j x (by simpa using e); rw [show k + (j + 1) = k + 1 + j by omega]; exact this
def keysB (hp : List (Nat × Option Blk)) (n : Nat) : Bool := decide ((hp.map (·.1)).Nodup) && hp.all fun x => Nat.blt x.1 n && x.2.isSome
theorem look_of_mem {α : Type} : ∀ {l : List (Nat × Option α)} {k : Nat} {x : Option α}, (l.map (·.1)).Nodup → (k, x) ∈ l → look k l = x
  | [], k, x, _, h => by simp at h
  | (k', x') :: l, k, x, hn, h => by
    simp only [List.map_cons, List.nodup_cons] at hn
    rw [look_cons]
    rcases List.mem_cons.1 h with h | h
    · cases h; simp
    · split
      · rename_i e; subst e
        exact (hn.1 (List.mem_map.2 ⟨_, h, rfl⟩)).elim
      · exact look_of_mem hn.2 h
def dropB (hp hp' : List (Nat × Option Blk)) (ρ0 ρ1 : Nat → Nat) (drop : List Nat) : Bool := hp.all fun x => drop.elem (ρ0 x.1) || hp'.any fun y => Nat.beq (ρ1 y.1) (ρ0 x.1)
def updW (hp' : List (Nat × Option Blk)) (ρ1 : Nat → Nat) (drop : List Nat) : List (Nat × Option Blk) := hp'.map (fun x => (ρ1 x.1, x.2.map (Blk.map ρ1))) ++ drop.map (fun k => (k, none))
def St.callW (s : St) (hp' : List (Nat × Option Blk)) (L1 drop : List Nat) (nx : Nat) : St :=
  { s with hp := updW hp' (fun i => L1.getD i 0) drop ++ s.hp, next := nx, free := s.free.filter fun x => !(L1.elem x) }

section
variable {ro : Option Nat} {P : Program} {c : Cx G} {s s' : St} {o : Oper} {d : Option Nat}

theorem updW_look {hp hp' : List (Nat × Option Blk)} {ρ0 ρ1 : Nat → Nat} {drop : List Nat} {n' : Nat} {shp : List (Nat × Option Blk)} (hk : keysB hp' n' = true) (hd : dropB hp hp' ρ0 ρ1 drop = true) {x : Nat} {b : Blk} (h : look x (updW hp' ρ1 drop ++ shp) = some b) :
    (∃ j b', x = ρ1 j ∧ look j hp' = some b' ∧ b = b'.map ρ1) ∨ (look x shp = some b ∧ ∀ i bi, look i hp = some bi → x ≠ ρ0 i) := by
  unfold keysB at hk
  simp only [Bool.and_eq_true, decide_eq_true_eq] at hk
  rcases look_append x (updW hp' ρ1 drop) shp with ⟨y, hy, he⟩ | ⟨hno, he⟩
  · rw [he] at h; subst h
    unfold updW at hy
    rcases List.mem_append.1 hy with hy | hy
    · obtain ⟨⟨j, z⟩, hz, e⟩ := List.mem_map.1 hy
      injection e with e1 e2
      cases z with
      | none => simp at e2
      | some b' =>
        simp at e2
        exact .inl ⟨j, b', e1.symm, look_of_mem hk.1 hz, e2.symm⟩
    · obtain ⟨k, _, e⟩ := List.mem_map.1 hy
      injection e with _ e2; cases e2
  · rw [he] at h
    refine .inr ⟨h, fun i bi hi e => ?_⟩
    have := List.all_eq_true.1 hd (i, some bi) (look_mem hi)
    simp only [Bool.or_eq_true, List.any_eq_true] at this
    rcases this with h1 | ⟨⟨j, z⟩, h1, h2⟩
    · exact hno none (by unfold updW; exact List.mem_append.2 (.inr (List.mem_map.2 ⟨ρ0 i, by simpa using h1, by rw [e]⟩)))
    · have h2 := Nat.eq_of_beq_eq_true h2
      exact hno _ (by unfold updW; exact List.mem_append.2 (.inl (List.mem_map.2 ⟨(j, z), h1, by rw [e, ← h2]⟩)))

theorem sim_of_callW {O O' : Nat → Prop} {θ θ' : Nat → Option Value} {a : Act} {w w' : World} (hs : SimAt c s O θ a w) {hp hp' : List (Nat × Option Blk)} {n n' : Nat} {kb : List (Nat × Nat)} (L0 L1 drop : List Nat) (nx : Nat)
    (hn0 : L0.length = n) (hH : SubH s.hp (fun i => L0.getD i s.next) hp) (hn1 : L1.length = n') (hnd1 : L1.Nodup) (hfr : FrL s L0 kb 0 L1) (hk : keysB hp' n' = true) (hdr : dropB hp hp' (fun i => L0.getD i s.next) (fun i => L1.getD i 0) drop = true)
    (hnx : Nat.ble s.next nx = true) (hnx1 : L1.all (fun x => Nat.blt x nx) = true)
    (he : Ext (HpOf hp (fun i => θ (L0.getD i s.next))) w w') (hO1 : ∀ g, O g → ¬ HpOf hp (fun i => θ (L0.getD i s.next)) g → O' g) (hO2 : ∀ g, O' g → g < w'.heap.size) (_hO3 : ∀ g, O' g → g < w.heap.size → O g)
    (hpre : PreW w' O' θ' hp' n') (hnew : ∀ g, HpOf hp' θ' g → HpOf hp (fun i => θ (L0.getD i s.next)) g ∨ w.heap.size ≤ g) (hkb : ∀ ij ∈ kb, θ' ij.2 = θ (L0.getD ij.1 s.next)) :
    ∃ O2 θ2, SimAt c (s.callW hp' L1 drop nx) O2 θ2 a w' ∧ (∀ g, O2 g → O' g) ∧ (∀ j v, θ' j = some v → θ2 (L1.getD j 0) = some v) := by
  classical
  have hnone : θ s.next = none := by
    cases h : θ s.next with
    | none => rfl
    | some v => have := (hs.dom _ _ h).1; omega
  let B : Nat → Prop := HpOf hp (fun i => θ (L0.getD i s.next))
  have hB : ∀ g, B g → O g ∧ g < w.heap.size ∧ (¬ c.L g → c.w0.heap.size ≤ g) ∧ ¬ c.X g ∧ HpB s θ g ∧ ∃ o, w.heap[g]? = some o ∧ memB o = true := by
    rintro g ⟨i, bi, v, h1, h2, h3⟩
    have h4 := SubH.spec hH i bi (look_mem h1)
    obtain ⟨v', h5, h6, h7⟩ := hs.hp _ _ h4
    have : v' = v := by have h2' : θ (L0.getD i s.next) = some v := h2; rw [h5] at h2'; exact Option.some.inj h2'
    subst this
    obtain ⟨h8, h9, h10, h11⟩ := h7 g h3
    exact ⟨h8, h9, h10, h11, ⟨_, _, v', h4, h5, h3⟩, h6.cells h3⟩
  let θ2 : Nat → Option Value := fun x => if h : ∃ j : Nat, L1[j]? = some x then θ' h.choose else θ x
  have hθj : ∀ (j x : Nat), L1[j]? = some x → θ2 x = θ' j := by
    intro j x hx
    have hex : ∃ j : Nat, L1[j]? = some x := ⟨j, hx⟩
    show (if h : ∃ j : Nat, L1[j]? = some x then θ' h.choose else θ x) = _
    rw [dif_pos hex, nodup_inj hnd1 _ _ x hex.choose_spec hx]
  have hlt1 : ∀ j v, θ' j = some v → L1[j]? = some (L1.getD j 0) := by
    intro j v h
    have := hpre.dom j v h
    rw [List.getD_eq_getElem?_getD, List.getElem?_eq_getElem (by omega)]; rfl
  have hθ1 : ∀ j v, θ' j = some v → θ2 (L1.getD j 0) = some v := fun j v h => by rw [hθj j _ (hlt1 j v h)]; exact h
  have hfresh : ∀ x, freshG s x = true → θ x = none := by
    intro x hx
    cases h : θ x with
    | none => rfl
    | some v =>
      obtain ⟨h1, h2⟩ := hs.dom x v h
      simp only [freshG, Bool.or_eq_true, List.elem_eq_mem, decide_eq_true_eq] at hx
      rcases hx with hx | hx
      · have := Nat.le_of_ble_eq_true hx; omega
      · exact (h2 hx).elim
  have hθ : ∀ x v, θ x = some v → θ2 x = some v := by
    intro x v hx
    by_cases hex : ∃ j : Nat, L1[j]? = some x
    · obtain ⟨j, hj⟩ := hex
      rw [hθj j x hj]
      have := FrL.spec hfr j x hj
      rw [Nat.zero_add] at this
      rcases this with h1 | h1
      · unfold keptB at h1
        obtain ⟨⟨i, j'⟩, h2, h3⟩ := List.any_eq_true.1 h1
        simp only [Bool.and_eq_true] at h3
        obtain ⟨h3, h4⟩ := h3
        have h3 := Nat.eq_of_beq_eq_true h3
        subst h3
        split at h4
        · rename_i y hy
          have h4 := Nat.eq_of_beq_eq_true h4
          subst h4
          have := hkb _ h2
          simp only at this hy
          rw [this, List.getD_eq_getElem?_getD, hy]; exact hx
        · cases h4
      · rw [hfresh x h1] at hx; cases hx
    · show (if h : ∃ j : Nat, L1[j]? = some x then θ' h.choose else θ x) = _
      rw [dif_neg hex]; exact hx
  let O2 : Nat → Prop := fun g => (O g ∧ ¬ B g) ∨ HpOf hp' θ' g
  have hO2' : ∀ g, O2 g → O' g := by
    rintro g (⟨h1, h2⟩ | ⟨id, b, v, h1, h2, h3⟩)
    · exact hO1 g h1 h2
    · obtain ⟨v', h4, _, h5⟩ := hpre.own id b h1
      rw [h2] at h4; cases h4
      exact (h5 g h3).1
  have hO2O : ∀ g, O2 g → O g ∨ w.heap.size ≤ g := by
    rintro g (⟨h1, h2⟩ | h)
    · exact .inl h1
    · rcases hnew g h with h | h
      · exact .inl (hB g h).1
      · exact .inr h
  have hO : ∀ b, b < w.heap.size → ¬ O b → ¬ O2 b ∧ w'.heap[b]? = w.heap[b]? := by
    intro b hb hn
    refine ⟨fun h => ?_, he.block b hb (fun h => hn (hB b h).1)⟩
    rcases hO2O b h with h | h
    · exact hn h
    · omega
  have hmono' : ∀ b, b < w'.heap.size → ¬ O' b → ¬ O2 b ∧ w'.heap[b]? = w'.heap[b]? := fun b _ hn => ⟨fun h => hn (hO2' b h), rfl⟩
  -- the names of the new state
  have hget : ∀ x b, look x (s.callW hp' L1 drop nx).hp = some b → (∃ j b', x = L1.getD j 0 ∧ look j hp' = some b' ∧ b = b'.map (fun i => L1.getD i 0)) ∨
      (look x s.hp = some b ∧ ∀ v g, θ x = some v → blkOf v = some g → ¬ B g) := by
    intro x b hx
    rcases updW_look hk hdr hx with h | ⟨h1, h2⟩
    · exact .inl h
    · refine .inr ⟨h1, ?_⟩
      rintro v g hv hg ⟨i, bi, vi, h3, h4, h5⟩
      exact h2 i bi h3 (hs.inj x _ b _ v vi g h1 (SubH.spec hH i bi (look_mem h3)) hv h4 hg h5)
  refine ⟨O2, θ2, ?_, hO2', hθ1⟩
  refine ⟨hs.size, hs.df, fun t x hx => (hs.fr t x hx).mono he.size hO hθ, ?_, ?_, ?_, ?_, ?_, ?_, ?_, ?_, hs.xlt, hs.llt, ?_, ?_, hs.kp, ?_⟩
  · intro x b hb
    rcases hget x b hb with ⟨j, b', rfl, h1, rfl⟩ | ⟨h1, h2⟩
    · obtain ⟨v, hv, hbo, hg⟩ := hpre.own j b' h1
      refine ⟨v, hθ1 j v hv, (hbo.mono (Nat.le_refl _) hmono' (fun _ _ h => h) (fun _ _ => rfl)).mapF _ hθ1, fun g hgg => ?_⟩
      have hh : HpOf hp' θ' g := ⟨j, b', v, h1, hv, hgg⟩
      refine ⟨.inr hh, (hg g hgg).2, ?_, ?_⟩
      · intro hL
        rcases hnew g hh with h3 | h3
        · exact (hB g h3).2.2.1 hL
        · exact Nat.le_trans hs.ext.size h3
      · intro hX
        rcases hnew g hh with h3 | h3
        · exact (hB g h3).2.2.2.1 hX
        · have := hs.xlt g hX; have := hs.ext.size; omega
    · obtain ⟨v, hv, hbo, hg⟩ := hs.hp x b h1
      refine ⟨v, hθ _ _ hv, hbo.mono he.size hO hθ (fun g hgg => he.block g (hg g hgg).2.1 (h2 v g hv hgg)), fun g hgg => ?_⟩
      obtain ⟨h5, h6, h7⟩ := hg g hgg
      exact ⟨.inl ⟨h5, h2 v g hv hgg⟩, Nat.lt_of_lt_of_le h6 he.size, h7⟩
  · intro x y bx b_y vx vy g hx hy hvx hvy hgx hgy
    rcases hget x bx hx with ⟨j, b', rfl, h1, rfl⟩ | ⟨h1, h2⟩ <;> rcases hget y b_y hy with ⟨k, b'', rfl, h3, rfl⟩ | ⟨h3, h4⟩
    · obtain ⟨v1, k1, _, _⟩ := hpre.own j b' h1
      obtain ⟨v2, k2, _, _⟩ := hpre.own k b'' h3
      have e1 := hθ1 j v1 k1
      have e2 := hθ1 k v2 k2
      rw [hvx] at e1; rw [hvy] at e2
      cases e1; cases e2
      rw [hpre.inj j k b' b'' vx vy g h1 h3 k1 k2 hgx hgy]
    · exfalso
      obtain ⟨v1, k1, _, _⟩ := hpre.own j b' h1
      have e1 := hθ1 j v1 k1
      rw [hvx] at e1; cases e1
      obtain ⟨v2, k2, _, k3⟩ := hs.hp y b_y h3
      have e2 := hθ _ _ k2
      rw [hvy] at e2; cases e2
      rcases hnew g ⟨j, b', vx, h1, k1, hgx⟩ with h5 | h5
      · exact h4 vy g k2 hgy h5
      · have := (k3 g hgy).2.1; omega
    · exfalso
      obtain ⟨v1, k1, _, _⟩ := hpre.own k b'' h3
      have e1 := hθ1 k v1 k1
      rw [hvy] at e1; cases e1
      obtain ⟨v2, k2, _, k3⟩ := hs.hp x bx h1
      have e2 := hθ _ _ k2
      rw [hvx] at e2; cases e2
      rcases hnew g ⟨k, b'', vy, h3, k1, hgy⟩ with h5 | h5
      · exact h2 vx g k2 hgx h5
      · have := (k3 g hgx).2.1; omega
    · obtain ⟨v1, k1, _, _⟩ := hs.hp x bx h1
      obtain ⟨v2, k2, _, _⟩ := hs.hp y b_y h3
      have e1 := hθ _ _ k1
      have e2 := hθ _ _ k2
      rw [hvx] at e1; rw [hvy] at e2
      cases e1; cases e2
      exact hs.inj x y bx b_y vx vy g h1 h3 k1 k2 hgx hgy
  · intro x v hx
    show x < nx ∧ x ∉ s.free.filter fun x => !(L1.elem x)
    by_cases hex : ∃ j : Nat, L1[j]? = some x
    · obtain ⟨j, hj⟩ := hex
      have hm : x ∈ L1 := List.mem_of_getElem? hj
      have := List.all_eq_true.1 hnx1 x hm
      refine ⟨by simpa [Nat.blt_eq] using this, ?_⟩
      simp [hm]
    · have hx' : (if h : ∃ j : Nat, L1[j]? = some x then θ' h.choose else θ x) = some v := hx
      rw [dif_neg hex] at hx'
      obtain ⟨h1, h2⟩ := hs.dom x v hx'
      exact ⟨Nat.lt_of_lt_of_le h1 (Nat.le_of_ble_eq_true hnx), fun h => h2 (List.mem_filter.1 h).1⟩
  · intro k hk
    exact Nat.lt_of_lt_of_le (hs.flt k (List.mem_filter.1 hk).1) (Nat.le_of_ble_eq_true hnx)
  · intro x v hx
    by_cases hex : ∃ j : Nat, L1[j]? = some x
    · obtain ⟨j, hj⟩ := hex
      rw [hθj j x hj] at hx
      exact hpre.one j v hx
    · have hx' : (if h : ∃ j : Nat, L1[j]? = some x then θ' h.choose else θ x) = some v := hx
      rw [dif_neg hex] at hx'
      exact hs.one x v hx'
  · intro g hg; exact hO2 g (hO2' g hg)
  · exact ⟨he.os.trans hs.ext.os, he.tape.trans hs.ext.tape, he.output.trans hs.ext.output, Nat.le_trans hs.ext.size he.size, fun b hb hL =>
      (he.block b (Nat.lt_of_lt_of_le hb hs.ext.size) (fun h => by have := (hB b h).2.2.1 hL; omega)).trans (hs.ext.block b hb hL)⟩
  · intro g hX
    exact .inl ⟨hs.xo g hX, fun h => (hB g h).2.2.2.1 hX⟩
  · intro d hd
    obtain ⟨D, rfl, hD, hOD, h0⟩ := hs.marks d hd
    have hnB : ¬ B D := fun h => by obtain ⟨_, _, _, _, _, o, h1, h2⟩ := hB D h; rw [hD] at h1; cases h1; cases h2
    have hlt : D < w.heap.size := hs.olt D hOD
    exact ⟨D, rfl, by rw [he.block D hlt hnB]; exact hD, .inl ⟨hOD, hnB⟩, h0⟩
  · intro g hg hlt
    rcases hO2O g hg with h | h
    · exact hs.oc g h hlt
    · have := hs.ext.size; omega
  · refine c.Jst hs.jn ⟨he.os, he.tape, he.output, he.size, fun b hb hn => he.block b hb (fun h => hn.elim (fun h1 => h1 (.inr (.inl (hB b h).2.2.2.2.1))) (fun h1 => h1 (hB b h).1)), hO2O, fun g h1 h2 => .inl ⟨h1, fun h => h2 (.inr (.inl (hB g h).2.2.2.2.1))⟩, fun g hg => hO2 g (hO2' g hg), fun g hI => ?_⟩
    rcases hI with hI | ⟨x, b, v, h1, h2, h3⟩ | hI
    · exact .inl (.inl hI)
    · rcases hget x b h1 with ⟨j, b', rfl, h4, rfl⟩ | ⟨h4, h5⟩
      · obtain ⟨v1, k1, _, _⟩ := hpre.own j b' h4
        have e1 := hθ1 j v1 k1
        rw [h2] at e1; cases e1
        rcases hnew g ⟨j, b', v, h4, k1, h3⟩ with h6 | h6
        · exact .inl (.inr (.inl (hB g h6).2.2.2.2.1))
        · exact .inr h6
      · obtain ⟨v1, k1, _, _⟩ := hs.hp x b h4
        have e1 := hθ _ _ k1
        rw [h2] at e1; cases e1
        exact .inl (.inr (.inl ⟨x, b, v, h4, k1, h3⟩))
    · exact .inl (.inr (.inr hI))

theorem op_callW {fo : Operand} {xs : List Operand} {ts : Array TypeId} {f : Nat} {fa : AV} {as caps args : List AV} {hp hp' : List (Nat × Option Blk)} {n n' : Nat} {kb : List (Nat × Nat)} {rs : List AV} (L0 L1 drop : List Nat) (nx : Nat) (ho : o.op = .call { callee := .value fo, args := xs.toArray, argTypes := ts }) (hf : ev s fo = some fa) (hx : evl s xs = some as)
    (hfa : capsOf fa = some (f, caps)) (hcat : as ++ caps = AV.mapL (fun i => L0.getD i s.next) args) (hB : callB P f = true) (h : FnW G P f args hp n kb rs hp' n') (hn0 : L0.length = n) (hnd0 : L0.Nodup) (hH : SubH s.hp (fun i => L0.getD i s.next) hp)
    (hn1 : L1.length = n') (hnd1 : L1.Nodup) (hfr : FrL s L0 kb 0 L1) (hk : keysB hp' n' = true) (hdr : dropB hp hp' (fun i => L0.getD i s.next) (fun i => L1.getD i 0) drop = true) (hnx : Nat.ble s.next nx = true) (hnx1 : L1.all (fun x => Nat.blt x nx) = true)
    (hd : o.dst = d) (hn : dOk s d = true) : OpOk ro P c o s ((s.callW hp' L1 drop nx).put d (some ((topW rs).map (fun i => L1.getD i 0)))) := by
  rintro a w ⟨O, θ, hs⟩ K Q hK
  obtain ⟨e1, e2⟩ := evl_ok hs hx
  have hfv := ev_ok hs hf
  have hnone : θ s.next = none := by
    cases h : θ s.next with
    | none => rfl
    | some v => have := (hs.dom _ _ h).1; omega
  have hcaps : ∃ us : Array Value, a.eval fo = .func (.func f) #[] us ∧ us.size = caps.length ∧ ∀ (i : Nat) (x : AV) (u : Value), caps[i]? = some x → us[i]? = some u → RdA w O θ x u := by
    generalize hfe : a.eval fo = fv at hfv
    cases hfv with
    | fn f' caps' us h1 h2 =>
      simp only [capsOf, Option.some.injEq, Prod.mk.injEq] at hfa
      obtain ⟨rfl, rfl⟩ := hfa
      exact ⟨us, rfl, h1, h2⟩
    | pv p _ h1 =>
      cases h1 with
      | fn f' caps' us h1 h2 =>
        simp only [capsOf, Option.some.injEq, Prod.mk.injEq] at hfa
        obtain ⟨rfl, rfl⟩ := hfa
        refine ⟨us, rfl, by simpa using h1, fun i x u hx hu => ?_⟩
        rw [List.getElem?_map, Option.map_eq_some_iff] at hx
        obtain ⟨p, hp, rfl⟩ := hx
        exact .pv _ _ (h2 i p u hp hu)
      | _ => simp [capsOf] at hfa
    | _ => simp [capsOf] at hfa
  obtain ⟨us, hfe, hus, hcr⟩ := hcaps
  refine ⟨fun f _ => trivial, ?_⟩
  have hrun : (execOp a.eval o).run P w = .ok (.enter f ((xs.map a.eval).toArray ++ us)) w := by
    simp [execOp, ho, resolve, Deferred.ofValue, hfe, invoke, callB_spec hB]
  rw [Oper.semAt_plain _ _ _ (by rw [ho]; intro k h; cases h), hrun]
  refine ⟨fun h => by simp [FF, Fence.wide] at h, ?_⟩
  have hlen : as.length + caps.length = args.length := by
    have := congrArg List.length hcat
    rw [List.length_append, AV.mapL_length] at this
    exact this
  have harg : ∀ (i : Nat) (x : AV) (u : Value), (as ++ caps)[i]? = some x → ((xs.map a.eval).toArray ++ us)[i]? = some u → RdA w O θ x u := by
    intro i x u hx hu
    rw [List.getElem?_append] at hx
    split at hx
    · rename_i hi
      rw [Array.getElem?_append_left (by simp; omega)] at hu
      exact e2 i x u hx (by simpa using hu)
    · rename_i hi
      rw [Array.getElem?_append_right (by simp; omega)] at hu
      refine hcr _ x u hx ?_
      have : (xs.map a.eval).toArray.size = as.length := by simpa using e1
      rw [this] at hu
      exact hu
  have hlt0 : ∀ i v, θ (L0.getD i s.next) = some v → L0[i]? = some (L0.getD i s.next) := by
    intro i v hv
    rw [List.getD_eq_getElem?_getD] at hv ⊢
    cases h : L0[i]? with
    | none => rw [h] at hv; simp only [Option.getD_none] at hv; rw [hnone] at hv; cases hv
    | some y => rfl
  have hpre : PreW w O (fun i => θ (L0.getD i s.next)) hp n := by
    refine ⟨fun i b hb => ?_, fun i j bi bj vi vj g hi hj hvi hvj hgi hgj => ?_, fun i v hv => ?_, fun i v hv => hs.one _ v hv⟩
    · obtain ⟨v, h1, h2, h3⟩ := hs.hp _ _ (SubH.spec hH i b (look_mem hb))
      exact ⟨v, h1, h2.ren _ (fun _ _ h => h), fun g hg => ⟨(h3 g hg).1, (h3 g hg).2.1⟩⟩
    · have := hs.inj _ _ _ _ vi vj g (SubH.spec hH i bi (look_mem hi)) (SubH.spec hH j bj (look_mem hj)) hvi hvj hgi hgj
      have h1 := hlt0 i vi hvi
      have h2 := hlt0 j vj hvj
      rw [this] at h1
      exact nodup_inj hnd0 i j _ h1 h2
    · have := hlt0 i v hv
      have := (List.getElem?_eq_some_iff.1 this).1
      omega
  have hcall := h w O (fun i => θ (L0.getD i s.next)) ((xs.map a.eval).toArray ++ us) hs.olt (c.JG hs.jn) hpre (by
      have : (xs.map a.eval).toArray.size = as.length := by simpa using e1
      rw [Array.size_append, this, hus]; exact hlen) (fun i x v hx hv => by
    refine RdA.ren (fun i => L0.getD i s.next) (fun _ _ h => h) (harg i (x.map _) v ?_ hv) x rfl
    rw [hcat, AV.mapL_get, hx]; rfl)
  refine CallsIn.mono (callsIn_wide (n := 0 - 1).2 hcall) ?_
  rintro e w' ⟨v, O', θ', rfl, he, hO1, hO2, hO3, hpre', hnew, hkb, hr⟩
  obtain ⟨O2, θ2, g1, g2, g3⟩ := sim_of_callW hs L0 L1 drop nx hn0 hH hn1 hnd1 hfr hk hdr hnx hnx1 he hO1 hO2 hO3 hpre' hnew hkb
  subst hd
  refine hK _ _ ⟨O2, θ2, g1.put _ _ _ (dOk_lt hn) (dOk_kt hn) ?_⟩
  exact (hr.mono (Nat.le_refl _) (fun b _ hn => ⟨fun h => hn (g2 b h), rfl⟩) (fun _ _ h => h)).mapF _ g3

/-- A name more that stands for nothing. -/
theorem FnW.nils {P : Program} {f n n' : Nat} {args : List AV} {hp hp' : List (Nat × Option Blk)} {kb : List (Nat × Nat)} {rs : List AV} (i sz : Nat) (hi : args[i]? = some (.pv (.vs sz []))) (h : FnW G P f args hp n kb rs hp' n') : FnW G P f (args.set i (.pv .nils)) hp n kb rs hp' n' := by
  intro w O θ vs h1 hG h2 h3 h4
  refine h w O θ vs h1 hG h2 (by rw [h3, List.length_set]) fun j x v hx hv => ?_
  by_cases hji : j = i
  · subst hji
    rw [hi] at hx; cases hx
    have hl : j < args.length := (List.getElem?_eq_some_iff.1 hi).1
    have := h4 j (.pv .nils) v (by rw [List.getElem?_set_self hl]) hv
    have h5 := rda_pv this
    cases h5
    exact .pv _ _ (Rd.vs0 sz)
  · exact h4 j x v (by rw [List.getElem?_set_ne (fun e => hji e.symm)]; exact hx) hv
end
end Go.Abs

/- Short words for the walks; regions that draw their order, walked step by step. -/
namespace Go.Abs
variable {G : List (Nat × List PV)}
open Go.RowKit
/-- A box's cells, of a whole value. -/
abbrev bxv (l : List PV) : List AV := l.map AV.pv
section
variable {ro : Option Nat} {P : Program} {c : Cx G} {Q : Exit → Act → World → Prop} {s : St}
/-- The region `l`: its first operations are walked (their effects, the last one first: `es`), `rest` is to come, from `m` on. -/
def DrW (ro : Option Nat) (P : Program) (c : Cx G) (Q : Exit → Act → World → Prop) (s : St) (id : Nat) (l : List Oper) (n : Nat) (df : List Deferred) (next ys : Nat) (kt : List Nat) (m0 : Mid) (es : List Eff) (rest : List Oper) (m : Mid) : Prop :=
  (∃ pre, l = pre ++ rest ∧ ∀ rest' es', OpFacts ro P c l n df next ys kt rest' es' → OpFacts ro P c l n df next ys kt (pre ++ rest') (es.reverse ++ es')) → (∀ es', TextOk es' m → TextOk (es.reverse ++ es') m0) →
    runP (fun _ => true) 0 es.reverse m0 = m → AW ro P c (.region id l.toArray true) Q s
theorem runP_snoc (p : Nat → Bool) : ∀ (es : List Eff) (k : Nat) (m : Mid) (e : Eff), (∀ j, p j = true) → runP p k (es ++ [e]) m = e.apply (runP p k es m)
  | [], k, m, e, h => by simp [runP, h]
  | e' :: es, k, m, e, h => by
    simp only [List.cons_append, runP, h, cond_true]
    exact runP_snoc p es (k + 1) _ e h
theorem dr_start {id n next ys : Nat} {kt : List Nat} {df : List Deferred} {l : List Oper} (m0 : Mid) (_hs0 : s = m0.st n df next ys kt) (h : DrW ro P c Q s id l n df next ys kt m0 [] l m0) : AW ro P c (.region id l.toArray true) Q s :=
  h ⟨[], rfl, fun _ _ h => h⟩ (fun _ h => h) rfl
theorem dr_cons {id n next ys : Nat} {kt : List Nat} {df : List Deferred} {l rest : List Oper} {o : Oper} {m0 m : Mid} {es : List Eff} (e : Eff) (hf : ∀ m : Mid, Has e m → StepOk ro P c l o (m.st n df next ys kt) ((e.apply m).st n df next ys kt)) (ht : Has e m)
    (h : DrW ro P c Q s id l n df next ys kt m0 (e :: es) rest (e.apply m)) : DrW ro P c Q s id l n df next ys kt m0 es (o :: rest) m := by
  rintro ⟨pre, h1, h2⟩ h3 h4
  refine h ⟨pre ++ [o], by rw [h1]; simp, fun rest' es' h5 => ?_⟩ (fun es' h5 => ?_) ?_
  · rw [List.reverse_cons, List.append_assoc, List.append_assoc]
    exact h2 (o :: rest') (e :: es') ⟨hf, h5⟩
  · rw [List.reverse_cons, List.append_assoc]
    exact h3 (e :: es') ⟨ht, h5⟩
  · rw [List.reverse_cons, runP_snoc _ _ _ _ _ (fun _ => rfl), h4]
theorem dr_nil {id n next ys : Nat} {kt : List Nat} {df : List Deferred} {l : List Oper} {m0 m : Mid} {es : List Eff} (hm : P.follows .mixedOrders = true) (hs0 : s = m0.st n df next ys kt) (hB : orderB l es.reverse = true) (h : Post c Q .normal (m.st n df next ys kt)) : DrW ro P c Q s id l n df next ys kt m0 es [] m := by
  rintro ⟨pre, h1, h2⟩ h3 h4
  have hF := h2 [] [] trivial
  have hT := h3 [] trivial
  rw [List.append_nil] at h1 hT
  rw [List.append_nil, List.append_nil, ← h1] at hF
  exact aw_drawn es.reverse m0 hm hs0 hF hT hB (by rw [h4]; exact h)

section
variable {id n next ys : Nat} {kt : List Nat} {df : List Deferred} {l rest : List Oper} {o : Oper} {m0 m : Mid} {es : List Eff}
theorem dru {j d : Nat} {want : Bool} (h : DrW ro P c Q s id l n df next ys kt m0 ({ need := [(d, .tup [])], dst := o.dst, val := some (.tup []) } :: es) rest (({ need := [(d, .tup [])], dst := o.dst, val := some (.tup []) } : Eff).apply m))
    (hg : o.guard = some (j, want) := by exact rfl) (hj : ((l[j]?).bind (·.dst)) = some d := by exact rfl) (hn : Nat.blt d n = true := by exact rfl) (hl : look d m.fr = some (.tup []) := by exact rfl) (hk : ktB (m.st n df next ys kt) o.dst = true := by exact rfl) :
    DrW ro P c Q s id l n df next ys kt m0 es (o :: rest) m :=
  dr_cons { need := [(d, .tup [])], dst := o.dst, val := some (.tup []) } (fun m' h => step_off (guard_undef hg hj hn h.1.1) hk (by cases o.dst <;> rfl)) ⟨⟨hl, trivial⟩, trivial, trivial⟩ h
theorem dro_f {j d : Nat} {t : Bool} (ht : t = false) (h : DrW ro P c Q s id l n df next ys kt m0 ({ need := [(d, .pv (.bool t))], dst := o.dst, val := some (.tup []) } :: es) rest (({ need := [(d, .pv (.bool t))], dst := o.dst, val := some (.tup []) } : Eff).apply m))
    (hg : o.guard = some (j, true) := by exact rfl) (hj : ((l[j]?).bind (·.dst)) = some d := by exact rfl) (hn : Nat.blt d n = true := by exact rfl) (hl : look d m.fr = some (.pv (.bool t)) := by exact rfl) (hk : ktB (m.st n df next ys kt) o.dst = true := by exact rfl) :
    DrW ro P c Q s id l n df next ys kt m0 es (o :: rest) m :=
  dr_cons { need := [(d, .pv (.bool t))], dst := o.dst, val := some (.tup []) } (fun m' h => step_off (guard_off hg hj hn h.1.1 ht) hk (by cases o.dst <;> rfl)) ⟨⟨hl, trivial⟩, trivial, trivial⟩ h
theorem dro_t {j d : Nat} {t : Bool} (ht : t = true) (h : DrW ro P c Q s id l n df next ys kt m0 ({ need := [(d, .pv (.bool t))], dst := o.dst, val := some (.tup []) } :: es) rest (({ need := [(d, .pv (.bool t))], dst := o.dst, val := some (.tup []) } : Eff).apply m))
    (hg : o.guard = some (j, false) := by exact rfl) (hj : ((l[j]?).bind (·.dst)) = some d := by exact rfl) (hn : Nat.blt d n = true := by exact rfl) (hl : look d m.fr = some (.pv (.bool t)) := by exact rfl) (hk : ktB (m.st n df next ys kt) o.dst = true := by exact rfl) :
    DrW ro P c Q s id l n df next ys kt m0 es (o :: rest) m :=
  dr_cons { need := [(d, .pv (.bool t))], dst := o.dst, val := some (.tup []) } (fun m' h => step_off (guard_off hg hj hn h.1.1 ht) hk (by cases o.dst <;> rfl)) ⟨⟨hl, trivial⟩, trivial, trivial⟩ h
theorem drm {t d : Nat} {v : AV} (h : DrW ro P c Q s id l n df next ys kt m0 ({ need := [(t, v)], dst := some d, val := some v } :: es) rest (({ need := [(t, v)], dst := some d, val := some v } : Eff).apply m))
    (hg : o.guard = none := by exact rfl) (ho : o.op = .move (.tmp t) := by exact rfl) (hd : o.dst = some d := by exact rfl) (hl : look t m.fr = some v := by exact rfl) (hk : dOk (m.st n df next ys kt) (some d) = true := by exact rfl) :
    DrW ro P c Q s id l n df next ys kt m0 es (o :: rest) m :=
  dr_cons { need := [(t, v)], dst := some d, val := some v } (fun m' h => step_on (guard_no hg) (op_move ho h.1.1 hd hk) rfl) ⟨⟨hl, trivial⟩, trivial, trivial⟩ h
theorem drpf {t d : Nat} {v : AV} {y z : Operand} {b : Bool} (hb : b = false) (h : DrW ro P c Q s id l n df next ys kt m0 ({ need := [(t, .pv (.bool b))], dst := some d, val := some v } :: es) rest (({ need := [(t, .pv (.bool b))], dst := some d, val := some v } : Eff).apply m))
    (hg : o.guard = none := by exact rfl) (ho : o.op = .pick (.tmp t) y z := by exact rfl) (hd : o.dst = some d := by exact rfl) (hl : look t m.fr = some (.pv (.bool b)) := by exact rfl) (hy : ∀ m' : Mid, ev (m'.st n df next ys kt) z = some v := by exact fun _ => rfl) (hk : dOk (m.st n df next ys kt) (some d) = true := by exact rfl) :
    DrW ro P c Q s id l n df next ys kt m0 es (o :: rest) m :=
  dr_cons { need := [(t, .pv (.bool b))], dst := some d, val := some v } (fun m' h => step_on (guard_no hg) (op_pick_f ho h.1.1 hb (hy m') hd hk) rfl) ⟨⟨hl, trivial⟩, trivial, trivial⟩ h
end
section
variable {all rest : List Oper} {o : Oper} {s' : St}
theorem rgu {j d : Nat} {want : Bool} {d' : Option Nat} (h : RegW ro P c all rest Q (s.put d' (some (.tup [])))) (hg : o.guard = some (j, want) := by exact rfl) (hj : ((all[j]?).bind (·.dst)) = some d := by exact rfl) (hn : Nat.blt d s.n = true := by exact rfl) (hl : look d s.fr = some (.tup []) := by exact rfl) (hd : o.dst = d' := by exact rfl) (hk : ktB s d' = true := by exact rfl) :
    RegW ro P c all (o :: rest) Q s := reg_off (guard_undef hg hj hn hl) hd hk h
theorem rgo_f {j d : Nat} {t : Bool} {d' : Option Nat} (ht : t = false) (h : RegW ro P c all rest Q (s.put d' (some (.tup [])))) (hg : o.guard = some (j, true) := by exact rfl) (hj : ((all[j]?).bind (·.dst)) = some d := by exact rfl) (hn : Nat.blt d s.n = true := by exact rfl) (hl : look d s.fr = some (.pv (.bool t)) := by exact rfl) (hd : o.dst = d' := by exact rfl) (hk : ktB s d' = true := by exact rfl) :
    RegW ro P c all (o :: rest) Q s := reg_off (guard_off hg hj hn hl ht) hd hk h
theorem rgo_t {j d : Nat} {t : Bool} {d' : Option Nat} (ht : t = true) (h : RegW ro P c all rest Q (s.put d' (some (.tup [])))) (hg : o.guard = some (j, false) := by exact rfl) (hj : ((all[j]?).bind (·.dst)) = some d := by exact rfl) (hn : Nat.blt d s.n = true := by exact rfl) (hl : look d s.fr = some (.pv (.bool t)) := by exact rfl) (hd : o.dst = d' := by exact rfl) (hk : ktB s d' = true := by exact rfl) :
    RegW ro P c all (o :: rest) Q s := reg_off (guard_off hg hj hn hl ht) hd hk h
theorem prt {fn : Func} {w0 : World} {O0 : Nat → Prop} {t : Nat} {p : PV} (hr : fn.results = [ResultVar.tmp t].toArray := by exact rfl) (h : look t s.fr = some (.pv p) := by exact rfl) (hc : c = Fn.cx w0 O0 := by exact rfl) : Post c (FnPost P fn w0 O0 [.p p]) .ret s := post_ret hc hr (.cons _ _ _ _ _ (.tmp _ _ h) (.p _) .nil) (.inl rfl)
theorem rgp (ho : OpOk ro P c o s s') (h : RegW ro P c all rest Q s') (hg : o.guard = none := by exact rfl) : RegW ro P c all (o :: rest) Q s := reg_cons (guard_no hg) ho h
theorem rgn {j d : Nat} {want t : Bool} (ht : t = want) (ho : OpOk ro P c o s s') (h : RegW ro P c all rest Q s') (hg : o.guard = some (j, want) := by exact rfl) (hj : ((all[j]?).bind (·.dst)) = some d := by exact rfl) (hn : Nat.blt d s.n = true := by exact rfl) (hl : look d s.fr = some (.pv (.bool t)) := by exact rfl) : RegW ro P c all (o :: rest) Q s :=
  reg_cons (guard_on hg hj hn hl ht) ho h
theorem rmv {x : Operand} {v : AV} {d : Option Nat} (h : RegW ro P c all rest Q (s.put d (some v))) (hg : o.guard = none := by exact rfl) (ho : o.op = .move x := by exact rfl) (hx : ev s x = some v := by exact rfl) (hd : o.dst = d := by exact rfl) (hk : dOk s d = true := by exact rfl) :
    RegW ro P c all (o :: rest) Q s := reg_cons (guard_no hg) (op_move ho hx hd hk) h
theorem ras {x : Operand} {v : AV} {d : Option Nat} (h : RegW ro P c all rest Q (s.put d (some v))) (hg : o.guard = none := by exact rfl) (ho : o.op = .assign x := by exact rfl) (hx : ev s x = some v := by exact rfl) (hd : o.dst = d := by exact rfl) (hk : dOk s d = true := by exact rfl) :
    RegW ro P c all (o :: rest) Q s := reg_cons (guard_no hg) (op_assign ho hx hd hk) h
theorem rpt {x y z : Operand} {b : Bool} {v : AV} {d : Option Nat} (hb : b = true) (h : RegW ro P c all rest Q (s.put d (some v))) (hg : o.guard = none := by exact rfl) (ho : o.op = .pick x y z := by exact rfl) (hx : ev s x = some (.pv (.bool b)) := by exact rfl) (hy : ev s y = some v := by exact rfl) (hd : o.dst = d := by exact rfl) (hk : dOk s d = true := by exact rfl) :
    RegW ro P c all (o :: rest) Q s := reg_cons (guard_no hg) (op_pick_t ho hx hb hy hd hk) h
theorem rpf {x y z : Operand} {b : Bool} {v : AV} {d : Option Nat} (hb : b = false) (h : RegW ro P c all rest Q (s.put d (some v))) (hg : o.guard = none := by exact rfl) (ho : o.op = .pick x y z := by exact rfl) (hx : ev s x = some (.pv (.bool b)) := by exact rfl) (hy : ev s z = some v := by exact rfl) (hd : o.dst = d := by exact rfl) (hk : dOk s d = true := by exact rfl) :
    RegW ro P c all (o :: rest) Q s := reg_cons (guard_no hg) (op_pick_f ho hx hb hy hd hk) h
end
theorem imps {s s' : St} (L : List Nat) (hF : SubF s.fr (fun i => L.getD i s.next) s'.fr) (hH : SubH s.hp (fun i => L.getD i s.next) s'.hp) (hn : s'.n = s.n := by exact rfl) (hnd : L.Nodup := by decide) (hnext : s'.next = L.length := by exact rfl) (hfree : s'.free = [] := by exact rfl)
    (hids : (s'.hp.all fun x => Nat.blt x.1 L.length) = true := by exact rfl) (hys : s'.ys = s.ys := by exact rfl) (hkt : s'.kt = s.kt := by exact rfl) : Imp c s s' := imp_sub L hn hnd hnext hfree hF hH hids hys hkt
end
end Go.Abs

/- A zero value, written out as a constant, stored. -/
namespace Go.Abs
variable {G : List (Nat × List PV)}
open Go.RowKit
section
variable {ro : Option Nat} {P : Program} {c : Cx G} {s s' : St} {o : Oper} {d : Option Nat}
end
end Go.Abs

/- Bits and quotients of integers; texts and bytes. -/
namespace Go.Abs
variable {G : List (Nat × List PV)}
open Go.RowKit
def bitsI (k : IntKind) (f : BitVec k.bits → BitVec k.bits → BitVec k.bits) (x y : Int) : Int := k.wrap (f (BitVec.ofInt k.bits x) (BitVec.ofInt k.bits y)).toNat
def andI (k : IntKind) (x y : Int) : Int := bitsI k (fun a b => a &&& b) x y
def orI (k : IntKind) (x y : Int) : Int := bitsI k (fun a b => a ||| b) x y
def xorI (k : IntKind) (x y : Int) : Int := bitsI k (fun a b => a ^^^ b) x y
def notI (k : IntKind) (x y : Int) : Int := bitsI k (fun a b => a &&& ~~~b) x y
def intOp2 (op : BinOp) (k : IntKind) (m n : Int) : Option PV :=
  match op with
  | .and => some (.int k (andI k m n))
  | .or => some (.int k (orI k m n))
  | .xor => some (.int k (xorI k m n))
  | .andNot => some (.int k (notI k m n))
  | .quo => if n = 0 then none else some (.int k (k.wrap (m.tdiv n)))
  | .rem => if n = 0 then none else some (.int k (m.tmod n))
  | _ => none
/-- A text of bytes; bytes of a text. -/
def strL (l : List Int) : List UInt8 := l.map fun n => UInt8.ofNat n.toNat
def bytesL (l : List UInt8) : List Int := l.map fun b => (b.toNat : Int)
theorem quo_op {k : IntKind} {m n : Int} (h : n ≠ 0) : intOp2 .quo k m n = some (.int k (k.wrap (m.tdiv n))) := by simp [intOp2, h]
theorem rem_op {k : IntKind} {m n : Int} (h : n ≠ 0) : intOp2 .rem k m n = some (.int k (m.tmod n)) := by simp [intOp2, h]
section
variable {ro : Option Nat} {P : Program} {c : Cx G} {s s' : St} {o : Oper} {d : Option Nat}
theorem op_int2 {op : BinOp} {T T' : TypeId} {x y : Operand} {k : IntKind} {m n : Int} {r : PV} (ho : o.op = .binOp op T x y T') (hx : ev s x = some (.pv (.int k m))) (hy : ev s y = some (.pv (.int k n)))
    (hr : intOp2 op k m n = some r) (hd : o.dst = d) (hn : dOk s d = true) : OpOk ro P c o s (s.put d (some (.pv r))) :=
  opOk_value hd hn (by rw [ho]; intro k h; cases h) fun a w O θ hs => by
    have e1 := ev_int hs hx
    have e2 := ev_int hs hy
    cases op <;> simp only [intOp2, Option.some.injEq, reduceCtorEq] at hr
    case quo =>
      split at hr
      · cases hr
      · rename_i h0
        cases hr
        exact ⟨_, by simp [execOp, ho, eqGuard, binOp, e1, e2, Op.intDiv, h0], .pv _ _ (.int _ _)⟩
    case rem =>
      split at hr
      · cases hr
      · rename_i h0
        cases hr
        exact ⟨_, by simp [execOp, ho, eqGuard, binOp, e1, e2, Op.intDiv, h0], .pv _ _ (.int _ _)⟩
    all_goals subst hr
    all_goals exact ⟨_, by simp [execOp, ho, eqGuard, binOp, e1, e2, Op.intBits, andI, orI, xorI, notI, bitsI], .pv _ _ (.int _ _)⟩
/-- `[]byte(s)`, that nobody writes to. -/
theorem op_strBytes {T T' e : TypeId} {x : Operand} {l : List UInt8} {td : TypeDesc} {u : Unit} {E : Int → List PV} (ho : o.op = .convert T T' x) (hx : ev s x = some (.pv (.str l))) (hs0 : P.underlying T = some td) (hd0 : P.underlying T' = some (.slice e)) (he : P.underlying e = some (.int .u8))
    (hl : room (l.length : Int) 1 = some u) (hE : E = fun b => [.int .u8 b]) (hd : o.dst = d) (hn : dOk s d = true) : OpOk ro P c o s (s.put d (some (.pv (.vs 1 ((bytesL l).map E))))) :=
  opOk_mem (s1 := s) hd hn (by rw [ho]; intro k h; cases h) fun a w O θ hs => by
    have hl := room_spec hl
    subst hE
    rw [show (bytesL l).map (fun b => [PV.int .u8 b]) = l.map fun b => [.int .u8 (b.toNat : Int)] by simp [bytesL]]
    have hsz : (⟨l.toArray⟩ : ByteArray).size = l.length := by simp [ByteArray.size]
    have hg : w.grownBy (Lib.bytesWorld w e ⟨l.toArray⟩) none := ⟨rfl, rfl, rfl, by rw [Lib.bytesWorld_size]; omega, fun k hk _ => Lib.bytesWorld_at_old w e _ k hk⟩
    have hge := grownCap_ge w l.length 0 e
    have hcm := grownCap_le_maxLen w l.length 0 e (by unfold maxLen; omega)
    have hnO : ¬ O w.heap.size := fun h => by have := hs.olt _ h; omega
    have hrun := Lib.run_convert_string_bytes w T T' e ⟨l.toArray⟩ hs0 hd0 he
    rw [hsz] at hrun
    refine ⟨.slice (some ⟨w.heap.size, 0, none⟩) l.length (grownCap w l.length 0 e), Lib.bytesWorld w e ⟨l.toArray⟩, O, θ, by simp [execOp, ho, ev_str hs hx, hrun], hs.grownNone hg, .pv _ _ ?_⟩
    have := rd_vs_of_rows (w := Lib.bytesWorld w e ⟨l.toArray⟩) (O := O) (sz := 1) (rows := l.map fun b => [.int .u8 (b.toNat : Int)]) (us := l.map fun b => .int .u8 (b.toNat : Int)) (g := w.heap.size) (cap := grownCap w l.length 0 e) ⟨by simp, by simp, by simp [PV.one], fun i j row c u h1 h2 h3 => ?_⟩ (Lib.bytesWorld_at_new w e ⟨l.toArray⟩) (by simp [Lib.bytesCells]) hnO (by simpa using hge) hcm
    · simpa using this
    · rw [List.getElem?_map, Option.map_eq_some_iff] at h1
      obtain ⟨b, hb, rfl⟩ := h1
      cases j with
      | zero =>
        simp at h2 h3
        obtain ⟨b', hb', rfl⟩ := h3
        rw [hb] at hb'; cases hb'
        subst h2
        exact .int _ _
      | succ j => simp at h2
theorem rd_bytes {w : World} {O : Nat → Prop} {l : List Int} {v : Value} (h : Rd w O (.vs 1 (l.map fun b => [.int .u8 b])) v) :
    ∃ a cap, v = .slice a l.length cap ∧ (l = [] ∨ ∃ g off, a = some ⟨g, off, none⟩ ∧ ∀ k b, l[k]? = some b → w.cell? ⟨g, off + k, none⟩ = some (.int .u8 b)) := by
  generalize hr : (l.map fun b => [PV.int .u8 b]) = rows at h
  cases h with
  | vsz sz a cap h0 hm =>
    have : l = [] := by simpa using hr
    subst this
    exact ⟨a, cap, rfl, .inl rfl⟩
  | vs sz rows b off cap us h1 h2 h3 h4 h5 h6 h7 h8 =>
    refine ⟨some ⟨b, off, none⟩, cap, by rw [← hr]; simp, .inr ⟨b, off, rfl, fun k x hk => ?_⟩⟩
    have hrow : rows[k]? = some [.int .u8 x] := by rw [← hr, List.getElem?_map, hk]; rfl
    have hlt : k < rows.length := (List.getElem?_eq_some_iff.1 hrow).1
    have := h8 k 0 _ _ hrow rfl
    rw [h7 k (by omega)]
    have e : us (k * 1 + 0) = us k := by simp
    rw [e] at this
    generalize us k = u at this
    cases this; rfl
theorem push_all : ∀ (l : List Int) (acc : ByteArray), l.foldl (fun r n => r.push (UInt8.ofNat n.toNat)) acc = ⟨acc.data ++ (strL l).toArray⟩
  | [], acc => by simp [strL]
  | b :: l, acc => by
    rw [List.foldl_cons, push_all l]
    simp [ByteArray.push, strL]
/-- `string(b)`. -/
theorem op_bytesStr {T T' e : TypeId} {x : Operand} {l : List Int} {E : Int → List PV} (ho : o.op = .convert T T' x) (hx : ev s x = some (.pv (.vs 1 (l.map E)))) (hE : E = fun b => [.int .u8 b]) (hs0 : P.underlying T = some (.slice e)) (he : P.underlying e = some (.int .u8)) (hd0 : P.underlying T' = some .string)
    (hd : o.dst = d) (hn : dOk s d = true) : OpOk ro P c o s (s.put d (some (.pv (.str (strL l))))) :=
  opOk_value hd hn (by rw [ho]; intro k h; cases h) fun a w O θ hs => by
    subst hE
    obtain ⟨ad, cap, hv, h⟩ := rd_bytes (ev_pv hs hx)
    refine ⟨.string ⟨(strL l).toArray⟩, ?_, .pv _ _ (.str _)⟩
    have hrun : (convert T T' (.slice ad l.length cap)).run P w = .ok (.string ⟨(strL l).toArray⟩) w := by
      rw [run_convert_bytes_string w T T' e ad l.length cap hs0 he hd0]
      rcases h with rfl | ⟨g, off, rfl, h⟩
      · cases ad with
        | none => simp [Conv.bytesToString, Sem.run_pure]; rfl
        | some a0 =>
          have := run_bytesToString (P := P) w a0 0 cap [] (by simp [loadCells, loadCellsFrom, Sem.run_pure])
          simp only [List.foldl_nil] at this
          exact this
      · have h1 := run_loadCells_list (P := P) w ⟨g, off, none⟩ (l.map fun b => Value.int .u8 b) (fun j v hj => by
          rw [List.getElem?_map, Option.map_eq_some_iff] at hj
          obtain ⟨b, hb, rfl⟩ := hj
          have := h j b hb
          simp only [Addr.add]
          split
          · rename_i h0; subst h0; simpa using this
          · simpa using this)
        rw [List.length_map] at h1
        have h2 := run_bytesToString (P := P) w ⟨g, off, none⟩ l.length cap l (by rw [h1])
        rw [push_all] at h2
        simpa using h2
    simp [execOp, ho, hv, hrun]
end
end Go.Abs

/- Package variables: an array of known elements. -/
namespace Go.Abs
variable {G : List (Nat × List PV)}
open Go.RowKit
section
variable {ro : Option Nat} {P : Program} {c : Cx G} {s s' : St} {o : Oper} {d : Option Nat}
theorem ev_glob {O : Nat → Prop} {θ : Nat → Option Value} {a : Act} {w : World} (hs : SimAt c s O θ a w) {g : Nat} {row : List PV} (hg : (g, row) ∈ G) : Rd w O (.vp row) (a.eval (.global g)) := by
  have h := c.JG hs.jn _ hg
  exact h
theorem rd_el {w : World} {O : Nat → Prop} {sz b off : Nat} {α : Type} {f : α → List PV} {l : List α} {i : Int} {z : α} (h : Rd w O (.vp (l.map f).flatten) (.pointer (some ⟨b, off, none⟩))) (hf : ∀ z, (f z).length = sz) (hi : idx l i = some z) :
    Rd w O (.vp (f z)) (.pointer (some ⟨b, off + i.toNat * sz, none⟩)) := by
  obtain ⟨i0, i1, i2⟩ := idx_spec hi
  obtain ⟨b', off', us, hv, h1, h2, h3, h4, h5⟩ := rd_vp h
  injection hv with hv; injection hv with hv; injection hv with e1 e2; subst e1; subst e2
  have hfl : ((l.map f).flatten).length = l.length * sz := by
    rw [flatten_len (sz := sz) (fun row hr => by obtain ⟨z, _, rfl⟩ := List.mem_map.1 hr; exact hf z), List.length_map]
  have hget : ∀ (l : List α) (k : Nat) (z : α) (j : Nat), l[k]? = some z → j < sz → ((l.map f).flatten)[k * sz + j]? = (f z)[j]? := by
    intro l
    induction l with
    | nil => intro k z j hk; simp at hk
    | cons x l ih =>
      intro k z j hk hj
      rw [List.map_cons, List.flatten_cons]
      cases k with
      | zero =>
        simp at hk; subst hk
        rw [Nat.zero_mul, Nat.zero_add, List.getElem?_append_left (by rw [hf]; exact hj)]
      | succ k =>
        rw [List.getElem?_append_right (by rw [hf, Nat.add_mul]; omega), hf]
        have : (k + 1) * sz + j - sz = k * sz + j := by rw [Nat.add_mul]; omega
        rw [this]
        exact ih k z j (by simpa using hk) hj
  have hlt : i.toNat < l.length := (List.getElem?_eq_some_iff.1 i1).1
  refine .vp _ b _ (fun j => us (i.toNat * sz + j)) h1 h2 (fun q hq => ?_) (fun j hj => ?_) (fun j q hq => ?_)
  · refine h3 q (List.mem_flatten.2 ⟨f z, List.mem_map.2 ⟨z, List.mem_of_getElem? i1, rfl⟩, hq⟩)
  · rw [hf] at hj
    rw [Nat.add_assoc]
    exact h4 _ (by rw [hfl]; exact index_lt hlt hj)
  · have hj : j < sz := by have := (List.getElem?_eq_some_iff.1 hq).1; rwa [hf] at this
    exact h5 _ q (by rw [hget l _ z j i1 hj]; exact hq)
/-- An element of a package variable. -/
theorem op_glob_index {T n e sz g : Nat} {y : Operand} {k : IntKind} {i : Int} {row : List PV} {α : Type} {l : List α} {f : α → List PV} {z : α} (ho : o.op = .indexAddr T (.global g) y) (hG : (g, row) ∈ G) (hy : ev s y = some (.pv (.int k i))) (ht : arrayB P T n e sz = true)
    (hrow : row = (l.map f).flatten) (hf : ∀ z, (f z).length = sz) (hl : l.length = n) (hi : idx l i = some z) (hd : o.dst = d) (hn : dOk s d = true) :
    OpOk ro P c o s (s.put d (some (.pv (.vp (f z))))) :=
  opOk_value hd hn (by rw [ho]; intro k h; cases h) fun a w O θ hs => by
    have hv := ev_glob hs hG
    have he : a.eval (.global g) = .pointer (some ⟨g, 0, none⟩) := rfl
    rw [he, hrow] at hv
    obtain ⟨i0, i1, i2⟩ := idx_spec hi
    have hm : i = ((i.toNat : Nat) : Int) := by omega
    have hlt : i.toNat < n := by omega
    have hrun := run_arrayAt (P := P) ht (k := k) (m := i.toNat) (by simpa [Nat.blt_eq] using hlt) w g 0
    rw [← hm] at hrun
    exact ⟨.pointer (some ⟨g, 0 + i.toNat * sz, none⟩), by simp [execOp, ho, he, ev_int hs hy, hrun], .pv _ _ (rd_el hv hf hi)⟩
/-- A package variable's elements, as a slice. -/
theorem op_glob_slice {T n e sz g : Nat} {row : List PV} {α : Type} {f : α → List PV} {l : List α} (ho : o.op = .slice T (.global g) none none none) (hG : (g, row) ∈ G)
    (ht : arrayB P T n e sz = true) (hrow : row = (l.map f).flatten) (hf : ∀ z, (f z).length = sz) (hl : l.length = n) (hnm : Nat.ble n maxLen = true) (hd : o.dst = d) (hn : dOk s d = true) : OpOk ro P c o s (s.put d (some (.pv (.vs sz (l.map f))))) :=
  opOk_value hd hn (by rw [ho]; intro k h; cases h) fun a w O θ hs => by
    obtain ⟨i, t1, t2, t3⟩ := arrayB_spec ht
    have hv := ev_glob hs hG
    have he : a.eval (.global g) = .pointer (some ⟨g, 0, none⟩) := rfl
    rw [he] at hv
    have hfl : ((l.map f).flatten).length = n * sz := by
      rw [flatten_len (sz := sz) (fun row hr => by obtain ⟨z, _, rfl⟩ := List.mem_map.1 hr; exact hf z), List.length_map, hl]
    have hv2 := rd_arr (n := n) (sz := sz) hv (by rw [hrow, List.take_of_length_le (by omega)]) hf hl (Nat.le_of_ble_eq_true hnm)
    have e0 : (l.map f).length = n := by rw [List.length_map, hl]
    rw [e0] at hv2
    refine ⟨.slice (some ⟨g, 0, none⟩) n n, ?_, .pv _ _ hv2⟩
    by_cases h0 : n = 0
    · subst h0
      simp [execOp, ho, he, Instr.sliceAt, run_underlying t1, Instr.sureAddr, Instr.sliceBounds, sizeOf, typeInfo, t2, t3, Addr.add_lit]
    · simp [execOp, ho, he, Instr.sliceAt, run_underlying t1, Instr.sureAddr, Instr.sliceBounds, sizeOf, typeInfo, t2, t3, Addr.add_lit]
end
/-- What a package variable's cells read as. -/
theorem globOk_nil {w : World} {O : Nat → Prop} : GlobOk [] w O := fun x hx => by cases hx
theorem globOk_cons {w : World} {O : Nat → Prop} {x : Nat × List PV} {l : List (Nat × List PV)} (h : Rd w O (.vp x.2) (.pointer (some ⟨x.1, 0, none⟩))) (hl : GlobOk l w O) : GlobOk (x :: l) w O := fun y hy => by
  rcases List.mem_cons.1 hy with rfl | hy
  · exact h
  · exact hl y hy
end Go.Abs

/- An array of a box, as a slice that is copied into. -/
namespace Go.Abs
variable {G : List (Nat × List PV)}
open Go.RowKit
section
variable {ro : Option Nat} {P : Program} {c : Cx G} {s s' : St} {o : Oper} {d : Option Nat}
end
end Go.Abs

/- Functions of Go's library, by the contracts of the kit's shelf. -/
namespace Go.Abs
variable {G : List (Nat × List PV)}
open Go.RowKit
end Go.Abs

/- A row of the call's own, cut short; zeros behind nil; what a nil slice has room for. -/
namespace Go.Abs
variable {G : List (Nat × List PV)}
open Go.RowKit
section
variable {ro : Option Nat} {P : Program} {c : Cx G} {s s' : St} {o : Oper} {d : Option Nat}
end
end Go.Abs
namespace Go.Abs
end Go.Abs
namespace Go.Abs
variable {G : List (Nat × List PV)}
open Go.RowKit
section
variable {ro : Option Nat} {P : Program} {c : Cx G} {s s' : St} {o : Oper} {d : Option Nat}
end
end Go.Abs
namespace Go.Abs
end Go.Abs

/- A box that holds a function which holds that box: a function that calls itself by its own variable. -/
namespace Go.Abs
variable {G : List (Nat × List PV)}
open Go.RowKit
end Go.Abs

/- Calls that hand back a pointer into the caller's box; the complement of a number. -/
namespace Go.Abs
variable {G : List (Nat × List PV)}
open Go.RowKit
/-- The complement of a number. -/
def cplI (k : IntKind) (n : Int) : Int := xorI k (if k.signed = true then -1 else k.max) n
section
variable {ro : Option Nat} {P : Program} {c : Cx G} {s s' : St} {o : Oper} {d : Option Nat}
theorem op_unxor {T : TypeId} {x : Operand} {k : IntKind} {n : Int} (ho : o.op = .unOp .xor T x) (hx : ev s x = some (.pv (.int k n))) (hd : o.dst = d) (hn : dOk s d = true) : OpOk ro P c o s (s.put d (some (.pv (.int k (cplI k n))))) :=
  opOk_value hd hn (by rw [ho]; intro k h; cases h) fun a w O θ hs => ⟨_, by simp only [execOp, ho, Op.unary, ev_int hs hx, Op.intBits, cplI, xorI, bitsI]; rfl, .pv _ _ (.int _ _)⟩

theorem bxv_map (ρ : Nat → Nat) (l : List PV) : AV.mapL ρ (bxv l) = bxv l := by
  induction l with
  | nil => rfl
  | cons x l ih => show AV.map ρ (.pv x) :: AV.mapL ρ (bxv l) = _; rw [ih]; rfl

/-- A call that is handed one box, and hands back what lies in it, or beside it, and changes nothing. -/
theorem op_callP {fo : Operand} {xs : List Operand} {ts : Array TypeId} {f : Nat} {fa : AV} {as caps args : List AV} {rs : List AV} {id T : Nat} {cells : List PV} (ho : o.op = .call { callee := .value fo, args := xs.toArray, argTypes := ts })
    (hf : ev s fo = some fa) (hx : evl s xs = some as) (hfa : capsOf fa = some (f, caps)) (hcat : as ++ caps = AV.mapL (fun i => [id].getD i s.next) args) (hB : callB P f = true)
    (h : FnW G P f args [(0, some (.box T (bxv cells)))] 1 [(0, 0)] rs [(0, some (.box T (bxv cells)))] 1) (hb : look id s.hp = some (.box T (bxv cells)))
    (hd : o.dst = d) (hn : dOk s d = true) : OpOk ro P c o s (s.put d (some ((topW rs).map (fun i => [id].getD i 0)))) := by
  intro a w hs K Q hK
  obtain ⟨O, θ, hs'⟩ := hs
  obtain ⟨v, hv, _⟩ := hs'.hp id _ hb
  obtain ⟨hlt, hnf⟩ := hs'.dom id v hv
  have hbm : ∀ ρ : Nat → Nat, (Blk.box T (bxv cells)).map ρ = .box T (bxv cells) := fun ρ => by
    show Blk.box T (AV.mapL ρ (bxv cells)) = _
    rw [bxv_map]
  refine op_callW [id] [id] [] s.next ho hf hx hfa hcat hB h rfl (by simp) ⟨by rw [hbm]; exact hb, trivial⟩ rfl (by simp) ⟨.inl (by simp [keptB]), trivial⟩ (by simp [keysB, Nat.blt]) (by simp [dropB]) (Nat.ble_eq_true_of_le (Nat.le_refl _)) (by simp [Nat.blt, Nat.ble_eq]; exact hlt) hd ?_ a w ⟨O, θ, hs'⟩ K Q fun a' w' h' => hK a' w' ?_
  · cases d <;> first | rfl | exact hn
  have hlook : ∀ (t : Nat) (x : Blk), look t s.hp = some x → look t ((s.callW [(0, some (.box T (bxv cells)))] [id] [] s.next)).hp = some x := by
    intro t x ht
    show look t ((id, some ((Blk.box T (bxv cells)).map _)) :: ([] ++ s.hp)) = some x
    rw [hbm, look_cons]
    split
    · rename_i e; subst e; rw [hb] at ht; exact ht
    · simpa using ht
  have hfree : ∀ k, k ∈ s.free → k ∈ s.free.filter fun x => !([id].elem x) := by
    intro k hk
    refine List.mem_filter.2 ⟨hk, ?_⟩
    have : k ≠ id := fun e => hnf (e ▸ hk)
    simp [this]
  refine imp_less ?_ ?_ ?_ ?_ ?_ ?_ ?_ a' w' h'
  · cases d <;> rfl
  · cases d <;> rfl
  · cases d <;> rfl
  · cases d <;> rfl
  · cases d <;> exact fun t x h => h
  · cases d <;> exact hlook
  · cases d <;> exact hfree
end
end Go.Abs

/- From the arguments' readings to abstract values; a law's row, out of its contract. -/
namespace Go.Abs
variable {G : List (Nat × List PV)}
open Go.ChangeShapes Go.WideShapes Go.ChangeAt Go.RowKit

section
variable {H : Type} (enc : TypeId × Value → H) (P : Program) (w : World)

/-- What is read at type `T` is one `e y`, with a `y` that is `good`. -/
def DecAt (fuel : Nat) (T : TypeId) {α : Type} (e : α → List PV) (good : α → Prop) : Prop :=
  ∀ (cs : List Value) (x : DataW H × List MemPlace), DataW.trod enc P w 0 (fun _ => true) true fuel T cs = some x → ∃ y, good y ∧ Reads1 w (fun _ => False) cs (e y)

variable {enc P w}
theorem reads1_one {v : Value} {p : PV} (h : Rd w (fun _ => False) p v) (hp : p.one = true) : Reads1 w (fun _ => False) [v] [p] := by
  refine ⟨rfl, by simpa using hp, fun j q u hq hu => ?_⟩
  cases j with
  | zero => simp at hq hu; subst hq; subst hu; exact h
  | succ j => simp at hq

def strok (s : List UInt8) : Prop := s.length ≤ maxLen
theorem dec_str {fuel T : Nat} (h : P.underlying T = some .string) : DecAt enc P w fuel T eS strok := fun cs x hx => by
  obtain ⟨s, rfl, _, hs⟩ := DataW.trod_string h hx
  refine ⟨s.data.toList, by show s.data.toList.length ≤ maxLen; rw [Array.length_toList]; exact hs, reads1_one ?_ rfl⟩
  have := Rd.str (w := w) (O := fun _ => False) s.data.toList
  simpa using this
/-! Structs, part by part. -/
theorem reads_nil {cs : List Value} {off : Nat} (h : cs.length = off) : Reads1 w (fun _ => False) (cs.drop off) [] := by
  rw [List.drop_eq_nil_of_le (by omega)]
  exact ⟨rfl, by simp, fun j p u hp => by simp at hp⟩
theorem reads_cons {cs : List Value} {off sz : Nat} {p q : List PV} (h1 : Reads1 w (fun _ => False) ((cs.drop off).take sz) p) (hp : p.length = sz) (h2 : Reads1 w (fun _ => False) (cs.drop (off + sz)) q) : Reads1 w (fun _ => False) (cs.drop off) (p ++ q) := by
  have e : cs.drop off = (cs.drop off).take sz ++ cs.drop (off + sz) := by
    rw [← List.drop_drop, List.take_append_drop]
  rw [e]
  have hl : ((cs.drop off).take sz).length = sz := by rw [h1.1, hp]
  refine ⟨by rw [List.length_append, List.length_append, h1.1, h2.1], fun x hx => ?_, fun j x u hx hu => ?_⟩
  · rcases List.mem_append.1 hx with h | h
    · exact h1.2.1 x h
    · exact h2.2.1 x h
  · rw [List.getElem?_append] at hx hu
    rw [hl] at hu; rw [hp] at hx
    split at hx
    · rename_i hj; rw [if_pos hj] at hu; exact h1.2.2 j x u hx hu
    · rename_i hj; rw [if_neg hj] at hu; exact h2.2.2 _ x u hx hu

def arrB (P : Program) (T : TypeId) (n E sz : Nat) : Bool :=
  match P.underlying T with
  | some (.array m e) => (m == n && e == E) && (P.cellsOf E == sz && P.cellsOf T == n * sz)
  | _ => false
/-- An argument. -/
theorem dec_arg {T : TypeId} {v : Value} {d : DataW H} {ps : List MemPlace} {α : Type} {e : α → List PV} {good : α → Prop} (hT : ∀ n, DecAt enc P w n T e good) (h : DataW.Trod enc P w 0 (fun _ => true) true T v d ps) : ∃ y, good y ∧ Reads1 w (fun _ => False) v.cells.toList (e y) := by
  obtain ⟨fuel, hf⟩ := h
  exact hT fuel _ _ hf
end
end Go.Abs
namespace Go.Abs
variable {G : List (Nat × List PV)}
end Go.Abs
namespace Go.Abs
variable {G : List (Nat × List PV)}
open Go.ChangeShapes Go.WideShapes Go.ChangeAt Go.RowKit
section
variable {H : Type} {enc : TypeId × Value → H} {P : Program} {w : World}
end
end Go.Abs

/- A law's row, out of its contract. -/
namespace Go.Abs
variable {G : List (Nat × List PV)}
open Go.ChangeShapes Go.WideShapes Go.ChangeAt Go.RowKit

section
variable {H : Type} {enc : TypeId × Value → H} {P : Program}

def readB (P : Program) (ts : List TypeId) : Bool := ts.all fun t => P.readableRec t && decide (t < P.types.size)

theorem trodAll_carry (hl : laidOutB P = true) {W W' : World} (hb : Below W.heap.size W W') : ∀ {ts : List TypeId} {vs : List Value} {ds : List (DataW H)} {ps : List MemPlace}, readB P ts = true → DataW.TrodAll enc P W 0 (fun _ => true) true ts vs ds ps → (∀ x ∈ ps, x.block < W.heap.size) →
    DataW.TrodAll enc P W' 0 (fun b => decide (b < W.heap.size)) true ts vs ds ps
  | [], vs, ds, ps, _, h, _ => by
    obtain ⟨rfl, rfl, rfl⟩ := trodAll_nil h
    rfl
  | t :: ts, vs, ds, ps, hr, h, hlt => by
    obtain ⟨v, vs', d, ds', p, q, rfl, rfl, rfl, h1, h2⟩ := trodAll_cons h
    unfold readB at hr
    rw [List.all_cons] at hr
    simp only [Bool.and_eq_true, decide_eq_true_eq] at hr
    exact ⟨p, q, Below.trod hl hr.1.1 hr.1.2 h1 hb (fun x hx => hlt x (by simp [hx])), trodAll_carry hl hb (by unfold readB; exact hr.2) h2 (fun x hx => hlt x (by simp [hx])), rfl⟩

theorem law_post {f : Func} {s : ChangeSpec} {apart fresh handsOn : Bool} {W W' : World} {args : Array Value} {ds : List (DataW H)} {ps : List MemPlace} {B : TypeId} (hl : laidOutB P = true) (hr : readB P f.params.toList = true) (hvars : s.vars = [])
    (hW : DataW.Whole enc P f.params.toList s.vars apart W args.toList ds [] ps) (hA : DataW.TrodAll enc P W 0 (fun _ => true) true f.params.toList args.toList ds ps) (hg : W.grownBy W' none) (hres : f.resultTypes = #[B]) (hB : P.underlying B = some .bool)
    (hs : s.fn H ds = { results := [.lit (.bool true)], args := ds }) : s.post enc P f apart fresh handsOn false W args (.bool true) W' := by
  have hb : Below W.heap.size W W' := (Below.refl _ W).grown hg (Nat.le_refl _) (by simp)
  have hlt : ∀ x ∈ ps, x.block < W.heap.size := fun x hx => by simpa using hW.lt x hx
  refine ⟨ds, [], ps, [], ps, [], hW, ?_, ?_, ?_, hb.frame _, fun h => by cases h⟩
  · rw [List.append_nil, hs, hres]
    exact trodAll_mk1 (shut_bool hB true)
  · rw [List.append_nil, hs]
    exact trodAll_carry hl hb hr hA hlt
  · rw [List.append_nil, hs, hvars]
    rfl

/-- What the arguments read as. -/
def ArgsRd (W : World) (as : List PV) (args : Array Value) : Prop := args.size = as.length ∧ ∀ (i : Nat) (p : PV) (v : Value), as[i]? = some p → args[i]? = some v → Rd W (fun _ => False) p v

end

def RdAll (W : World) : List PV → List Value → Prop
  | [], [] => True
  | p :: ps, v :: vs => Rd W (fun _ => False) p v ∧ RdAll W ps vs
  | _, _ => False
theorem RdAll.args {W : World} : ∀ {as : List PV} {vs : List Value}, RdAll W as vs → vs.length = as.length ∧ ∀ (i : Nat) (p : PV) (v : Value), as[i]? = some p → vs[i]? = some v → Rd W (fun _ => False) p v
  | [], [], _ => ⟨rfl, fun i p v h => by simp at h⟩
  | p :: ps, v :: vs, h => by
    obtain ⟨h1, h2⟩ := h.2.args
    refine ⟨by simp [h1], fun i q u hq hu => ?_⟩
    cases i with
    | zero => simp at hq hu; subst hq; subst hu; exact h.1
    | succ i => exact h2 i q u (by simpa using hq) (by simpa using hu)
  | [], _ :: _, h | _ :: _, [], h => by simp [RdAll] at h
theorem argsRd_all {W : World} {xs : List PV} {args : Array Value} (h : RdAll W xs args.toList) : ArgsRd W xs args := by
  obtain ⟨h1, h2⟩ := h.args
  exact ⟨by simpa using h1, fun i p v hp hv => h2 i p v hp (by simpa using hv)⟩

/-- A value of one cell, out of its cells. -/
def oneT (P : Program) (T : TypeId) : Bool := match P.underlying T with
  | some .bool | some (.int _) | some .string | some (.slice _) => true
  | _ => false
theorem arg_one {W : World} {P : Program} {base : Nat} {T : TypeId} {v : Value} {p : PV} (h : Reads1 W (fun _ => False) v.cells.toList [p]) (hv : Value.okWide P W .any base T v) (ht : oneT P T = true) : Rd W (fun _ => False) p v := by
  have : v.cells.toList = [v] := by
    unfold oneT at ht
    unfold Value.okWide at hv
    split at hv
    · rename_i hu; rw [hu] at ht; cases ht
    · rename_i hu; rw [hu] at ht; cases ht
    · unfold Cell.okWide at hv
      cases v <;> first | rfl | skip
      all_goals
        exfalso
        revert hv
        split <;> simp_all [Cell.ok]
        try (split <;> simp_all)
  rw [this] at h
  exact h.2.2 0 p v rfl rfl
end Go.Abs

/- A law's row whose package variables are listed, out of its contract. -/
namespace Go.Abs
variable {G : List (Nat × List PV)}
open Go.ChangeShapes Go.WideShapes Go.ChangeAt Go.RowKit

section
variable {P : Program} {w : World}
/-- What reads as `d` at type `T` is `row`. -/
def ReadsD (P : Program) (w : World) (T : TypeId) (d : DataW Unit) (row : List PV) : Prop :=
  ∀ (fuel : Nat) (cs : List Value) (ps : List MemPlace), DataW.trod (fun _ => ()) P w 0 (fun _ => true) false fuel T cs = some (d, ps) → Reads1 w (fun _ => False) cs row
theorem rdD_str {T : TypeId} (h : P.underlying T = some .string) (s : List UInt8) : ReadsD P w T (.lit (.string s)) [.str s] := fun fuel cs ps hx => by
  obtain ⟨b, rfl, he, _⟩ := DataW.trod_string h hx
  simp only [Prod.mk.injEq, DataW.lit.injEq, Lit.string.injEq] at he
  obtain ⟨rfl, _⟩ := he
  refine reads1_one ?_ rfl
  have := Rd.str (w := w) (O := fun _ => False) b.data.toList
  simpa using this
theorem rdD_int {T : TypeId} {k : IntKind} (h : P.underlying T = some (.int k)) (n : Int) : ReadsD P w T (.lit (.int k n)) [.int k n] := fun fuel cs ps hx => by
  obtain ⟨m, rfl, he, _⟩ := DataW.trod_int h hx
  simp only [Prod.mk.injEq, DataW.lit.injEq, Lit.int.injEq, true_and] at he
  obtain ⟨rfl, _⟩ := he
  exact reads1_one (.int k n) rfl
/-- The parts of an array, one by one. -/
def ReadsAll (P : Program) (w : World) (E : TypeId) : List (DataW Unit) → List (List PV) → Prop
  | [], [] => True
  | d :: ds, r :: rs => ReadsD P w E d r ∧ ReadsAll P w E ds rs
  | _, _ => False
theorem reads_flat {E sz : Nat} (cs : List Value) : ∀ (ds : List (DataW Unit)) (rs : List (List PV)) (k : Nat), ReadsAll P w E ds rs → (∀ r ∈ rs, r.length = sz) → cs.length = (k + ds.length) * sz →
    (∀ i d, ds[i]? = some d → ∃ m ps, DataW.trod (fun _ => ()) P w 0 (fun _ => true) false m E ((cs.drop ((k + i) * sz)).take sz) = some (d, ps)) → Reads1 w (fun _ => False) (cs.drop (k * sz)) rs.flatten
  | [], [], k, _, _, hl, _ => by simpa using reads_nil (w := w) (cs := cs) (off := k * sz) (by simpa using hl)
  | d :: ds, r :: rs, k, h, hz, hl, hp => by
    rw [List.flatten_cons]
    refine reads_cons (sz := sz) ?_ (hz r (by simp)) ?_
    · obtain ⟨m, ps, h0⟩ := hp 0 d rfl
      exact h.1 m _ ps (by simpa using h0)
    · have e : k * sz + sz = (k + 1) * sz := by rw [Nat.add_mul]; omega
      rw [e]
      refine reads_flat cs ds rs (k + 1) h.2 (fun r hr => hz r (by simp [hr])) (by rw [hl]; simp only [List.length_cons]; congr 1; omega) fun i d hi => ?_
      have := hp (i + 1) d (by simpa using hi)
      rw [show k + (i + 1) = k + 1 + i by omega] at this
      exact this
  | [], _ :: _, _, h, _, _, _ | _ :: _, [], _, h, _, _, _ => by simp [ReadsAll] at h
theorem rdD_array {T E n sz : Nat} {ds : List (DataW Unit)} {rs : List (List PV)} (h : arrB P T n E sz = true) (hn : ds.length = n) (hz : ∀ r ∈ rs, r.length = sz) (hd : ReadsAll P w E ds rs) : ReadsD P w T (.agg ds) rs.flatten := fun fuel cs ps hx => by
  unfold arrB at h
  split at h
  · rename_i m e hu
    simp only [Bool.and_eq_true, beq_iff_eq] at h
    obtain ⟨⟨rfl, rfl⟩, rfl, h4⟩ := h
    obtain ⟨xs, m', hf, he, hl, hxs, hp⟩ := DataW.trod_array hu hx
    simp only [Prod.mk.injEq, DataW.agg.injEq] at he
    obtain ⟨rfl, _⟩ := he
    have := reads_flat (sz := P.cellsOf e) cs (xs.map (·.1)) rs 0 hd hz (by rw [hl, h4]; simp [hxs]) fun i d hi => by
      rw [List.getElem?_map, Option.map_eq_some_iff] at hi
      obtain ⟨x, hx, rfl⟩ := hi
      have hlt : i < m := by rw [← hxs]; exact (List.getElem?_eq_some_iff.1 hx).1
      refine ⟨m', x.2, ?_⟩
      have := hp i hlt
      rw [hx] at this
      rw [Nat.zero_add]
      exact this
    simpa using this
  · cases h
theorem readsAll_ints {E : TypeId} {k : IntKind} (h : P.underlying E = some (.int k)) : ∀ l : List Int, ReadsAll P w E (l.map fun n => .lit (.int k n)) (l.map fun n => [.int k n])
  | [] => trivial
  | n :: l => ⟨rdD_int h n, readsAll_ints h l⟩
/-- An array of numbers. -/
theorem rdD_ints {T E n : Nat} {k : IntKind} {ds : List (DataW Unit)} {rs : List PV} (l : List Int) (h : arrB P T n E 1 = true) (hE : P.underlying E = some (.int k)) (hn : l.length = n) (hds : ds = l.map fun n => .lit (.int k n))
    (hrs : rs = l.map (.int k)) : ReadsD P w T (.agg ds) rs := by
  have e : (l.map fun n => [PV.int k n]).flatten = l.map (.int k) := by
    clear hn hds hrs
    induction l with
    | nil => rfl
    | cons n l ih => simp only [List.map_cons, List.flatten_cons, ih]; rfl
  subst hds
  rw [hrs, ← e]
  exact rdD_array h (by simpa using hn) (fun r hr => by obtain ⟨n, _, rfl⟩ := List.mem_map.1 hr; rfl) (readsAll_ints hE l)
/-- A listed variable's block. -/
theorem glob_rd {name : String} {g T : Nat} {d : DataW Unit} {row : List PV} (hg : P.globalNamed name = some g) (hT : (P.globals[g]?).map (·.type) = some T) (hd : ReadsD P w T d row)
    (h : ∃ g t cs fuel p, P.globalNamed name = some g ∧ (P.globals[g]?).map (·.type) = some t ∧ w.var? P name = some cs ∧ DataW.trod (fun _ => ()) P w 0 (fun _ => true) false fuel t cs.toList = some (d, p)) (h0 : 0 < row.length) :
    Rd w (fun _ => False) (.vp row) (.pointer (some ⟨g, 0, none⟩)) := by
  obtain ⟨g', t', cs, fuel, p, h1, h2, h3, h4⟩ := h
  obtain rfl : g = g' := Option.some.inj (hg.symm.trans h1)
  obtain rfl : T = t' := Option.some.inj (hT.symm.trans h2)
  obtain ⟨r1, r2, r3⟩ := hd fuel _ _ h4
  have hcell : ∀ i, w.cell? ⟨g, i, none⟩ = cs[i]? := World.var?_cell hg h3
  have hsz : cs.size = row.length := by simpa using r1
  have hb : g < w.heap.size := by
    rcases Nat.lt_or_ge g w.heap.size with h7 | h7
    · exact h7
    · have := hcell 0
      rw [Array.getElem?_eq_getElem (by omega)] at this
      simp [World.cell?, Array.getElem?_eq_none h7] at this
  refine .vp row g 0 (fun k => cs.getD k undef) (fun h => h) hb r2 (fun k hk => ?_) (fun j q hq => ?_)
  · rw [Nat.zero_add, hcell, Array.getElem?_eq_getElem (by omega)]
    simp [show k < cs.size by omega]
  · have hj : j < row.length := (List.getElem?_eq_some_iff.1 hq).1
    refine r3 j q _ hq ?_
    rw [Array.getElem?_toList, Array.getElem?_eq_getElem (by omega)]
    simp [show j < cs.size by omega]
/-- One of the listed variables. -/
theorem laid_at {laid : List (String × DataW Unit)} {ps : List MemPlace} (h : DataW.LaidVars P w laid ps) : ∀ x ∈ laid, ∃ g t cs fuel p, P.globalNamed x.1 = some g ∧ (P.globals[g]?).map (·.type) = some t ∧ w.var? P x.1 = some cs ∧ DataW.trod (fun _ => ()) P w 0 (fun _ => true) false fuel t cs.toList = some (x.2, p) := by
  induction laid generalizing ps with
  | nil => intro x hx; cases hx
  | cons y l ih =>
    intro x hx
    obtain ⟨g, t, cs, fuel, p, q, h1, h2, h3, h4, h5, _⟩ := h
    rcases List.mem_cons.1 hx with rfl | hx
    · exact ⟨g, t, cs, fuel, p, h1, h2, h3, h4⟩
    · exact ih h5 x hx
theorem laid_atH {laid : List (String × DataW Unit)} (hp : (laid.all fun x => x.2.handleName?.isNone) = true) (h : laidMetH P laid w) : ∀ x ∈ laid, ∃ g t cs fuel p, P.globalNamed x.1 = some g ∧ (P.globals[g]?).map (·.type) = some t ∧ w.var? P x.1 = some cs ∧ DataW.trod (fun _ => ()) P w 0 (fun _ => true) false fuel t cs.toList = some (x.2, p) := by
  rw [MakeChecks.laidMetH_plain _ _ _ hp] at h
  obtain ⟨ps, h, _⟩ := h
  exact laid_at h
end

section
variable {H : Type} {enc : TypeId × Value → H} {P : Program}
theorem law_lifted_laid {C : Checked} {os : Os} {f : FuncId} {fn : Func} {s : ChangeSpec} {B : TypeId} {fresh handsOn : Bool} {L : List (String × DataW Unit)}
    (own : ownKnob C.prog.godebug = none) (started : os.Started) (noInit : C.prog.inits.idxOf? f = none) (hfn : C.prog.funcs[f]? = some fn)
    (witness : ∃ (w : World) (tape : Tape) (i : Input), w.os = os ∧ (w.forCall tape i).Shaped C.prog ∧ i.vars = [] ∧ Input.okWide C.prog (w.forCall tape i) .any w.heap.size f i ∧
      ((s.pre enc C.prog fn [] false (w.forCall tape i).memory i.args ∧ laidMetH C.prog L (w.forCall tape i).memory) ∧ sizedMet enc C.prog fn (OpenSpec.ofChange s) false (w.forCall tape i).memory i.args) ∧ ({} : Assume).holds C.prog (lone (Frame.enter C.prog f i.args .normal) [] (w.forCall tape i)))
    (hl : laidOutB C.prog = true) (hr : readB C.prog fn.params.toList = true) (hvars : s.vars = []) (hres : fn.resultTypes = #[B]) (hB : C.prog.underlying B = some .bool)
    (hs : ∀ ds : List (DataW H), ds.length = fn.params.size → s.fn H ds = { results := [.lit (.bool true)], args := ds })
    (hGL : ∀ W : World, laidMetH C.prog L W → GlobOk G W (fun _ => False))
    (hcall : ∀ (W : World) (base : Nat) (args : Array Value) (ds : List (DataW H)) (ps : List MemPlace), (∀ (j : Nat) t v, fn.params[j]? = some t → args[j]? = some v → Value.okWide C.prog W .any base t v) → DataW.TrodAll enc C.prog W 0 (fun _ => true) true fn.params.toList args.toList ds ps → ∃ as : List PV, ArgsRd W as args ∧ Fn G C.prog f as [.p (.bool true)]) :
    ReturnsInHanded {} C os f .any (fun w args => (s.pre enc C.prog fn [] false w args ∧ laidMetH C.prog L w) ∧ sizedMet enc C.prog fn (OpenSpec.ofChange s) false w args) (s.post enc C.prog fn false fresh handsOn false) := by
  refine returnsInHanded_of_change_and (X := fun w _ => laidMetH C.prog L w) (fun _ _ _ hh h => laidMetH.of_heap hh h) own started noInit hfn witness ?_
  intro W base args ds gs before hval hW _ _ hL _
  have hW' := hW
  obtain ⟨p, q, hA, hV, rfl, hfz, hnd⟩ := hW
  have hV' : gs = [] ∧ q = [] := by rw [hvars] at hV; exact trodVars_none hV
  obtain ⟨rfl, rfl⟩ := hV'
  obtain ⟨as, ⟨h1, h2⟩, h3⟩ := hcall W base args ds p hval hA
  refine (h3 W (fun _ => False) args (fun _ h => h.elim) (hGL W hL) h1 h2).mono ?_
  rintro e W' ⟨v, O', rfl, hg, _, hrt⟩
  have hv : v = .bool true := by
    have : Rd W' O' (.bool true) v := hrt
    cases this; rfl
  subst hv
  have hlen : ∀ {ts : List TypeId} {vs : List Value} {ds : List (DataW H)} {ps : List MemPlace}, DataW.TrodAll enc C.prog W 0 (fun _ => true) true ts vs ds ps → ds.length = ts.length := by
    intro ts
    induction ts with
    | nil => intro vs ds ps h; obtain ⟨_, rfl, _⟩ := trodAll_nil h; rfl
    | cons t ts ih => intro vs ds ps h; obtain ⟨v, vs', d, ds', p, q, rfl, rfl, rfl, h1, h2⟩ := trodAll_cons h; simp [ih h2]
  exact ⟨_, rfl, law_post hl hr hvars (by rw [List.append_nil] at hW'; rw [List.append_nil] at *; exact hW') hA hg hres hB (hs ds (by rw [hlen hA]; simp))⟩
end
end Go.Abs

