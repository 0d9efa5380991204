/- The abstract layer that the proof stands on: no condition. -/
import Derived.Test.YtiefoagopfeibaaGreatPureAllA4
import Derived.JoinedCond
/- A region that draws its order, in which an operation that reads a block may come ahead of one that writes it, or behind. -/
namespace Go.Abs
variable {G : List (Nat × List PV)}
open Go.RowKit
def Oq (p q : Nat) (masks : List Nat) (es : List Eff) : Bool :=
 (List.range es.length).all fun j => match es[j]? with
  | some ej => (List.range j).all fun i => match es[i]? with
   | some ei => !(jr ei ej) || Nat.testBit (masks.getD j 0) i || (Nat.beq i p && Nat.beq j q)
   | none => true
  | none => true
def Bw (p q : Nat) (ops : List Oper) (es : List Eff) : Bool := Ed 0 ops && (Oq p q (Si ops []) es && Re es)
def exB (hid : Nat) (ep eq2 : Eff) : Bool := ep.upd.isEmpty && (rH ep == [hid]) && (wT ep).all (fun t => !((wT eq2).elem t) && !((rT eq2).elem t)) && (wT eq2).all fun t => !((rT ep).elem t)
theorem QC {hid : Nat} {ep eq2 : Eff} (h : exB hid ep eq2 = true) : wH ep = [] ∧ True ∧ rH ep = [hid] ∧ (∀ t ∈ wT ep, t ∉ wT eq2 ∧ t ∉ rT eq2) ∧ ∀ t ∈ wT eq2, t ∉ rT ep := by
 simp only [exB, Bool.and_eq_true, List.all_eq_true, beq_iff_eq, List.isEmpty_iff] at h
 obtain ⟨⟨⟨h1, h2⟩, h3⟩, h4⟩ := h
 exact ⟨by simp [wH, h1], trivial, h2, fun t ht => by have := h3 t ht; simpa using this, fun t ht => by have := h4 t ht; simpa using this⟩
theorem Je {p q : Nat} {ops : List Oper} {es : List Eff} (h : Bw p q ops es = true) : (∀ i o, ops[i]? = some o → ∀ x ∈ sN o, x < i) ∧ (∀ i j ei ej, i < j → es[i]? = some ei → es[j]? = some ej → jr ei ej = true → ¬ (i = p ∧ j = q) → Anc ops i j) ∧ ∀ e ∈ es, ∀ k ∈ e.names, k ∈ wH e := by
 simp only [Bw, Bool.and_eq_true] at h
 refine ⟨fun i o ho x hx => by have := vG ops 0 h.1 i o ho x hx; omega, fun i j ei ej hij hi hj hc hn => ?_, fun e he k hk => by
  have := List.all_eq_true.1 h.2.2 e he
  have := List.all_eq_true.1 this k hk
  simpa using this⟩
 have h2 := h.2.1
 simp only [Oq, List.all_eq_true, List.mem_range] at h2
 have hjl : j < es.length := (List.getElem?_eq_some_iff.1 hj).1
 have := h2 j hjl
 rw [hj] at this
 simp only [List.all_eq_true, List.mem_range] at this
 have := this i hij
 rw [hi] at this
 simp only [hc, Bool.not_true, Bool.false_or, Bool.or_eq_true, Bool.and_eq_true] at this
 rcases this with h3 | ⟨h3, h4⟩
 ·exact zx ops i ops [] [] rfl rfl (by intro j h; simp at h) j h3
 ·exact (hn ⟨Nat.eq_of_beq_eq_true h3, Nat.eq_of_beq_eq_true h4⟩).elim
section
variable {ro : Option Nat} {P : Program} {c : Cx G} {Q : Exit → Act → World → Prop} {s s' : St}
theorem Pb {id n next ys : Nat} {kt : List Nat} {df : List Deferred} {l : List Oper} (es : List Eff) (m0 : Mid) (p q hid : Nat) (bE : Blk) {ep eq2 : Eff} {op : Oper} (hp : es[p]? = some ep) (hq : es[q]? = some eq2) (hpq : p < q) (hop : l[p]? = some op) (hx : exB hid ep eq2 = true) (hlook : bZ hid eq2.upd = some bE) (hfact2 : ∀ m : Mid, Has { ep with hneed := [(hid, bE)] } m → wR ro P c l op (m.st n df next ys kt) ((ep.apply m).st n df next ys kt))
   (hm : P.follows .mixedOrders = true) (hs0 : s = m0.st n df next ys kt) (hF : sE ro P c l n df next ys kt l es) (hT : zI es m0) (hB : Bw p q l es = true)
  (h : iK c Q .normal ((gV (fun _ => true) 0 es m0).st n df next ys kt)) : AW ro P c (.region id l.toArray true) Q s := by
 subst hs0
 obtain ⟨hlen, hfact⟩ := yt hF
 obtain ⟨hEdge, hClash, hNames⟩ := Je hB
 obtain ⟨x1, x2, x3, x4, x5⟩ := QC hx
 -- whoever waits for one that is listed ..
 have key : ∀ (fuel : Nat) (listed : Array Bool) (a : Act) (w : World), listed.size = l.length → (∀ j o e, l[j]? = some o → e ∈ o.after → Region.binds .any e = true → listed.getD j false = true → listed.getD e.on false = true) →
   ((List.range l.length).filter fun i => !listed.getD i true).length ≤ fuel → Sim c ((gV (fun i => listed.getD i false) 0 es m0).st n df next ys kt) a w → wpAnyIn (FF ro) 0 P .any l.toArray Q fuel listed a w := by
  have getD_tf : ∀ (listed : Array Bool) (i : Nat), i < listed.size → listed.getD i true = listed.getD i false := fun listed i hi => by simp [hi]
  have down : ∀ (listed : Array Bool), (∀ j o e, l[j]? = some o → e ∈ o.after → Region.binds .any e = true → listed.getD j false = true → listed.getD e.on false = true) → ∀ i j, Anc l i j → listed.getD j false = true → listed.getD i false = true := by
   intro listed hd i j ha
   induction ha with
   | one j o e ho he hb hi => intro hj; rw [← hi]; exact hd j o e ho he hb hj
   | more j o e ho he hb _ ih => intro hj; exact ih (hd j o e ho he hb hj)
  have finish : ∀ (listed : Array Bool) (a : Act) (w : World), listed.size = l.length → Region.ready .any l.toArray listed = [] → Sim c ((gV (fun i => listed.getD i false) 0 es m0).st n df next ys kt) a w → Q .normal a w := by
   intro listed a w hsz hr hs
   have all : ∀ i, i < l.length → listed.getD i false = true := by
    intro i
    induction i using Nat.strongRecOn with
    | _ i ih =>
     intro hi
     cases hb : listed.getD i false with
     | true => rfl
     | false =>
      exfalso
      have hmem : i ∈ Region.ready .any l.toArray listed := by
       refine rC.2 ⟨by simpa using hi, by rw [getD_tf listed i (by omega)]; exact hb, l[i], by simp [hi], fun e he hbd => ?_⟩
       have hlt := hEdge i l[i] (by simp [hi]) e.on (wK.2 ⟨e, he, hbd, rfl⟩)
       exact ih e.on hlt (by omega)
      rw [hr] at hmem; cases hmem
   refine h a w ?_
   rw [← pG (p := fun i => listed.getD i false) es 0 m0 (fun j hj => by rw [Nat.zero_add]; exact all j (by omega))]
   exact hs
  intro fuel
  induction fuel with
  | zero =>
   intro listed a w hsz hd hc hs
   have hr : Region.ready .any l.toArray listed = [] := by
    rw [List.eq_nil_iff_forall_not_mem]
    intro i hi
    obtain ⟨h1, h2, _⟩ := rC.1 hi
    have : i ∈ (List.range l.length).filter fun i => !listed.getD i true := List.mem_filter.2 ⟨by simpa using h1, by simp [h2]⟩
    have := List.length_pos_of_mem this
    omega
   exact ⟨hr, finish listed a w hsz hr hs⟩
  | succ fuel ih =>
   intro listed a w hsz hd hc hs
   refine ⟨fun hr => finish listed a w hsz hr hs, fun i hi => ?_⟩
   obtain ⟨h1, h2, o, ho, hafter⟩ := rC.1 hi
   have hil : i < l.length := by simpa using h1
   have ho' : l[i]? = some o := by simpa using ho
   have hiF : listed.getD i false = false := by rw [← getD_tf listed i (by omega)]; exact h2
   obtain ⟨e, he⟩ : ∃ e, es[i]? = some e := ⟨es[i]'(by omega), List.getElem?_eq_getElem (by omega)⟩
   have noT : ∀ j ej t, es[j]? = some ej → t ∈ wT ej → (t ∈ wT e ∨ t ∈ rT e) → ¬ (i = p ∧ j = q) ∧ ¬ (i = q ∧ j = p) := by
    intro j ej t hj ht ht2
    refine ⟨?_, ?_⟩
    ·rintro ⟨rfl, rfl⟩
     rw [hp] at he; cases he
     rw [hq] at hj; cases hj
     rcases ht2 with h | h
     ·exact (x4 t h).1 ht
     ·exact x5 t ht h
    ·rintro ⟨rfl, rfl⟩
     rw [hq] at he; cases he
     rw [hp] at hj; cases hj
     rcases ht2 with h | h
     ·exact (x4 t ht).1 h
     ·exact (x4 t ht).2 h
   have noH : ∀ j ej t, es[j]? = some ej → t ∈ wH ej → t ∈ wH e → ¬ (i = p ∧ j = q) ∧ ¬ (i = q ∧ j = p) := by
    intro j ej t hj ht ht2
    refine ⟨?_, ?_⟩
    ·rintro ⟨rfl, rfl⟩
     rw [hp] at he; cases he
     rw [x1] at ht2; cases ht2
    ·rintro ⟨rfl, rfl⟩
     rw [hp] at hj; cases hj
     rw [x1] at ht; cases ht
   -- all that it waits for is listed
   have hanc : ∀ j, Anc l j i → listed.getD j false = true := by
    intro j hj
    cases hj with
    | one _ o2 e2 ho2 he2 hb2 hi2 =>
     rw [ho'] at ho2; cases ho2
     rw [← hi2]; exact hafter e2 he2 hb2
    | more _ o2 e2 ho2 he2 hb2 h3 =>
     rw [ho'] at ho2; cases ho2
     exact down listed hd j e2.on h3 (hafter e2 he2 hb2)
   -- whoever clashes with it is listed just if it stands ahead of it
   have agree : ∀ j ej, es[j]? = some ej → (j ≠ i → (jr e ej = true ∧ jr ej e = true) ∧ ¬ (i = p ∧ j = q) ∧ ¬ (i = q ∧ j = p)) → listed.getD (0 + j) false = Nat.blt (0 + j) (0 + i) := by
    intro j ej hj hcl
    simp only [Nat.zero_add]
    by_cases hji : j = i
    ·subst hji; rw [hiF]; simp [Nat.blt_eq, Bool.eq_false_iff]
    ·obtain ⟨⟨c1, c2⟩, nx1, nx2⟩ := hcl hji
     rcases Nat.lt_or_gt_of_ne hji with hlt | hlt
     ·rw [hanc j (hClash j i ej e hlt hj he c2 (fun h => nx2 ⟨h.2, h.1⟩))]
      rw [eq_comm]; simpa [Nat.blt_eq] using hlt
     ·have hA := hClash i j e ej hlt he hj c1 nx1
      have : listed.getD j false = false := by
       cases hb : listed.getD j false with
       | false => rfl
       | true => have := down listed hd i j hA hb; rw [hiF] at this; cases this
      rw [this]; symm; rw [Bool.eq_false_iff]; simp [Nat.blt_eq]; omega
   have clT : ∀ (t : Nat) (a b : Eff), t ∈ wT a → (t ∈ wT b ∨ t ∈ rT b) → jr a b = true ∧ jr b a = true := by
    intro t a b ha hb
    constructor
    ·simp only [jr, Bool.or_eq_true, List.any_eq_true]
     exact .inl (.inl (.inl ⟨t, ha, by simpa using hb⟩))
    ·rcases hb with hb | hb
     ·simp only [jr, Bool.or_eq_true, List.any_eq_true]
      exact .inl (.inl (.inl ⟨t, hb, by simp [ha]⟩))
     ·simp only [jr, Bool.or_eq_true, List.any_eq_true]
      exact .inl (.inl (.inr ⟨t, ha, by simpa using hb⟩))
   have clH : ∀ (t : Nat) (a b : Eff), t ∈ wH a → (t ∈ wH b ∨ t ∈ rH b) → jr a b = true ∧ jr b a = true := by
    intro t a b ha hb
    constructor
    ·simp only [jr, Bool.or_eq_true, List.any_eq_true]
     exact .inl (.inr ⟨t, ha, by simpa using hb⟩)
    ·rcases hb with hb | hb
     ·simp only [jr, Bool.or_eq_true, List.any_eq_true]
      exact .inl (.inr ⟨t, hb, by simp [ha]⟩)
     ·simp only [jr, Bool.or_eq_true, List.any_eq_true]
      exact .inr ⟨t, ha, by simpa using hb⟩
   have hhas0 := yi es 0 m0 hT i e he
   rw [IK] at hhas0
   have hT' : HasT (gV (fun i => listed.getD i false) 0 es m0).fr e.need := by
    refine HasT.iff.2 fun t x hx => ?_
    have hr : t ∈ rT e := List.mem_map.2 ⟨_, hx, rfl⟩
    rw [xf (q := fun j => Nat.blt j (0 + i)) es 0 m0 m0 rfl (fun j ej hj ht => agree j ej hj fun _ => ⟨(clT t ej e ht (.inr hr)).symm, noT j ej t hj ht (.inr hr)⟩)]
    exact HasT.iff.1 hhas0.1 t x hx
   have hN' : HasN (gV (fun i => listed.getD i false) 0 es m0).free e.names := by
    refine HasN.iff.2 fun k hk => ?_
    have hw : k ∈ wH e := hNames e (List.mem_of_getElem? he) k hk
    rw [ul (q := fun j => Nat.blt j (0 + i)) es 0 m0 m0 Iff.rfl (fun j ej hj ht => agree j ej hj fun _ => ⟨(clH k ej e (hNames ej (List.mem_of_getElem? hj) k ht) (.inl hw)).symm, noH j ej k hj (hNames ej (List.mem_of_getElem? hj) k ht) hw⟩)]
    exact HasN.iff.1 hhas0.2.2 k hk
   have hstep : wR ro P c l o ((gV (fun i => listed.getD i false) 0 es m0).st n df next ys kt) ((e.apply (gV (fun i => listed.getD i false) 0 es m0)).st n df next ys kt) := by
    by_cases hsp : i = p ∧ listed.getD q false = true
    ·obtain ⟨rfl, hql⟩ := hsp
     rw [hp] at he; cases he
     rw [hop] at ho'; cases ho'
     refine hfact2 _ ⟨hT', ⟨?_, trivial⟩, hN'⟩
     have hwq : hid ∈ wH eq2 := by
      unfold wH
      have := ga hlook
      exact List.mem_map.2 ⟨_, this, rfl⟩
     rw [ut (q := fun i => listed.getD i false) es 0 q m0 m0 eq2 hq (by simpa using hql) hwq (fun j ej hlt hj htj => by
      rw [Nat.zero_add]
      cases hb : listed.getD j false with
      | false => rfl
      | true =>
       have hcl : jr ep ej = true := (clH hid ej ep htj (.inr (by rw [x3]; simp))).2
       have := down listed hd i j (hClash i j ep ej (by omega) hp hj hcl (fun h => by omega)) hb
       rw [hiF] at this; cases this)]
     show bZ hid (eq2.upd ++ m0.hp) = some bE
     rcases qB hid eq2.upd m0.hp with ⟨y, hy, he2⟩ | ⟨hno, _⟩
     ·rw [pm (m' := []) hwq, List.append_nil]; exact hlook
     ·exact (hno _ (ga hlook)).elim
    ·refine hfact i o e ho' he _ ⟨hT', HasH.iff.2 fun t x hx => ?_, hN'⟩
     have hr : t ∈ rH e := List.mem_map.2 ⟨_, hx, rfl⟩
     rw [xq (q := fun j => Nat.blt j (0 + i)) es 0 m0 m0 rfl (fun j ej hj ht => by
      by_cases hij : i = p ∧ j = q
      ·obtain ⟨rfl, rfl⟩ := hij
       rw [Nat.zero_add, Nat.zero_add]
       have : listed.getD j false = false := by
        cases hb : listed.getD j false with
        | false => rfl
        | true => exact (hsp ⟨rfl, hb⟩).elim
       rw [this]; symm; rw [Bool.eq_false_iff]; simp [Nat.blt_eq]; omega
      ·refine agree j ej hj fun _ => ⟨(clH t ej e ht (.inr hr)).symm, hij, ?_⟩
       rintro ⟨rfl, rfl⟩
       rw [hp] at hj; cases hj
       rw [x1] at ht; cases ht)]
     exact HasH.iff.1 hhas0.2.1 t x hx
   have hset : ∀ j, (listed.setIfInBounds i true).getD j false = if j = i then true else listed.getD j false := by
    intro j
    simp only [Array.getD_eq_getD_getElem?, Array.getElem?_setIfInBounds]
    by_cases hji : j = i
    ·subst hji; simp [show j < listed.size by omega]
    ·rw [if_neg (fun e => hji e.symm), if_neg hji]
   -- the state behind it
   have himp : Imp c ((e.apply (gV (fun i => listed.getD i false) 0 es m0)).st n df next ys kt) ((gV (fun j => (listed.setIfInBounds i true).getD j false) 0 es m0).st n df next ys kt) := by
    have later : ∀ j ej, i < j → es[j]? = some ej → (jr e ej = true) → ¬ (i = p ∧ j = q) → (listed.setIfInBounds i true).getD (0 + j) false = false := by
     intro j ej hlt hj c1 nx1
     rw [Nat.zero_add, hset, if_neg (by omega)]
     cases hb : listed.getD j false with
     | false => rfl
     | true => have := down listed hd i j (hClash i j e ej hlt he hj c1 nx1) hb; rw [hiF] at this; cases this
    refine Mc rfl rfl rfl rfl (fun t x hx => ?_) (fun t x hx => ?_) (fun k hk => ?_)
    ·by_cases ht : t ∈ wT e
     ·have := zq (q := fun j => (listed.setIfInBounds i true).getD j false) es 0 i m0 (gV (fun i => listed.getD i false) 0 es m0) e he (by simp only [Nat.zero_add]; rw [hset, if_pos rfl]) ht (fun j ej hlt hj htj => later j ej hlt hj (clT t e ej ht (.inl htj)).1 (noT j ej t hj htj (.inl ht)).1)
      exact this.symm.trans hx
     ·show bZ t (e.apply _).fr = some x
      rw [qj ht, ← hx]
      refine (xf es 0 m0 m0 rfl fun j ej hj htj => ?_).symm
      rw [hset, if_neg (fun e' => ?_)]
      rw [Nat.zero_add] at e'; subst e'
      rw [he] at hj; cases hj
      exact ht htj
    ·by_cases ht : t ∈ wH e
     ·have := ut (q := fun j => (listed.setIfInBounds i true).getD j false) es 0 i m0 (gV (fun i => listed.getD i false) 0 es m0) e he (by simp only [Nat.zero_add]; rw [hset, if_pos rfl]) ht (fun j ej hlt hj htj => later j ej hlt hj (clH t e ej ht (.inl htj)).1 (noH j ej t hj htj ht).1)
      exact this.symm.trans hx
     ·show bZ t (e.apply _).hp = some x
      rw [qh ht, ← hx]
      refine (xq es 0 m0 m0 rfl fun j ej hj htj => ?_).symm
      rw [hset, if_neg (fun e' => ?_)]
      rw [Nat.zero_add] at e'; subst e'
      rw [he] at hj; cases hj
      exact ht htj
    ·show k ∈ (e.apply _).free
     have hk' : k ∈ (gV (fun j => (listed.setIfInBounds i true).getD j false) 0 es m0).free := hk
     obtain ⟨_, hkn⟩ := uO es 0 m0 hk'
     have hke : k ∉ e.names := hkn i e he (by simp only [Nat.zero_add]; rw [hset, if_pos rfl])
     rw [uX hke]
     refine (ul es 0 m0 m0 Iff.rfl fun j ej hj htj => ?_).1 hk'
     rw [hset, if_neg (fun e' => ?_)]
     rw [Nat.zero_add] at e'; subst e'
     rw [he] at hj; cases hj
     exact hke htj
   have hnext : ∀ a' w', Sim c ((e.apply (gV (fun i => listed.getD i false) 0 es m0)).st n df next ys kt) a' w' → wpAnyIn (FF ro) 0 P .any l.toArray Q fuel (listed.setIfInBounds i true) a' w' := by
    intro a' w' hs'
    refine ih _ a' w' (by simpa using hsz) ?_ ?_ (himp a' w' hs')
    ·intro j o2 e2 ho2 he2 hb2 hj
     rw [hset] at hj ⊢
     by_cases hon : e2.on = i
     ·rw [if_pos hon]
     ·rw [if_neg hon]
      by_cases hji : j = i
      ·subst hji
       rw [ho'] at ho2; cases ho2
       exact hafter e2 he2 hb2
      ·rw [if_neg hji] at hj
       exact hd j o2 e2 ho2 he2 hb2 hj
    ·have hsub : ((List.range l.length).filter fun j => !(listed.setIfInBounds i true).getD j true).length + 1 ≤ ((List.range l.length).filter fun j => !listed.getD j true).length := by
      have hg : ∀ j, j < l.length → (listed.setIfInBounds i true).getD j true = if j = i then true else listed.getD j true := by
       intro j hj
       rw [getD_tf _ j (by simp; omega), hset, getD_tf listed j (by omega)]
      have e1 : ((List.range l.length).filter fun j => !(listed.setIfInBounds i true).getD j true) = ((List.range l.length).filter fun j => !listed.getD j true).filter fun j => !(decide (j = i)) := by
       rw [List.filter_filter]
       refine List.filter_congr fun j hj => ?_
       rw [hg j (by simpa using hj)]
       by_cases hji : j = i <;> simp [hji]
      rw [e1]
      have hmem : i ∈ (List.range l.length).filter fun j => !listed.getD j true := List.mem_filter.2 ⟨by simpa using hil, by simp [h2]⟩
      generalize ((List.range l.length).filter fun j => !listed.getD j true) = L at hmem
      have : ∀ L : List Nat, i ∈ L → (L.filter fun j => !(decide (j = i))).length + 1 ≤ L.length := by
       intro L
       induction L with
       | nil => intro h; simp at h
       | cons x L ihL =>
        intro h
        by_cases hxi : x = i
        ·subst hxi
         have := List.length_filter_le (fun j => !(decide (j = x))) L
         simp; omega
        ·rcases List.mem_cons.1 h with h | h
         ·exact absurd h.symm hxi
         ·have := ihL h
          simp [hxi]; omega
      exact this L hmem
     omega
   obtain ⟨O, θ, hsAt⟩ := hs
   unfold wpOpIn
   rw [ho]
   rcases hstep with ⟨hg, hop⟩ | ⟨hg, hkt, heq⟩
   ·simp only [mV hsAt hg, if_true]
    exact hop a w ⟨O, θ, hsAt⟩ _ _ hnext
   ·simp only [mV hsAt hg, Bool.false_eq_true, if_false]
    refine ⟨fun f _ => trivial, hnext _ _ ?_⟩
    rw [heq]
    exact ⟨O, θ, hsAt.skipU _ (yR hkt)⟩
 rintro a w ⟨O, θ, hs⟩
 refine wpIn_region_any hm (key l.toArray.size _ a _ (by simp) ?_ ?_ ?_)
 ·intro j o e ho he hb hj
  simp [Array.getElem?_replicate] at hj
  split at hj <;> simp at hj
 ·have := List.length_filter_le (fun i => !(Array.replicate l.toArray.size false).getD i true) (List.range l.length)
  simpa using this
 ·have : gV (fun i => (Array.replicate l.toArray.size false).getD i false) 0 es m0 = m0 := by
   rw [pG (q := fun _ => false) es 0 m0 (fun j _ => by simp [Array.getElem?_replicate]; split <;> rfl), ry]
  rw [this]
  exact ⟨O, θ, hs.grownNone ⟨rfl, rfl, rfl, Nat.le_refl _, fun _ _ _ => rfl⟩⟩
theorem Rn {id n next ys : Nat} {kt : List Nat} {df : List Deferred} {l : List Oper} {m0 m : Mid} {es : List Eff} (p q hid : Nat) (bE : Blk) {ep eq2 : Eff} {op : Oper} (hm : P.follows .mixedOrders = true) (hs0 : s = m0.st n df next ys kt) (hp : es.reverse[p]? = some ep) (hq : es.reverse[q]? = some eq2) (hpq : Nat.blt p q = true) (hop : l[p]? = some op)
  (hx : exB hid ep eq2 = true) (hlook : bZ hid eq2.upd = some bE) (hfact2 : ∀ m : Mid, Has { ep with hneed := [(hid, bE)] } m → wR ro P c l op (m.st n df next ys kt) ((ep.apply m).st n df next ys kt)) (hB : Bw p q l es.reverse = true)
  (h : iK c Q .normal (m.st n df next ys kt)) : DrW ro P c Q s id l n df next ys kt m0 es [] m := by
 rintro ⟨pre, h1, h2⟩ h3 h4
 have hF := h2 [] [] trivial
 have hT := h3 [] trivial
 rw [List.append_nil] at h1 hT
 rw [List.append_nil, List.append_nil, ← h1] at hF
 exact Pb es.reverse m0 p q hid bE hp hq (by simpa [Nat.blt_eq] using hpq) hop hx hlook hfact2 hm hs0 hF hT hB (by rw [h4]; exact h)
end
end Go.Abs

/- The arguments' readings with their bulk; a law's second row. -/
namespace Go.Abs
variable {G : List (Nat × List PV)}
open Go.ChangeShapes Go.WideShapes Go.ChangeAt Go.RowKit
structure Bk (H : Type) where
 bk : DataW H → Nat
 al : List (DataW H) → Nat
 str : ∀ s, s.length + 1 ≤ bk (.lit (.string s))
 one : ∀ d, 1 ≤ bk d
 sl : ∀ e s, al e + 1 ≤ bk (.slice e s)
 ag : ∀ l, al l + 1 ≤ bk (.agg l)
 nil : al [] = 0
 cons : ∀ d l, al (d :: l) = bk d + al l
def cW {α : Type} (u : α → Nat) : List α → Nat
 | [] => 0
 | x :: l => u x + cW u l
section
variable {H : Type} (K : Bk H) (enc : TypeId × Value → H) (P : Program) (w : World)
def qU (fuel : Nat) (T : TypeId) {α : Type} (e : α → List PV) (good : α → Prop) (u : α → Nat) : Prop :=
 ∀ (cs : List Value) (x : DataW H × List MemPlace), DataW.trod enc P w 0 (fun _ => true) true fuel T cs = some x → ∃ y, good y ∧ u y ≤ K.bk x.1 ∧ Reads1 w (fun _ => False) cs (e y)
variable {K enc P w}
theorem Po {fuel T : Nat} (h : P.underlying T = some .bool) : qU K enc P w fuel T eB (fun _ => True) (fun _ => 1) := fun cs x hx => by
 obtain ⟨y, h1, h2⟩ := PB h cs x hx
 exact ⟨y, h1, K.one _, h2⟩
theorem Pz {fuel T : Nat} (h : P.underlying T = some (.int .i64)) : qU K enc P w fuel T eI sD (fun _ => 1) := fun cs x hx => by
 obtain ⟨y, h1, h2⟩ := Sx h cs x hx
 exact ⟨y, h1, K.one _, h2⟩
theorem Qa {fuel T : Nat} (h : P.underlying T = some .string) : qU K enc P w fuel T eS sv (fun s => s.length + 1) := fun cs x hx => by
 obtain ⟨s, rfl, rfl, hs⟩ := DataW.trod_string h hx
 refine ⟨s.data.toList, by show s.data.toList.length ≤ maxLen; rw [Array.length_toList]; exact hs, K.str _, pY ?_ rfl⟩
 have := Rd.str (w := w) (O := fun _ => False) s.data.toList
 simpa using this
theorem Qh : ∀ (l : List (DataW H)) (ns : List Nat), ns.length = l.length → (∀ (i n : Nat) (d : DataW H), ns[i]? = some n → l[i]? = some d → n ≤ K.bk d) → cW id ns ≤ K.al l
 | [], [], _, _ => by rw [K.nil]; exact Nat.le_refl _
 | d :: l, n :: ns, hl, h => by
  rw [K.cons]
  simp only [cW, id]
  have h1 := h 0 n d rfl rfl
  have h2 := Qh l ns (by simpa using hl) (fun i n d hn hd => h (i + 1) n d (by simpa using hn) (by simpa using hd))
  omega
 | [], _ :: _, hl, _ => by simp at hl
 | _ :: _, [], hl, _ => by simp at hl
theorem LB {α β : Type} (u : β → Nat) (f : α → β) : ∀ l : List α, cW u (l.map f) = cW (fun x => u (f x)) l
 | [] => rfl
 | x :: l => by simp only [List.map_cons, cW, LB u f l]
theorem Sm {α : Type} (u : α → Nat) (l : List α) : cW id (l.map u) = cW u l := by rw [LB]; rfl
theorem jQ {fuel T E sz : Nat} {α : Type} {e : α → List PV} {good : α → Prop} {u : α → Nat} (h : P.underlying T = some (.slice E)) (hsz : P.cellsOf E = sz) (hz : Nat.blt 0 sz = true) (hlen : ∀ y, (e y).length = sz) (hE : ∀ n, n < fuel → qU K enc P w n E e good u) :
  qU K enc P w fuel T (eL sz e) (jD good) (fun l => cW u l + 1) := fun cs x hx => by
 -- the elements' own counts go along as a part of what is good
 have hz' : 0 < sz := by simpa [Nat.blt_eq] using hz
 rcases DataW.trod_slice h hx with ⟨rfl, rfl⟩ | ⟨a, len, cap, elems, rest, n, hf, rfl, rfl, _, h1, h2, h3, h4, h5⟩
 ·exact ⟨[], ⟨Nat.zero_le _, by simp⟩, K.one _, pY (.vs0 sz) rfl⟩
 ·have el : ∀ i, i < len → ∃ y cs' ei, elems[i]? = some ei ∧ u y ≤ K.bk ei.1 ∧ good y ∧ w.cells? 0 (a.add (i * sz)) sz = some cs' ∧ Reads1 w (fun _ => False) cs' (e y) := by
   intro i hi
   have h6 := h4 i hi
   rw [hsz] at h6
   obtain ⟨ei, hei⟩ : ∃ ei, elems[i]? = some ei := ⟨elems[i]'(by omega), List.getElem?_eq_getElem (by omega)⟩
   rw [hei] at h6
   obtain ⟨cs', h7, h8⟩ := Option.bind_eq_some_iff.1 h6
   obtain ⟨y, h9, h12, h13⟩ := hE n (by omega) cs' _ h8
   exact ⟨y, cs', ei, hei, h12, h9, h7, h13⟩
  rcases Nat.eq_zero_or_pos len with h0 | h0
  ·subst h0
   exact ⟨[], ⟨Nat.zero_le _, by simp⟩, K.one _, pY (.vsz sz (some a) cap (fun e => by cases e) h2) rfl⟩
  ·obtain ⟨f, hfs⟩ : ∃ f : Nat → α, ∀ i, i < len → ∃ cs' ei, elems[i]? = some ei ∧ u (f i) ≤ K.bk ei.1 ∧ good (f i) ∧ w.cells? 0 (a.add (i * sz)) sz = some cs' ∧ Reads1 w (fun _ => False) cs' (e (f i)) := by
    obtain ⟨y0, _⟩ := el 0 h0
    refine ⟨fun i => if hi : i < len then (el i hi).choose else y0, fun i hi => ?_⟩
    simp only [dif_pos hi]
    exact (el i hi).choose_spec
   -- the reading of the whole, by the rule without counts
   have hd : ∃ y, (y = (List.range len).map f) ∧ Reads1 w (fun _ => False) [.slice (some a) len cap] (eL sz e y) := by
    have hsp : a.spot = none := by
     obtain ⟨cs', _, _, _, _, hc, _⟩ := hfs 0 h0
     obtain ⟨_, hl, hcell⟩ := World.cells?_some hc
     have := hcell 0 hz'
     obtain ⟨v, hv⟩ : ∃ v, cs'[0]? = some v := ⟨cs'[0]'(by omega), List.getElem?_eq_getElem (by omega)⟩
     rw [hv] at this
     simpa [Addr.add] using World.cell?_spot this
    obtain ⟨b, off, sp⟩ := a
    simp only at hsp; subst hsp
    refine ⟨(List.range len).map f, rfl, pY ?_ rfl⟩
    have hL : (List.map e ((List.range len).map f)).length = len := by simp
    have cellv : ∀ k, k < len * sz → ∃ v, w.cell? ⟨b, off + k, none⟩ = some v ∧ ∀ p, (e (f (k / sz)))[k % sz]? = some p → Rd w (fun _ => False) p v := by
     intro k hk
     have hq : k / sz < len := Nat.div_lt_of_lt_mul (by rw [Nat.mul_comm]; exact hk)
     have hm : k % sz < sz := Nat.mod_lt _ hz'
     obtain ⟨cs', _, _, _, _, hc, hr⟩ := hfs (k / sz) hq
     obtain ⟨_, hl, hcell⟩ := World.cells?_some hc
     have h6 := hcell (k % sz) hm
     have hv : cs'[k % sz]? = some (cs'[k % sz]'(by omega)) := List.getElem?_eq_getElem (by omega)
     refine ⟨cs'[k % sz]'(by omega), ?_, fun p hp => hr.2.2 _ p _ hp hv⟩
     rw [hv] at h6
     have e1 : off + k / sz * sz + k % sz = off + k := by
      have := Nat.div_add_mod k sz
      rw [Nat.mul_comm] at this
      omega
     simp only [Addr.add_lit] at h6
     rw [e1] at h6
     exact h6
    have hus : ∃ us : Nat → Value, ∀ k, k < len * sz → w.cell? ⟨b, off + k, none⟩ = some (us k) ∧ ∀ p, (e (f (k / sz)))[k % sz]? = some p → Rd w (fun _ => False) p (us k) := by
     refine ⟨fun k => if hk : k < len * sz then (cellv k hk).choose else undef, fun k hk => ?_⟩
     simp only [dif_pos hk]
     exact (cellv k hk).choose_spec
    obtain ⟨us, hus⟩ := hus
    have hb : b < w.heap.size := by
     have h6 := (hus 0 (Nat.mul_pos h0 hz')).1
     rcases Nat.lt_or_ge b w.heap.size with h7 | h7
     ·exact h7
     ·simp [World.cell?, Array.getElem?_eq_none h7] at h6
    have := Rd.vs (w := w) (O := fun _ => False) sz (List.map e ((List.range len).map f)) b off cap us (fun h => h) hb (by rw [hL]; omega) h2 (fun row hr => ?_) (fun row hr c hc => ?_) (fun k hk => ?_) (fun i j row c hi hj => ?_)
    ·rw [hL] at this; exact this
    ·obtain ⟨y, _, rfl⟩ := List.mem_map.1 hr
     exact hlen y
    ·obtain ⟨y, hy, rfl⟩ := List.mem_map.1 hr
     obtain ⟨i, hi, rfl⟩ := List.mem_map.1 hy
     obtain ⟨cs', _, _, _, _, _, hr⟩ := hfs i (by simpa using hi)
     exact hr.2.1 c hc
    ·rw [hL] at hk
     exact (hus k hk).1
    ·have hi' : i < len := by have := (List.getElem?_eq_some_iff.1 hi).1; rw [hL] at this; exact this
     simp [hi'] at hi
     subst hi
     have hj' : j < sz := by have := (List.getElem?_eq_some_iff.1 hj).1; rw [hlen] at this; exact this
     have h6 := (hus (i * sz + j) (qC hi' hj')).2 c
     have e1 : (i * sz + j) / sz = i := by rw [Nat.mul_comm, Nat.mul_add_div hz', Nat.div_eq_of_lt hj', Nat.add_zero]
     have e2 : (i * sz + j) % sz = j := by rw [Nat.mul_comm, Nat.mul_add_mod, Nat.mod_eq_of_lt hj']
     rw [e1, e2] at h6
     exact h6 hj
   obtain ⟨y, rfl, hr⟩ := hd
   refine ⟨(List.range len).map f, ⟨by simp; omega, fun y hy => ?_⟩, ?_, hr⟩
   ·obtain ⟨i, hi, rfl⟩ := List.mem_map.1 hy
    obtain ⟨_, _, _, _, hg, _⟩ := hfs i (by simpa using hi)
    exact hg
   ·refine Nat.le_trans (Nat.succ_le_succ ?_) (K.sl _ _)
    rw [← Sm]
    refine Qh _ _ (by simp [h3]) fun i n d hn hd => ?_
    rw [List.map_map, List.getElem?_map, Option.map_eq_some_iff] at hn
    obtain ⟨j, hj, rfl⟩ := hn
    have hji : j = i ∧ i < len := by
     rw [List.getElem?_eq_some_iff] at hj
     obtain ⟨h6, h7⟩ := hj
     simp at h6 h7
     exact ⟨h7.symm, h6⟩
    obtain ⟨rfl, hi⟩ := hji
    obtain ⟨_, ei, h6, h7, _⟩ := hfs j hi
    rw [List.getElem?_map, h6] at hd
    simp at hd; subst hd
    exact h7
theorem nJ {fuel T n : Nat} {l : List (TypeId × Nat × Nat)} {cs : List Value} {x : DataW H × List MemPlace} (h : QF P T l n = true) (hx : DataW.trod enc P w 0 (fun _ => true) true fuel T cs = some x) :
  ∃ (m : Nat) (xs : List (DataW H × List MemPlace)), m < fuel ∧ cs.length = n ∧ x.1 = .agg (xs.map (·.1)) ∧ xs.length = l.length ∧ ∀ (i t off sz : Nat), l[i]? = some (t, off, sz) → ∃ y, xs[i]? = some y ∧ DataW.trod enc P w 0 (fun _ => true) true m t ((cs.drop off).take sz) = some y := by
 unfold QF at h
 split at h
 ·rename_i fs hu
  simp only [Bool.and_eq_true, beq_iff_eq] at h
  obtain ⟨rfl, rfl⟩ := h
  obtain ⟨xs, m, hf, he, hl, hxs, hp⟩ := DataW.trod_struct hu hx
  refine ⟨m, xs, by omega, hl, by rw [he], by simp [hxs], fun i t off sz hi => ?_⟩
  rw [List.getElem?_map, Option.map_eq_some_iff] at hi
  obtain ⟨f, hfi, he⟩ := hi
  injection he with e1 e2; injection e2 with e2 e3
  subst e1; subst e2; subst e3
  have hfi' : fs[i]? = some f := by simpa using hfi
  have hlt : i < xs.length := by rw [hxs]; exact (Array.getElem?_eq_some_iff.1 hfi').1
  exact ⟨xs[i], List.getElem?_eq_getElem hlt, by rw [hp i f hfi']; exact List.getElem?_eq_getElem hlt⟩
 ·cases h
theorem TA {xs : List (DataW H × List MemPlace)} {d : DataW H} {n : Nat} (ns : List Nat) (hd : d = .agg (xs.map (·.1))) (hl : xs.length = n) (hn : ns.length = n) (h : ∀ (i n : Nat) (y : DataW H × List MemPlace), ns[i]? = some n → xs[i]? = some y → n ≤ K.bk y.1) : cW id ns + 1 ≤ K.bk d := by
 subst hd
 refine Nat.le_trans (Nat.succ_le_succ (Qh _ _ (by simp [hl, hn]) fun i n d hi hd => ?_)) (K.ag _)
 rw [List.getElem?_map, Option.map_eq_some_iff] at hd
 obtain ⟨y, hy, rfl⟩ := hd
 exact h i n y hi hy
def NsGe (K : Bk H) (xs : List (DataW H × List MemPlace)) : Nat → List Nat → Prop
 | _, [] => True
 | i, n :: ns => (∃ y, xs[i]? = some y ∧ n ≤ K.bk y.1) ∧ NsGe K xs (i + 1) ns
theorem NsGe.spec {xs : List (DataW H × List MemPlace)} : ∀ {ns : List Nat} {k : Nat}, NsGe K xs k ns → ∀ (i n : Nat) (y : DataW H × List MemPlace), ns[i]? = some n → xs[k + i]? = some y → n ≤ K.bk y.1
 | [], _, _, i, n, y, hi, _ => by simp at hi
 | n' :: ns, k, h, i, n, y, hi, hy => by
  cases i with
  | zero =>
   simp at hi; subst hi
   obtain ⟨y', h1, h2⟩ := h.1
   rw [Nat.add_zero, h1] at hy; cases hy
   exact h2
  | succ i => exact NsGe.spec h.2 i n y (by simpa using hi) (by rw [show k + 1 + i = k + (i + 1) by omega]; exact hy)
theorem wi {xs : List (DataW H × List MemPlace)} {d : DataW H} {n : Nat} (ns : List Nat) (hd : d = .agg (xs.map (·.1))) (hl : xs.length = n) (hn : ns.length = n) (h : NsGe K xs 0 ns) : cW id ns + 1 ≤ K.bk d :=
 TA ns hd hl hn (fun i n y h1 h2 => h.spec i n y h1 (by rw [Nat.zero_add]; exact h2))
theorem MO {fuel T n E sz : Nat} {cs : List Value} {x : DataW H × List MemPlace} (h : Uj P T n E sz = true) (hx : DataW.trod enc P w 0 (fun _ => true) true fuel T cs = some x) :
  ∃ (m : Nat) (xs : List (DataW H × List MemPlace)), m < fuel ∧ cs.length = n * sz ∧ x.1 = .agg (xs.map (·.1)) ∧ xs.length = n ∧ ∀ i, i < n → ∃ y, xs[i]? = some y ∧ DataW.trod enc P w 0 (fun _ => true) true m E ((cs.drop (i * sz)).take sz) = some y := by
 unfold Uj at h
 split at h
 ·rename_i m e hu
  simp only [Bool.and_eq_true, beq_iff_eq] at h
  obtain ⟨⟨rfl, rfl⟩, rfl, h4⟩ := h
  obtain ⟨xs, m', hf, he, hl, hxs, hp⟩ := DataW.trod_array hu hx
  refine ⟨m', xs, by omega, by rw [hl, h4], by rw [he], hxs, fun i hi => ?_⟩
  exact ⟨xs[i], List.getElem?_eq_getElem (by omega), by rw [hp i hi]; exact List.getElem?_eq_getElem (by omega)⟩
 ·cases h
theorem Py {fuel T E sz : Nat} {α : Type} {e : α → List PV} {good : α → Prop} {u : α → Nat} (h : Uj P T 4 E sz = true) (hlen : ∀ y, (e y).length = sz) (hE : ∀ n, n < fuel → qU K enc P w n E e good u) :
  qU K enc P w fuel T (eA4 e) (fun x => good x.a0 ∧ good x.a1 ∧ good x.a2 ∧ good x.a3) (fun x => u x.a0 + (u x.a1 + (u x.a2 + (u x.a3 + 0))) + 1) := fun cs x hx => by
 obtain ⟨m, xs, hm, hl, hd, hxl, hp⟩ := MO h hx
 obtain ⟨z0, k0, q0⟩ := hp 0 (by omega)
 obtain ⟨z1, k1, q1⟩ := hp 1 (by omega)
 obtain ⟨z2, k2, q2⟩ := hp 2 (by omega)
 obtain ⟨z3, k3, q3⟩ := hp 3 (by omega)
 obtain ⟨y0, g0, b0, r0⟩ := hE m hm _ _ q0
 obtain ⟨y1, g1, b1, r1⟩ := hE m hm _ _ q1
 obtain ⟨y2, g2, b2, r2⟩ := hE m hm _ _ q2
 obtain ⟨y3, g3, b3, r3⟩ := hE m hm _ _ q3
 refine ⟨⟨y0, y1, y2, y3⟩, ⟨g0, g1, g2, g3⟩, wi [u y0, u y1, u y2, u y3] hd hxl rfl ⟨⟨z0, k0, b0⟩, ⟨z1, k1, b1⟩, ⟨z2, k2, b2⟩, ⟨z3, k3, b3⟩, trivial⟩, ?_⟩
 have e0 : cs.drop 0 = cs := List.drop_zero
 rw [← e0]
 have := cM (off := 0) (by simpa using r0) (hlen y0) (cM (by simpa using r1) (hlen y1) (cM (by rw [show 0 + sz + sz = 2 * sz by omega]; exact r2) (hlen y2) (cM (by rw [show 0 + sz + sz + sz = 3 * sz by omega]; exact r3) (hlen y3) (ot (by omega)))))
 simpa using this
theorem DL {T : TypeId} {v : Value} {d : DataW H} {ps : List MemPlace} {α : Type} {e : α → List PV} {good : α → Prop} {u : α → Nat} (hT : ∀ n, qU K enc P w n T e good u) (h : DataW.Trod enc P w 0 (fun _ => true) true T v d ps) : ∃ y, good y ∧ u y ≤ K.bk d ∧ Reads1 w (fun _ => False) v.cells.toList (e y) := by
 obtain ⟨fuel, hf⟩ := h
 exact hT fuel _ _ hf
end
section
variable {H : Type} {enc : TypeId × Value → H}
theorem Qy {C : Checked} {os : Os} {f : FuncId} {fn : Func} {s : ChangeSpec} {s2 : OpenSpec} {k : (H : Type) → List (DataW H) → Bool} (hk : s2.cond = some k) {F : Stop.Interp} {B : TypeId} {fresh handsOn : Bool}
  (own : ownKnob C.prog.godebug = none) (started : os.Started) (noInit : C.prog.inits.idxOf? f = none) (hfn : C.prog.funcs[f]? = some fn)
  (witness : ∃ (w : World) (tape : Tape) (i : Input), w.os = os ∧ (w.forCall tape i).Shaped C.prog ∧ i.vars = [] ∧ Input.okWide C.prog (w.forCall tape i) .any w.heap.size f i ∧
   s2.pre6 enc C.prog fn [] false (w.forCall tape i).memory i.args ∧ ({} : Assume).holds C.prog (lone (Frame.enter C.prog f i.args .normal) [] (w.forCall tape i)))
  (hl : laidOutB C.prog = true) (hr : Mq C.prog fn.params.toList = true) (hvars : s.vars = []) (hv2 : s2.vars = []) (hres : fn.resultTypes = #[B]) (hB : C.prog.underlying B = some .bool)
  (hs : ∀ ds : List (DataW H), ds.length = fn.params.size → s.fn H ds = { results := [.lit (.bool true)], args := ds })
  (hpost : ∀ W args v W', s.post enc C.prog fn false fresh handsOn false W args v W' → (s2.at F).post enc C.prog fn false fresh handsOn false W args v W')
  (hcall : ∀ (W : World) (base : Nat) (args : Array Value) (ds : List (DataW H)) (ps : List MemPlace), (∀ (j : Nat) t v, fn.params[j]? = some t → args[j]? = some v → Value.okWide C.prog W .any base t v) → DataW.TrodAll enc C.prog W 0 (fun _ => true) true fn.params.toList args.toList ds ps → k H ds = true → ∃ asx : List PV, P4 W asx args ∧ Fn G C.prog f asx [.p (.bool true)]) (hG : G = [] := by rfl) :
  ReturnsInHanded {} C os f .any (s2.pre6 enc C.prog fn [] false) ((s2.at F).post enc C.prog fn false fresh handsOn false) := by
 refine returnsInHanded_of_cond hk own started noInit hfn witness ?_
 intro W base args ds gs before hval hW _ hkk _
 have hW0 : DataW.Whole enc C.prog fn.params.toList s.vars false W args.toList ds gs before := by rw [hvars, ← hv2]; exact hW
 have hW' := hW0
 obtain ⟨p, q, hA, hV, rfl, hfz, hnd⟩ := hW0
 have hV' : gs = [] ∧ q = [] := by rw [hvars] at hV; exact trodVars_none hV
 obtain ⟨rfl, rfl⟩ := hV'
 rw [List.append_nil] at hkk
 obtain ⟨asx, ⟨h1, h2⟩, h3⟩ := hcall W base args ds p hval hA hkk
 refine (h3 W (fun _ => False) args (fun _ h => h.elim) (fun x hx => by rw [hG] at hx; cases hx) h1 h2).mono ?_
 rintro e W' ⟨v, O', rfl, hg, _, hrt⟩
 have hv : v = .bool true := by
  have : Rd W' O' (.bool true) v := hrt
  cases this; rfl
 subst hv
 have hlen : ∀ {ts : List TypeId} {vs : List Value} {ds : List (DataW H)} {ps : List MemPlace}, DataW.TrodAll enc C.prog W 0 (fun _ => true) true ts vs ds ps → ds.length = ts.length := by
  intro ts
  induction ts with
  | nil => intro vs ds ps h; obtain ⟨_, rfl, _⟩ := trodAll_nil h; rfl
  | cons t ts ih => intro vs ds ps h; obtain ⟨v, vs', d, ds', p, q, rfl, rfl, rfl, h1, h2⟩ := trodAll_cons h; simp [ih h2]
 exact ⟨_, rfl, hpost _ _ _ _ (PZ hl hr hvars (by rw [List.append_nil] at hW'; rw [List.append_nil] at *; exact hW') hA hg hres hB (hs ds (by rw [hlen hA]; simp)))⟩
end
end Go.Abs

