/- The abstract layer that the proof stands on: no condition. -/
import Derived.Test.YtkfgkkbfipgklaaAbsK
namespace Go.Abs
open Go.RowKit

/-! ### Going on from a state that says less, under other names -/
def Imp (c : Cx) (s s' : St) : Prop := ∀ a w, Sim c s a w → Sim c s' a w

section
variable {ro : Option Nat} {P : Program} {c : Cx} {Q : Exit → Act → World → Prop} {s s' : St}
theorem aw_imp {k : Code} (h : Imp c s s') (h' : AW ro P c k Q s') : AW ro P c k Q s := fun a w hs => h' a w (h a w hs)
theorem post_imp {e : Exit} (h : Imp c s s') (h' : Post c Q e s') : Post c Q e s := fun a w hs => h' a w (h a w hs)
theorem rnd_imp {k : Code} {m : Nat} (h : Imp c s s') (h' : RndW ro P c k Q m s') : RndW ro P c k Q m s := fun a w hs => h' a w (h a w hs)
theorem reg_imp {all l : List Oper} (h : Imp c s s') (h' : RegW ro P c all l Q s') : RegW ro P c all l Q s := fun a w hs => h' a w (h a w hs)

def SubF (fr : List (Nat × Option AV)) (ρ : Nat → Nat) : List (Nat × Option AV) → Prop
  | [] => True
  | (_, none) :: l => SubF fr ρ l
  | (t, some x) :: l => look t fr = some (x.map ρ) ∧ SubF fr ρ l
def SubH (hp : List (Nat × Option Blk)) (ρ : Nat → Nat) : List (Nat × Option Blk) → Prop
  | [] => True
  | (_, none) :: l => SubH hp ρ l
  | (id, some b) :: l => look (ρ id) hp = some (b.map ρ) ∧ SubH hp ρ l

theorem look_mem {α : Type} {t : Nat} {x : α} : ∀ {l : List (Nat × Option α)}, look t l = some x → (t, some x) ∈ l
  | [], h => by simp [look] at h
  | (k, y) :: l, h => by
    rw [look_cons] at h
    split at h
    · rename_i e; subst e; subst h; simp
    · exact List.mem_cons_of_mem _ (look_mem h)
theorem SubF.spec {fr : List (Nat × Option AV)} {ρ : Nat → Nat} : ∀ {l : List (Nat × Option AV)}, SubF fr ρ l → ∀ t x, (t, some x) ∈ l → look t fr = some (x.map ρ)
  | (_, none) :: l, h, t, x, hm => by
    rcases List.mem_cons.1 hm with h1 | h1
    · cases h1
    · exact SubF.spec (l := l) h t x h1
  | (t', some x') :: l, h, t, x, hm => by
    rcases List.mem_cons.1 hm with h1 | h1
    · cases h1; exact h.1
    · exact SubF.spec (l := l) h.2 t x h1
theorem SubH.spec {hp : List (Nat × Option Blk)} {ρ : Nat → Nat} : ∀ {l : List (Nat × Option Blk)}, SubH hp ρ l → ∀ t x, (t, some x) ∈ l → look (ρ t) hp = some (x.map ρ)
  | (_, none) :: l, h, t, x, hm => by
    rcases List.mem_cons.1 hm with h1 | h1
    · cases h1
    · exact SubH.spec (l := l) h t x h1
  | (t', some x') :: l, h, t, x, hm => by
    rcases List.mem_cons.1 hm with h1 | h1
    · cases h1; exact h.1
    · exact SubH.spec (l := l) h.2 t x h1

theorem BlkOk.ren {w : World} {O : Nat → Prop} {θ θ' : Nat → Option Value} (ρ : Nat → Nat) (hθ : ∀ i v, θ (ρ i) = some v → θ' i = some v) {v : Value} {b : Blk} (h : BlkOk w O θ v (b.map ρ)) : BlkOk w O θ' v b := by
  cases b with
  | row e sz rows => exact h
  | box t cells =>
    obtain ⟨g, us, h1, h2, h3, h4⟩ := h
    refine ⟨g, us, h1, h2, by rw [h3, AV.mapL_length], fun j x u hx hu => ?_⟩
    have := h4 j (x.map ρ) u (by rw [AV.mapL_get, hx]; rfl) hu
    exact ⟨this.1.ren ρ hθ x rfl, this.2⟩
  | dict P t n m => exact h

theorem nodup_inj : ∀ {L : List Nat}, L.Nodup → ∀ (i j : Nat) (x : Nat), L[i]? = some x → L[j]? = some x → i = j
  | [], _, i, j, x, h, _ => by simp at h
  | y :: L, hn, 0, 0, x, _, _ => rfl
  | y :: L, hn, 0, j + 1, x, h1, h2 => by
    simp at h1 h2; subst h1
    exact absurd (List.mem_of_getElem? h2) (List.nodup_cons.1 hn).1
  | y :: L, hn, i + 1, 0, x, h1, h2 => by
    simp at h1 h2; subst h2
    exact absurd (List.mem_of_getElem? h1) (List.nodup_cons.1 hn).1
  | y :: L, hn, i + 1, j + 1, x, h1, h2 => by
    simp only [List.getElem?_cons_succ] at h1 h2
    rw [nodup_inj (List.nodup_cons.1 hn).2 i j x h1 h2]

/-- `L`: the elder name of each new one. -/
theorem imp_sub (L : List Nat) (hn : s'.n = s.n) (hnd : L.Nodup) (hnext : s'.next = L.length) (hfree : s'.free = []) (hF : SubF s.fr (fun i => L.getD i s.next) s'.fr) (hH : SubH s.hp (fun i => L.getD i s.next) s'.hp)
    (hids : (s'.hp.all fun x => Nat.blt x.1 L.length) = true) (hys : s'.ys = s.ys) (hkt : s'.kt = s.kt) : Imp c s s' := by
  rintro a w ⟨O, θ, h⟩
  have hget : ∀ i, i < L.length → ∃ x, L[i]? = some x ∧ L.getD i s.next = x := fun i hi => ⟨L[i], List.getElem?_eq_getElem hi, by simp [List.getD, List.getElem?_eq_getElem hi]⟩
  have hρ : ∀ i v, θ (L.getD i s.next) = some v → (if i < L.length then θ (L.getD i s.next) else none) = some v := by
    intro i v h'
    by_cases hi : i < L.length
    · rw [if_pos hi]; exact h'
    · exfalso
      have : L.getD i s.next = s.next := by simp [List.getD, List.getElem?_eq_none (Nat.not_lt.1 hi)]
      rw [this] at h'
      have := (h.dom _ _ h').1
      omega
  have hlt : ∀ id b, look id s'.hp = some b → id < L.length := by
    intro id b hb
    have := List.all_eq_true.1 hids _ (look_mem hb)
    simpa [Nat.blt_eq] using this
  have hback : ∀ i v, (if i < L.length then θ (L.getD i s.next) else none) = some v → i < L.length ∧ θ (L.getD i s.next) = some v := by
    intro i v h'
    split at h'
    · rename_i hi; exact ⟨hi, h'⟩
    · cases h'
  refine ⟨O, fun i => if i < L.length then θ (L.getD i s.next) else none, ?_⟩
  refine ⟨h.size.trans hn.symm, h.df, fun t x hx => (h.fr t _ (hF.spec t x (look_mem hx))).ren _ hρ x rfl, ?_, ?_, ?_, ?_, ?_, h.olt, h.ext, h.xo, h.xlt, h.llt, ?_, h.oc, by rw [hkt]; exact h.kp, ?_⟩
  · intro id b hb
    obtain ⟨v, hv, hbo, hg⟩ := h.hp _ _ (hH.spec id b (look_mem hb))
    exact ⟨v, hρ _ _ hv, hbo.ren _ hρ, hg⟩
  · intro i j bi bj vi vj g hi hj hvi hvj hgi hgj
    obtain ⟨hi', hvi'⟩ := hback i vi hvi
    obtain ⟨hj', hvj'⟩ := hback j vj hvj
    have e := h.inj _ _ _ _ vi vj g (hH.spec i bi (look_mem hi)) (hH.spec j bj (look_mem hj)) hvi' hvj' hgi hgj
    obtain ⟨x, hx1, hx2⟩ := hget i hi'
    obtain ⟨y, hy1, hy2⟩ := hget j hj'
    rw [hx2, hy2] at e; subst e
    exact nodup_inj hnd i j x hx1 hy1
  · intro id v hv
    rw [hnext, hfree]; exact ⟨(hback id v hv).1, by simp⟩
  · rw [hfree]; simp
  · intro id v hv
    exact h.one _ _ (hback id v hv).2
  · exact h.marks
  · rw [hys]
    refine c.Jst h.jn ⟨rfl, rfl, rfl, Nat.le_refl _, fun _ _ _ => rfl, fun g h => .inl h, fun g h _ => h, h.olt, fun g hI => .inl ?_⟩
    rcases hI with hI | ⟨id, b, v, h1, h2, h3⟩ | hI
    · exact .inl hI
    · exact .inr (.inl ⟨_, _, v, hH.spec id b (look_mem h1), (hback id v h2).2, h3⟩)
    · exact .inr (.inr hI)

/-! ### Giving up the right to write -/
/-- What a value reads as, where the blocks `fz` are written no more. -/
def viewPV (fz : List (Nat × Option Blk)) : AV → Option PV
  | .pv p => some p
  | .ls id => match look id fz with
    | some (.row _ sz rows) => some (.vs sz rows)
    | _ => none
  | .lp id off => match look id fz with
    | some (.box _ cells) => match pvs cells with
      | some ps => bif ps.all PV.one then some (.vp (ps.drop off)) else none
      | none => none
    | _ => none
  | .cs sz rows => some (.vs sz rows)
  | .fn f caps => match viewL fz caps with
    | some ps => some (.fn f ps)
    | none => none
  | _ => none
where viewL (fz : List (Nat × Option Blk)) : List AV → Option (List PV)
  | [] => some []
  | .pv p :: l => match viewL fz l with
    | some ps => some (p :: ps)
    | none => none
  | .ls id :: l => match look id fz, viewL fz l with
    | some (.row _ sz rows), some ps => some (.vs sz rows :: ps)
    | _, _ => none
  | .lp id off :: l => match look id fz, viewL fz l with
    | some (.box _ cells), some ps => match pvs cells with
      | some qs => bif qs.all PV.one then some (.vp (qs.drop off) :: ps) else none
      | none => none
    | _, _ => none
  | _ :: _ => none

section
variable {fz : List (Nat × Option Blk)} {O O2 : Nat → Prop} {θ : Nat → Option Value} {a : Act} {w : World}

theorem view_ls (hs : SimAt c s O θ a w) (hfz : ∀ id b, look id fz = some b → look id s.hp = some b) (hO2 : ∀ g, O2 g → O g) (hfree : ∀ id b u g, look id fz = some b → θ id = some u → blkOf u = some g → ¬ O2 g)
    {id : Nat} {u : Value} {e sz : Nat} {rows : List (List PV)} (h : θ id = some u) (hl : look id fz = some (.row e sz rows)) : Rd w O2 (.vs sz rows) u := by
  obtain ⟨v', hv', ⟨us, hown, hrd⟩, hO⟩ := hs.hp id _ (hfz _ _ hl)
  rw [h] at hv'; cases hv'
  have hrd' : RowsRd w O2 sz rows us := hrd.mono (Nat.le_refl _) (fun b _ hn => ⟨fun h2 => hn (hO2 b h2), rfl⟩)
  rcases hown.2 with ⟨rfl, h4⟩ | ⟨g, cap, cur, rfl, _, hg, hnc, hcm, hcs, ht⟩
  · have : rows = [] := List.eq_nil_of_length_eq_zero h4
    subst this
    exact .vs0 sz
  · exact rd_vs_of_rows hrd' hg ht (hfree id _ _ g hl h rfl) hnc hcm

theorem view_lp (hs : SimAt c s O θ a w) (hfz : ∀ id b, look id fz = some b → look id s.hp = some b) (hO2 : ∀ g, O2 g → O g) (hfree : ∀ id b u g, look id fz = some b → θ id = some u → blkOf u = some g → ¬ O2 g)
    {id off g : Nat} {t : Nat} {cells : List AV} {ps : List PV} (h : θ id = some (.pointer (some ⟨g, 0, none⟩))) (hl : look id fz = some (.box t cells)) (hps : pvs cells = some ps) (hone : ps.all PV.one = true) : Rd w O2 (.vp (ps.drop off)) (.pointer (some ⟨g, off, none⟩)) := by
  obtain ⟨v', hv', ⟨g', us, he, h1, h2, h3⟩, hO⟩ := hs.hp id _ (hfz _ _ hl)
  rw [h] at hv'; cases hv'
  cases he
  have hc := pvs_spec hps
  have hgl : g < w.heap.size := (hO g rfl).2.1
  have hlen : us.size = ps.length := by rw [h2, hc]; simp
  refine .vp _ g off (fun k => us.getD (off + k) undef) (hfree id _ _ g hl h rfl) hgl (fun x hx => List.all_eq_true.1 hone x (List.mem_of_mem_drop hx)) (fun k hk => ?_) (fun j x hj => ?_)
  · rw [List.length_drop] at hk
    rw [cell_of_row w g _ us t (0, 0) h1]
    have : off + k < us.size := by omega
    simp [this]
  · rw [List.getElem?_drop] at hj
    have hlt : off + j < us.size := by rw [hlen]; exact (List.getElem?_eq_some_iff.1 hj).1
    have hu : us[off + j]? = some us[off + j] := by simp [hlt]
    have := (h3 (off + j) (.pv x) _ (by rw [hc, List.getElem?_map, hj]; rfl) hu).1
    have e : us.getD (off + j) undef = us[off + j] := by simp [hlt]
    show Rd w O2 x (us.getD (off + j) undef)
    rw [e]
    exact (rda_pv this).mono (Nat.le_refl _) (fun b _ hn => ⟨fun h2 => hn (hO2 b h2), rfl⟩)

theorem viewL_ok (hs : SimAt c s O θ a w) (hfz : ∀ id b, look id fz = some b → look id s.hp = some b) (hO2 : ∀ g, O2 g → O g) (hfree : ∀ id b u g, look id fz = some b → θ id = some u → blkOf u = some g → ¬ O2 g) :
    ∀ {l : List AV} {ps : List PV}, viewPV.viewL fz l = some ps → l.length = ps.length ∧ ∀ (i : Nat) (x : AV) (p : PV) (u : Value), l[i]? = some x → ps[i]? = some p → RdA w O θ x u → Rd w O2 p u
  | [], ps, h => by simp [viewPV.viewL] at h; subst h; simp
  | .pv q :: l, ps, h => by
    simp only [viewPV.viewL] at h
    split at h
    · rename_i qs hq
      cases h
      obtain ⟨h1, h2⟩ := viewL_ok hs hfz hO2 hfree hq
      refine ⟨by simp [h1], fun i x p u hx hp hr => ?_⟩
      cases i with
      | zero => simp at hx hp; subst hx; subst hp; exact (rda_pv hr).mono (Nat.le_refl _) (fun b _ hn => ⟨fun h2 => hn (hO2 b h2), rfl⟩)
      | succ i => exact h2 i x p u (by simpa using hx) (by simpa using hp) hr
    · cases h
  | .ls id :: l, ps, h => by
    simp only [viewPV.viewL] at h
    split at h
    · rename_i e sz rows qs hl hq
      cases h
      obtain ⟨h1, h2⟩ := viewL_ok hs hfz hO2 hfree hq
      refine ⟨by simp [h1], fun i x p u hx hp hr => ?_⟩
      cases i with
      | zero =>
        simp at hx hp; subst hx; subst hp
        cases hr with | ls _ _ h => exact view_ls hs hfz hO2 hfree h hl
      | succ i => exact h2 i x p u (by simpa using hx) (by simpa using hp) hr
    · cases h
  | .lp id off :: l, ps, h => by
    simp only [viewPV.viewL] at h
    split at h
    · rename_i t cells qs hl hq
      split at h
      · rename_i rs hrs
        simp only [cond_eq_ite] at h
        split at h
        · rename_i hone
          cases h
          obtain ⟨h1, h2⟩ := viewL_ok hs hfz hO2 hfree hq
          refine ⟨by simp [h1], fun i x p u hx hp hr => ?_⟩
          cases i with
          | zero =>
            simp at hx hp; subst hx; subst hp
            cases hr with | lp _ _ g h => exact view_lp hs hfz hO2 hfree h hl hrs hone
          | succ i => exact h2 i x p u (by simpa using hx) (by simpa using hp) hr
        · cases h
      · cases h
    · cases h
  | .le _ _ _ _ :: _, _, h | .cs _ _ :: _, _, h | .ra _ _ :: _, _, h | .fn _ _ :: _, _, h | .tup _ :: _, _, h => by simp [viewPV.viewL] at h

theorem view_ok (hs : SimAt c s O θ a w) (hfz : ∀ id b, look id fz = some b → look id s.hp = some b) (hO2 : ∀ g, O2 g → O g) (hfree : ∀ id b u g, look id fz = some b → θ id = some u → blkOf u = some g → ¬ O2 g)
    {x : AV} {p : PV} {u : Value} (h : viewPV fz x = some p) (hr : RdA w O θ x u) : Rd w O2 p u := by
  cases x with
  | pv q => simp only [viewPV, Option.some.injEq] at h; subst h; exact (rda_pv hr).mono (Nat.le_refl _) (fun b _ hn => ⟨fun h2 => hn (hO2 b h2), rfl⟩)
  | ra id m => simp [viewPV] at h
  | cs sz rows => simp only [viewPV, Option.some.injEq] at h; subst h; cases hr with | cs _ _ _ h _ => exact h.mono (Nat.le_refl _) (fun b _ hn => ⟨fun h2 => hn (hO2 b h2), rfl⟩)
  | ls id =>
    simp only [viewPV] at h
    split at h
    · rename_i hl; cases h
      cases hr with | ls _ _ h => exact view_ls hs hfz hO2 hfree h hl
    · cases h
  | lp id off =>
    simp only [viewPV] at h
    split at h
    · rename_i hl
      split at h
      · rename_i hrs
        simp only [cond_eq_ite] at h
        split at h
        · rename_i hone
          cases h
          cases hr with | lp _ _ g h => exact view_lp hs hfz hO2 hfree h hl hrs hone
        · cases h
      · cases h
    · cases h
  | fn f caps =>
    simp only [viewPV] at h
    split at h
    · rename_i ps hps
      cases h
      obtain ⟨h1, h2⟩ := viewL_ok hs hfz hO2 hfree hps
      cases hr with
      | fn _ _ us hn hh =>
        refine .fn f ps us (by rw [hn, h1]) fun i q u hq hu => ?_
        have hi : i < caps.length := by rw [h1]; exact (List.getElem?_eq_some_iff.1 hq).1
        exact h2 i caps[i] q u (List.getElem?_eq_getElem hi) hq (hh i _ u (List.getElem?_eq_getElem hi) hu)
    · cases h
  | le => simp [viewPV] at h
  | tup => simp [viewPV] at h
end

/-- The slots `ts` are to be read as `ps` from now on; the blocks `fz` are written no more. -/
def St.freeze (s : St) (fz : List (Nat × Option Blk)) (new : List (Nat × Option AV)) : St := { s with fr := new ++ s.fr, hp := fz.map (fun x => (x.1, none)) ++ s.hp }

def FzF (s : St) (fz : List (Nat × Option Blk)) : List (Nat × Option AV) → Prop
  | [] => True
  | (t, some (.pv p)) :: l => (∃ x, look t s.fr = some x ∧ viewPV fz x = some p) ∧ FzF s fz l
  | (t, some (.tup ys)) :: l => (∃ xs, look t s.fr = some (.tup xs) ∧ viewTup fz xs ys) ∧ FzF s fz l
  | _ :: _ => False
where viewTup (fz : List (Nat × Option Blk)) : List AV → List AV → Prop
  | [], [] => True
  | x :: xs, .pv p :: ys => viewPV fz x = some p ∧ viewTup fz xs ys
  | _, _ => False

theorem look_append {α : Type} (t : Nat) : ∀ (l m : List (Nat × Option α)), (∃ x, (t, x) ∈ l ∧ look t (l ++ m) = x) ∨ ((∀ x, (t, x) ∉ l) ∧ look t (l ++ m) = look t m)
  | [], m => .inr ⟨by simp, rfl⟩
  | (k, y) :: l, m => by
    simp only [List.cons_append, look_cons]
    by_cases h : k = t
    · subst h; left; exact ⟨y, by simp, by simp⟩
    · rw [if_neg h]
      rcases look_append t l m with ⟨x, h1, h2⟩ | ⟨h1, h2⟩
      · exact .inl ⟨x, by simp [h1], h2⟩
      · exact .inr ⟨fun x hx => by
          rcases List.mem_cons.1 hx with e | e
          · cases e; exact h rfl
          · exact h1 x e, h2⟩

theorem SimAt.frozen {O : Nat → Prop} {θ : Nat → Option Value} {a : Act} {w : World} (fz : List (Nat × Option Blk)) (new : List (Nat × Option AV)) (hfz : ∀ x ∈ fz, ∃ b, x.2 = some b ∧ look x.1 s.hp = some b) (hF : FzF s fz new) (h : SimAt c s O θ a w) :
    SimAt c (s.freeze fz new) (fun g => O g ∧ ∀ id b u, look id s.hp = some b → (id, some b) ∈ fz → θ id = some u → blkOf u ≠ some g) θ a w := by
  have hfz' : ∀ id b, look id fz = some b → look id s.hp = some b := by
    intro id b hl
    obtain ⟨b', h1, h2⟩ := hfz _ (look_mem hl)
    cases h1; exact h2
  have hO2 : ∀ g, (O g ∧ ∀ id b u, look id s.hp = some b → (id, some b) ∈ fz → θ id = some u → blkOf u ≠ some g) → O g := fun g h => h.1
  have hm : ∀ b, b < w.heap.size → ¬ O b → ¬ (O b ∧ ∀ id b' u, look id s.hp = some b' → (id, some b') ∈ fz → θ id = some u → blkOf u ≠ some b) ∧ w.heap[b]? = w.heap[b]? := fun b _ hn => ⟨fun h => hn h.1, rfl⟩
  have hfree : ∀ id b u g, look id fz = some b → θ id = some u → blkOf u = some g → ¬ (O g ∧ ∀ id b u, look id s.hp = some b → (id, some b) ∈ fz → θ id = some u → blkOf u ≠ some g) := by
    rintro id b u g h1 h2 h3 ⟨_, h4⟩
    exact h4 id b u (hfz' _ _ h1) (look_mem h1) h2 h3
  have hfr : ∀ t x, (t, some x) ∈ new → RdA w (fun g => O g ∧ ∀ id b u, look id s.hp = some b → (id, some b) ∈ fz → θ id = some u → blkOf u ≠ some g) θ x (a.tmps.getD t undef) := by
    have : ∀ (new : List (Nat × Option AV)), FzF s fz new → ∀ t x, (t, some x) ∈ new → RdA w (fun g => O g ∧ ∀ id b u, look id s.hp = some b → (id, some b) ∈ fz → θ id = some u → blkOf u ≠ some g) θ x (a.tmps.getD t undef) := by
      intro new
      induction new with
      | nil => intro _ t x hx; simp at hx
      | cons y new ih =>
        intro hF t x hx
        obtain ⟨t', y⟩ := y
        rcases y with _ | y
        · simp [FzF] at hF
        · cases y with
          | pv p =>
            obtain ⟨⟨z, hz1, hz2⟩, hF⟩ := hF
            rcases List.mem_cons.1 hx with e | e
            · cases e
              exact .pv _ _ (view_ok h hfz' hO2 hfree hz2 (h.fr _ _ hz1))
            · exact ih hF t x e
          | tup ys =>
            obtain ⟨⟨zs, hz1, hz2⟩, hF⟩ := hF
            rcases List.mem_cons.1 hx with e | e
            · cases e
              have hr := h.fr _ _ hz1
              generalize a.tmps.getD t undef = v at hr
              cases hr with
              | tup _ us hn hh =>
                have key : ∀ (zs ys : List AV), FzF.viewTup fz zs ys → zs.length = ys.length ∧ ∀ (i : Nat) (z y : AV) (u : Value), zs[i]? = some z → ys[i]? = some y → RdA w O θ z u → RdA w (fun g => O g ∧ ∀ id b u, look id s.hp = some b → (id, some b) ∈ fz → θ id = some u → blkOf u ≠ some g) θ y u := by
                  intro zs
                  induction zs with
                  | nil => intro ys hv; cases ys with
                    | nil => exact ⟨rfl, fun i z y u hz => by simp at hz⟩
                    | cons y ys => simp [FzF.viewTup] at hv
                  | cons z zs ih2 =>
                    intro ys hv
                    cases ys with
                    | nil => simp [FzF.viewTup] at hv
                    | cons y ys =>
                      cases y <;> first | (simp [FzF.viewTup] at hv; done) | skip
                      obtain ⟨hv1, hv2⟩ := hv
                      obtain ⟨g1, g2⟩ := ih2 ys hv2
                      refine ⟨by simp [g1], fun i z' y' u hz hy hr => ?_⟩
                      cases i with
                      | zero => simp at hz hy; subst hz; subst hy; exact .pv _ _ (view_ok h hfz' hO2 hfree hv1 hr)
                      | succ i => exact g2 i z' y' u (by simpa using hz) (by simpa using hy) hr
                obtain ⟨k1, k2⟩ := key zs ys hz2
                refine .tup ys us (by rw [hn, k1]) fun i y u hy hu => ?_
                have hi : i < zs.length := by rw [k1]; exact (List.getElem?_eq_some_iff.1 hy).1
                exact k2 i zs[i] y u (List.getElem?_eq_getElem hi) hy (hh i _ u (List.getElem?_eq_getElem hi) hu)
            · exact ih hF t x e
          | _ => simp [FzF] at hF
    exact this new hF
  have hhp : ∀ id b, look id (s.freeze fz new).hp = some b → look id s.hp = some b ∧ ∀ b', (id, some b') ∉ fz := by
    intro id b hb
    simp only [St.freeze] at hb
    rcases look_append id (fz.map fun x => (x.1, (none : Option Blk))) s.hp with ⟨x, h1, h2⟩ | ⟨h1, h2⟩
    · obtain ⟨y, hy, e⟩ := List.mem_map.1 h1
      rw [h2] at hb
      subst hb
      cases e
    · rw [h2] at hb
      exact ⟨hb, fun b' hb' => h1 none (List.mem_map.2 ⟨_, hb', rfl⟩)⟩
  refine ⟨h.size, h.df, ?_, ?_, ?_, h.dom, h.flt, h.one, fun g hg => h.olt g hg.1, h.ext, ?_, h.xlt, h.llt, ?_, fun g hg => h.oc g hg.1, h.kp, ?_⟩
  · intro t x hx
    simp only [St.freeze] at hx
    rcases look_append t new s.fr with ⟨y, h1, h2⟩ | ⟨h1, h2⟩
    · rw [h2] at hx; subst hx
      exact hfr t x h1
    · rw [h2] at hx
      exact (h.fr t x hx).mono (Nat.le_refl _) hm (fun _ _ e => e)
  · intro id b hb
    obtain ⟨h1, h2⟩ := hhp id b hb
    obtain ⟨v, hv, hbo, hg⟩ := h.hp id b h1
    refine ⟨v, hv, hbo.mono (Nat.le_refl _) hm (fun _ _ e => e) (fun _ _ => rfl), fun g hgg => ?_⟩
    obtain ⟨g1, g2, g3⟩ := hg g hgg
    refine ⟨⟨g1, fun id' b' u h3 h4 h5 h6 => ?_⟩, g2, g3⟩
    have := h.inj id id' b b' v u g h1 h3 hv h5 hgg h6
    subst this
    exact h2 b' h4
  · intro i j bi bj vi vj g hi hj
    exact h.inj i j bi bj vi vj g (hhp i bi hi).1 (hhp j bj hj).1
  · intro g hx
    refine ⟨h.xo g hx, fun id b u h3 h4 h5 h6 => ?_⟩
    obtain ⟨v, hv, _, hg⟩ := h.hp id b h3
    rw [h5] at hv; cases hv
    exact (hg g h6).2.2.2 hx
  · intro d hd
    obtain ⟨D, h1, h2, h3, h4⟩ := h.marks d hd
    refine ⟨D, h1, h2, ⟨h3, fun id b u k1 _ k3 k4 => ?_⟩, h4⟩
    obtain ⟨v, hv, hbo, _⟩ := h.hp id b k1
    rw [k3] at hv; cases hv
    obtain ⟨_, hh, ho⟩ := hbo.cells k4
    rw [h2] at hh; cases hh; cases ho
  · refine c.Jst h.jn ⟨rfl, rfl, rfl, Nat.le_refl _, fun _ _ _ => rfl, fun g h => .inl h.1, fun g h1 h2 => ⟨h1, fun id b u h3 _ h5 h6 => h2 (.inr (.inl ⟨id, b, u, h3, h5, h6⟩))⟩, fun g hg => h.olt g hg.1, fun g hI => .inl ?_⟩
    rcases hI with hI | ⟨id, b, v, h1, h2, h3⟩ | hI
    · exact .inl hI
    · exact .inr (.inl ⟨id, b, v, (hhp id b h1).1, h2, h3⟩)
    · exact .inr (.inr hI)
theorem imp_freeze (fz : List (Nat × Option Blk)) (new : List (Nat × Option AV)) (hfz : ∀ x ∈ fz, ∃ b, x.2 = some b ∧ look x.1 s.hp = some b) (hF : FzF s fz new) : Imp c s (s.freeze fz new) := by
  rintro a w ⟨O, θ, h⟩
  exact ⟨_, θ, h.frozen fz new hfz hF⟩

/-- The same, where a box holds the row: from now on it holds what the row reads as. -/
theorem imp_freeze_in (fz : List (Nat × Option Blk)) (new : List (Nat × Option AV)) (bid off id : Nat) {T e sz : Nat} {rows : List (List PV)} {cells : List AV} (hfz : ∀ x ∈ fz, ∃ b, x.2 = some b ∧ look x.1 s.hp = some b) (hF : FzF s fz new)
    (hb : look bid (s.freeze fz new).hp = some (.box T cells)) (hc : cells[off]? = some (.ls id)) (hid : look id fz = some (.row e sz rows)) : Imp c s ((s.freeze fz new).setBlk bid (some (.box T (cells.set off (.pv (.vs sz rows)))))) := by
  rintro a w ⟨O, θ, h⟩
  have h' := h.frozen fz new hfz hF
  have hfz' : ∀ id b, look id fz = some b → look id s.hp = some b := by
    intro id b hl
    obtain ⟨b', h1, h2⟩ := hfz _ (look_mem hl)
    cases h1; exact h2
  refine ⟨(fun g => O g ∧ ∀ id b u, look id s.hp = some b → (id, some b) ∈ fz → θ id = some u → blkOf u ≠ some g), θ, ?_⟩
  obtain ⟨v, hv, ⟨g, us, rfl, k1, k2, k3⟩, k4⟩ := h'.hp bid _ hb
  refine h'.upd hb hv (World.grownBy.refl w _) ⟨g, us, rfl, k1, by simpa using k2, fun j x u hx hu => ?_⟩
  rw [List.getElem?_set] at hx
  split at hx
  · rename_i e; subst e
    split at hx
    · cases hx
      obtain ⟨m1, m2⟩ := k3 off _ u hc hu
      cases m1 with
      | ls _ _ m1 =>
        refine ⟨.pv _ _ (view_ls h hfz' (fun _ h => h.1) ?_ m1 hid), m2⟩
        rintro id b u g h1 h2 h3 ⟨_, h4⟩
        exact h4 id b u (hfz' _ _ h1) (look_mem h1) h2 h3
    · cases hx
  · exact k3 j x u hx hu
end
end Go.Abs
