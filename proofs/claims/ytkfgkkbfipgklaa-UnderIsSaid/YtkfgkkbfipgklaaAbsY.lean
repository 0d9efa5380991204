/- The abstract layer that the proof stands on: no condition. -/
import Derived.Test.YtkfgkkbfipgklaaAbsX
/- Arrays: slices of them, elements at whatever place; slices without spare places. -/
namespace Go.Abs
open Go.RowKit

theorem rd_cut {w : World} {O : Nat → Prop} {sz : Nat} {rows : List (List PV)} {ad : Option Addr} {cap L H m : Nat} (hv : Rd w O (.vs sz rows) (.slice ad rows.length cap)) (hLH : L ≤ H) (hHr : H ≤ rows.length) (hm' : m = H ∨ m = cap) (hcap : rows.length ≤ cap) :
    Rd w O (.vs sz ((rows.take H).drop L)) (.slice (if m = L then ad else ad.map (·.add (L * sz))) (H - L) (m - L)) := by
  have hlen : ((rows.take H).drop L).length = H - L := by simp; omega
  rcases rd_vs hv with ⟨ad0, cap0, h, hrr, hz0, hz1⟩ | ⟨b, off, cap', us, h, q1, q2, q3, q4, q5, q6, q7, q8⟩
  · subst hrr
    injection h with h1' h2' h3'
    subst h1'; subst h3'
    simp at hHr
    subst hHr
    have : L = 0 := by omega
    subst this
    simp only [List.take_nil, List.drop_nil, Nat.sub_zero]
    by_cases hm0 : m = 0
    · rw [if_pos hm0, hm0]
      exact .vsz _ _ _ (fun _ => rfl) (Nat.zero_le _)
    · rw [if_neg hm0]
      have hmc : m = cap := by rcases hm' with h | h; exact absurd h hm0; exact h
      exact .vsz _ _ _ (fun e => by rw [hmc]; exact hz0 (by simpa using e)) (by rw [hmc]; exact hz1)
  · injection h with h1' h2' h3'
    subst h1'; subst h3'
    have hmH : H ≤ m := by rcases hm' with h | h <;> omega
    have hgo : Rd w O (.vs sz ((rows.take H).drop L)) (.slice (some ⟨b, off + (if m = L then 0 else L * sz), none⟩) (H - L) (m - L)) := by
      rw [← hlen]
      refine .vs sz _ b _ _ (fun k => us (L * sz + k)) q1 q2 (by rw [hlen]; omega) (by rcases hm' with h | h <;> omega) (fun row hr => q5 row (List.mem_of_mem_take (List.mem_of_mem_drop hr))) (fun row hr => q6 row (List.mem_of_mem_take (List.mem_of_mem_drop hr))) (fun k hk => ?_) (fun i j row x hi hj => ?_)
      · rw [hlen] at hk
        have hml : m ≠ L := fun e => by
          have : H - L = 0 := by omega
          rw [this] at hk; simp at hk
        rw [if_neg hml, Nat.add_assoc]
        refine q7 _ ?_
        have : (L + (H - L)) * sz ≤ rows.length * sz := Nat.mul_le_mul_right _ (by omega)
        rw [Nat.add_mul] at this
        omega
      · rw [List.getElem?_drop, List.getElem?_take] at hi
        split at hi
        · have := q8 (L + i) j row x hi hj
          rw [Nat.add_mul, Nat.add_assoc] at this
          exact this
        · cases hi
    by_cases hml : m = L
    · rw [if_pos hml] at hgo ⊢
      simpa using hgo
    · rw [if_neg hml] at hgo ⊢
      simpa [Addr.add_lit] using hgo

/-- The cells of an array, as a slice. -/
theorem rd_arr {w : World} {O : Nat → Prop} {row : List PV} {b off n sz : Nat} {α : Type} {f : α → List PV} {l : List α} (h : Rd w O (.vp row) (.pointer (some ⟨b, off, none⟩))) (hrow : row.take (n * sz) = (l.map f).flatten) (hf : ∀ z, (f z).length = sz) (hl : l.length = n) (hn : n ≤ maxLen) :
    Rd w O (.vs sz (l.map f)) (.slice (some ⟨b, off, none⟩) (l.map f).length n) := by
  obtain ⟨b', off', us, hv, h1, h2, h3, h4, h5⟩ := rd_vp h
  injection hv with hv; injection hv with hv; injection hv with e1 e2; subst e1; subst e2
  have hfl : ((l.map f).flatten).length = n * sz := by
    rw [flatten_len (sz := sz) (fun row hr => by obtain ⟨z, _, rfl⟩ := List.mem_map.1 hr; exact hf z), List.length_map, hl]
  have hge : ∀ k, k < n * sz → k < row.length := by
    intro k hk
    have := congrArg List.length hrow
    rw [hfl, List.length_take] at this
    omega
  have hmem : ∀ p ∈ (l.map f).flatten, p ∈ row := fun p hp => by rw [← hrow] at hp; exact List.mem_of_mem_take hp
  refine .vs sz _ b off n us h1 h2 (by simp [hl]) hn (fun r hr => ?_) (fun r hr x hx => h3 x (hmem x (List.mem_flatten.2 ⟨r, hr, hx⟩))) (fun k hk => ?_) (fun i j r x hi hj => ?_)
  · obtain ⟨z, _, rfl⟩ := List.mem_map.1 hr; exact hf z
  · rw [List.length_map, hl] at hk
    exact h4 k (hge k hk)
  · refine h5 _ x ?_
    have hr : r.length = sz := by obtain ⟨z, _, rfl⟩ := List.mem_map.1 (List.mem_of_getElem? hi); exact hf z
    have hjs : j < sz := by rw [← hr]; exact (List.getElem?_eq_some_iff.1 hj).1
    have hin : i < n := by have := (List.getElem?_eq_some_iff.1 hi).1; rw [List.length_map, hl] at this; exact this
    have e := flatten_get (rows := l.map f) (sz := sz) (fun row hr => by obtain ⟨z, _, rfl⟩ := List.mem_map.1 hr; exact hf z) i j r hi hjs
    rw [hj, ← hrow, List.getElem?_take, if_pos (index_lt hin hjs)] at e
    exact e

section
variable {ro : Option Nat} {P : Program} {c : Cx} {s s' : St} {o : Oper} {d : Option Nat}

theorem imp_cs (t : Nat) {sz : Nat} {rows : List (List PV)} (h : look t s.fr = some (.cs sz rows)) : Imp c s { s with fr := (t, some (.pv (.vs sz rows))) :: s.fr } := by
  rintro a w ⟨O, θ, hs⟩
  refine ⟨O, θ, hs.size, hs.df, fun t' x hx => ?_, hs.hp, hs.inj, hs.dom, hs.flt, hs.one, hs.olt, hs.ext, hs.xo, hs.xlt, hs.llt, hs.marks, hs.oc, hs.kp, hs.jn⟩
  have hx' : look t' ((t, some (.pv (.vs sz rows))) :: s.fr) = some x := hx
  rw [look_cons] at hx'
  split at hx'
  · rename_i e; subst e; cases hx'
    have := hs.fr t _ h
    generalize a.tmps.getD t undef = v at this
    cases this with | cs _ _ _ h _ => exact .pv _ _ h
  · exact hs.fr t' x hx'

/-- A piece of a frozen slice, without spare places. -/
theorem op_slice_cs {T e sz : Nat} {x : Operand} {hi mx : Operand} {rows r : List (List PV)} {k : Int} (ho : o.op = .slice T x none (some hi) (some mx)) (hx : ev s x = some (.pv (.vs sz rows))) (hhi : evo s (some hi) = some (some k)) (hmx : evo s (some mx) = some (some k))
    (ht : sliceB P T e sz = true) (hr : cutL rows 0 k = some r) (hd : o.dst = d) (hn : dOk s d = true) : OpOk ro P c o s (s.put d (some (.cs sz r))) :=
  opOk_value hd hn (by rw [ho]; intro k h; cases h) fun a w O θ hs => by
    obtain ⟨h1, h2, h3, rfl⟩ := cutL_spec hr
    obtain ⟨i, t1, t2, t3⟩ := sliceB_spec ht
    have hv := ev_pv hs hx
    obtain ⟨ad, cap, he, _⟩ := rd_vs_len hv
    have hcap : rows.length ≤ cap := by
      rcases rd_vs hv with ⟨_, _, h, rfl, _, _⟩ | ⟨b, off, cap', us, h, _, _, h6, _⟩
      · simp
      · rw [he] at h; injection h with _ _ h; omega
    rcases evo_ok hs hhi with ⟨h, _⟩ | ⟨yh, kh, mh, e6, e4, e2⟩
    · cases h
    rcases evo_ok hs hmx with ⟨h, _⟩ | ⟨ym, km, mm, e7, e5, e3⟩
    · cases h
    cases e4; cases e5; cases e6; cases e7
    have b0 := run_sliceBound (P := P) (w := w) (k := km) (y := cap) (code := .slice3Acap) (show 0 ≤ k by omega) (by omega)
    have b1 := run_sliceBound (P := P) (w := w) (k := kh) (y := k.toNat) (code := .slice3B) (show 0 ≤ k by omega) (by omega)
    rw [he] at hv
    have hc := rd_cut (L := 0) (H := k.toNat) (m := k.toNat) hv (Nat.zero_le _) (by omega) (.inl rfl) hcap
    refine ⟨.slice (if k.toNat = 0 then ad else ad.map (·.add (0 * sz))) (k.toNat - 0) (k.toNat - 0), by simp [execOp, ho, he, Instr.sliceAt, run_underlying t1, Instr.slice, Instr.sliceBounds, sizeOf, typeInfo, t2, t3, e2, e3, b0, b1], .cs _ _ _ ?_ ⟨_, _, rfl⟩⟩
    simpa using hc

/-- append to a slice without spare places: a new row. -/
theorem op_append_cs (kk : Nat) (hk : freshB s kk = true) {T e sz bytes : Nat} {x y : Operand} {rows news rows' : List (List PV)} {z : Value} (ho : o.op = .call { callee := .builtin .append, args := #[x, y], argTypes := #[T, T] }) (hx : ev s x = some (.cs sz rows))
    (hy : ev s y = some (.pv (.vs sz news))) (hne : Nat.blt 0 news.length = true) (ht : sliceB P T e sz = true) (hby : elemB P e bytes = true) (hz : zeroIs P e z) (hzl : z.cells.size = sz) (hsz : Nat.blt 0 sz = true) (hby0 : Nat.blt 0 bytes = true) (hroom : (rows.length + news.length) * bytes ≤ 140737488355328)
    (hrows : rows ++ news = rows') (hd : o.dst = d) (hn : dOk s d = true) : OpOk ro P c o s ((s.addAt kk none (.row e sz rows')).put d (some (.ls kk))) :=
  opOk_mem (s1 := s.addAt kk none (.row e sz rows')) hd hn (by rw [ho]; intro k h; cases h) fun a w O θ hs => by
    subst hrows
    obtain ⟨i, h1, h2, h3⟩ := sliceB_spec ht
    have hb2 : i.bytes = bytes := by simpa [elemB, h2] using hby
    have hsz' : 0 < sz := by simpa [Nat.blt_eq] using hsz
    have hby1 : 0 < bytes := by simpa [Nat.blt_eq] using hby0
    have hne' : 0 < news.length := by simpa [Nat.blt_eq] using hne
    obtain ⟨_, i', hi', hz'⟩ := zeroIs_spec hz w
    rw [h2] at hi'; cases hi'
    have hsum : rows.length + news.length ≤ maxLen := by
      have : rows.length + news.length ≤ (rows.length + news.length) * bytes := Nat.le_mul_of_pos_right _ hby1
      unfold maxLen; omega
    have hsmall : rows.length + news.length ≤ 9223372036854775807 := by simp only [maxLen] at hsum; omega
    have h := ev_ok hs hx
    have hv := ev_pv hs hy
    generalize ha : a.eval x = u at h
    generalize hay : a.eval y = v at hv
    -- what is appended
    have one1 : ∀ {rows : List (List PV)} {vs : List Value}, RowsRd w O sz rows vs → ∀ u ∈ vs, u.oneCell' = true := by
      intro rows vs q1 u hu
      obtain ⟨k, hk⟩ := List.getElem?_of_mem hu
      have hkl : k < rows.length * sz := by have := (List.getElem?_eq_some_iff.1 hk).1; rw [q1.len] at this; exact this
      have hq : k / sz < rows.length := Nat.div_lt_of_lt_mul (by rw [Nat.mul_comm]; exact hkl)
      have hm : k % sz < sz := Nat.mod_lt _ hsz'
      have e1 : k / sz * sz + k % sz = k := by rw [Nat.mul_comm]; exact Nat.div_add_mod k sz
      have er : rows[k / sz]? = some rows[k / sz] := List.getElem?_eq_getElem hq
      have hl' : k % sz < rows[k / sz].length := by rw [q1.hz _ (List.mem_of_getElem? er)]; exact hm
      exact (q1.rd _ _ _ _ u er (List.getElem?_eq_getElem hl') (by rw [e1]; exact hk)).one_ (q1.one _ (List.mem_of_getElem? er) _ (List.getElem_mem hl'))
    rcases rd_vs hv with ⟨_, _, _, rfl, _⟩ | ⟨b, off, cap, f, rfl, hr⟩
    · simp at hne'
    obtain ⟨vs, q1, q2, q3, q4⟩ := rows_of_vs hr
    cases h with
    | cs _ _ _ h hc =>
      obtain ⟨ad, n, rfl⟩ := hc
      have olds : n = rows.length ∧ ((ad = none ∧ rows = []) ∨ ∃ b0 xs, ad = some b0 ∧ RowsRd w O sz rows xs ∧ ∀ j u, xs[j]? = some u → w.cell? (b0.add j) = some u) := by
        rcases rd_vs h with ⟨a0, cap0, he, rfl, h0, _⟩ | ⟨b0, off0, cap0, f0, he, hr0⟩
        · injection he with e1 e2 e3
          subst e1
          refine ⟨by simpa using e2, ?_⟩
          cases ad with
          | none => exact .inl ⟨rfl, rfl⟩
          | some b0 => exact .inr ⟨b0, [], rfl, ⟨by simp, by simp, by simp, fun i j row x u h => by simp at h⟩, by simp⟩
        · injection he with e1 e2 e3
          obtain ⟨xs, p1, p2, _⟩ := rows_of_vs hr0
          exact ⟨e2, .inr ⟨_, xs, e1, p1, fun j u hu => by rw [Addr.add_lit]; exact p2 j u hu⟩⟩
      obtain ⟨rfl, holds⟩ := olds
      have main : ∃ (xs : List Value) (cp : Nat) (cur : Array Value), (Builtin.append_ #[T, T] o.type #[.slice ad rows.length rows.length, .slice (some ⟨b, off, none⟩) news.length cap]).run P w = .ok (.slice (some ⟨w.heap.size, 0, none⟩) (rows.length + news.length) cp) (w.drew.alloc (.cells cur e)) ∧
          RowsRd w O sz rows xs ∧ rows.length + news.length ≤ cp ∧ cp ≤ maxLen ∧ cur.size = cp * sz ∧ cur.toList.take ((rows.length + news.length) * sz) = xs ++ vs := by
        have zs : ∀ m, (Builtin.zeroCells z.cells m).size = m * sz := fun m => by simp [Builtin.zeroCells, hzl]
        rcases holds with ⟨rfl, rfl⟩ | ⟨b0, xs, rfl, p1, p2⟩
        · have hge := grownCap_ge w news.length 0 e
          have hcm := grownCap_le_maxLen w news.length 0 e (by simpa using hsum)
          refine ⟨[], _, _, by
            have := run_append_nil (P := P) w T o.type e i z h1 h2 hz' ⟨b, off, none⟩ news.length cap vs (by rw [h3]; exact q1.len) (fun j u hu => by rw [Addr.add_lit]; exact q2 j u hu) hne' (by omega) (by rw [hb2]; simp at hroom; omega)
            simpa using this, ⟨by simp, by simp, by simp, fun i j row x u h => by simp at h⟩, by simpa using hge, hcm, ?_, ?_⟩
          · rw [Array.size_append, zs, List.size_toArray, q1.len, ← Nat.add_mul]; congr 1; omega
          · simp only [Array.toList_append, List.nil_append, List.length_nil, Nat.zero_add]
            rw [← q1.len]; exact List.take_left
        · have hge := grownCap_ge w (rows.length + news.length) rows.length e
          have hcm := grownCap_le_maxLen w (rows.length + news.length) rows.length e hsum
          refine ⟨xs, _, _, run_append_grow (P := P) w T o.type e i z h1 h2 hz' b0 rows.length rows.length xs (by rw [h3]; exact p1.len) p2 ⟨b, off, none⟩ news.length cap vs (by rw [h3]; exact q1.len) (fun j u hu => by rw [Addr.add_lit]; exact q2 j u hu) (by omega) (by omega) (growslice_fits (by omega) (by rw [hb2]; exact hroom)), p1, hge, hcm, ?_, ?_⟩
          · simp only [Array.size_append, zs, List.size_toArray, p1.len, q1.len, ← Nat.add_mul]; congr 1; omega
          · simp only [Array.toList_append, List.append_assoc]
            rw [← List.append_assoc, show (rows.length + news.length) * sz = (xs ++ vs).length by rw [List.length_append, p1.len, q1.len, Nat.add_mul]]
            exact List.take_left
      obtain ⟨xs, cp, cur, r1, r2, r3, r4, r5, r6⟩ := main
      have hg : w.grownBy (w.drew.alloc (.cells cur e)) none := ⟨rfl, rfl, rfl, by simp, fun k hk _ => heap_alloc_old w.drew _ k hk⟩
      obtain ⟨O', θ', h4, h5, h6, h7⟩ := hs.addAt (w' := w.drew.alloc (.cells cur e)) (row := none) (v := .slice (some ⟨w.heap.size, 0, none⟩) (rows.length + news.length) cp) (b := .row e sz (rows ++ news)) kk hk none (by simp) (fun _ => rfl) hg
        (fun g hg => by simp [blkOf] at hg; subst hg; exact ⟨by simp, .inl (Nat.le_refl _)⟩) rfl (fun O' θ' hO' hθ' => ⟨xs ++ vs, ⟨by rw [List.length_append, r2.len, q1.len, List.length_append, Nat.add_mul], .inr ⟨w.heap.size, cp, cur, by simp, trivial, heap_alloc_new w.drew _, by simpa using r3, r4, Nat.le_of_eq r5.symm, by simpa using r6⟩⟩, by
          have hO : ∀ b, b < w.heap.size → ¬ O b → ¬ O' b ∧ (w.drew.alloc (.cells cur e)).heap[b]? = w.heap[b]? := fun b hb hn => ⟨fun hh => by
            rcases (hO' b).1 hh with h | h
            · exact hn h
            · simp [blkOf] at h; omega, hg.block b hb (by simp)⟩
          exact (r2.mono hg.size hO).append (q1.mono hg.size hO)⟩)
      exact ⟨_, _, O', θ', by simp [execOp, ho, resolve, invoke, builtin, ha, hay, r1], h7, .ls _ _ h6⟩

/-- The first elements of a row of the call's own, without spare places. -/
theorem op_slice_ra {T e e' sz : Nat} {x : Operand} {hi mx : Operand} {id : Nat} {rows r : List (List PV)} {k : Int} (ho : o.op = .slice T x none (some hi) (some mx)) (hx : ev s x = some (.ls id)) (hb : look id s.hp = some (.row e' sz rows)) (hhi : evo s (some hi) = some (some k)) (hmx : evo s (some mx) = some (some k))
    (ht : sliceB P T e sz = true) (hr : cutL rows 0 k = some r) (hk0 : Nat.blt 0 k.toNat = true) (hd : o.dst = d) (hn : dOk s d = true) : OpOk ro P c o s (s.put d (some (.ra id k.toNat))) :=
  opOk_value hd hn (by rw [ho]; intro k h; cases h) fun a w O θ hs => by
    obtain ⟨h1, h2, h3, rfl⟩ := cutL_spec hr
    obtain ⟨i, t1, t2, t3⟩ := sliceB_spec ht
    have h0 : 0 < k.toNat := by simpa [Nat.blt_eq] using hk0
    rcases evo_ok hs hhi with ⟨h, _⟩ | ⟨yh, kh, mh, e6, e4, e2⟩
    · cases h
    rcases evo_ok hs hmx with ⟨h, _⟩ | ⟨ym, km, mm, e7, e5, e3⟩
    · cases h
    cases e4; cases e5; cases e6; cases e7
    have h := ev_ok hs hx
    generalize hv : a.eval x = v at h
    cases h with
    | ls _ _ h =>
      obtain ⟨v', hv', ⟨us, hown, _⟩, _⟩ := hs.hp id _ hb
      rw [h] at hv'; cases hv'
      rcases hown.2 with ⟨_, h4⟩ | ⟨g, cap, cur, he, _, _, hnc, _⟩
      · rw [h4] at h3; omega
      · subst he
        have b0 := run_sliceBound (P := P) (w := w) (k := km) (y := cap) (code := .slice3Acap) (show 0 ≤ k by omega) (by omega)
        have b1 := run_sliceBound (P := P) (w := w) (k := kh) (y := k.toNat) (code := .slice3B) (show 0 ≤ k by omega) (by omega)
        have hne : k.toNat ≠ 0 := by omega
        exact ⟨.slice (some ⟨g, 0, none⟩) k.toNat k.toNat, by simp [execOp, ho, hv, Instr.sliceAt, run_underlying t1, Instr.slice, Instr.sliceBounds, sizeOf, typeInfo, t2, t3, e2, e3, b0, b1, hne, Addr.add_lit], .ra id _ g _ cap h h0⟩

/-- append to them: a new row; the elder one stays. -/
theorem op_append_ra (kk : Nat) (hk : freshB s kk = true) {T e sz bytes : Nat} {x y : Operand} {id m : Nat} {rows olds news rows' : List (List PV)} {z : Value} (ho : o.op = .call { callee := .builtin .append, args := #[x, y], argTypes := #[T, T] }) (hx : ev s x = some (.ra id m)) (hb : look id s.hp = some (.row e sz rows))
    (hm : rows.take m = olds) (hml : olds.length = m) (hy : ev s y = some (.pv (.vs sz news))) (hne : Nat.blt 0 news.length = true) (ht : sliceB P T e sz = true) (hby : elemB P e bytes = true) (hz : zeroIs P e z) (hzl : z.cells.size = sz) (hsz : Nat.blt 0 sz = true) (hby0 : Nat.blt 0 bytes = true) (hroom : (olds.length + news.length) * bytes ≤ 140737488355328)
    (hrows : olds ++ news = rows') (hd : o.dst = d) (hn : dOk s d = true) : OpOk ro P c o s ((s.addAt kk none (.row e sz rows')).put d (some (.ls kk))) :=
  opOk_mem (s1 := s.addAt kk none (.row e sz rows')) hd hn (by rw [ho]; intro k h; cases h) fun a w O θ hs => by
    subst hrows
    obtain ⟨i, h1, h2, h3⟩ := sliceB_spec ht
    have hb2 : i.bytes = bytes := by simpa [elemB, h2] using hby
    have hsz' : 0 < sz := by simpa [Nat.blt_eq] using hsz
    have hby1 : 0 < bytes := by simpa [Nat.blt_eq] using hby0
    have hne' : 0 < news.length := by simpa [Nat.blt_eq] using hne
    obtain ⟨_, i', hi', hz'⟩ := zeroIs_spec hz w
    rw [h2] at hi'; cases hi'
    have hsum : olds.length + news.length ≤ maxLen := by
      have : olds.length + news.length ≤ (olds.length + news.length) * bytes := Nat.le_mul_of_pos_right _ hby1
      unfold maxLen; omega
    have hsmall : olds.length + news.length ≤ 9223372036854775807 := by simp only [maxLen] at hsum; omega
    have h := ev_ok hs hx
    have hv := ev_pv hs hy
    generalize ha : a.eval x = u at h
    generalize hay : a.eval y = v at hv
    rcases rd_vs hv with ⟨_, _, _, rfl, _⟩ | ⟨b, off, cap, f, rfl, hr⟩
    · simp at hne'
    obtain ⟨vs, q1, q2, q3, q4⟩ := rows_of_vs hr
    cases h with
    | ra _ _ g n cap0 h h0 =>
      obtain ⟨v', hv', ⟨us, hown, hrd⟩, _⟩ := hs.hp id _ hb
      rw [h] at hv'; cases hv'
      subst hm
      have hml' : m ≤ rows.length := by rw [List.length_take] at hml; omega
      have zs : ∀ m, (Builtin.zeroCells z.cells m).size = m * sz := fun m => by simp [Builtin.zeroCells, hzl]
      have p1 : RowsRd w O sz (rows.take m) (us.take (m * sz)) := by
        have hle : m * sz ≤ rows.length * sz := Nat.mul_le_mul_right _ hml'
        refine ⟨by rw [List.length_take, List.length_take, hrd.len, Nat.min_eq_left hle, Nat.min_eq_left hml'], fun row hr => hrd.hz row (List.mem_of_mem_take hr), fun row hr => hrd.one row (List.mem_of_mem_take hr), fun i j row x u h1 h2 h3 => ?_⟩
        rw [List.getElem?_take] at h1 h3
        split at h1
        · split at h3
          · exact hrd.rd i j row x u h1 h2 h3
          · cases h3
        · cases h1
      have hge := grownCap_ge w ((rows.take m).length + news.length) m e
      have hcm := grownCap_le_maxLen w ((rows.take m).length + news.length) m e hsum
      have run := run_append_grow (P := P) w T o.type e i z h1 h2 hz' ⟨g, 0, none⟩ m m (us.take (m * sz)) (by rw [h3, p1.len, hml]) (fun j u hu => hown.cells (g := g) rfl j u (by rw [List.getElem?_take] at hu; split at hu; exact hu; cases hu)) ⟨b, off, none⟩ news.length cap vs (by rw [h3]; exact q1.len) (fun j u hu => by rw [Addr.add_lit]; exact q2 j u hu) (by omega) (by omega) (growslice_fits (by omega) (by rw [hb2, ← hml]; exact hroom))
      rw [← hml] at run hge hcm
      simp only [hml] at hge hcm
      have hg : w.grownBy (w.drew.alloc (.cells ((us.take (m * sz)).toArray ++ vs.toArray ++ Builtin.zeroCells z.cells (grownCap w (m + news.length) m e - (m + news.length))) e)) none := ⟨rfl, rfl, rfl, by simp, fun k hk _ => heap_alloc_old w.drew _ k hk⟩
      obtain ⟨O', θ', h4, h5, h6, h7⟩ := hs.addAt (w' := w.drew.alloc (.cells ((us.take (m * sz)).toArray ++ vs.toArray ++ Builtin.zeroCells z.cells (grownCap w (m + news.length) m e - (m + news.length))) e)) (row := none) (v := .slice (some ⟨w.heap.size, 0, none⟩) (m + news.length) (grownCap w (m + news.length) m e)) (b := .row e sz (rows.take m ++ news)) kk hk none (by simp) (fun _ => rfl) hg
        (fun g hg => by simp [blkOf] at hg; subst hg; exact ⟨by simp, .inl (Nat.le_refl _)⟩) rfl (fun O' θ' hO' hθ' => ⟨us.take (m * sz) ++ vs, ⟨by rw [List.length_append, p1.len, q1.len, List.length_append, Nat.add_mul], .inr ⟨w.heap.size, _, _, by rw [List.length_append, hml], trivial, heap_alloc_new w.drew _, by rw [List.length_append, hml]; exact hge, hcm, by
            simp only [Array.size_append, zs, List.size_toArray, p1.len, q1.len, hml, ← Nat.add_mul]; exact Nat.mul_le_mul_right _ (by omega), by
            simp only [Array.toList_append]
            rw [show (rows.take m ++ news).length * sz = (us.take (m * sz) ++ vs).length by rw [List.length_append, List.length_append, p1.len, q1.len, Nat.add_mul]]
            exact List.take_left⟩⟩, by
          have hO : ∀ b, b < w.heap.size → ¬ O b → ¬ O' b ∧ (w.drew.alloc (.cells ((us.take (m * sz)).toArray ++ vs.toArray ++ Builtin.zeroCells z.cells (grownCap w (m + news.length) m e - (m + news.length))) e)).heap[b]? = w.heap[b]? := fun b hb hn => ⟨fun hh => by
            rcases (hO' b).1 hh with h | h
            · exact hn h
            · simp [blkOf] at h; omega, hg.block b hb (by simp)⟩
          exact (p1.mono hg.size hO).append (q1.mono hg.size hO)⟩)
      rw [hml] at run
      exact ⟨_, _, O', θ', by simp [execOp, ho, resolve, invoke, builtin, ha, hay, run], h7, .ls _ _ h6⟩

/-- They are taken as the row itself, which has no other name any more. -/
theorem imp_ra (t id kk : Nat) {m e sz : Nat} {rows rows' : List (List PV)} (hk : freshB s kk = true) (h : look t s.fr = some (.ra id m)) (hb : look id s.hp = some (.row e sz rows)) (hm : rows.take m = rows') (hml : rows'.length = m) : Imp c s ((s.addAt kk (some id) (.row e sz rows')).put (some t) (some (.ls kk))) := by
  rintro a w ⟨O, θ, hs⟩
  subst hm
  have hv := hs.fr t _ h
  generalize hq : a.tmps.getD t undef = v at hv
  cases hv with
  | ra _ _ g n cap hθ h0 =>
    obtain ⟨v', hv', ⟨us, hown, hrd⟩, hgv⟩ := hs.hp id _ hb
    have hvk := hv'
    rw [hθ] at hv'; cases hv'
    have hml' : m ≤ rows.length := by rw [List.length_take] at hml; omega
    rcases hown.2 with ⟨h4, _⟩ | ⟨g', cap', cur, he, _, hg0, hnc, hcm, hcs, htake⟩
    · cases h4
    injection he with he1 he2 he3
    injection he1 with he1; injection he1 with he1
    subst he1; subst he3
    have hle : m * sz ≤ rows.length * sz := Nat.mul_le_mul_right _ hml'
    have p1 : RowsRd w O sz (rows.take m) (us.take (m * sz)) := by
      refine ⟨by rw [List.length_take, List.length_take, hrd.len, Nat.min_eq_left hle, Nat.min_eq_left hml'], fun row hr => hrd.hz row (List.mem_of_mem_take hr), fun row hr => hrd.one row (List.mem_of_mem_take hr), fun i j row x u h1 h2 h3 => ?_⟩
      rw [List.getElem?_take] at h1 h3
      split at h1
      · split at h3
        · exact hrd.rd i j row x u h1 h2 h3
        · cases h3
      · cases h1
    obtain ⟨O', θ', h1, h2, h3, h4⟩ := hs.addAt (w' := w) (row := some g) (v := .slice (some ⟨g, 0, none⟩) m m) (b := .row e sz (rows.take m)) kk hk (some id) (fun A' hA' => by cases hA'; exact ⟨_, _, hb, hvk, rfl⟩) (by simp) ⟨rfl, rfl, rfl, Nat.le_refl _, fun _ _ _ => rfl⟩
      (fun g' hg' => by simp [blkOf] at hg'; subst hg'; exact ⟨(hgv g rfl).2.1, .inr rfl⟩) rfl
      (fun O' θ' hO' _ => ⟨us.take (m * sz), ⟨p1.len, .inr ⟨g, m, cur, by rw [hml], trivial, hg0, by rw [hml]; exact Nat.le_refl _, by omega, Nat.le_trans (Nat.mul_le_mul_right _ (by omega)) hcs, by
        rw [hml, ← htake, List.take_take, Nat.min_eq_left hle]⟩⟩, p1.mono (Nat.le_refl _) (fun b hb hn => ⟨fun hh => by
          rcases (hO' b).1 hh with h | h
          · exact hn h
          · simp [blkOf] at h; subst h; exact hn (hgv g rfl).1, rfl⟩)⟩)
    refine ⟨O', θ', h4.size, h4.df, ?_, h4.hp, h4.inj, h4.dom, h4.flt, h4.one, h4.olt, h4.ext, h4.xo, h4.xlt, h4.llt, h4.marks, h4.oc, h4.kp, h4.jn⟩
    intro t' x hx
    simp only [St.put, look_cons] at hx
    split at hx
    · rename_i e; subst e; cases hx
      rw [hq]
      exact .ls _ _ h3
    · exact h4.fr _ _ hx

theorem cut_take {α β : Type} (f : α → β) {l r : List α} {k : Int} (h : cutL l 0 k = some r) : (l.map f).take k.toNat = r.map f := by
  obtain ⟨_, _, _, rfl⟩ := cutL_spec h
  rw [← List.map_take]; simp
theorem cut_len {α β : Type} (f : α → β) {l r : List α} {k : Int} (h : cutL l 0 k = some r) : (r.map f).length = k.toNat := by
  obtain ⟨_, h1, h2, rfl⟩ := cutL_spec h
  simp; omega

/-- A piece of an array that is written no more. -/
theorem op_sliceArr {T n e sz : Nat} {x : Operand} {lo hi mx : Option Operand} {row : List PV} {α : Type} {f : α → List PV} {l r : List α} {nl nh nm : Option Int} (ho : o.op = .slice T x lo hi mx) (hx : ev s x = some (.pv (.vp row))) (hlo : evo s lo = some nl) (hhi : evo s hi = some nh) (hmx : evo s mx = some nm) (hm : nm = none ∨ nm = nh)
    (ht : arrayB P T n e sz = true) (hrow : row.take (n * sz) = (l.map f).flatten) (hf : ∀ z, (f z).length = sz) (hl : l.length = n) (hnm : Nat.ble n maxLen = true) (hr : cutL l (nl.getD 0) (nh.getD l.length) = some r) (hd : o.dst = d) (hn : dOk s d = true) : OpOk ro P c o s (s.put d (some (.pv (.vs sz (r.map f))))) :=
  opOk_value hd hn (by rw [ho]; intro k h; cases h) fun a w O θ hs => by
    obtain ⟨h1, h2, h3, rfl⟩ := cutL_spec hr
    obtain ⟨i, t1, t2, t3⟩ := arrayB_spec ht
    have hv := ev_pv hs hx
    obtain ⟨b, off, _, he, _⟩ := rd_vp hv
    rw [he] at hv
    have hv2 := rd_arr hv hrow hf hl (Nat.le_of_ble_eq_true hnm)
    have run : ∃ m : Nat, (m = (nh.getD l.length).toNat ∨ m = n) ∧ (execOp a.eval o).run P w = .ok (.value (.slice (some (if m = (nl.getD 0).toNat then ⟨b, off, none⟩ else (⟨b, off, none⟩ : Addr).add ((nl.getD 0).toNat * sz))) ((nh.getD l.length).toNat - (nl.getD 0).toNat) (m - (nl.getD 0).toNat))) w := by
      rcases evo_ok hs hlo with ⟨rfl, rfl⟩ | ⟨yl, kl, ml, rfl, rfl, e1⟩ <;> rcases evo_ok hs hhi with ⟨rfl, rfl⟩ | ⟨yh, kh, mh, rfl, rfl, e2⟩ <;> rcases evo_ok hs hmx with ⟨rfl, rfl⟩ | ⟨ym, km, mm, rfl, rfl, e3⟩
      · exact ⟨n, .inr rfl, by simp [execOp, ho, he, Instr.sliceAt, run_underlying t1, Instr.sureAddr, Instr.sliceBounds, sizeOf, typeInfo, t2, t3, hl]⟩
      · simp at hm
      · simp only [Option.getD_some, Option.getD_none] at h1 h2 h3 ⊢
        have b1 := run_sliceBound (P := P) (w := w) (k := kh) (y := n) (code := .sliceAlen) (show 0 ≤ mh by omega) (by omega)
        exact ⟨n, .inr rfl, by simp [execOp, ho, he, Instr.sliceAt, run_underlying t1, Instr.sureAddr, Instr.sliceBounds, sizeOf, typeInfo, t2, t3, e2, b1]⟩
      · simp only [Option.getD_some, Option.getD_none, reduceCtorEq, false_or, Option.some.injEq] at h1 h2 h3 hm ⊢
        subst hm
        have b0 := run_sliceBound (P := P) (w := w) (k := km) (y := n) (code := .slice3Alen) (show 0 ≤ mm by omega) (by omega)
        have b1 := run_sliceBound (P := P) (w := w) (k := kh) (y := mm.toNat) (code := .slice3B) (show 0 ≤ mm by omega) (by omega)
        exact ⟨mm.toNat, .inl rfl, by simp [execOp, ho, he, Instr.sliceAt, run_underlying t1, Instr.sureAddr, Instr.sliceBounds, sizeOf, typeInfo, t2, t3, e2, e3, b0, b1]⟩
      · simp only [Option.getD_some, Option.getD_none] at h1 h2 h3 ⊢
        have b1 := run_sliceBound (P := P) (w := w) (k := kl) (y := n) (code := .sliceB) h1 (by omega)
        exact ⟨n, .inr rfl, by simp [execOp, ho, he, Instr.sliceAt, run_underlying t1, Instr.sureAddr, Instr.sliceBounds, sizeOf, typeInfo, t2, t3, e1, b1, hl]⟩
      · simp at hm
      · simp only [Option.getD_some] at h1 h2 h3 ⊢
        have b1 := run_sliceBound (P := P) (w := w) (k := kh) (y := n) (code := .sliceAlen) (show 0 ≤ mh by omega) (by omega)
        have b2 := run_sliceBound (P := P) (w := w) (k := kl) (y := mh.toNat) (code := .sliceB) h1 (by omega)
        exact ⟨n, .inr rfl, by simp [execOp, ho, he, Instr.sliceAt, run_underlying t1, Instr.sureAddr, Instr.sliceBounds, sizeOf, typeInfo, t2, t3, e1, e2, b1, b2]⟩
      · simp only [Option.getD_some, reduceCtorEq, false_or, Option.some.injEq] at h1 h2 h3 hm ⊢
        subst hm
        have b0 := run_sliceBound (P := P) (w := w) (k := km) (y := n) (code := .slice3Alen) (show 0 ≤ mm by omega) (by omega)
        have b1 := run_sliceBound (P := P) (w := w) (k := kh) (y := mm.toNat) (code := .slice3B) (show 0 ≤ mm by omega) (by omega)
        have b2 := run_sliceBound (P := P) (w := w) (k := kl) (y := mm.toNat) (code := .slice3C) h1 (by omega)
        exact ⟨mm.toNat, .inl rfl, by simp [execOp, ho, he, Instr.sliceAt, run_underlying t1, Instr.sureAddr, Instr.sliceBounds, sizeOf, typeInfo, t2, t3, e1, e2, e3, b0, b1, b2]⟩
    obtain ⟨m, hm', hrun⟩ := run
    refine ⟨_, hrun, .pv _ _ ?_⟩
    have hc := rd_cut (L := (nl.getD 0).toNat) (H := (nh.getD l.length).toNat) (m := m) hv2 (by omega) (by rw [List.length_map]; omega) hm' (by rw [List.length_map]; omega)
    rw [← List.map_take, ← List.map_drop] at hc
    by_cases hml : m = (nl.getD 0).toNat
    · rw [if_pos hml] at hc ⊢; exact hc
    · rw [if_neg hml] at hc ⊢; exact hc

/-- The places of an array's elements. -/
def placesA (n sz : Nat) : List (Nat × Nat) := (List.range n).map fun i => (i * sz, sz)
theorem op_buildArr {T n e sz : Nat} {parts : List (Nat × Operand)} {z : Value} {zs r : List PV} {xs : List (Nat × AV)} (ho : o.op = .build T parts.toArray) (hz : zeroIs P T z) (hzs : czs z.cells.toList zs) (ht : arrayB P T n e sz = true)
    (hx : evs s parts = some xs) (hr : fillPV (placesA n sz) zs xs = some r) (hd : o.dst = d) (hn : dOk s d = true) : OpOk ro P c o s (s.put d (some (.pv (.agg r)))) :=
  opOk_value hd hn (by rw [ho]; intro k h; cases h) fun a w O θ hs => by
    obtain ⟨i, t1, t2, t3⟩ := arrayB_spec ht
    obtain ⟨us', h1, h2⟩ := fill_ok (place := placesA n sz) (pf := fun i => some (i * sz, sz)) (fun i p hp => by
      unfold placesA at hp
      rw [List.getElem?_map, Option.map_eq_some_iff] at hp
      obtain ⟨k, hk, rfl⟩ := hp
      obtain ⟨_, hk2⟩ := List.getElem?_eq_some_iff.1 hk
      simp at hk2; subst hk2; rfl) hs parts xs zs z.cells r hx hr (czs_reads1 hzs)
    refine ⟨.agg us', ?_, .pv _ _ (by have := rd_of_reads1 h2; simpa using this)⟩
    simp [execOp, ho, Instr.build, (zeroIs_spec hz w).1, run_underlying t1, sizeOf, typeInfo, t2, t3, h1]

/-- A store into a box, at a place that is not fixed. -/
theorem op_store_lpV {T n : Nat} {x y : Operand} {id k : Nat} {t : TypeId} {cells cells' : List AV} {v : AV} (ho : o.op = .store T x y) (hx : ev s x = some (.lp id k)) (hy : ev s y = some v) (hc : v.cellish = true)
    (hb : look id s.hp = some (.box t cells)) (hT : (oneB P T || aggB P T n) = true) (hn1 : v.cells.length = (bif oneB P T then 1 else n)) (hfit : k + v.cells.length ≤ cells.length) (hs' : splice cells k v.cells = cells') (hd : o.dst = d) (hk : ktB s d = true) :
    OpOk ro P c o s ((s.setBlk id (some (.box t cells'))).put d none) := by
  subst hs'
  exact op_store_lp ho hx hy hc hb hT hn1 (Nat.ble_eq_true_of_le hfit) hd hk
end

def A2.set {α : Type} (x : A2 α) : Nat → α → A2 α
  | 0, v => ⟨v, x.a1⟩
  | _, v => ⟨x.a0, v⟩
def A3.set {α : Type} (x : A3 α) : Nat → α → A3 α
  | 0, v => ⟨v, x.a1, x.a2⟩
  | 1, v => ⟨x.a0, v, x.a2⟩
  | _, v => ⟨x.a0, x.a1, v⟩
def A4.set {α : Type} (x : A4 α) : Nat → α → A4 α
  | 0, v => ⟨v, x.a1, x.a2, x.a3⟩
  | 1, v => ⟨x.a0, v, x.a2, x.a3⟩
  | 2, v => ⟨x.a0, x.a1, v, x.a3⟩
  | _, v => ⟨x.a0, x.a1, x.a2, v⟩
theorem idx_l2 {α : Type} {x : A2 α} {i : Int} {z : α} (h : idx x.l i = some z) : i.toNat = 0 ∨ i.toNat = 1 := by
  obtain ⟨h0, _, h1⟩ := idx_spec h; have : (x.l.length : Int) = 2 := rfl; omega
theorem idx_l3 {α : Type} {x : A3 α} {i : Int} {z : α} (h : idx x.l i = some z) : i.toNat = 0 ∨ i.toNat = 1 ∨ i.toNat = 2 := by
  obtain ⟨h0, _, h1⟩ := idx_spec h; have : (x.l.length : Int) = 3 := rfl; omega
theorem idx_l4 {α : Type} {x : A4 α} {i : Int} {z : α} (h : idx x.l i = some z) : i.toNat = 0 ∨ i.toNat = 1 ∨ i.toNat = 2 ∨ i.toNat = 3 := by
  obtain ⟨h0, _, h1⟩ := idx_spec h; have : (x.l.length : Int) = 4 := rfl; omega
end Go.Abs
