/- The abstract layer that the proof stands on: no condition. -/
import Derived.Test.YtkfgkkbfipgklaaAbsW
import Derived.Maps.Own
/- Maps of the call's own, from strings to numbers. -/
namespace Go.Abs
open Go.RowKit

def mapB (P : Program) (T k e : Nat) : Bool :=
  (match P.underlying T with | some (.map k' e') => k' == k && e' == e | _ => false) && (match P.underlying k with | some .string => true | _ => false) && (match P.underlying e with | some (.int .i64) => true | _ => false)
theorem mapB_spec {P : Program} {T k e : Nat} (h : mapB P T k e = true) : P.underlying T = some (.map k e) ∧ P.underlying k = some .string ∧ P.underlying e = some (.int .i64) := by
  unfold mapB at h
  simp only [Bool.and_eq_true] at h
  obtain ⟨⟨h1, h2⟩, h3⟩ := h
  refine ⟨?_, ?_, ?_⟩
  · split at h1
    · rename_i e1; simp at h1; obtain ⟨rfl, rfl⟩ := h1; exact e1
    · cases h1
  · split at h2
    · rename_i e1; exact e1
    · cases h2
  · split at h3
    · rename_i e1; exact e1
    · cases h3

/-- What a map answers. -/
def mget (m : List UInt8 → Int) (key : List UInt8) : Option Int := if key.length ≤ maxLen then some (m key) else none
theorem mget_spec {m : List UInt8 → Int} {key : List UInt8} {r : Int} (h : mget m key = some r) : key.length ≤ maxLen ∧ r = m key := by
  unfold mget at h
  split at h
  · rename_i h1; cases h; exact ⟨h1, rfl⟩
  · cases h
/-- A map in which a key has another value. -/
def mput (n : Nat) (m : List UInt8 → Int) (key : List UInt8) (v : Int) : Option (List UInt8 → Int) :=
  if key.length ≤ maxLen ∧ n < maxLen ∧ IntKind.i64.min ≤ v ∧ v ≤ IntKind.i64.max then some (fun x => if x = key then v else m x) else none
theorem mput_spec {n : Nat} {m m' : List UInt8 → Int} {key : List UInt8} {v : Int} (h : mput n m key v = some m') : key.length ≤ maxLen ∧ n < maxLen ∧ IntKind.i64.min ≤ v ∧ v ≤ IntKind.i64.max ∧ m' = fun x => if x = key then v else m x := by
  unfold mput at h
  split at h
  · rename_i h1; cases h; exact ⟨h1.1, h1.2.1, h1.2.2.1, h1.2.2.2, rfl⟩
  · cases h

section
variable {ro : Option Nat} {P : Program} {c : Cx} {s : St} {o : Oper} {d : Option Nat}

theorem op_makeMap (kk : Nat) (hk : freshB s kk = true) {T k e : Nat} (ho : o.op = .makeMap T none) (hm : mapB P T k e = true) (hd : o.dst = d) (hn : dOk s d = true) :
    OpOk ro P c o s ((s.addAt kk none (.dict P T 0 (fun _ => 0))).put d (some (.ls kk))) :=
  opOk_mem (s1 := s.addAt kk none (.dict P T 0 (fun _ => 0))) hd hn (by rw [ho]; intro k h; cases h) fun a w O θ hs => by
    obtain ⟨m1, m2, m3⟩ := mapB_spec hm
    obtain ⟨O', θ', h3, h4, h5, h6⟩ := hs.addAt (w' := w.alloc (.map #[] 0)) (row := none) (v := .map (some w.heap.size)) (b := .dict P T 0 (fun _ => 0)) kk hk none (by simp) (fun _ => rfl) (alloc_grown w _)
      (fun g hg => by simp [blkOf] at hg; subst hg; simp) rfl (fun O' θ' _ _ => ⟨w.heap.size, k, e, .map [], rfl, m1, m2, m3, World.ownsMap_made w P k _, Maps.isMap_empty, fun key => rfl⟩)
    refine ⟨_, _, O', θ', ?_, h6, .ls _ _ h5⟩
    simp [execOp, ho, run_makeMap]

theorem keyOf_str {k : Nat} (m2 : P.underlying k = some .string) {key : List UInt8} (hl : key.length ≤ maxLen) : keyOf P k (.string ⟨key.toArray⟩) = some (.string key) := by
  have := WideMaps.keyOf_string_mk (P := P) (k := k) m2 (s := ⟨key.toArray⟩) (by show key.toArray.size ≤ maxLen; simpa using hl)
  simpa using this

theorem op_lookup {T k e : Nat} {x y : Operand} {id n : Nat} {m : List UInt8 → Int} {key : List UInt8} {r : Int} (ho : o.op = .lookup T x y false) (hx : ev s x = some (.ls id)) (hb : look id s.hp = some (.dict P T n m)) (hy : ev s y = some (.pv (.str key)))
    (hm : mapB P T k e = true) (hz : zeroIs P e (.int .i64 0)) (hr : mget m key = some r) (hd : o.dst = d) (hn : dOk s d = true) :
    OpOk ro P c o s (s.put d (some (.pv (.int .i64 r)))) :=
  opOk_value hd hn (by rw [ho]; intro k h; cases h) fun a w O θ hs => by
    obtain ⟨m1, m2, m3⟩ := mapB_spec hm
    obtain ⟨hl, rfl⟩ := mget_spec hr
    have h := ev_ok hs hx
    have e2 := ev_str hs hy
    generalize hv : a.eval x = v at h
    cases h with
    | ls _ _ h =>
      obtain ⟨v', hv', ⟨b, k', e', D, rfl, q1, q2, q3, q4, q5, q6⟩, _⟩ := hs.hp id _ hb
      rw [h] at hv'; cases hv'
      rw [m1] at q1; cases q1
      obtain ⟨cc, h1, h2, _⟩ := q4.lookup_int (Maps.string_keyed m2) m1 m3 (zeroIs_spec hz w).1 (keyOf_str m2 hl)
      rw [q6 key] at h2
      injection h2 with h2; injection h2 with _ h2
      refine ⟨.int .i64 cc, ?_, by rw [h2]; exact .pv _ _ (.int _ _)⟩
      simp [execOp, ho, hv, e2, h1]

theorem op_mapUpdate {T k e : Nat} {x y z : Operand} {id n : Nat} {m m' : List UInt8 → Int} {key : List UInt8} {v : Int} (ho : o.op = .mapUpdate T x y z) (hx : ev s x = some (.ls id)) (hb : look id s.hp = some (.dict P T n m)) (hy : ev s y = some (.pv (.str key)))
    (hzz : ev s z = some (.pv (.int .i64 v))) (hm : mapB P T k e = true) (hr : mput n m key v = some m') (hd : o.dst = none) :
    OpOk ro P c o s ((s.setBlk id (some (.dict P T (n + 1) m'))).put none none) :=
  opOk_skip (s1 := s.setBlk id (some (.dict P T (n + 1) m'))) hd rfl (by rw [ho]; intro k h; cases h) fun a w O θ hs => by
    obtain ⟨m1, m2, m3⟩ := mapB_spec hm
    obtain ⟨hl, hnm, hv1, hv2, rfl⟩ := mput_spec hr
    have h := ev_ok hs hx
    have e2 := ev_str hs hy
    have e3 := ev_int hs hzz
    generalize hv : a.eval x = u at h
    cases h with
    | ls _ _ h =>
      obtain ⟨v', hv', ⟨b, k', e', D, rfl, q1, q2, q3, q4, q5, q6⟩, _⟩ := hs.hp id _ hb
      have hθ := hv'
      rw [h] at hv'; cases hv'
      rw [m1] at q1; cases q1
      obtain ⟨w', h1, h2, h3⟩ := q4.update (Maps.string_keyed m2) m1 hnm (keyOf_str m2 hl) (plainElem_int m3 (a := v) (by show (decide _ && decide _) = true; rw [decide_eq_true hv1, decide_eq_true hv2]; rfl))
      refine ⟨w', O, θ, ?_, hs.upd hb hθ h3 ⟨b, k, e, _, rfl, m1, m2, m3, h2, q5.put _ _, fun key' => ?_⟩⟩
      · simp [execOp, ho, hv, e2, e3, h1]
      · show _ = DataW.lit (.int .i64 (if key' = key then v else m key'))
        by_cases hk : key' = key
        · subst hk
          rw [Maps.atKey_put_same q5 (show WideAt.IsKeyLit (.string key') from trivial), if_pos rfl]
        · rw [Maps.atKey_put_other (fun h => hk (by injection h)), q6 key', if_neg hk]
end
end Go.Abs
