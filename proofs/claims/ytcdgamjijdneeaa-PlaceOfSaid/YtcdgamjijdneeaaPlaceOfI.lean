/- A part of the proof that the law PlaceOf gives true for every input. -/
import Derived.Test.YtcdgamjijdneeaaPlaceOfT
/- What the iterators yield. -/
namespace Go.Proofs.Ytcdgamjijdneeaa
open Go.RowKit Go.Abs










theorem linesF_idx : ∀ (r : List UInt8) (n f pos : Nat), (Lib.indexByte r 10 = -1 → linesF r n f pos = [{ fn := (n : Int), ffrom := (f : Int), fto := ((pos + r.length : Nat) : Int) }]) ∧
    (∀ k : Nat, Lib.indexByte r 10 = (k : Int) → k < r.length ∧ linesF r n f pos = { fn := (n : Int), ffrom := (f : Int), fto := ((pos + k : Nat) : Int) } :: linesF (r.drop (k + 1)) (n + 1) (pos + k + 1) (pos + k + 1))
  | [], n, f, pos => ⟨fun _ => rfl, fun k h => by simp only [Lib.indexByte] at h; omega⟩
  | c :: r, n, f, pos => by
    obtain ⟨h1, h2⟩ := linesF_idx r n f (pos + 1)
    have hge := Lib.indexByte_ge r 10
    simp only [Lib.indexByte, linesF]
    by_cases hc : (c == 10) = true
    · simp only [hc, if_true]
      refine ⟨fun h => by omega, fun k hk => ?_⟩
      have : k = 0 := by omega
      subst this
      exact ⟨by simp, by simp⟩
    · simp only [hc, Bool.false_eq_true, if_false]
      by_cases hm : (Lib.indexByte r 10 == -1) = true
      · simp only [hm, if_true]
        have hm' : Lib.indexByte r 10 = -1 := by simpa using hm
        refine ⟨fun _ => ?_, fun k hk => by omega⟩
        rw [h1 hm']
        simp only [List.length_cons]
        congr 3; omega
      · simp only [hm, Bool.false_eq_true, if_false]
        have hm' : Lib.indexByte r 10 ≠ -1 := by simpa using hm
        refine ⟨fun h => by omega, fun k hk => ?_⟩
        obtain ⟨k', rfl⟩ : ∃ k', k = k' + 1 := ⟨k - 1, by omega⟩
        obtain ⟨h3, h4⟩ := h2 k' (by omega)
        refine ⟨by simp; omega, ?_⟩
        rw [h4]
        simp only [List.drop_succ_cons]
        rw [show pos + 1 + k' = pos + (k' + 1) by omega]
theorem lines_L {t : List UInt8} {rows : List Gline_place} {sp : Nat} (ht : t.length < 4611686018427387904) : ∀ (fuel k f : Nat), t.length - f < fuel → f ≤ t.length → k ≤ sp → k ≤ f → rows.drop k = linesF (t.drop f) (k + 1) f f →
    place_lines_1_L1 t sp rows fuel k (f : Int) ((k + 1 : Nat) : Int) = some (.stop (min (sp + 1) rows.length))
  | 0, k, f, h, _, _, _, _ => by omega
  | fuel + 1, k, f, h, hf, hk, hkf, hd => by
    simp only [place_lines_1_L1]
    have hcut : cutL t (f : Int) t.length = some (t.drop f) := by
      unfold cutL
      rw [if_pos ⟨by omega, by omega, Int.le_refl _⟩]
      simp
    rw [hcut]
    simp only [obs, strings_IndexByte, internal_stringslite_IndexByte]
    have hidx : idxB (t.drop f) 10 = Lib.indexByte (t.drop f) 10 := rfl
    rw [hidx]
    obtain ⟨h1, h2⟩ := linesF_idx (t.drop f) (k + 1) f f
    have hge := Lib.indexByte_ge (t.drop f) 10
    have hget : ∀ row rest, rows.drop k = row :: rest → rows[k]? = some row ∧ rows.drop (k + 1) = rest := by
      intro row rest he
      have a := congrArg (fun z => z[0]?) he
      have b := congrArg (fun z => z.drop 1) he
      simp at a b
      exact ⟨a, b⟩
    by_cases hneg : Lib.indexByte (t.drop f) 10 < 0
    · have hm : Lib.indexByte (t.drop f) 10 = -1 := by omega
      rw [if_pos (by simpa using hneg)]
      have hr := h1 hm
      rw [hr] at hd
      obtain ⟨g1, g2⟩ := hget _ _ hd
      have hlen : ((f + (t.drop f).length : Nat) : Int) = (t.length : Int) := by rw [List.length_drop]; omega
      rw [hlen] at g1
      rw [yck_ok g1 hk]
      simp only [obs]
      have hrl : rows.length = k + 1 := by
        have a := (List.getElem?_eq_some_iff.1 g1).1
        have b := congrArg List.length g2
        simp at b; omega
      congr 2; omega
    · obtain ⟨j, hj⟩ : ∃ j : Nat, Lib.indexByte (t.drop f) 10 = (j : Int) := ⟨(Lib.indexByte (t.drop f) 10).toNat, by omega⟩
      rw [if_neg (by simpa using hneg), hj]
      obtain ⟨q1, q2⟩ := h2 j hj
      rw [q2] at hd
      obtain ⟨g1, g2⟩ := hget _ _ hd
      rw [List.length_drop] at q1
      rw [show w_i64 ((f : Int) + (j : Int)) = ((f + j : Nat) : Int) by rw [w64 (by omega) (by omega)]; omega, yck_ok g1 hk]
      have hrl := (List.getElem?_eq_some_iff.1 g1).1
      simp only [obs, Bool.not_not]
      by_cases hsp : k = sp
      · rw [if_pos (by simpa using hsp)]
        congr 2; omega
      · rw [if_neg (by simpa using hsp)]
        rw [show w_i64 ((j : Int) + 1) = ((j + 1 : Nat) : Int) by rw [w64 (by omega) (by omega)]; omega, show w_i64 ((f : Int) + ((j + 1 : Nat) : Int)) = ((f + j + 1 : Nat) : Int) by rw [w64 (by omega) (by omega)]; omega,
          show w_i64 (((k + 1 : Nat) : Int) + 1) = ((k + 1 + 1 : Nat) : Int) by rw [w64 (by omega) (by omega)]; omega]
        refine lines_L ht fuel (k + 1) (f + j + 1) (by omega) (by omega) (by omega) (by omega) ?_
        rw [g2, List.drop_drop, show f + (j + 1) = f + j + 1 by omega]
theorem itR_lines_ok {t : List UInt8} {rows : List Gline_place} (h : itR_lines t = some rows) : ∀ sp, place_lines_1 rows sp t = some (min (sp + 1) rows.length) := by
  intro sp
  unfold itR_lines at h
  split at h
  · rename_i ht
    cases h
    unfold place_lines_1
    rw [show (0 : Int) = ((0 : Nat) : Int) from rfl, show (1 : Int) = ((0 + 1 : Nat) : Int) from rfl, lines_L ht (t.length + 2) 0 0 (by omega) (by omega) (by omega) (by omega) (by simp)]
    rfl
  · cases h





end Go.Proofs.Ytcdgamjijdneeaa
