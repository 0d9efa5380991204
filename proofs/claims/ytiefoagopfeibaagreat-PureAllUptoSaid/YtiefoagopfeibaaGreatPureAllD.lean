/- A part of the proof that the law PureAll gives true for every input. -/
import Derived.Test.YtiefoagopfeibaaGreatPureAllA5
import Derived.Test.YtiefoagopfeibaaGreatPureAllT
import Derived.Test.YtiefoagopfeibaaGreatProg
namespace Go.Proofs.YtiefoagopfeibaaGreat
open Go.ChangeShapes Go.WideShapes Go.ChangeAt Go.RowKit Go.Abs
theorem Qi : ownKnob Tryz.prog.godebug = none := by kernel_rfl
theorem JD : laidOutB Tryz.prog = true := by kernel_rfl
theorem qY {H : Type} {K : Bk H} {enc : TypeId × Value → H} {w : World} (fuel : Nat) : qU K enc Tryz.prog w fuel 9 eS (fun x => sv x) (fun s => List.length s + 1) := Qa (by kernel_rfl)
theorem Rp {H : Type} {K : Bk H} {enc : TypeId × Value → H} {w : World} (fuel : Nat) : qU K enc Tryz.prog w fuel 27 (eL 1 eS) (fun x => jD (fun y => sv y) x) (fun l => cW (fun s => List.length s + 1) l + 1) := jQ (E := 9) (by kernel_rfl) (by kernel_rfl) rfl (fun _ => rfl) (fun n _ => qY n)
theorem rL {H : Type} {K : Bk H} {enc : TypeId × Value → H} {w : World} (fuel : Nat) : qU K enc Tryz.prog w fuel 3 eI (fun x => sD x) (fun _ => 1) := Pz (by kernel_rfl)
def ju (x : bH) : Prop := sD x.ab ∧ sD x.fN
def iR (x : bH) : Nat := 1 + (1 + (0)) + 1
theorem OY {H : Type} {K : Bk H} {enc : TypeId × Value → H} {w : World} (fuel : Nat) : qU K enc Tryz.prog w fuel 34 bw ju iR := by
  intro cs x hx
  obtain ⟨m, xs, hm, hl, hd, hxl, hp⟩ := nJ (l := [(3, 0, 1), (3, 1, 1)]) (n := 2) (by kernel_rfl) hx
  obtain ⟨w0, v0, q0⟩ := hp 0 3 0 1 rfl
  obtain ⟨y0, g0, b0, r0⟩ := rL m _ _ q0
  obtain ⟨w1, v1, q1⟩ := hp 1 3 1 1 rfl
  obtain ⟨y1, g1, b1, r1⟩ := rL m _ _ q1
  exact ⟨⟨y0, y1⟩, ⟨g0, g1⟩, wi [1, 1] hd hxl rfl ⟨⟨w0, v0, b0⟩, ⟨w1, v1, b1⟩, trivial⟩, yq (cM (off := 0) r0 rfl (cM (off := 1) r1 rfl (ot hl)))⟩
theorem Sc {H : Type} {K : Bk H} {enc : TypeId × Value → H} {w : World} (fuel : Nat) : qU K enc Tryz.prog w fuel 28 (eL 2 bw) (fun x => jD (fun y => ju y) x) (fun l => cW iR l + 1) := jQ (E := 34) (by kernel_rfl) (by kernel_rfl) rfl (fun _ => rfl) (fun n _ => OY n)
theorem RI {H : Type} {K : Bk H} {enc : TypeId × Value → H} {w : World} (fuel : Nat) : qU K enc Tryz.prog w fuel 35 (eA4 bw) (fun x => (ju x.a0 ∧ ju x.a1 ∧ ju x.a2 ∧ ju x.a3)) (fun x => iR x.a0 + (iR x.a1 + (iR x.a2 + (iR x.a3 + 0))) + 1) := Py (E := 34) (sz := 2) (by kernel_rfl) (fun _ => rfl) (fun n _ => OY n)
def wW (x : bV) : Prop := sD x.ab ∧ sv x.aq ∧ sD x.fN ∧ (ju x.aK.a0 ∧ ju x.aK.a1 ∧ ju x.aK.a2 ∧ ju x.aK.a3)
def pd (x : bV) : Nat := 1 + ((List.length x.aq + 1) + (1 + ((iR x.aK.a0 + (iR x.aK.a1 + (iR x.aK.a2 + (iR x.aK.a3 + (0)))) + 1) + (0)))) + 1
theorem Jk {H : Type} {K : Bk H} {enc : TypeId × Value → H} {w : World} (fuel : Nat) : qU K enc Tryz.prog w fuel 37 aj wW pd := by
  intro cs x hx
  obtain ⟨m, xs, hm, hl, hd, hxl, hp⟩ := nJ (l := [(3, 0, 1), (9, 1, 1), (3, 2, 1), (35, 3, 8)]) (n := 11) (by kernel_rfl) hx
  obtain ⟨w0, v0, q0⟩ := hp 0 3 0 1 rfl
  obtain ⟨y0, g0, b0, r0⟩ := rL m _ _ q0
  obtain ⟨w1, v1, q1⟩ := hp 1 9 1 1 rfl
  obtain ⟨y1, g1, b1, r1⟩ := qY m _ _ q1
  obtain ⟨w2, v2, q2⟩ := hp 2 3 2 1 rfl
  obtain ⟨y2, g2, b2, r2⟩ := rL m _ _ q2
  obtain ⟨w3, v3, q3⟩ := hp 3 35 3 8 rfl
  obtain ⟨y3, g3, b3, r3⟩ := RI m _ _ q3
  exact ⟨⟨y0, y1, y2, y3⟩, ⟨g0, g1, g2, g3⟩, wi [1, (List.length y1 + 1), 1, (iR y3.a0 + (iR y3.a1 + (iR y3.a2 + (iR y3.a3 + (0)))) + 1)] hd hxl rfl ⟨⟨w0, v0, b0⟩, ⟨w1, v1, b1⟩, ⟨w2, v2, b2⟩, ⟨w3, v3, b3⟩, trivial⟩, yq (cM (off := 0) r0 rfl (cM (off := 1) r1 rfl (cM (off := 2) r2 rfl (cM (off := 3) r3 rfl (ot hl)))))⟩
def vV (x : dU) : Prop := sv x.ax ∧ wW x.aO ∧ sD x.fAt
def pD (x : dU) : Nat := (List.length x.ax + 1) + (pd x.aO + (1 + (0))) + 1
theorem RN {H : Type} {K : Bk H} {enc : TypeId × Value → H} {w : World} (fuel : Nat) : qU K enc Tryz.prog w fuel 99 aY vV pD := by
  intro cs x hx
  obtain ⟨m, xs, hm, hl, hd, hxl, hp⟩ := nJ (l := [(9, 0, 1), (37, 1, 11), (3, 12, 1)]) (n := 13) (by kernel_rfl) hx
  obtain ⟨w0, v0, q0⟩ := hp 0 9 0 1 rfl
  obtain ⟨y0, g0, b0, r0⟩ := qY m _ _ q0
  obtain ⟨w1, v1, q1⟩ := hp 1 37 1 11 rfl
  obtain ⟨y1, g1, b1, r1⟩ := Jk m _ _ q1
  obtain ⟨w2, v2, q2⟩ := hp 2 3 12 1 rfl
  obtain ⟨y2, g2, b2, r2⟩ := rL m _ _ q2
  exact ⟨⟨y0, y1, y2⟩, ⟨g0, g1, g2⟩, wi [(List.length y0 + 1), pd y1, 1] hd hxl rfl ⟨⟨w0, v0, b0⟩, ⟨w1, v1, b1⟩, ⟨w2, v2, b2⟩, trivial⟩, yq (cM (off := 0) r0 rfl (cM (off := 1) r1 rfl (cM (off := 12) r2 rfl (ot hl))))⟩
theorem Jw {H : Type} {K : Bk H} {enc : TypeId × Value → H} {w : World} (fuel : Nat) : qU K enc Tryz.prog w fuel 29 (eL 13 aY) (fun x => jD (fun y => vV y) x) (fun l => cW pD l + 1) := jQ (E := 99) (by kernel_rfl) (by kernel_rfl) rfl (fun _ => rfl) (fun n _ => RN n)
theorem Tj {H : Type} {K : Bk H} {enc : TypeId × Value → H} {w : World} (fuel : Nat) : qU K enc Tryz.prog w fuel 4 eB (fun x => True) (fun _ => 1) := Po (by kernel_rfl)
inductive goodGExpr : cD → Prop
  | mk (x : cD) (h0 : sD x.ab) (h1 : sD x.eh) (h2 : sv x.ax) (l3 : x.cY.length ≤ maxLen) (k3 : ∀ y ∈ x.cY, goodGExpr y) : goodGExpr x
mutual
def fy : cD → Nat
  | ⟨_, _, z2, z3⟩ => 1 + (1 + ((List.length z2 + 1) + ((yV z3 + 1) + (0)))) + 1
def yV : List cD → Nat
  | [] => 0
  | x :: l => fy x + yV l
end
theorem CR : ∀ l : List cD, yV l = cW fy l
  | [] => by simp only [yV, cW]
  | x :: l => by simp only [yV, cW, CR l]
theorem xp (x : cD) : fy x = 1 + (1 + ((List.length x.ax + 1) + ((cW fy x.cY + 1) + (0)))) + 1 := by cases x; simp only [fy, CR]
theorem Oj {H : Type} {K : Bk H} {enc : TypeId × Value → H} {w : World} (fuel : Nat) : qU K enc Tryz.prog w fuel 46 bL goodGExpr fy := by
  induction fuel using Nat.strongRecOn with
  | _ fuel ih =>
  intro cs x hx
  obtain ⟨m, xs, hm, hl, hd, hxl, hp⟩ := nJ (l := [(3, 0, 1), (3, 1, 1), (9, 2, 1), (44, 3, 1)]) (n := 4) (by kernel_rfl) hx
  obtain ⟨w0, v0, q0⟩ := hp 0 3 0 1 rfl
  obtain ⟨y0, g0, b0, r0⟩ := rL m _ _ q0
  obtain ⟨w1, v1, q1⟩ := hp 1 3 1 1 rfl
  obtain ⟨y1, g1, b1, r1⟩ := rL m _ _ q1
  obtain ⟨w2, v2, q2⟩ := hp 2 9 2 1 rfl
  obtain ⟨y2, g2, b2, r2⟩ := qY m _ _ q2
  obtain ⟨w3, v3, q3⟩ := hp 3 44 3 1 rfl
  obtain ⟨y3, g3, b3, r3⟩ := (jQ (P := Tryz.prog) (enc := enc) (w := w) (fuel := m) (T := 44) (E := 46) (sz := 4) (e := bL) (good := goodGExpr) (u := fy) (by kernel_rfl) (by kernel_rfl) rfl (fun _ => rfl) (fun k hk => ih k (by omega))) _ _ q3
  exact ⟨⟨y0, y1, y2, y3⟩, .mk _ g0 g1 g2 g3.1 g3.2, by rw [xp]; exact wi [1, 1, (List.length y2 + 1), (cW fy y3 + 1)] hd hxl rfl ⟨⟨w0, v0, b0⟩, ⟨w1, v1, b1⟩, ⟨w2, v2, b2⟩, ⟨w3, v3, b3⟩, trivial⟩, yq (cM (off := 0) r0 rfl (cM (off := 1) r1 rfl (cM (off := 2) r2 rfl (cM (off := 3) (vsR cO r3) rfl (ot hl)))))⟩
theorem RU {H : Type} {K : Bk H} {enc : TypeId × Value → H} {w : World} (fuel : Nat) : qU K enc Tryz.prog w fuel 44 (eL 4 bL) (fun x => jD (fun y => goodGExpr y) x) (fun l => cW fy l + 1) := jQ (E := 46) (by kernel_rfl) (by kernel_rfl) rfl (fun _ => rfl) (fun n _ => Oj n)
inductive goodGStmt : aQ → Prop
  | mk (x : aQ) (h0 : sD x.ab) (h1 : sv x.fX) (h2 : sv x.fY) (h3 : sv x.ax) (h4 : wW x.aO) (h5 : goodGExpr x.fE) (h6 : jD (fun y => goodGExpr y) x.dH) (l7 : x.bM.length ≤ maxLen) (k7 : ∀ y ∈ x.bM, goodGStmt y) (l8 : x.dp.length ≤ maxLen) (k8 : ∀ y ∈ x.dp, goodGStmt y) (h9 : sD x.fAt) : goodGStmt x
mutual
def dc : aQ → Nat
  | ⟨_, z1, z2, z3, z4, z5, z6, z7, z8, _⟩ => 1 + ((List.length z1 + 1) + ((List.length z2 + 1) + ((List.length z3 + 1) + (pd z4 + (fy z5 + ((cW fy z6 + 1) + ((xl z7 + 1) + ((xl z8 + 1) + (1 + (0)))))))))) + 1
def xl : List aQ → Nat
  | [] => 0
  | x :: l => dc x + xl l
end
theorem Dx : ∀ l : List aQ, xl l = cW dc l
  | [] => by simp only [xl, cW]
  | x :: l => by simp only [xl, cW, Dx l]
theorem ud (x : aQ) : dc x = 1 + ((List.length x.fX + 1) + ((List.length x.fY + 1) + ((List.length x.ax + 1) + (pd x.aO + (fy x.fE + ((cW fy x.dH + 1) + ((cW dc x.bM + 1) + ((cW dc x.dp + 1) + (1 + (0)))))))))) + 1 := by cases x; simp only [dc, Dx]
theorem SD {H : Type} {K : Bk H} {enc : TypeId × Value → H} {w : World} (fuel : Nat) : qU K enc Tryz.prog w fuel 48 aM goodGStmt dc := by
  induction fuel using Nat.strongRecOn with
  | _ fuel ih =>
  intro cs x hx
  obtain ⟨m, xs, hm, hl, hd, hxl, hp⟩ := nJ (l := [(3, 0, 1), (9, 1, 1), (9, 2, 1), (9, 3, 1), (37, 4, 11), (46, 15, 4), (44, 19, 1), (38, 20, 1), (38, 21, 1), (3, 22, 1)]) (n := 23) (by kernel_rfl) hx
  obtain ⟨w0, v0, q0⟩ := hp 0 3 0 1 rfl
  obtain ⟨y0, g0, b0, r0⟩ := rL m _ _ q0
  obtain ⟨w1, v1, q1⟩ := hp 1 9 1 1 rfl
  obtain ⟨y1, g1, b1, r1⟩ := qY m _ _ q1
  obtain ⟨w2, v2, q2⟩ := hp 2 9 2 1 rfl
  obtain ⟨y2, g2, b2, r2⟩ := qY m _ _ q2
  obtain ⟨w3, v3, q3⟩ := hp 3 9 3 1 rfl
  obtain ⟨y3, g3, b3, r3⟩ := qY m _ _ q3
  obtain ⟨w4, v4, q4⟩ := hp 4 37 4 11 rfl
  obtain ⟨y4, g4, b4, r4⟩ := Jk m _ _ q4
  obtain ⟨w5, v5, q5⟩ := hp 5 46 15 4 rfl
  obtain ⟨y5, g5, b5, r5⟩ := Oj m _ _ q5
  obtain ⟨w6, v6, q6⟩ := hp 6 44 19 1 rfl
  obtain ⟨y6, g6, b6, r6⟩ := RU m _ _ q6
  obtain ⟨w7, v7, q7⟩ := hp 7 38 20 1 rfl
  obtain ⟨y7, g7, b7, r7⟩ := (jQ (P := Tryz.prog) (enc := enc) (w := w) (fuel := m) (T := 38) (E := 48) (sz := 23) (e := aM) (good := goodGStmt) (u := dc) (by kernel_rfl) (by kernel_rfl) rfl (fun _ => rfl) (fun k hk => ih k (by omega))) _ _ q7
  obtain ⟨w8, v8, q8⟩ := hp 8 38 21 1 rfl
  obtain ⟨y8, g8, b8, r8⟩ := (jQ (P := Tryz.prog) (enc := enc) (w := w) (fuel := m) (T := 38) (E := 48) (sz := 23) (e := aM) (good := goodGStmt) (u := dc) (by kernel_rfl) (by kernel_rfl) rfl (fun _ => rfl) (fun k hk => ih k (by omega))) _ _ q8
  obtain ⟨w9, v9, q9⟩ := hp 9 3 22 1 rfl
  obtain ⟨y9, g9, b9, r9⟩ := rL m _ _ q9
  exact ⟨⟨y0, y1, y2, y3, y4, y5, y6, y7, y8, y9⟩, .mk _ g0 g1 g2 g3 g4 g5 g6 g7.1 g7.2 g8.1 g8.2 g9, by rw [ud]; exact wi [1, (List.length y1 + 1), (List.length y2 + 1), (List.length y3 + 1), pd y4, fy y5, (cW fy y6 + 1), (cW dc y7 + 1), (cW dc y8 + 1), 1] hd hxl rfl ⟨⟨w0, v0, b0⟩, ⟨w1, v1, b1⟩, ⟨w2, v2, b2⟩, ⟨w3, v3, b3⟩, ⟨w4, v4, b4⟩, ⟨w5, v5, b5⟩, ⟨w6, v6, b6⟩, ⟨w7, v7, b7⟩, ⟨w8, v8, b8⟩, ⟨w9, v9, b9⟩, trivial⟩, yq (cM (off := 0) r0 rfl (cM (off := 1) r1 rfl (cM (off := 2) r2 rfl (cM (off := 3) r3 rfl (cM (off := 4) r4 rfl (cM (off := 15) r5 rfl (cM (off := 19) (vsR cO r6) rfl (cM (off := 20) (vsR cb r7) rfl (cM (off := 21) (vsR cb r8) rfl (cM (off := 22) r9 rfl (ot hl)))))))))))⟩
theorem RY {H : Type} {K : Bk H} {enc : TypeId × Value → H} {w : World} (fuel : Nat) : qU K enc Tryz.prog w fuel 38 (eL 23 aM) (fun x => jD (fun y => goodGStmt y) x) (fun l => cW dc l + 1) := jQ (E := 48) (by kernel_rfl) (by kernel_rfl) rfl (fun _ => rfl) (fun n _ => SD n)
def qk (x : aI) : Prop := sv x.ax ∧ True ∧ wW x.ca ∧ jD (fun y => vV y) x.ap ∧ jD (fun y => vV y) x.cy ∧ jD (fun y => goodGStmt y) x.bM ∧ sD x.fAt
def dC (x : aI) : Nat := (List.length x.ax + 1) + (1 + (pd x.ca + ((cW pD x.ap + 1) + ((cW pD x.cy + 1) + ((cW dc x.bM + 1) + (1 + (0))))))) + 1
theorem Sv {H : Type} {K : Bk H} {enc : TypeId × Value → H} {w : World} (fuel : Nat) : qU K enc Tryz.prog w fuel 40 ai qk dC := by
  intro cs x hx
  obtain ⟨m, xs, hm, hl, hd, hxl, hp⟩ := nJ (l := [(9, 0, 1), (4, 1, 1), (37, 2, 11), (29, 13, 1), (29, 14, 1), (38, 15, 1), (3, 16, 1)]) (n := 17) (by kernel_rfl) hx
  obtain ⟨w0, v0, q0⟩ := hp 0 9 0 1 rfl
  obtain ⟨y0, g0, b0, r0⟩ := qY m _ _ q0
  obtain ⟨w1, v1, q1⟩ := hp 1 4 1 1 rfl
  obtain ⟨y1, g1, b1, r1⟩ := Tj m _ _ q1
  obtain ⟨w2, v2, q2⟩ := hp 2 37 2 11 rfl
  obtain ⟨y2, g2, b2, r2⟩ := Jk m _ _ q2
  obtain ⟨w3, v3, q3⟩ := hp 3 29 13 1 rfl
  obtain ⟨y3, g3, b3, r3⟩ := Jw m _ _ q3
  obtain ⟨w4, v4, q4⟩ := hp 4 29 14 1 rfl
  obtain ⟨y4, g4, b4, r4⟩ := Jw m _ _ q4
  obtain ⟨w5, v5, q5⟩ := hp 5 38 15 1 rfl
  obtain ⟨y5, g5, b5, r5⟩ := RY m _ _ q5
  obtain ⟨w6, v6, q6⟩ := hp 6 3 16 1 rfl
  obtain ⟨y6, g6, b6, r6⟩ := rL m _ _ q6
  exact ⟨⟨y0, y1, y2, y3, y4, y5, y6⟩, ⟨g0, g1, g2, g3, g4, g5, g6⟩, wi [(List.length y0 + 1), 1, pd y2, (cW pD y3 + 1), (cW pD y4 + 1), (cW dc y5 + 1), 1] hd hxl rfl ⟨⟨w0, v0, b0⟩, ⟨w1, v1, b1⟩, ⟨w2, v2, b2⟩, ⟨w3, v3, b3⟩, ⟨w4, v4, b4⟩, ⟨w5, v5, b5⟩, ⟨w6, v6, b6⟩, trivial⟩, yq (cM (off := 0) r0 rfl (cM (off := 1) r1 rfl (cM (off := 2) r2 rfl (cM (off := 13) r3 rfl (cM (off := 14) r4 rfl (cM (off := 15) (vsR cb r5) rfl (cM (off := 16) r6 rfl (ot hl))))))))⟩
theorem RL {H : Type} {K : Bk H} {enc : TypeId × Value → H} {w : World} (fuel : Nat) : qU K enc Tryz.prog w fuel 30 (eL 17 ai) (fun x => jD (fun y => qk y) x) (fun l => cW dC l + 1) := jQ (E := 40) (by kernel_rfl) (by kernel_rfl) rfl (fun _ => rfl) (fun n _ => Sv n)
def rM (x : ae) : Prop := sv x.ax ∧ jD (fun y => sv y) x.ap ∧ sv x.di ∧ jD (fun y => ju y) x.ey ∧ jD (fun y => vV y) x.cm ∧ jD (fun y => qk y) x.ah ∧ sD x.fAt
def de (x : ae) : Nat := (List.length x.ax + 1) + ((cW (fun s => List.length s + 1) x.ap + 1) + ((List.length x.di + 1) + ((cW iR x.ey + 1) + ((cW pD x.cm + 1) + ((cW dC x.ah + 1) + (1 + (0))))))) + 1
theorem RZ {H : Type} {K : Bk H} {enc : TypeId × Value → H} {w : World} (fuel : Nat) : qU K enc Tryz.prog w fuel 32 aa rM de := by
  intro cs x hx
  obtain ⟨m, xs, hm, hl, hd, hxl, hp⟩ := nJ (l := [(9, 0, 1), (27, 1, 1), (9, 2, 1), (28, 3, 1), (29, 4, 1), (30, 5, 1), (3, 6, 1)]) (n := 7) (by kernel_rfl) hx
  obtain ⟨w0, v0, q0⟩ := hp 0 9 0 1 rfl
  obtain ⟨y0, g0, b0, r0⟩ := qY m _ _ q0
  obtain ⟨w1, v1, q1⟩ := hp 1 27 1 1 rfl
  obtain ⟨y1, g1, b1, r1⟩ := Rp m _ _ q1
  obtain ⟨w2, v2, q2⟩ := hp 2 9 2 1 rfl
  obtain ⟨y2, g2, b2, r2⟩ := qY m _ _ q2
  obtain ⟨w3, v3, q3⟩ := hp 3 28 3 1 rfl
  obtain ⟨y3, g3, b3, r3⟩ := Sc m _ _ q3
  obtain ⟨w4, v4, q4⟩ := hp 4 29 4 1 rfl
  obtain ⟨y4, g4, b4, r4⟩ := Jw m _ _ q4
  obtain ⟨w5, v5, q5⟩ := hp 5 30 5 1 rfl
  obtain ⟨y5, g5, b5, r5⟩ := RL m _ _ q5
  obtain ⟨w6, v6, q6⟩ := hp 6 3 6 1 rfl
  obtain ⟨y6, g6, b6, r6⟩ := rL m _ _ q6
  exact ⟨⟨y0, y1, y2, y3, y4, y5, y6⟩, ⟨g0, g1, g2, g3, g4, g5, g6⟩, wi [(List.length y0 + 1), (cW (fun s => List.length s + 1) y1 + 1), (List.length y2 + 1), (cW iR y3 + 1), (cW pD y4 + 1), (cW dC y5 + 1), 1] hd hxl rfl ⟨⟨w0, v0, b0⟩, ⟨w1, v1, b1⟩, ⟨w2, v2, b2⟩, ⟨w3, v3, b3⟩, ⟨w4, v4, b4⟩, ⟨w5, v5, b5⟩, ⟨w6, v6, b6⟩, trivial⟩, yq (cM (off := 0) r0 rfl (cM (off := 1) r1 rfl (cM (off := 2) r2 rfl (cM (off := 3) r3 rfl (cM (off := 4) r4 rfl (cM (off := 5) r5 rfl (cM (off := 6) r6 rfl (ot hl))))))))⟩
theorem Sb {H : Type} {K : Bk H} {enc : TypeId × Value → H} {w : World} (fuel : Nat) : qU K enc Tryz.prog w fuel 22 (eL 7 aa) (fun x => jD (fun y => rM y) x) (fun l => cW de l + 1) := jQ (E := 32) (by kernel_rfl) (by kernel_rfl) rfl (fun _ => rfl) (fun n _ => RZ n)
end Go.Proofs.YtiefoagopfeibaaGreat
