/- A part of the proof that the law ShowText gives true for every input. -/
import Derived.Test.YtjimbkljclfflaaGreatDoorShowTextA5
import Derived.Test.YtjimbkljclfflaaGreatDoorShowTextT
import Derived.Test.YtjimbkljclfflaaGreatDoorProg
namespace Go.Proofs.YtjimbkljclfflaaGreatDoor
open Go.ChangeShapes Go.WideShapes Go.ChangeAt Go.RowKit Go.Abs
theorem RQ : ownKnob Tryz.prog.godebug=none:=by kernel_rfl
theorem JF : laidOutB Tryz.prog=true:=by kernel_rfl
theorem tU {H:Type} {K:Bk H} {enc:TypeId×Value→H} {w:World} (fuel:Nat):qN K enc Tryz.prog w fuel 9 eS (fun x=>uC x) (fun s=>List.length s+1):=SB (by kernel_rfl)
theorem Uu {H:Type} {K:Bk H} {enc:TypeId×Value→H} {w:World} (fuel:Nat):qN K enc Tryz.prog w fuel 34 (eL 1 eS) (fun x=>jy (fun y=>uC y) x) (fun l=>cw (fun s=>List.length s+1) l+1):=kn (E:=9) (by kernel_rfl) (by kernel_rfl) rfl (fun _=>rfl) (fun n _=>tU n)
theorem sv {H:Type} {K:Bk H} {enc:TypeId×Value→H} {w:World} (fuel:Nat):qN K enc Tryz.prog w fuel 3 eI (fun x=>tz x) (fun _=>1):=Qx (by kernel_rfl)
def jj (x:be):Prop:=tz x.aa∧tz x.fN
def jP (x:be):Nat:=1+(1+(0))+1
theorem Px {H:Type} {K:Bk H} {enc:TypeId×Value→H} {w:World} (fuel:Nat):qN K enc Tryz.prog w fuel 42 ax jj jP:=by
  intro cs x hx
  obtain⟨m,xs,hm,hl,hd,hxl,hp⟩:=pa (l:=[(3,0,1),(3,1,1)]) (n:=2) (by kernel_rfl) hx
  obtain⟨w0,v0,q0⟩:=hp 0 3 0 1 rfl
  obtain⟨y0,g0,b0,r0⟩:=sv m _ _ q0
  obtain⟨w1,v1,q1⟩:=hp 1 3 1 1 rfl
  obtain⟨y1,g1,b1,r1⟩:=sv m _ _ q1
  exact⟨⟨y0,y1⟩,⟨g0,g1⟩,ww [1,1] hd hxl rfl ⟨⟨w0,v0,b0⟩,⟨w1,v1,b1⟩,trivial⟩,yU (ci (off:=0) r0 rfl (ci (off:=1) r1 rfl (mg hl)))⟩
theorem SK {H:Type} {K:Bk H} {enc:TypeId×Value→H} {w:World} (fuel:Nat):qN K enc Tryz.prog w fuel 35 (eL 2 ax) (fun x=>jy (fun y=>jj y) x) (fun l=>cw jP l+1):=kn (E:=42) (by kernel_rfl) (by kernel_rfl) rfl (fun _=>rfl) (fun n _=>Px n)
theorem TQ {H:Type} {K:Bk H} {enc:TypeId×Value→H} {w:World} (fuel:Nat):qN K enc Tryz.prog w fuel 43 (eA4 ax) (fun x=>(jj x.a0∧jj x.a1∧jj x.a2∧jj x.a3)) (fun x=>jP x.a0+(jP x.a1+(jP x.a2+(jP x.a3+0)))+1):=PQ (E:=42) (sz:=2) (by kernel_rfl) (fun _=>rfl) (fun n _=>Px n)
def xw (x:cj):Prop:=tz x.aa∧uC x.ca∧tz x.fN∧(jj x.aP.a0∧jj x.aP.a1∧jj x.aP.a2∧jj x.aP.a3)
def uU (x:cj):Nat:=1+((List.length x.ca+1)+(1+((jP x.aP.a0+(jP x.aP.a1+(jP x.aP.a2+(jP x.aP.a3+(0))))+1)+(0))))+1
theorem JJ {H:Type} {K:Bk H} {enc:TypeId×Value→H} {w:World} (fuel:Nat):qN K enc Tryz.prog w fuel 45 br xw uU:=by
  intro cs x hx
  obtain⟨m,xs,hm,hl,hd,hxl,hp⟩:=pa (l:=[(3,0,1),(9,1,1),(3,2,1),(43,3,8)]) (n:=11) (by kernel_rfl) hx
  obtain⟨w0,v0,q0⟩:=hp 0 3 0 1 rfl
  obtain⟨y0,g0,b0,r0⟩:=sv m _ _ q0
  obtain⟨w1,v1,q1⟩:=hp 1 9 1 1 rfl
  obtain⟨y1,g1,b1,r1⟩:=tU m _ _ q1
  obtain⟨w2,v2,q2⟩:=hp 2 3 2 1 rfl
  obtain⟨y2,g2,b2,r2⟩:=sv m _ _ q2
  obtain⟨w3,v3,q3⟩:=hp 3 43 3 8 rfl
  obtain⟨y3,g3,b3,r3⟩:=TQ m _ _ q3
  exact⟨⟨y0,y1,y2,y3⟩,⟨g0,g1,g2,g3⟩,ww [1,(List.length y1+1),1,(jP y3.a0+(jP y3.a1+(jP y3.a2+(jP y3.a3+(0))))+1)] hd hxl rfl ⟨⟨w0,v0,b0⟩,⟨w1,v1,b1⟩,⟨w2,v2,b2⟩,⟨w3,v3,b3⟩,trivial⟩,yU (ci (off:=0) r0 rfl (ci (off:=1) r1 rfl (ci (off:=2) r2 rfl (ci (off:=3) r3 rfl (mg hl)))))⟩
def wY (x:dV):Prop:=uC x.aj∧xw x.bt∧tz x.fAt
def xh (x:dV):Nat:=(List.length x.aj+1)+(uU x.bt+(1+(0)))+1
theorem SJ {H:Type} {K:Bk H} {enc:TypeId×Value→H} {w:World} (fuel:Nat):qN K enc Tryz.prog w fuel 80 bm wY xh:=by
  intro cs x hx
  obtain⟨m,xs,hm,hl,hd,hxl,hp⟩:=pa (l:=[(9,0,1),(45,1,11),(3,12,1)]) (n:=13) (by kernel_rfl) hx
  obtain⟨w0,v0,q0⟩:=hp 0 9 0 1 rfl
  obtain⟨y0,g0,b0,r0⟩:=tU m _ _ q0
  obtain⟨w1,v1,q1⟩:=hp 1 45 1 11 rfl
  obtain⟨y1,g1,b1,r1⟩:=JJ m _ _ q1
  obtain⟨w2,v2,q2⟩:=hp 2 3 12 1 rfl
  obtain⟨y2,g2,b2,r2⟩:=sv m _ _ q2
  exact⟨⟨y0,y1,y2⟩,⟨g0,g1,g2⟩,ww [(List.length y0+1),uU y1,1] hd hxl rfl ⟨⟨w0,v0,b0⟩,⟨w1,v1,b1⟩,⟨w2,v2,b2⟩,trivial⟩,yU (ci (off:=0) r0 rfl (ci (off:=1) r1 rfl (ci (off:=12) r2 rfl (mg hl))))⟩
theorem IL {H:Type} {K:Bk H} {enc:TypeId×Value→H} {w:World} (fuel:Nat):qN K enc Tryz.prog w fuel 36 (eL 13 bm) (fun x=>jy (fun y=>wY y) x) (fun l=>cw xh l+1):=kn (E:=80) (by kernel_rfl) (by kernel_rfl) rfl (fun _=>rfl) (fun n _=>SJ n)
theorem VC {H:Type} {K:Bk H} {enc:TypeId×Value→H} {w:World} (fuel:Nat):qN K enc Tryz.prog w fuel 4 eB (fun x=>True) (fun _=>1):=P7 (by kernel_rfl)
inductive goodGExpr : au→Prop
  | mk (x:au) (h0:tz x.aa) (h1:tz x.cQ) (h2:uC x.aj) (l3:x.aZ.length≤maxLen) (k3:∀ y∈x.aZ,goodGExpr y):goodGExpr x
mutual
def mC : au→Nat
  | ⟨_,_,z2,z3⟩=>1+(1+((List.length z2+1)+((zo z3+1)+(0))))+1
def zo : List au→Nat
  | []=>0
  | x::l=>mC x+zo l
end
theorem DQ : ∀ l:List au,zo l=cw mC l
  | []=>by simp only[zo,cw]
  | x::l=>by simp only[zo,cw,DQ l]
theorem GK (x:au):mC x=1+(1+((List.length x.aj+1)+((cw mC x.aZ+1)+(0))))+1:=by cases x;simp only[mC,DQ]
theorem OI {H:Type} {K:Bk H} {enc:TypeId×Value→H} {w:World} (fuel:Nat):qN K enc Tryz.prog w fuel 53 ai goodGExpr mC:=by
  induction fuel using Nat.strongRecOn with
  | _ fuel ih=>
  intro cs x hx
  obtain⟨m,xs,hm,hl,hd,hxl,hp⟩:=pa (l:=[(3,0,1),(3,1,1),(9,2,1),(51,3,1)]) (n:=4) (by kernel_rfl) hx
  obtain⟨w0,v0,q0⟩:=hp 0 3 0 1 rfl
  obtain⟨y0,g0,b0,r0⟩:=sv m _ _ q0
  obtain⟨w1,v1,q1⟩:=hp 1 3 1 1 rfl
  obtain⟨y1,g1,b1,r1⟩:=sv m _ _ q1
  obtain⟨w2,v2,q2⟩:=hp 2 9 2 1 rfl
  obtain⟨y2,g2,b2,r2⟩:=tU m _ _ q2
  obtain⟨w3,v3,q3⟩:=hp 3 51 3 1 rfl
  obtain⟨y3,g3,b3,r3⟩:=(kn (P:=Tryz.prog) (enc:=enc) (w:=w) (fuel:=m) (T:=51) (E:=53) (sz:=4) (e:=ai) (good:=goodGExpr) (u:=mC) (by kernel_rfl) (by kernel_rfl) rfl (fun _=>rfl) (fun k hk=>ih k (by omega))) _ _ q3
  exact⟨⟨y0,y1,y2,y3⟩,.mk _ g0 g1 g2 g3.1 g3.2,by rw[GK];exact ww [1,1,(List.length y2+1),(cw mC y3+1)] hd hxl rfl ⟨⟨w0,v0,b0⟩,⟨w1,v1,b1⟩,⟨w2,v2,b2⟩,⟨w3,v3,b3⟩,trivial⟩,yU (ci (off:=0) r0 rfl (ci (off:=1) r1 rfl (ci (off:=2) r2 rfl (ci (off:=3) (vsR aU r3) rfl (mg hl)))))⟩
theorem Uq {H:Type} {K:Bk H} {enc:TypeId×Value→H} {w:World} (fuel:Nat):qN K enc Tryz.prog w fuel 51 (eL 4 ai) (fun x=>jy (fun y=>goodGExpr y) x) (fun l=>cw mC l+1):=kn (E:=53) (by kernel_rfl) (by kernel_rfl) rfl (fun _=>rfl) (fun n _=>OI n)
inductive goodGStmt : aI→Prop
  | mk (x:aI) (h0:tz x.aa) (h1:uC x.fX) (h2:uC x.fY) (h3:uC x.aj) (h4:xw x.bt) (h5:goodGExpr x.fE) (h6:jy (fun y=>goodGExpr y) x.ce) (l7:x.aH.length≤maxLen) (k7:∀ y∈x.aH,goodGStmt y) (l8:x.bC.length≤maxLen) (k8:∀ y∈x.bC,goodGStmt y) (h9:tz x.fAt):goodGStmt x
mutual
def lk : aI→Nat
  | ⟨_,z1,z2,z3,z4,z5,z6,z7,z8,_⟩=>1+((List.length z1+1)+((List.length z2+1)+((List.length z3+1)+(uU z4+(mC z5+((cw mC z6+1)+((xB z7+1)+((xB z8+1)+(1+(0))))))))))+1
def xB : List aI→Nat
  | []=>0
  | x::l=>lk x+xB l
end
theorem Dd : ∀ l:List aI,xB l=cw lk l
  | []=>by simp only[xB,cw]
  | x::l=>by simp only[xB,cw,Dd l]
theorem GH (x:aI):lk x=1+((List.length x.fX+1)+((List.length x.fY+1)+((List.length x.aj+1)+(uU x.bt+(mC x.fE+((cw mC x.ce+1)+((cw lk x.aH+1)+((cw lk x.bC+1)+(1+(0))))))))))+1:=by cases x;simp only[lk,Dd]
theorem Un {H:Type} {K:Bk H} {enc:TypeId×Value→H} {w:World} (fuel:Nat):qN K enc Tryz.prog w fuel 55 aE goodGStmt lk:=by
  induction fuel using Nat.strongRecOn with
  | _ fuel ih=>
  intro cs x hx
  obtain⟨m,xs,hm,hl,hd,hxl,hp⟩:=pa (l:=[(3,0,1),(9,1,1),(9,2,1),(9,3,1),(45,4,11),(53,15,4),(51,19,1),(46,20,1),(46,21,1),(3,22,1)]) (n:=23) (by kernel_rfl) hx
  obtain⟨w0,v0,q0⟩:=hp 0 3 0 1 rfl
  obtain⟨y0,g0,b0,r0⟩:=sv m _ _ q0
  obtain⟨w1,v1,q1⟩:=hp 1 9 1 1 rfl
  obtain⟨y1,g1,b1,r1⟩:=tU m _ _ q1
  obtain⟨w2,v2,q2⟩:=hp 2 9 2 1 rfl
  obtain⟨y2,g2,b2,r2⟩:=tU m _ _ q2
  obtain⟨w3,v3,q3⟩:=hp 3 9 3 1 rfl
  obtain⟨y3,g3,b3,r3⟩:=tU m _ _ q3
  obtain⟨w4,v4,q4⟩:=hp 4 45 4 11 rfl
  obtain⟨y4,g4,b4,r4⟩:=JJ m _ _ q4
  obtain⟨w5,v5,q5⟩:=hp 5 53 15 4 rfl
  obtain⟨y5,g5,b5,r5⟩:=OI m _ _ q5
  obtain⟨w6,v6,q6⟩:=hp 6 51 19 1 rfl
  obtain⟨y6,g6,b6,r6⟩:=Uq m _ _ q6
  obtain⟨w7,v7,q7⟩:=hp 7 46 20 1 rfl
  obtain⟨y7,g7,b7,r7⟩:=(kn (P:=Tryz.prog) (enc:=enc) (w:=w) (fuel:=m) (T:=46) (E:=55) (sz:=23) (e:=aE) (good:=goodGStmt) (u:=lk) (by kernel_rfl) (by kernel_rfl) rfl (fun _=>rfl) (fun k hk=>ih k (by omega))) _ _ q7
  obtain⟨w8,v8,q8⟩:=hp 8 46 21 1 rfl
  obtain⟨y8,g8,b8,r8⟩:=(kn (P:=Tryz.prog) (enc:=enc) (w:=w) (fuel:=m) (T:=46) (E:=55) (sz:=23) (e:=aE) (good:=goodGStmt) (u:=lk) (by kernel_rfl) (by kernel_rfl) rfl (fun _=>rfl) (fun k hk=>ih k (by omega))) _ _ q8
  obtain⟨w9,v9,q9⟩:=hp 9 3 22 1 rfl
  obtain⟨y9,g9,b9,r9⟩:=sv m _ _ q9
  exact⟨⟨y0,y1,y2,y3,y4,y5,y6,y7,y8,y9⟩,.mk _ g0 g1 g2 g3 g4 g5 g6 g7.1 g7.2 g8.1 g8.2 g9,by rw[GH];exact ww [1,(List.length y1+1),(List.length y2+1),(List.length y3+1),uU y4,mC y5,(cw mC y6+1),(cw lk y7+1),(cw lk y8+1),1] hd hxl rfl ⟨⟨w0,v0,b0⟩,⟨w1,v1,b1⟩,⟨w2,v2,b2⟩,⟨w3,v3,b3⟩,⟨w4,v4,b4⟩,⟨w5,v5,b5⟩,⟨w6,v6,b6⟩,⟨w7,v7,b7⟩,⟨w8,v8,b8⟩,⟨w9,v9,b9⟩,trivial⟩,yU (ci (off:=0) r0 rfl (ci (off:=1) r1 rfl (ci (off:=2) r2 rfl (ci (off:=3) r3 rfl (ci (off:=4) r4 rfl (ci (off:=15) r5 rfl (ci (off:=19) (vsR aU r6) rfl (ci (off:=20) (vsR bn r7) rfl (ci (off:=21) (vsR bn r8) rfl (ci (off:=22) r9 rfl (mg hl)))))))))))⟩
theorem TL {H:Type} {K:Bk H} {enc:TypeId×Value→H} {w:World} (fuel:Nat):qN K enc Tryz.prog w fuel 46 (eL 23 aE) (fun x=>jy (fun y=>goodGStmt y) x) (fun l=>cw lk l+1):=kn (E:=55) (by kernel_rfl) (by kernel_rfl) rfl (fun _=>rfl) (fun n _=>Un n)
def qU (x:bG):Prop:=uC x.aj∧True∧xw x.cf∧jy (fun y=>wY y) x.ab∧jy (fun y=>wY y) x.co∧jy (fun y=>goodGStmt y) x.aH∧tz x.fAt
def lK (x:bG):Nat:=(List.length x.aj+1)+(1+(uU x.cf+((cw xh x.ab+1)+((cw xh x.co+1)+((cw lk x.aH+1)+(1+(0)))))))+1
theorem Tq {H:Type} {K:Bk H} {enc:TypeId×Value→H} {w:World} (fuel:Nat):qN K enc Tryz.prog w fuel 48 ay qU lK:=by
  intro cs x hx
  obtain⟨m,xs,hm,hl,hd,hxl,hp⟩:=pa (l:=[(9,0,1),(4,1,1),(45,2,11),(36,13,1),(36,14,1),(46,15,1),(3,16,1)]) (n:=17) (by kernel_rfl) hx
  obtain⟨w0,v0,q0⟩:=hp 0 9 0 1 rfl
  obtain⟨y0,g0,b0,r0⟩:=tU m _ _ q0
  obtain⟨w1,v1,q1⟩:=hp 1 4 1 1 rfl
  obtain⟨y1,g1,b1,r1⟩:=VC m _ _ q1
  obtain⟨w2,v2,q2⟩:=hp 2 45 2 11 rfl
  obtain⟨y2,g2,b2,r2⟩:=JJ m _ _ q2
  obtain⟨w3,v3,q3⟩:=hp 3 36 13 1 rfl
  obtain⟨y3,g3,b3,r3⟩:=IL m _ _ q3
  obtain⟨w4,v4,q4⟩:=hp 4 36 14 1 rfl
  obtain⟨y4,g4,b4,r4⟩:=IL m _ _ q4
  obtain⟨w5,v5,q5⟩:=hp 5 46 15 1 rfl
  obtain⟨y5,g5,b5,r5⟩:=TL m _ _ q5
  obtain⟨w6,v6,q6⟩:=hp 6 3 16 1 rfl
  obtain⟨y6,g6,b6,r6⟩:=sv m _ _ q6
  exact⟨⟨y0,y1,y2,y3,y4,y5,y6⟩,⟨g0,g1,g2,g3,g4,g5,g6⟩,ww [(List.length y0+1),1,uU y2,(cw xh y3+1),(cw xh y4+1),(cw lk y5+1),1] hd hxl rfl ⟨⟨w0,v0,b0⟩,⟨w1,v1,b1⟩,⟨w2,v2,b2⟩,⟨w3,v3,b3⟩,⟨w4,v4,b4⟩,⟨w5,v5,b5⟩,⟨w6,v6,b6⟩,trivial⟩,yU (ci (off:=0) r0 rfl (ci (off:=1) r1 rfl (ci (off:=2) r2 rfl (ci (off:=13) r3 rfl (ci (off:=14) r4 rfl (ci (off:=15) (vsR bn r5) rfl (ci (off:=16) r6 rfl (mg hl))))))))⟩
theorem Ul {H:Type} {K:Bk H} {enc:TypeId×Value→H} {w:World} (fuel:Nat):qN K enc Tryz.prog w fuel 37 (eL 17 ay) (fun x=>jy (fun y=>qU y) x) (fun l=>cw lK l+1):=kn (E:=48) (by kernel_rfl) (by kernel_rfl) rfl (fun _=>rfl) (fun n _=>Tq n)
def sV (x:aJ):Prop:=uC x.aj∧jy (fun y=>uC y) x.ab∧uC x.cO∧jy (fun y=>jj y) x.bU∧jy (fun y=>wY y) x.bw∧jy (fun y=>qU y) x.af∧tz x.fAt
def lm (x:aJ):Nat:=(List.length x.aj+1)+((cw (fun s=>List.length s+1) x.ab+1)+((List.length x.cO+1)+((cw jP x.bU+1)+((cw xh x.bw+1)+((cw lK x.af+1)+(1+(0)))))))+1
theorem Tw {H:Type} {K:Bk H} {enc:TypeId×Value→H} {w:World} (fuel:Nat):qN K enc Tryz.prog w fuel 39 ah sV lm:=by
  intro cs x hx
  obtain⟨m,xs,hm,hl,hd,hxl,hp⟩:=pa (l:=[(9,0,1),(34,1,1),(9,2,1),(35,3,1),(36,4,1),(37,5,1),(3,6,1)]) (n:=7) (by kernel_rfl) hx
  obtain⟨w0,v0,q0⟩:=hp 0 9 0 1 rfl
  obtain⟨y0,g0,b0,r0⟩:=tU m _ _ q0
  obtain⟨w1,v1,q1⟩:=hp 1 34 1 1 rfl
  obtain⟨y1,g1,b1,r1⟩:=Uu m _ _ q1
  obtain⟨w2,v2,q2⟩:=hp 2 9 2 1 rfl
  obtain⟨y2,g2,b2,r2⟩:=tU m _ _ q2
  obtain⟨w3,v3,q3⟩:=hp 3 35 3 1 rfl
  obtain⟨y3,g3,b3,r3⟩:=SK m _ _ q3
  obtain⟨w4,v4,q4⟩:=hp 4 36 4 1 rfl
  obtain⟨y4,g4,b4,r4⟩:=IL m _ _ q4
  obtain⟨w5,v5,q5⟩:=hp 5 37 5 1 rfl
  obtain⟨y5,g5,b5,r5⟩:=Ul m _ _ q5
  obtain⟨w6,v6,q6⟩:=hp 6 3 6 1 rfl
  obtain⟨y6,g6,b6,r6⟩:=sv m _ _ q6
  exact⟨⟨y0,y1,y2,y3,y4,y5,y6⟩,⟨g0,g1,g2,g3,g4,g5,g6⟩,ww [(List.length y0+1),(cw (fun s=>List.length s+1) y1+1),(List.length y2+1),(cw jP y3+1),(cw xh y4+1),(cw lK y5+1),1] hd hxl rfl ⟨⟨w0,v0,b0⟩,⟨w1,v1,b1⟩,⟨w2,v2,b2⟩,⟨w3,v3,b3⟩,⟨w4,v4,b4⟩,⟨w5,v5,b5⟩,⟨w6,v6,b6⟩,trivial⟩,yU (ci (off:=0) r0 rfl (ci (off:=1) r1 rfl (ci (off:=2) r2 rfl (ci (off:=3) r3 rfl (ci (off:=4) r4 rfl (ci (off:=5) r5 rfl (ci (off:=6) r6 rfl (mg hl))))))))⟩
theorem TN {H:Type} {K:Bk H} {enc:TypeId×Value→H} {w:World} (fuel:Nat):qN K enc Tryz.prog w fuel 22 (eL 7 ah) (fun x=>jy (fun y=>sV y) x) (fun l=>cw lm l+1):=kn (E:=39) (by kernel_rfl) (by kernel_rfl) rfl (fun _=>rfl) (fun n _=>Tw n)
end Go.Proofs.YtjimbkljclfflaaGreatDoor
