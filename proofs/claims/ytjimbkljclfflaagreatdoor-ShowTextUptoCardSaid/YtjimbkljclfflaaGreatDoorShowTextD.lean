/- A part of the proof that the law ShowText gives true for every input. -/
import Derived.Test.YtjimbkljclfflaaGreatDoorShowTextA5
import Derived.Test.YtjimbkljclfflaaGreatDoorShowTextT
import Derived.Test.YtjimbkljclfflaaGreatDoorProg
namespace Go.Proofs.YtjimbkljclfflaaGreatDoor
open Go.ChangeShapes Go.WideShapes Go.ChangeAt Go.RowKit Go.Abs
theorem Rn : ownKnob Tryz.prog.godebug=none:=by kernel_rfl
theorem J8 : laidOutB Tryz.prog=true:=by kernel_rfl
theorem uk {H:Type} {K:Bk H} {enc:TypeId×Value→H} {w:World} (fuel:Nat):rj K enc Tryz.prog w fuel 9 eS (fun x=>uq x) (fun s=>List.length s+1):=Sx (by kernel_rfl)
theorem Um {H:Type} {K:Bk H} {enc:TypeId×Value→H} {w:World} (fuel:Nat):rj K enc Tryz.prog w fuel 34 (eL 1 eS) (fun x=>jx (fun y=>uq y) x) (fun l=>cw (fun s=>List.length s+1) l+1):=kj (E:=9) (by kernel_rfl) (by kernel_rfl) rfl (fun _=>rfl) (fun n _=>uk n)
theorem sy {H:Type} {K:Bk H} {enc:TypeId×Value→H} {w:World} (fuel:Nat):rj K enc Tryz.prog w fuel 3 eI (fun x=>tz x) (fun _=>1):=QW (by kernel_rfl)
def jf (x:be):Prop:=tz x.aa∧tz x.fN
def jJ (x:be):Nat:=1+(1+(0))+1
theorem N4 {H:Type} {K:Bk H} {enc:TypeId×Value→H} {w:World} (fuel:Nat):rj K enc Tryz.prog w fuel 42 ax jf jJ:=by
  intro cs x hx
  obtain⟨m,xs,hm,hl,hd,hxl,hp⟩:=oX (l:=[(3,0,1),(3,1,1)]) (n:=2) (by kernel_rfl) hx
  obtain⟨w0,v0,q0⟩:=hp 0 3 0 1 rfl
  obtain⟨y0,g0,b0,r0⟩:=sy m _ _ q0
  obtain⟨w1,v1,q1⟩:=hp 1 3 1 1 rfl
  obtain⟨y1,g1,b1,r1⟩:=sy m _ _ q1
  exact⟨⟨y0,y1⟩,⟨g0,g1⟩,wQ [1,1] hd hxl rfl ⟨⟨w0,v0,b0⟩,⟨w1,v1,b1⟩,trivial⟩,yA (ci (off:=0) r0 rfl (ci (off:=1) r1 rfl (mu hl)))⟩
theorem SI {H:Type} {K:Bk H} {enc:TypeId×Value→H} {w:World} (fuel:Nat):rj K enc Tryz.prog w fuel 35 (eL 2 ax) (fun x=>jx (fun y=>jf y) x) (fun l=>cw jJ l+1):=kj (E:=42) (by kernel_rfl) (by kernel_rfl) rfl (fun _=>rfl) (fun n _=>N4 n)
theorem SG {H:Type} {K:Bk H} {enc:TypeId×Value→H} {w:World} (fuel:Nat):rj K enc Tryz.prog w fuel 43 (eA4 ax) (fun x=>(jf x.a0∧jf x.a1∧jf x.a2∧jf x.a3)) (fun x=>jJ x.a0+(jJ x.a1+(jJ x.a2+(jJ x.a3+0)))+1):=Qf (E:=42) (sz:=2) (by kernel_rfl) (fun _=>rfl) (fun n _=>N4 n)
def xq (x:cj):Prop:=tz x.aa∧uq x.ca∧tz x.fN∧(jf x.aP.a0∧jf x.aP.a1∧jf x.aP.a2∧jf x.aP.a3)
def vt (x:cj):Nat:=1+((List.length x.ca+1)+(1+((jJ x.aP.a0+(jJ x.aP.a1+(jJ x.aP.a2+(jJ x.aP.a3+(0))))+1)+(0))))+1
theorem Je {H:Type} {K:Bk H} {enc:TypeId×Value→H} {w:World} (fuel:Nat):rj K enc Tryz.prog w fuel 45 br xq vt:=by
  intro cs x hx
  obtain⟨m,xs,hm,hl,hd,hxl,hp⟩:=oX (l:=[(3,0,1),(9,1,1),(3,2,1),(43,3,8)]) (n:=11) (by kernel_rfl) hx
  obtain⟨w0,v0,q0⟩:=hp 0 3 0 1 rfl
  obtain⟨y0,g0,b0,r0⟩:=sy m _ _ q0
  obtain⟨w1,v1,q1⟩:=hp 1 9 1 1 rfl
  obtain⟨y1,g1,b1,r1⟩:=uk m _ _ q1
  obtain⟨w2,v2,q2⟩:=hp 2 3 2 1 rfl
  obtain⟨y2,g2,b2,r2⟩:=sy m _ _ q2
  obtain⟨w3,v3,q3⟩:=hp 3 43 3 8 rfl
  obtain⟨y3,g3,b3,r3⟩:=SG m _ _ q3
  exact⟨⟨y0,y1,y2,y3⟩,⟨g0,g1,g2,g3⟩,wQ [1,(List.length y1+1),1,(jJ y3.a0+(jJ y3.a1+(jJ y3.a2+(jJ y3.a3+(0))))+1)] hd hxl rfl ⟨⟨w0,v0,b0⟩,⟨w1,v1,b1⟩,⟨w2,v2,b2⟩,⟨w3,v3,b3⟩,trivial⟩,yA (ci (off:=0) r0 rfl (ci (off:=1) r1 rfl (ci (off:=2) r2 rfl (ci (off:=3) r3 rfl (mu hl)))))⟩
def wO (x:dV):Prop:=uq x.aj∧xq x.bt∧tz x.fAt
def xd (x:dV):Nat:=(List.length x.aj+1)+(vt x.bt+(1+(0)))+1
theorem S0 {H:Type} {K:Bk H} {enc:TypeId×Value→H} {w:World} (fuel:Nat):rj K enc Tryz.prog w fuel 80 bm wO xd:=by
  intro cs x hx
  obtain⟨m,xs,hm,hl,hd,hxl,hp⟩:=oX (l:=[(9,0,1),(45,1,11),(3,12,1)]) (n:=13) (by kernel_rfl) hx
  obtain⟨w0,v0,q0⟩:=hp 0 9 0 1 rfl
  obtain⟨y0,g0,b0,r0⟩:=uk m _ _ q0
  obtain⟨w1,v1,q1⟩:=hp 1 45 1 11 rfl
  obtain⟨y1,g1,b1,r1⟩:=Je m _ _ q1
  obtain⟨w2,v2,q2⟩:=hp 2 3 12 1 rfl
  obtain⟨y2,g2,b2,r2⟩:=sy m _ _ q2
  exact⟨⟨y0,y1,y2⟩,⟨g0,g1,g2⟩,wQ [(List.length y0+1),vt y1,1] hd hxl rfl ⟨⟨w0,v0,b0⟩,⟨w1,v1,b1⟩,⟨w2,v2,b2⟩,trivial⟩,yA (ci (off:=0) r0 rfl (ci (off:=1) r1 rfl (ci (off:=12) r2 rfl (mu hl))))⟩
theorem JI {H:Type} {K:Bk H} {enc:TypeId×Value→H} {w:World} (fuel:Nat):rj K enc Tryz.prog w fuel 36 (eL 13 bm) (fun x=>jx (fun y=>wO y) x) (fun l=>cw xd l+1):=kj (E:=80) (by kernel_rfl) (by kernel_rfl) rfl (fun _=>rfl) (fun n _=>S0 n)
theorem VZ {H:Type} {K:Bk H} {enc:TypeId×Value→H} {w:World} (fuel:Nat):rj K enc Tryz.prog w fuel 4 eB (fun x=>True) (fun _=>1):=P8 (by kernel_rfl)
inductive goodGExpr : au→Prop
  | mk (x:au) (h0:tz x.aa) (h1:tz x.cQ) (h2:uq x.aj) (l3:x.aZ.length≤maxLen) (k3:∀ y∈x.aZ,goodGExpr y):goodGExpr x
mutual
def mF : au→Nat
  | ⟨_,_,z2,z3⟩=>1+(1+((List.length z2+1)+((zv z3+1)+(0))))+1
def zv : List au→Nat
  | []=>0
  | x::l=>mF x+zv l
end
theorem DI : ∀ l:List au,zv l=cw mF l
  | []=>by simp only[zv,cw]
  | x::l=>by simp only[zv,cw,DI l]
theorem Iz (x:au):mF x=1+(1+((List.length x.aj+1)+((cw mF x.aZ+1)+(0))))+1:=by cases x;simp only[mF,DI]
theorem PB {H:Type} {K:Bk H} {enc:TypeId×Value→H} {w:World} (fuel:Nat):rj K enc Tryz.prog w fuel 53 ai goodGExpr mF:=by
  induction fuel using Nat.strongRecOn with
  | _ fuel ih=>
  intro cs x hx
  obtain⟨m,xs,hm,hl,hd,hxl,hp⟩:=oX (l:=[(3,0,1),(3,1,1),(9,2,1),(51,3,1)]) (n:=4) (by kernel_rfl) hx
  obtain⟨w0,v0,q0⟩:=hp 0 3 0 1 rfl
  obtain⟨y0,g0,b0,r0⟩:=sy m _ _ q0
  obtain⟨w1,v1,q1⟩:=hp 1 3 1 1 rfl
  obtain⟨y1,g1,b1,r1⟩:=sy m _ _ q1
  obtain⟨w2,v2,q2⟩:=hp 2 9 2 1 rfl
  obtain⟨y2,g2,b2,r2⟩:=uk m _ _ q2
  obtain⟨w3,v3,q3⟩:=hp 3 51 3 1 rfl
  obtain⟨y3,g3,b3,r3⟩:=(kj (P:=Tryz.prog) (enc:=enc) (w:=w) (fuel:=m) (T:=51) (E:=53) (sz:=4) (e:=ai) (good:=goodGExpr) (u:=mF) (by kernel_rfl) (by kernel_rfl) rfl (fun _=>rfl) (fun k hk=>ih k (by omega))) _ _ q3
  exact⟨⟨y0,y1,y2,y3⟩,.mk _ g0 g1 g2 g3.1 g3.2,by rw[Iz];exact wQ [1,1,(List.length y2+1),(cw mF y3+1)] hd hxl rfl ⟨⟨w0,v0,b0⟩,⟨w1,v1,b1⟩,⟨w2,v2,b2⟩,⟨w3,v3,b3⟩,trivial⟩,yA (ci (off:=0) r0 rfl (ci (off:=1) r1 rfl (ci (off:=2) r2 rfl (ci (off:=3) (vsR aU r3) rfl (mu hl)))))⟩
theorem TU {H:Type} {K:Bk H} {enc:TypeId×Value→H} {w:World} (fuel:Nat):rj K enc Tryz.prog w fuel 51 (eL 4 ai) (fun x=>jx (fun y=>goodGExpr y) x) (fun l=>cw mF l+1):=kj (E:=53) (by kernel_rfl) (by kernel_rfl) rfl (fun _=>rfl) (fun n _=>PB n)
inductive goodGStmt : aI→Prop
  | mk (x:aI) (h0:tz x.aa) (h1:uq x.fX) (h2:uq x.fY) (h3:uq x.aj) (h4:xq x.bt) (h5:goodGExpr x.fE) (h6:jx (fun y=>goodGExpr y) x.ce) (l7:x.aH.length≤maxLen) (k7:∀ y∈x.aH,goodGStmt y) (l8:x.bz.length≤maxLen) (k8:∀ y∈x.bz,goodGStmt y) (h9:tz x.fAt):goodGStmt x
mutual
def lG : aI→Nat
  | ⟨_,z1,z2,z3,z4,z5,z6,z7,z8,_⟩=>1+((List.length z1+1)+((List.length z2+1)+((List.length z3+1)+(vt z4+(mF z5+((cw mF z6+1)+((xB z7+1)+((xB z8+1)+(1+(0))))))))))+1
def xB : List aI→Nat
  | []=>0
  | x::l=>lG x+xB l
end
theorem CQ : ∀ l:List aI,xB l=cw lG l
  | []=>by simp only[xB,cw]
  | x::l=>by simp only[xB,cw,CQ l]
theorem Il (x:aI):lG x=1+((List.length x.fX+1)+((List.length x.fY+1)+((List.length x.aj+1)+(vt x.bt+(mF x.fE+((cw mF x.ce+1)+((cw lG x.aH+1)+((cw lG x.bz+1)+(1+(0))))))))))+1:=by cases x;simp only[lG,CQ]
theorem SS {H:Type} {K:Bk H} {enc:TypeId×Value→H} {w:World} (fuel:Nat):rj K enc Tryz.prog w fuel 55 aE goodGStmt lG:=by
  induction fuel using Nat.strongRecOn with
  | _ fuel ih=>
  intro cs x hx
  obtain⟨m,xs,hm,hl,hd,hxl,hp⟩:=oX (l:=[(3,0,1),(9,1,1),(9,2,1),(9,3,1),(45,4,11),(53,15,4),(51,19,1),(46,20,1),(46,21,1),(3,22,1)]) (n:=23) (by kernel_rfl) hx
  obtain⟨w0,v0,q0⟩:=hp 0 3 0 1 rfl
  obtain⟨y0,g0,b0,r0⟩:=sy m _ _ q0
  obtain⟨w1,v1,q1⟩:=hp 1 9 1 1 rfl
  obtain⟨y1,g1,b1,r1⟩:=uk m _ _ q1
  obtain⟨w2,v2,q2⟩:=hp 2 9 2 1 rfl
  obtain⟨y2,g2,b2,r2⟩:=uk m _ _ q2
  obtain⟨w3,v3,q3⟩:=hp 3 9 3 1 rfl
  obtain⟨y3,g3,b3,r3⟩:=uk m _ _ q3
  obtain⟨w4,v4,q4⟩:=hp 4 45 4 11 rfl
  obtain⟨y4,g4,b4,r4⟩:=Je m _ _ q4
  obtain⟨w5,v5,q5⟩:=hp 5 53 15 4 rfl
  obtain⟨y5,g5,b5,r5⟩:=PB m _ _ q5
  obtain⟨w6,v6,q6⟩:=hp 6 51 19 1 rfl
  obtain⟨y6,g6,b6,r6⟩:=TU m _ _ q6
  obtain⟨w7,v7,q7⟩:=hp 7 46 20 1 rfl
  obtain⟨y7,g7,b7,r7⟩:=(kj (P:=Tryz.prog) (enc:=enc) (w:=w) (fuel:=m) (T:=46) (E:=55) (sz:=23) (e:=aE) (good:=goodGStmt) (u:=lG) (by kernel_rfl) (by kernel_rfl) rfl (fun _=>rfl) (fun k hk=>ih k (by omega))) _ _ q7
  obtain⟨w8,v8,q8⟩:=hp 8 46 21 1 rfl
  obtain⟨y8,g8,b8,r8⟩:=(kj (P:=Tryz.prog) (enc:=enc) (w:=w) (fuel:=m) (T:=46) (E:=55) (sz:=23) (e:=aE) (good:=goodGStmt) (u:=lG) (by kernel_rfl) (by kernel_rfl) rfl (fun _=>rfl) (fun k hk=>ih k (by omega))) _ _ q8
  obtain⟨w9,v9,q9⟩:=hp 9 3 22 1 rfl
  obtain⟨y9,g9,b9,r9⟩:=sy m _ _ q9
  exact⟨⟨y0,y1,y2,y3,y4,y5,y6,y7,y8,y9⟩,.mk _ g0 g1 g2 g3 g4 g5 g6 g7.1 g7.2 g8.1 g8.2 g9,by rw[Il];exact wQ [1,(List.length y1+1),(List.length y2+1),(List.length y3+1),vt y4,mF y5,(cw mF y6+1),(cw lG y7+1),(cw lG y8+1),1] hd hxl rfl ⟨⟨w0,v0,b0⟩,⟨w1,v1,b1⟩,⟨w2,v2,b2⟩,⟨w3,v3,b3⟩,⟨w4,v4,b4⟩,⟨w5,v5,b5⟩,⟨w6,v6,b6⟩,⟨w7,v7,b7⟩,⟨w8,v8,b8⟩,⟨w9,v9,b9⟩,trivial⟩,yA (ci (off:=0) r0 rfl (ci (off:=1) r1 rfl (ci (off:=2) r2 rfl (ci (off:=3) r3 rfl (ci (off:=4) r4 rfl (ci (off:=15) r5 rfl (ci (off:=19) (vsR aU r6) rfl (ci (off:=20) (vsR bq r7) rfl (ci (off:=21) (vsR bq r8) rfl (ci (off:=22) r9 rfl (mu hl)))))))))))⟩
theorem SY {H:Type} {K:Bk H} {enc:TypeId×Value→H} {w:World} (fuel:Nat):rj K enc Tryz.prog w fuel 46 (eL 23 aE) (fun x=>jx (fun y=>goodGStmt y) x) (fun l=>cw lG l+1):=kj (E:=55) (by kernel_rfl) (by kernel_rfl) rfl (fun _=>rfl) (fun n _=>SS n)
def qI (x:bG):Prop:=uq x.aj∧True∧xq x.cg∧jx (fun y=>wO y) x.ab∧jx (fun y=>wO y) x.co∧jx (fun y=>goodGStmt y) x.aH∧tz x.fAt
def lM (x:bG):Nat:=(List.length x.aj+1)+(1+(vt x.cg+((cw xd x.ab+1)+((cw xd x.co+1)+((cw lG x.aH+1)+(1+(0)))))))+1
theorem TA {H:Type} {K:Bk H} {enc:TypeId×Value→H} {w:World} (fuel:Nat):rj K enc Tryz.prog w fuel 48 ay qI lM:=by
  intro cs x hx
  obtain⟨m,xs,hm,hl,hd,hxl,hp⟩:=oX (l:=[(9,0,1),(4,1,1),(45,2,11),(36,13,1),(36,14,1),(46,15,1),(3,16,1)]) (n:=17) (by kernel_rfl) hx
  obtain⟨w0,v0,q0⟩:=hp 0 9 0 1 rfl
  obtain⟨y0,g0,b0,r0⟩:=uk m _ _ q0
  obtain⟨w1,v1,q1⟩:=hp 1 4 1 1 rfl
  obtain⟨y1,g1,b1,r1⟩:=VZ m _ _ q1
  obtain⟨w2,v2,q2⟩:=hp 2 45 2 11 rfl
  obtain⟨y2,g2,b2,r2⟩:=Je m _ _ q2
  obtain⟨w3,v3,q3⟩:=hp 3 36 13 1 rfl
  obtain⟨y3,g3,b3,r3⟩:=JI m _ _ q3
  obtain⟨w4,v4,q4⟩:=hp 4 36 14 1 rfl
  obtain⟨y4,g4,b4,r4⟩:=JI m _ _ q4
  obtain⟨w5,v5,q5⟩:=hp 5 46 15 1 rfl
  obtain⟨y5,g5,b5,r5⟩:=SY m _ _ q5
  obtain⟨w6,v6,q6⟩:=hp 6 3 16 1 rfl
  obtain⟨y6,g6,b6,r6⟩:=sy m _ _ q6
  exact⟨⟨y0,y1,y2,y3,y4,y5,y6⟩,⟨g0,g1,g2,g3,g4,g5,g6⟩,wQ [(List.length y0+1),1,vt y2,(cw xd y3+1),(cw xd y4+1),(cw lG y5+1),1] hd hxl rfl ⟨⟨w0,v0,b0⟩,⟨w1,v1,b1⟩,⟨w2,v2,b2⟩,⟨w3,v3,b3⟩,⟨w4,v4,b4⟩,⟨w5,v5,b5⟩,⟨w6,v6,b6⟩,trivial⟩,yA (ci (off:=0) r0 rfl (ci (off:=1) r1 rfl (ci (off:=2) r2 rfl (ci (off:=13) r3 rfl (ci (off:=14) r4 rfl (ci (off:=15) (vsR bq r5) rfl (ci (off:=16) r6 rfl (mu hl))))))))⟩
theorem Uh {H:Type} {K:Bk H} {enc:TypeId×Value→H} {w:World} (fuel:Nat):rj K enc Tryz.prog w fuel 37 (eL 17 ay) (fun x=>jx (fun y=>qI y) x) (fun l=>cw lM l+1):=kj (E:=48) (by kernel_rfl) (by kernel_rfl) rfl (fun _=>rfl) (fun n _=>TA n)
def sF (x:aJ):Prop:=uq x.aj∧jx (fun y=>uq y) x.ab∧uq x.cO∧jx (fun y=>jf y) x.bV∧jx (fun y=>wO y) x.bw∧jx (fun y=>qI y) x.af∧tz x.fAt
def lk (x:aJ):Nat:=(List.length x.aj+1)+((cw (fun s=>List.length s+1) x.ab+1)+((List.length x.cO+1)+((cw jJ x.bV+1)+((cw xd x.bw+1)+((cw lM x.af+1)+(1+(0)))))))+1
theorem TB {H:Type} {K:Bk H} {enc:TypeId×Value→H} {w:World} (fuel:Nat):rj K enc Tryz.prog w fuel 39 ah sF lk:=by
  intro cs x hx
  obtain⟨m,xs,hm,hl,hd,hxl,hp⟩:=oX (l:=[(9,0,1),(34,1,1),(9,2,1),(35,3,1),(36,4,1),(37,5,1),(3,6,1)]) (n:=7) (by kernel_rfl) hx
  obtain⟨w0,v0,q0⟩:=hp 0 9 0 1 rfl
  obtain⟨y0,g0,b0,r0⟩:=uk m _ _ q0
  obtain⟨w1,v1,q1⟩:=hp 1 34 1 1 rfl
  obtain⟨y1,g1,b1,r1⟩:=Um m _ _ q1
  obtain⟨w2,v2,q2⟩:=hp 2 9 2 1 rfl
  obtain⟨y2,g2,b2,r2⟩:=uk m _ _ q2
  obtain⟨w3,v3,q3⟩:=hp 3 35 3 1 rfl
  obtain⟨y3,g3,b3,r3⟩:=SI m _ _ q3
  obtain⟨w4,v4,q4⟩:=hp 4 36 4 1 rfl
  obtain⟨y4,g4,b4,r4⟩:=JI m _ _ q4
  obtain⟨w5,v5,q5⟩:=hp 5 37 5 1 rfl
  obtain⟨y5,g5,b5,r5⟩:=Uh m _ _ q5
  obtain⟨w6,v6,q6⟩:=hp 6 3 6 1 rfl
  obtain⟨y6,g6,b6,r6⟩:=sy m _ _ q6
  exact⟨⟨y0,y1,y2,y3,y4,y5,y6⟩,⟨g0,g1,g2,g3,g4,g5,g6⟩,wQ [(List.length y0+1),(cw (fun s=>List.length s+1) y1+1),(List.length y2+1),(cw jJ y3+1),(cw xd y4+1),(cw lM y5+1),1] hd hxl rfl ⟨⟨w0,v0,b0⟩,⟨w1,v1,b1⟩,⟨w2,v2,b2⟩,⟨w3,v3,b3⟩,⟨w4,v4,b4⟩,⟨w5,v5,b5⟩,⟨w6,v6,b6⟩,trivial⟩,yA (ci (off:=0) r0 rfl (ci (off:=1) r1 rfl (ci (off:=2) r2 rfl (ci (off:=3) r3 rfl (ci (off:=4) r4 rfl (ci (off:=5) r5 rfl (ci (off:=6) r6 rfl (mu hl))))))))⟩
theorem Tc {H:Type} {K:Bk H} {enc:TypeId×Value→H} {w:World} (fuel:Nat):rj K enc Tryz.prog w fuel 22 (eL 7 ah) (fun x=>jx (fun y=>sF y) x) (fun l=>cw lk l+1):=kj (E:=39) (by kernel_rfl) (by kernel_rfl) rfl (fun _=>rfl) (fun n _=>TB n)
end Go.Proofs.YtjimbkljclfflaaGreatDoor
