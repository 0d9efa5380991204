/- A part of the proof that the law ShowBack gives true for every input. -/
import Derived.Test.YtjimbkljclfflaaGreatDoorShowBackA5
import Derived.Test.YtjimbkljclfflaaGreatDoorShowBackT
import Derived.Test.YtjimbkljclfflaaGreatDoorProg
namespace Go.Proofs.YtjimbkljclfflaaGreatDoor
open List
open Go.ChangeShapes Go.WideShapes Go.ChangeAt Go.RowKit Go.Abs
theorem ZK : ownKnob Tryz.prog.godebug=none:=by kernel_rfl
theorem NZ : laidOutB Tryz.prog=true:=by kernel_rfl
theorem vR {H:Type} {K:Bk H} {enc:TypeId×Value->H} {w:World} (fuel:Nat):tc K enc Tryz.prog w fuel 9 eS (fun x=>wu x) (fun s=>length s+1):=XU (by kernel_rfl)
theorem abA {H:Type} {K:Bk H} {enc:TypeId×Value->H} {w:World} (fuel:Nat):tc K enc Tryz.prog w fuel 34 (eL 1 eS) (fun x=>kj (fun y=>wu y) x) (fun l=>cg (fun s=>length s+1) l+1):=lC (E:=9) (by kernel_rfl) (by kernel_rfl) rfl (fun _=>rfl) (fun n _=>vR n)
theorem vt {H:Type} {K:Bk H} {enc:TypeId×Value->H} {w:World} (fuel:Nat):tc K enc Tryz.prog w fuel 3 eI (fun x=>vD x) (fun _=>1):=aam (by kernel_rfl)
def ke (x:ay):Prop:=vD x.aa/\vD x.fN
def kV (x:ay):Nat:=1+(1+(0))+1
theorem UR {H:Type} {K:Bk H} {enc:TypeId×Value->H} {w:World} (fuel:Nat):tc K enc Tryz.prog w fuel 42 aC ke kV:=by
  intro cs x hx
  obtain⟨m,xs,hm,hl,hd,hxl,hp⟩:=qo (l:=[(3,0,1),(3,1,1)]) (n:=2) (by kernel_rfl) hx
  obtain⟨w0,v0,q0⟩:=hp 0 3 0 1 rfl
  obtain⟨y0,g0,b0,r0⟩:=vt m _ _ q0
  obtain⟨w1,v1,q1⟩:=hp 1 3 1 1 rfl
  obtain⟨y1,g1,b1,r1⟩:=vt m _ _ q1
  exact⟨⟨y0,y1⟩,⟨g0,g1⟩,zg [1,1] hd hxl rfl ⟨⟨w0,v0,b0⟩,⟨w1,v1,b1⟩,trivial⟩,BG (cd (off:=0) r0 rfl (cd (off:=1) r1 rfl (ng hl)))⟩
theorem aay {H:Type} {K:Bk H} {enc:TypeId×Value->H} {w:World} (fuel:Nat):tc K enc Tryz.prog w fuel 35 (eL 2 aC) (fun x=>kj (fun y=>ke y) x) (fun l=>cg kV l+1):=lC (E:=42) (by kernel_rfl) (by kernel_rfl) rfl (fun _=>rfl) (fun n _=>UR n)
theorem abb {H:Type} {K:Bk H} {enc:TypeId×Value->H} {w:World} (fuel:Nat):tc K enc Tryz.prog w fuel 43 (eA4 aC) (fun x=>(ke x.a0/\ke x.a1/\ke x.a2/\ke x.a3)) (fun x=>kV x.a0+(kV x.a1+(kV x.a2+(kV x.a3+0)))+1):=WE (E:=42) (sz:=2) (by kernel_rfl) (fun _=>rfl) (fun n _=>UR n)
def zN (x:bZ):Prop:=vD x.aa/\wu x.bu/\vD x.fN/\(ke x.am.a0/\ke x.am.a1/\ke x.am.a2/\ke x.am.a3)
def xM (x:bZ):Nat:=1+((length x.bu+1)+(1+((kV x.am.a0+(kV x.am.a1+(kV x.am.a2+(kV x.am.a3+(0))))+1)+(0))))+1
theorem Pz {H:Type} {K:Bk H} {enc:TypeId×Value->H} {w:World} (fuel:Nat):tc K enc Tryz.prog w fuel 45 bt zN xM:=by
  intro cs x hx
  obtain⟨m,xs,hm,hl,hd,hxl,hp⟩:=qo (l:=[(3,0,1),(9,1,1),(3,2,1),(43,3,8)]) (n:=11) (by kernel_rfl) hx
  obtain⟨w0,v0,q0⟩:=hp 0 3 0 1 rfl
  obtain⟨y0,g0,b0,r0⟩:=vt m _ _ q0
  obtain⟨w1,v1,q1⟩:=hp 1 9 1 1 rfl
  obtain⟨y1,g1,b1,r1⟩:=vR m _ _ q1
  obtain⟨w2,v2,q2⟩:=hp 2 3 2 1 rfl
  obtain⟨y2,g2,b2,r2⟩:=vt m _ _ q2
  obtain⟨w3,v3,q3⟩:=hp 3 43 3 8 rfl
  obtain⟨y3,g3,b3,r3⟩:=abb m _ _ q3
  exact⟨⟨y0,y1,y2,y3⟩,⟨g0,g1,g2,g3⟩,zg [1,(length y1+1),1,(kV y3.a0+(kV y3.a1+(kV y3.a2+(kV y3.a3+(0))))+1)] hd hxl rfl ⟨⟨w0,v0,b0⟩,⟨w1,v1,b1⟩,⟨w2,v2,b2⟩,⟨w3,v3,b3⟩,trivial⟩,BG (cd (off:=0) r0 rfl (cd (off:=1) r1 rfl (cd (off:=2) r2 rfl (cd (off:=3) r3 rfl (ng hl)))))⟩
def yN (x:cN):Prop:=wu x.af/\zN x.av/\vD x.fAt
def yR (x:cN):Nat:=(length x.af+1)+(xM x.av+(1+(0)))+1
theorem abR {H:Type} {K:Bk H} {enc:TypeId×Value->H} {w:World} (fuel:Nat):tc K enc Tryz.prog w fuel 80 aI yN yR:=by
  intro cs x hx
  obtain⟨m,xs,hm,hl,hd,hxl,hp⟩:=qo (l:=[(9,0,1),(45,1,11),(3,12,1)]) (n:=13) (by kernel_rfl) hx
  obtain⟨w0,v0,q0⟩:=hp 0 9 0 1 rfl
  obtain⟨y0,g0,b0,r0⟩:=vR m _ _ q0
  obtain⟨w1,v1,q1⟩:=hp 1 45 1 11 rfl
  obtain⟨y1,g1,b1,r1⟩:=Pz m _ _ q1
  obtain⟨w2,v2,q2⟩:=hp 2 3 12 1 rfl
  obtain⟨y2,g2,b2,r2⟩:=vt m _ _ q2
  exact⟨⟨y0,y1,y2⟩,⟨g0,g1,g2⟩,zg [(length y0+1),xM y1,1] hd hxl rfl ⟨⟨w0,v0,b0⟩,⟨w1,v1,b1⟩,⟨w2,v2,b2⟩,trivial⟩,BG (cd (off:=0) r0 rfl (cd (off:=1) r1 rfl (cd (off:=12) r2 rfl (ng hl))))⟩
theorem NY {H:Type} {K:Bk H} {enc:TypeId×Value->H} {w:World} (fuel:Nat):tc K enc Tryz.prog w fuel 36 (eL 13 aI) (fun x=>kj (fun y=>yN y) x) (fun l=>cg yR l+1):=lC (E:=80) (by kernel_rfl) (by kernel_rfl) rfl (fun _=>rfl) (fun n _=>abR n)
theorem adb {H:Type} {K:Bk H} {enc:TypeId×Value->H} {w:World} (fuel:Nat):tc K enc Tryz.prog w fuel 4 eB (fun x=>True) (fun _=>1):=WI (by kernel_rfl)
inductive goodGExpr : ai->Prop
  | mk (x:ai) (h0:vD x.aa) (h1:vD x.cj) (h2:wu x.af) (l3:x.az.length<=maxLen) (k3:∀ y∈x.az,goodGExpr y):goodGExpr x
mutual
def nQ : ai->Nat
  | ⟨_,_,z2,z3⟩=>1+(1+((length z2+1)+((CE z3+1)+(0))))+1
def CE : List ai->Nat
  | []=>0
  | x::l=>nQ x+CE l
end
theorem Lf : ∀ l:List ai,CE l=cg nQ l
  | []=>by simp only[CE,cg]
  | x::l=>by simp only[CE,cg,Lf l]
theorem Ni (x:ai):nQ x=1+(1+((length x.af+1)+((cg nQ x.az+1)+(0))))+1:=by cases x;simp only[nQ,Lf]
theorem UV {H:Type} {K:Bk H} {enc:TypeId×Value->H} {w:World} (fuel:Nat):tc K enc Tryz.prog w fuel 53 ap goodGExpr nQ:=by
  induction fuel using Nat.strongRecOn with
  | _ fuel ih=>
  intro cs x hx
  obtain⟨m,xs,hm,hl,hd,hxl,hp⟩:=qo (l:=[(3,0,1),(3,1,1),(9,2,1),(51,3,1)]) (n:=4) (by kernel_rfl) hx
  obtain⟨w0,v0,q0⟩:=hp 0 3 0 1 rfl
  obtain⟨y0,g0,b0,r0⟩:=vt m _ _ q0
  obtain⟨w1,v1,q1⟩:=hp 1 3 1 1 rfl
  obtain⟨y1,g1,b1,r1⟩:=vt m _ _ q1
  obtain⟨w2,v2,q2⟩:=hp 2 9 2 1 rfl
  obtain⟨y2,g2,b2,r2⟩:=vR m _ _ q2
  obtain⟨w3,v3,q3⟩:=hp 3 51 3 1 rfl
  obtain⟨y3,g3,b3,r3⟩:=(lC (P:=Tryz.prog) (enc:=enc) (w:=w) (fuel:=m) (T:=51) (E:=53) (sz:=4) (e:=ap) (good:=goodGExpr) (u:=nQ) (by kernel_rfl) (by kernel_rfl) rfl (fun _=>rfl) (fun k hk=>ih k (by omega))) _ _ q3
  exact⟨⟨y0,y1,y2,y3⟩,.mk _ g0 g1 g2 g3.1 g3.2,by rw[Ni];exact zg [1,1,(length y2+1),(cg nQ y3+1)] hd hxl rfl ⟨⟨w0,v0,b0⟩,⟨w1,v1,b1⟩,⟨w2,v2,b2⟩,⟨w3,v3,b3⟩,trivial⟩,BG (cd (off:=0) r0 rfl (cd (off:=1) r1 rfl (cd (off:=2) r2 rfl (cd (off:=3) (vsR cr r3) rfl (ng hl)))))⟩
theorem abH {H:Type} {K:Bk H} {enc:TypeId×Value->H} {w:World} (fuel:Nat):tc K enc Tryz.prog w fuel 51 (eL 4 ap) (fun x=>kj (fun y=>goodGExpr y) x) (fun l=>cg nQ l+1):=lC (E:=53) (by kernel_rfl) (by kernel_rfl) rfl (fun _=>rfl) (fun n _=>UV n)
inductive goodGStmt : ah->Prop
  | mk (x:ah) (h0:vD x.aa) (h1:wu x.fX) (h2:wu x.fY) (h3:wu x.af) (h4:zN x.av) (h5:goodGExpr x.fE) (h6:kj (fun y=>goodGExpr y) x.bN) (l7:x.au.length<=maxLen) (k7:∀ y∈x.au,goodGStmt y) (l8:x.aZ.length<=maxLen) (k8:∀ y∈x.aZ,goodGStmt y) (h9:vD x.fAt):goodGStmt x
mutual
def mE : ah->Nat
  | ⟨_,z1,z2,z3,z4,z5,z6,z7,z8,_⟩=>1+((length z1+1)+((length z2+1)+((length z3+1)+(xM z4+(nQ z5+((cg nQ z6+1)+((zZ z7+1)+((zZ z8+1)+(1+(0))))))))))+1
def zZ : List ah->Nat
  | []=>0
  | x::l=>mE x+zZ l
end
theorem JE : ∀ l:List ah,zZ l=cg mE l
  | []=>by simp only[zZ,cg]
  | x::l=>by simp only[zZ,cg,JE l]
theorem Nf (x:ah):mE x=1+((length x.fX+1)+((length x.fY+1)+((length x.af+1)+(xM x.av+(nQ x.fE+((cg nQ x.bN+1)+((cg mE x.au+1)+((cg mE x.aZ+1)+(1+(0))))))))))+1:=by cases x;simp only[mE,JE]
theorem aaz {H:Type} {K:Bk H} {enc:TypeId×Value->H} {w:World} (fuel:Nat):tc K enc Tryz.prog w fuel 55 ax goodGStmt mE:=by
  induction fuel using Nat.strongRecOn with
  | _ fuel ih=>
  intro cs x hx
  obtain⟨m,xs,hm,hl,hd,hxl,hp⟩:=qo (l:=[(3,0,1),(9,1,1),(9,2,1),(9,3,1),(45,4,11),(53,15,4),(51,19,1),(46,20,1),(46,21,1),(3,22,1)]) (n:=23) (by kernel_rfl) hx
  obtain⟨w0,v0,q0⟩:=hp 0 3 0 1 rfl
  obtain⟨y0,g0,b0,r0⟩:=vt m _ _ q0
  obtain⟨w1,v1,q1⟩:=hp 1 9 1 1 rfl
  obtain⟨y1,g1,b1,r1⟩:=vR m _ _ q1
  obtain⟨w2,v2,q2⟩:=hp 2 9 2 1 rfl
  obtain⟨y2,g2,b2,r2⟩:=vR m _ _ q2
  obtain⟨w3,v3,q3⟩:=hp 3 9 3 1 rfl
  obtain⟨y3,g3,b3,r3⟩:=vR m _ _ q3
  obtain⟨w4,v4,q4⟩:=hp 4 45 4 11 rfl
  obtain⟨y4,g4,b4,r4⟩:=Pz m _ _ q4
  obtain⟨w5,v5,q5⟩:=hp 5 53 15 4 rfl
  obtain⟨y5,g5,b5,r5⟩:=UV m _ _ q5
  obtain⟨w6,v6,q6⟩:=hp 6 51 19 1 rfl
  obtain⟨y6,g6,b6,r6⟩:=abH m _ _ q6
  obtain⟨w7,v7,q7⟩:=hp 7 46 20 1 rfl
  obtain⟨y7,g7,b7,r7⟩:=(lC (P:=Tryz.prog) (enc:=enc) (w:=w) (fuel:=m) (T:=46) (E:=55) (sz:=23) (e:=ax) (good:=goodGStmt) (u:=mE) (by kernel_rfl) (by kernel_rfl) rfl (fun _=>rfl) (fun k hk=>ih k (by omega))) _ _ q7
  obtain⟨w8,v8,q8⟩:=hp 8 46 21 1 rfl
  obtain⟨y8,g8,b8,r8⟩:=(lC (P:=Tryz.prog) (enc:=enc) (w:=w) (fuel:=m) (T:=46) (E:=55) (sz:=23) (e:=ax) (good:=goodGStmt) (u:=mE) (by kernel_rfl) (by kernel_rfl) rfl (fun _=>rfl) (fun k hk=>ih k (by omega))) _ _ q8
  obtain⟨w9,v9,q9⟩:=hp 9 3 22 1 rfl
  obtain⟨y9,g9,b9,r9⟩:=vt m _ _ q9
  exact⟨⟨y0,y1,y2,y3,y4,y5,y6,y7,y8,y9⟩,.mk _ g0 g1 g2 g3 g4 g5 g6 g7.1 g7.2 g8.1 g8.2 g9,by rw[Nf];exact zg [1,(length y1+1),(length y2+1),(length y3+1),xM y4,nQ y5,(cg nQ y6+1),(cg mE y7+1),(cg mE y8+1),1] hd hxl rfl ⟨⟨w0,v0,b0⟩,⟨w1,v1,b1⟩,⟨w2,v2,b2⟩,⟨w3,v3,b3⟩,⟨w4,v4,b4⟩,⟨w5,v5,b5⟩,⟨w6,v6,b6⟩,⟨w7,v7,b7⟩,⟨w8,v8,b8⟩,⟨w9,v9,b9⟩,trivial⟩,BG (cd (off:=0) r0 rfl (cd (off:=1) r1 rfl (cd (off:=2) r2 rfl (cd (off:=3) r3 rfl (cd (off:=4) r4 rfl (cd (off:=15) r5 rfl (cd (off:=19) (vsR cr r6) rfl (cd (off:=20) (vsR eG r7) rfl (cd (off:=21) (vsR eG r8) rfl (cd (off:=22) r9 rfl (ng hl)))))))))))⟩
theorem abe {H:Type} {K:Bk H} {enc:TypeId×Value->H} {w:World} (fuel:Nat):tc K enc Tryz.prog w fuel 46 (eL 23 ax) (fun x=>kj (fun y=>goodGStmt y) x) (fun l=>cg mE l+1):=lC (E:=55) (by kernel_rfl) (by kernel_rfl) rfl (fun _=>rfl) (fun n _=>aaz n)
def tv (x:br):Prop:=wu x.af/\True/\zN x.aQ/\kj (fun y=>yN y) x.ac/\kj (fun y=>yN y) x.bC/\kj (fun y=>goodGStmt y) x.au/\vD x.fAt
def na (x:br):Nat:=(length x.af+1)+(1+(xM x.aQ+((cg yR x.ac+1)+((cg yR x.bC+1)+((cg mE x.au+1)+(1+(0)))))))+1
theorem aaW {H:Type} {K:Bk H} {enc:TypeId×Value->H} {w:World} (fuel:Nat):tc K enc Tryz.prog w fuel 48 aY tv na:=by
  intro cs x hx
  obtain⟨m,xs,hm,hl,hd,hxl,hp⟩:=qo (l:=[(9,0,1),(4,1,1),(45,2,11),(36,13,1),(36,14,1),(46,15,1),(3,16,1)]) (n:=17) (by kernel_rfl) hx
  obtain⟨w0,v0,q0⟩:=hp 0 9 0 1 rfl
  obtain⟨y0,g0,b0,r0⟩:=vR m _ _ q0
  obtain⟨w1,v1,q1⟩:=hp 1 4 1 1 rfl
  obtain⟨y1,g1,b1,r1⟩:=adb m _ _ q1
  obtain⟨w2,v2,q2⟩:=hp 2 45 2 11 rfl
  obtain⟨y2,g2,b2,r2⟩:=Pz m _ _ q2
  obtain⟨w3,v3,q3⟩:=hp 3 36 13 1 rfl
  obtain⟨y3,g3,b3,r3⟩:=NY m _ _ q3
  obtain⟨w4,v4,q4⟩:=hp 4 36 14 1 rfl
  obtain⟨y4,g4,b4,r4⟩:=NY m _ _ q4
  obtain⟨w5,v5,q5⟩:=hp 5 46 15 1 rfl
  obtain⟨y5,g5,b5,r5⟩:=abe m _ _ q5
  obtain⟨w6,v6,q6⟩:=hp 6 3 16 1 rfl
  obtain⟨y6,g6,b6,r6⟩:=vt m _ _ q6
  exact⟨⟨y0,y1,y2,y3,y4,y5,y6⟩,⟨g0,g1,g2,g3,g4,g5,g6⟩,zg [(length y0+1),1,xM y2,(cg yR y3+1),(cg yR y4+1),(cg mE y5+1),1] hd hxl rfl ⟨⟨w0,v0,b0⟩,⟨w1,v1,b1⟩,⟨w2,v2,b2⟩,⟨w3,v3,b3⟩,⟨w4,v4,b4⟩,⟨w5,v5,b5⟩,⟨w6,v6,b6⟩,trivial⟩,BG (cd (off:=0) r0 rfl (cd (off:=1) r1 rfl (cd (off:=2) r2 rfl (cd (off:=13) r3 rfl (cd (off:=14) r4 rfl (cd (off:=15) (vsR eG r5) rfl (cd (off:=16) r6 rfl (ng hl))))))))⟩
theorem aaY {H:Type} {K:Bk H} {enc:TypeId×Value->H} {w:World} (fuel:Nat):tc K enc Tryz.prog w fuel 37 (eL 17 aY) (fun x=>kj (fun y=>tv y) x) (fun l=>cg na l+1):=lC (E:=48) (by kernel_rfl) (by kernel_rfl) rfl (fun _=>rfl) (fun n _=>aaW n)
def vk (x:be):Prop:=wu x.af/\kj (fun y=>wu y) x.ac/\wu x.cb/\kj (fun y=>ke y) x.bl/\kj (fun y=>yN y) x.bn/\kj (fun y=>tv y) x.ak/\vD x.fAt
def mF (x:be):Nat:=(length x.af+1)+((cg (fun s=>length s+1) x.ac+1)+((length x.cb+1)+((cg kV x.bl+1)+((cg yR x.bn+1)+((cg na x.ak+1)+(1+(0)))))))+1
theorem abt {H:Type} {K:Bk H} {enc:TypeId×Value->H} {w:World} (fuel:Nat):tc K enc Tryz.prog w fuel 39 aH vk mF:=by
  intro cs x hx
  obtain⟨m,xs,hm,hl,hd,hxl,hp⟩:=qo (l:=[(9,0,1),(34,1,1),(9,2,1),(35,3,1),(36,4,1),(37,5,1),(3,6,1)]) (n:=7) (by kernel_rfl) hx
  obtain⟨w0,v0,q0⟩:=hp 0 9 0 1 rfl
  obtain⟨y0,g0,b0,r0⟩:=vR m _ _ q0
  obtain⟨w1,v1,q1⟩:=hp 1 34 1 1 rfl
  obtain⟨y1,g1,b1,r1⟩:=abA m _ _ q1
  obtain⟨w2,v2,q2⟩:=hp 2 9 2 1 rfl
  obtain⟨y2,g2,b2,r2⟩:=vR m _ _ q2
  obtain⟨w3,v3,q3⟩:=hp 3 35 3 1 rfl
  obtain⟨y3,g3,b3,r3⟩:=aay m _ _ q3
  obtain⟨w4,v4,q4⟩:=hp 4 36 4 1 rfl
  obtain⟨y4,g4,b4,r4⟩:=NY m _ _ q4
  obtain⟨w5,v5,q5⟩:=hp 5 37 5 1 rfl
  obtain⟨y5,g5,b5,r5⟩:=aaY m _ _ q5
  obtain⟨w6,v6,q6⟩:=hp 6 3 6 1 rfl
  obtain⟨y6,g6,b6,r6⟩:=vt m _ _ q6
  exact⟨⟨y0,y1,y2,y3,y4,y5,y6⟩,⟨g0,g1,g2,g3,g4,g5,g6⟩,zg [(length y0+1),(cg (fun s=>length s+1) y1+1),(length y2+1),(cg kV y3+1),(cg yR y4+1),(cg na y5+1),1] hd hxl rfl ⟨⟨w0,v0,b0⟩,⟨w1,v1,b1⟩,⟨w2,v2,b2⟩,⟨w3,v3,b3⟩,⟨w4,v4,b4⟩,⟨w5,v5,b5⟩,⟨w6,v6,b6⟩,trivial⟩,BG (cd (off:=0) r0 rfl (cd (off:=1) r1 rfl (cd (off:=2) r2 rfl (cd (off:=3) r3 rfl (cd (off:=4) r4 rfl (cd (off:=5) r5 rfl (cd (off:=6) r6 rfl (ng hl))))))))⟩
theorem abG {H:Type} {K:Bk H} {enc:TypeId×Value->H} {w:World} (fuel:Nat):tc K enc Tryz.prog w fuel 22 (eL 7 aH) (fun x=>kj (fun y=>vk y) x) (fun l=>cg mF l+1):=lC (E:=39) (by kernel_rfl) (by kernel_rfl) rfl (fun _=>rfl) (fun n _=>abt n)
end Go.Proofs.YtjimbkljclfflaaGreatDoor
