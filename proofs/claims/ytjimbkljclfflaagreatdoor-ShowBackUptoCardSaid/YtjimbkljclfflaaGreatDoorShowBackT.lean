/- A part of the proof that the law ShowBack gives true for every input. -/
import Derived.Test.YtjimbkljclfflaaGreatDoorShowBackA5
import Derived.Test.YtjimbkljclfflaaGreatDoorShowBackX
/- The types and the plain functions. -/
namespace Go.Proofs.YtjimbkljclfflaaGreatDoor
open List
open Go.RowKit Go.Abs
noncomputable section
structure ay where
 aa:Int
 fN:Int
 deriving DecidableEq
abbrev aq : ay:=(⟨0,0⟩:ay)
abbrev aC (x:ay):List PV:=[.int .i64 x.aa,.int .i64 x.fN]
structure bZ where
 aa:Int
 bu:List UInt8
 fN:Int
 am:A4 ay
 deriving DecidableEq
abbrev dY : bZ:=(⟨0,[],0,(⟨aq,aq,aq,aq⟩:A4 ay)⟩:bZ)
abbrev bt (x:bZ):List PV:=[.int .i64 x.aa,.str x.bu,.int .i64 x.fN,.int .i64 x.am.a0.aa,.int .i64 x.am.a0.fN,.int .i64 x.am.a1.aa,.int .i64 x.am.a1.fN,.int .i64 x.am.a2.aa,.int .i64 x.am.a2.fN,.int .i64 x.am.a3.aa,.int .i64 x.am.a3.fN]
structure cN where
 af:List UInt8
 av:bZ
 fAt:Int
 deriving DecidableEq
abbrev pM : cN:=(⟨[],dY,0⟩:cN)
abbrev aI (x:cN):List PV:=[.str x.af,.int .i64 x.av.aa,.str x.av.bu,.int .i64 x.av.fN,.int .i64 x.av.am.a0.aa,.int .i64 x.av.am.a0.fN,.int .i64 x.av.am.a1.aa,.int .i64 x.av.am.a1.fN,.int .i64 x.av.am.a2.aa,.int .i64 x.av.am.a2.fN,.int .i64 x.av.am.a3.aa,.int .i64 x.av.am.a3.fN,.int .i64 x.fAt]
structure ai where
 aa:Int
 cj:Int
 af:List UInt8
 az:List ai
abbrev cA : ai:=(⟨0,0,[],[]⟩:ai)
mutual
def Ub : ai->List PV
 | ⟨z0,z1,z2,z3⟩=>[.int .i64 z0,.int .i64 z1,.str z2,.vs 4 (bR z3)]
def bR : List ai->List (List PV)
 | []=>[]
 | x::l=>Ub x::bR l
end
abbrev ap (x:ai):List PV:=[.int .i64 x.aa,.int .i64 x.cj,.str x.af,.vs 4 (bR x.az)]
theorem WY (x:ai):Ub x=ap x:=by cases x;simp only[Ub]
theorem cr : ∀ l:List ai,bR l=l.map ap
 | []=>by simp only[bR,map_nil]
 | x::l=>by simp only[bR,map_cons,WY,cr l]
mutual
def bL : ai->Nat
 | ⟨_,_,_,z3⟩=>1+dL z3
def dL : List ai->Nat
 | []=>0
 | x::l=>bL x+dL l
end
structure ah where
 aa:Int
 fX:List UInt8
 fY:List UInt8
 af:List UInt8
 av:bZ
 fE:ai
 bN:List ai
 au:List ah
 aZ:List ah
 fAt:Int
abbrev iW : ah:=(⟨0,[],[],[],dY,cA,[],[],[],0⟩:ah)
mutual
def TP : ah->List PV
 | ⟨z0,z1,z2,z3,z4,z5,z6,z7,z8,z9⟩=>[.int .i64 z0,.str z1,.str z2,.str z3,.int .i64 z4.aa,.str z4.bu,.int .i64 z4.fN,.int .i64 z4.am.a0.aa,.int .i64 z4.am.a0.fN,.int .i64 z4.am.a1.aa,.int .i64 z4.am.a1.fN,.int .i64 z4.am.a2.aa,.int .i64 z4.am.a2.fN,.int .i64 z4.am.a3.aa,.int .i64 z4.am.a3.fN,.int .i64 z5.aa,.int .i64 z5.cj,.str z5.af,.vs 4 (bR z5.az),.vs 4 (bR z6),.vs 23 (bT z7),.vs 23 (bT z8),.int .i64 z9]
def bT : List ah->List (List PV)
 | []=>[]
 | x::l=>TP x::bT l
end
abbrev ax (x:ah):List PV:=[.int .i64 x.aa,.str x.fX,.str x.fY,.str x.af,.int .i64 x.av.aa,.str x.av.bu,.int .i64 x.av.fN,.int .i64 x.av.am.a0.aa,.int .i64 x.av.am.a0.fN,.int .i64 x.av.am.a1.aa,.int .i64 x.av.am.a1.fN,.int .i64 x.av.am.a2.aa,.int .i64 x.av.am.a2.fN,.int .i64 x.av.am.a3.aa,.int .i64 x.av.am.a3.fN,.int .i64 x.fE.aa,.int .i64 x.fE.cj,.str x.fE.af,.vs 4 (bR x.fE.az),.vs 4 (bR x.bN),.vs 23 (bT x.au),.vs 23 (bT x.aZ),.int .i64 x.fAt]
theorem WX (x:ah):TP x=ax x:=by cases x;simp only[TP]
theorem eG : ∀ l:List ah,bT l=l.map ax
 | []=>by simp only[bT,map_nil]
 | x::l=>by simp only[bT,map_cons,WX,eG l]
mutual
def cc : ah->Nat
 | ⟨_,_,_,_,_,z5,z6,z7,z8,_⟩=>1+bL z5+dL z6+cC z7+cC z8
def cC : List ah->Nat
 | []=>0
 | x::l=>cc x+cC l
end
structure br where
 af:List UInt8
 fm:Bool
 aQ:bZ
 ac:List cN
 bC:List cN
 au:List ah
 fAt:Int
abbrev zGMethod : br:=(⟨[],false,dY,[],[],[],0⟩:br)
abbrev aY (x:br):List PV:=[.str x.af,.bool x.fm,.int .i64 x.aQ.aa,.str x.aQ.bu,.int .i64 x.aQ.fN,.int .i64 x.aQ.am.a0.aa,.int .i64 x.aQ.am.a0.fN,.int .i64 x.aQ.am.a1.aa,.int .i64 x.aQ.am.a1.fN,.int .i64 x.aQ.am.a2.aa,.int .i64 x.aQ.am.a2.fN,.int .i64 x.aQ.am.a3.aa,.int .i64 x.aQ.am.a3.fN,.vs 13 (map aI x.ac),.vs 13 (map aI x.bC),.vs 23 (bT x.au),.int .i64 x.fAt]
structure be where
 af:List UInt8
 ac:List (List UInt8)
 cb:List UInt8
 bl:List ay
 bn:List cN
 ak:List br
 fAt:Int
abbrev zGClass : be:=(⟨[],[],[],[],[],[],0⟩:be)
abbrev aH (x:be):List PV:=[.str x.af,.vs 1 (map eS x.ac),.str x.cb,.vs 2 (map aC x.bl),.vs 13 (map aI x.bn),.vs 17 (map aY x.ak),.int .i64 x.fAt]
structure nK where
 gY:Int
 fAt:Int
 deriving DecidableEq
abbrev aM : nK:=(⟨0,0⟩:nK)
abbrev lQ (x:nK):List PV:=[.int .i64 x.gY,.int .i64 x.fAt]
structure aK where
 aa:Int
 bV:List UInt8
 fAt:Int
 deriving DecidableEq
abbrev je : aK:=(⟨0,[],0⟩:aK)
abbrev aj (x:aK):List PV:=[.int .i64 x.aa,.str x.bV,.int .i64 x.fAt]
structure cJ where
 fC:be
 fM:br
 fV:List cN
 fN:List (List UInt8)
 aU:Int
 fF:nK
abbrev zGGot_ref09 : cJ:=(⟨zGClass,zGMethod,[],[],0,aM⟩:cJ)
abbrev bc (x:cJ):List PV:=[.str x.fC.af,.vs 1 (map eS x.fC.ac),.str x.fC.cb,.vs 2 (map aC x.fC.bl),.vs 13 (map aI x.fC.bn),.vs 17 (map aY x.fC.ak),.int .i64 x.fC.fAt,.str x.fM.af,.bool x.fM.fm,.int .i64 x.fM.aQ.aa,.str x.fM.aQ.bu,.int .i64 x.fM.aQ.fN,.int .i64 x.fM.aQ.am.a0.aa,.int .i64 x.fM.aQ.am.a0.fN,.int .i64 x.fM.aQ.am.a1.aa,.int .i64 x.fM.aQ.am.a1.fN,.int .i64 x.fM.aQ.am.a2.aa,.int .i64 x.fM.aQ.am.a2.fN,.int .i64 x.fM.aQ.am.a3.aa,.int .i64 x.fM.aQ.am.a3.fN,.vs 13 (map aI x.fM.ac),.vs 13 (map aI x.fM.bC),.vs 23 (bT x.fM.au),.int .i64 x.fM.fAt,.vs 13 (map aI x.fV),.vs 1 (map eS x.fN),.int .i64 x.aU,.int .i64 x.fF.gY,.int .i64 x.fF.fAt]
structure dc where
 fL:List ay
 fT:bZ
 fV:cN
 aU:Int
 fF:nK
 deriving DecidableEq
abbrev dm : dc:=(⟨[],dY,pM,0,aM⟩:dc)
abbrev bw (x:dc):List PV:=[.vs 2 (map aC x.fL),.int .i64 x.fT.aa,.str x.fT.bu,.int .i64 x.fT.fN,.int .i64 x.fT.am.a0.aa,.int .i64 x.fT.am.a0.fN,.int .i64 x.fT.am.a1.aa,.int .i64 x.fT.am.a1.fN,.int .i64 x.fT.am.a2.aa,.int .i64 x.fT.am.a2.fN,.int .i64 x.fT.am.a3.aa,.int .i64 x.fT.am.a3.fN,.str x.fV.af,.int .i64 x.fV.av.aa,.str x.fV.av.bu,.int .i64 x.fV.av.fN,.int .i64 x.fV.av.am.a0.aa,.int .i64 x.fV.av.am.a0.fN,.int .i64 x.fV.av.am.a1.aa,.int .i64 x.fV.av.am.a1.fN,.int .i64 x.fV.av.am.a2.aa,.int .i64 x.fV.av.am.a2.fN,.int .i64 x.fV.av.am.a3.aa,.int .i64 x.fV.av.am.a3.fN,.int .i64 x.fV.fAt,.int .i64 x.aU,.int .i64 x.fF.gY,.int .i64 x.fF.fAt]
structure ct where
 fS:ah
 fL:List ah
 fA:List ai
 aU:Int
 fF:nK
abbrev cO : ct:=(⟨iW,[],[],0,aM⟩:ct)
abbrev bz (x:ct):List PV:=[.int .i64 x.fS.aa,.str x.fS.fX,.str x.fS.fY,.str x.fS.af,.int .i64 x.fS.av.aa,.str x.fS.av.bu,.int .i64 x.fS.av.fN,.int .i64 x.fS.av.am.a0.aa,.int .i64 x.fS.av.am.a0.fN,.int .i64 x.fS.av.am.a1.aa,.int .i64 x.fS.av.am.a1.fN,.int .i64 x.fS.av.am.a2.aa,.int .i64 x.fS.av.am.a2.fN,.int .i64 x.fS.av.am.a3.aa,.int .i64 x.fS.av.am.a3.fN,.int .i64 x.fS.fE.aa,.int .i64 x.fS.fE.cj,.str x.fS.fE.af,.vs 4 (bR x.fS.fE.az),.vs 4 (bR x.fS.bN),.vs 23 (bT x.fS.au),.vs 23 (bT x.fS.aZ),.int .i64 x.fS.fAt,.vs 23 (bT x.fL),.vs 4 (bR x.fA),.int .i64 x.aU,.int .i64 x.fF.gY,.int .i64 x.fF.fAt]
structure bv where
 fE:ai
 aU:Int
 fF:nK
abbrev cB : bv:=(⟨cA,0,aM⟩:bv)
abbrev aF (x:bv):List PV:=[.int .i64 x.fE.aa,.int .i64 x.fE.cj,.str x.fE.af,.vs 4 (bR x.fE.az),.int .i64 x.aU,.int .i64 x.fF.gY,.int .i64 x.fF.fAt]
structure aE where
 wz:Int
 bn:Int
 ak:Int
 lf:Int
 jl:Int
 yj:Int
 zb:Int
 deriving DecidableEq
abbrev jj : aE:=(⟨0,0,0,0,0,0,0⟩:aE)
abbrev aV (x:aE):List PV:=[.int .i64 x.wz,.int .i64 x.bn,.int .i64 x.ak,.int .i64 x.lf,.int .i64 x.jl,.int .i64 x.yj,.int .i64 x.zb]
structure Gbind_expr where
 fsign:List UInt8
 flevel:Int
 fkind:Int
 deriving DecidableEq
abbrev Sn : Gbind_expr:=(⟨[],0,0⟩:Gbind_expr)
abbrev js (x:Gbind_expr):List PV:=[.str x.fsign,.int .i64 x.flevel,.int .i64 x.fkind]
def jp (a b:bZ):Bool:=(a.aa==b.aa&&(a.bu==b.bu&&(a.fN==b.fN&&(a.am.a0.aa==b.am.a0.aa&&(a.am.a0.fN==b.am.a0.fN&&(a.am.a1.aa==b.am.a1.aa&&(a.am.a1.fN==b.am.a1.fN&&(a.am.a2.aa==b.am.a2.aa&&(a.am.a2.fN==b.am.a2.fN&&(a.am.a3.aa==b.am.a3.aa&&(a.am.a3.fN==b.am.a3.fN&&true)))))))))))
def jx (a b:ay):Bool:=(a.aa==b.aa&&(a.fN==b.fN&&true))
def jY (a0:br):Nat->Int->Int->Option (Int)
 | 0,_,_=>none
 | n+1,x0,x1=>
 if(decide (x1 < (a0.ac.length:Int))) then
 ((idx a0.ac x1).bind fun y0=>
 if(y0.av.am.a0.aa==6) then
 some (ae (x0+1))
 else
 some x0:Option (Int)).bind fun x2=>
 jY a0 n x2 (ae (x1+1))
 else
 some x0
def jX (a0:br):Nat->Int->Int->Option (Int)
 | 0,_,_=>none
 | n+1,x0,x1=>
 if(decide (x1 < (a0.bC.length:Int))) then
 ((idx a0.bC x1).bind fun y0=>
 if(y0.av.am.a0.aa==6) then
 some (ae (x0+1))
 else
 some x0:Option (Int)).bind fun x2=>
 jX a0 n x2 (ae (x1+1))
 else
 some x0
def pK (a0:br):Option Int:=
 (jY a0 ((a0.ac.length - 0:Int).toNat+1) 0 0).bind fun x0=>
 (jX a0 ((a0.bC.length - 0:Int).toNat+1) x0 0).bind fun x1=>
 some x1
def nk (a0:ai) (a1:Int) (ref10_kids_rec:ai->Int->Option Bool):Nat->Int->Option (Ctl (Bool) (Unit))
 | 0,_=>none
 | n+1,x0=>
 if(decide (x0 < (a0.az.length:Int))) then
 (idx a0.az x0).bind fun y0=>
 (ref10_kids_rec y0 (ae (a1 - 1))).bind fun y1=>
 if y1=true then
 some (.stop true)
 else
 nk a0 a1 ref10_kids_rec n (ae (x0+1))
 else
 some (.next ())
def jZ : Nat->ai->Int->Option Bool
 | 0,_,_=>none
 | n+1,a0,a1=>
 (if(decide (a1 < 0)) then
 some true
 else
 some (decide ((a0.az.length:Int) > 4)):Option (Bool)).bind fun x2=>
 if x2=true then
 some true
 else
 (nk a0 a1 (jZ n) ((a0.az.length - 0:Int).toNat+1) 0).bind fun lr0=>
 Ctl.elim lr0 (fun v=>some v) fun _=>
 some false
def nw (a0:ah):Nat->Int->Option (Ctl (Bool) (Unit))
 | 0,_=>none
 | n+1,x0=>
 if(decide (x0 < (a0.bN.length:Int))) then
 (idx a0.bN x0).bind fun y0=>
 (jZ (bL y0+1) y0 25).bind fun y1=>
 if y1=true then
 some (.stop true)
 else
 nw a0 n (ae (x0+1))
 else
 some (.next ())
def nt (a0:ah) (a1:Int) (ref10_much_rec:ah->Int->Option Bool):Nat->Int->Option (Ctl (Bool) (Unit))
 | 0,_=>none
 | n+1,x0=>
 if(decide (x0 < (a0.au.length:Int))) then
 (idx a0.au x0).bind fun y0=>
 (ref10_much_rec y0 (ae (a1 - 1))).bind fun y1=>
 if y1=true then
 some (.stop true)
 else
 nt a0 a1 ref10_much_rec n (ae (x0+1))
 else
 some (.next ())
def nq (a0:ah) (a1:Int) (ref10_much_rec:ah->Int->Option Bool):Nat->Int->Option (Ctl (Bool) (Unit))
 | 0,_=>none
 | n+1,x0=>
 if(decide (x0 < (a0.aZ.length:Int))) then
 (idx a0.aZ x0).bind fun y0=>
 (ref10_much_rec y0 (ae (a1 - 1))).bind fun y1=>
 if y1=true then
 some (.stop true)
 else
 nq a0 a1 ref10_much_rec n (ae (x0+1))
 else
 some (.next ())
def jC : Nat->ah->Int->Option Bool
 | 0,_,_=>none
 | n+1,a0,a1=>
 (if(decide (a1 < 0)) then
 some true
 else
 if(decide ((a0.au.length:Int) > 500)) then
 some true
 else
 if(decide ((a0.aZ.length:Int) > 500)) then
 some true
 else
 if(decide ((a0.bN.length:Int) > 20)) then
 some true
 else
 (jZ (bL a0.fE+1) a0.fE 25).bind fun y5=>
 some y5:Option (Bool)).bind fun x7=>
 if x7=true then
 some true
 else
 (nw a0 ((a0.bN.length - 0:Int).toNat+1) 0).bind fun lr0=>
 Ctl.elim lr0 (fun v=>some v) fun _=>
 (nt a0 a1 (jC n) ((a0.au.length - 0:Int).toNat+1) 0).bind fun lr1=>
 Ctl.elim lr1 (fun v=>some v) fun _=>
 (nq a0 a1 (jC n) ((a0.aZ.length - 0:Int).toNat+1) 0).bind fun lr2=>
 Ctl.elim lr2 (fun v=>some v) fun _=>
 some false
def jO (a0:ah) (ref08_Size_rec:ah->Option Int):Nat->Int->Int->Option (Int)
 | 0,_,_=>none
 | n+1,x0,x1=>
 if(decide (x1 < (a0.au.length:Int))) then
 (idx a0.au x1).bind fun y0=>
 (ref08_Size_rec y0).bind fun(y1:Int)=>
 jO a0 ref08_Size_rec n (ae (x0+y1)) (ae (x1+1))
 else
 some x0
def jT (a0:ah) (ref08_Size_rec:ah->Option Int):Nat->Int->Int->Option (Int)
 | 0,_,_=>none
 | n+1,x0,x1=>
 if(decide (x1 < (a0.aZ.length:Int))) then
 (idx a0.aZ x1).bind fun y0=>
 (ref08_Size_rec y0).bind fun(y1:Int)=>
 jT a0 ref08_Size_rec n (ae (x0+y1)) (ae (x1+1))
 else
 some x0
def fq : Nat->ah->Option Int
 | 0,_=>none
 | n+1,a0=>
 (jO a0 (fq n) ((a0.au.length - 0:Int).toNat+1) 1 0).bind fun x0=>
 (jT a0 (fq n) ((a0.aZ.length - 0:Int).toNat+1) x0 0).bind fun x1=>
 some x1
def oj (y0:br):Nat->Int->Int->Option (Ctl (Bool) (Int))
 | 0,_,_=>none
 | n+1,x0,x1=>
 if(decide (x1 < (y0.au.length:Int))) then
 (if(decide (x0 > 500)) then
 some true
 else
 (idx y0.au x1).bind fun y1=>
 (jC (cc y1+1) y1 25).bind fun y2=>
 some y2:Option (Bool)).bind fun x2=>
 if x2=true then
 some (.stop true)
 else
 (idx y0.au x1).bind fun y3=>
 (fq (cc y3+1) y3).bind fun(y4:Int)=>
 oj y0 n (ae (x0+y4)) (ae (x1+1))
 else
 some (.next x0)
def mj (y0:be):Nat->Int->Int->Option (Ctl (Bool) (Int))
 | 0,_,_=>none
 | n+1,x0,x1=>
 if(decide (x1 < (y0.ak.length:Int))) then
 (idx y0.ak x1).bind fun y1=>
 (if(decide ((y1.ac.length:Int) > 40)) then
 some true
 else
 if(decide ((y1.bC.length:Int) > 40)) then
 some true
 else
 if(decide ((y1.au.length:Int) > 500)) then
 some true
 else
 (pK y1).bind fun(y2:Int)=>
 some (decide (y2 > 8)):Option (Bool)).bind fun x2=>
 if x2=true then
 some (.stop true)
 else
 (oj y1 ((y1.au.length - 0:Int).toNat+1) x0 0).bind fun lr0=>
 Ctl.elim lr0 (fun v=>some (.stop v)) fun x3=>
 mj y0 n x3 (ae (x1+1))
 else
 some (.next x0)
def mn (a0:List be):Nat->Int->Int->Option (Ctl (Bool) (Int))
 | 0,_,_=>none
 | n+1,x0,x1=>
 if(decide (x1 < (a0.length:Int))) then
 (idx a0 x1).bind fun y0=>
 (if(decide ((a0.length:Int) > 30)) then
 some true
 else
 if(decide ((y0.ac.length:Int) > 20)) then
 some true
 else
 if(decide ((y0.bl.length:Int) > 20)) then
 some true
 else
 if(decide ((y0.bn.length:Int) > 40)) then
 some true
 else
 some (decide ((y0.ak.length:Int) > 40)):Option (Bool)).bind fun x2=>
 if x2=true then
 some (.stop true)
 else
 (mj y0 ((y0.ak.length - 0:Int).toNat+1) x0 0).bind fun lr0=>
 Ctl.elim lr0 (fun v=>some (.stop v)) fun x3=>
 mn a0 n x3 (ae (x1+1))
 else
 some (.next x0)
def tk (a0:List be):Option Bool:=
 (mn a0 ((a0.length - 0:Int).toNat+1) 0 0).bind fun lr0=>
 Ctl.elim lr0 (fun v=>some v) fun x0=>
 some (decide (x0 > 500))
def sN (a0:Int):Option Bool:=
 if(a0==9) then
 some true
 else
 if(a0==10) then
 some true
 else
 if(a0==13) then
 some true
 else
 some (a0==32)
def wl (a0:List UInt8):Nat->Int->Option (Int)
 | 0,_=>none
 | n+1,x0=>
 (if(decide (x0 < (a0.length:Int))) then
 (idx a0 x0).bind fun(y0:UInt8)=>
 some ((y0.toNat:Int) != 10)
 else
 some false:Option (Bool)).bind fun x1=>
 if x1=true then
 wl a0 n (ae (x0+1))
 else
 some x0
def lu (a0:List UInt8):Nat->Int->Option (Ctl (Int) (Int))
 | 0,_=>none
 | n+1,x0=>
 if(decide (x0 < (a0.length:Int))) then
 (idx a0 x0).bind fun(y0:UInt8)=>
 (sN (y0.toNat:Int)).bind fun y1=>
 if y1=true then
 lu a0 n (ae (x0+1))
 else
 (if(decide ((ae (x0+1)) >= (a0.length:Int))) then
 some true
 else
 (idx a0 x0).bind fun(y2:UInt8)=>
 if((y2.toNat:Int) != 47) then
 some true
 else
 (idx a0 (ae (x0+1))).bind fun(y3:UInt8)=>
 some ((y3.toNat:Int) != 47):Option (Bool)).bind fun x1=>
 if x1=true then
 some (.stop x0)
 else
 (wl a0 (a0.length+64) x0).bind fun x2=>
 lu a0 n x2
 else
 some (.next x0)
def qp (a0:List UInt8):Option Int:=
 (lu a0 (a0.length+64) 0).bind fun lr0=>
 Ctl.elim lr0 (fun v=>some v) fun x0=>
 some x0
def jL (a0:Int):Option Bool:=
 if(decide (a0 >= 97)) then
 if(decide (a0<=122)) then
 some true
 else
 if(decide (a0 >= 65)) then
 some (decide (a0<=90))
 else
 some false
 else
 if(decide (a0 >= 65)) then
 some (decide (a0<=90))
 else
 some false
def lg (a0:Int):Option Bool:=
 if(decide (a0 >= 48)) then
 some (decide (a0<=57))
 else
 some false
def vE  : Option (List (List UInt8)):=
 some [[99,108,97,115,115],[101,120,116,101,110,100,115],[114,101,112],[112,101,101,114],[119,111,114,108,100],[97,110,121],[117,110,105,113,117,101],[112,117,114,101],[118,111,105,100],[105,110,116],[105,102],[101,108,115,101],[119,104,105,108,101],[114,101,116,117,114,110],[110,101,119],[109,111,118,101],[100,101,108,101,116,101],[116,104,105,115],[110,117,108,108],[105,110,112,117,116],[110,105,108],[115,97,109,101],[99,97,115,116]]
def nA (a0:List UInt8) (y3:(List (List UInt8))):Nat->Int->Option (Ctl (Int) (Unit))
 | 0,_=>none
 | n+1,x0=>
 if(decide (x0 < (y3.length:Int))) then
 (idx y3 x0).bind fun y0=>
 if(y0==a0) then
 some (.stop (ae (x0+1)))
 else
 nA a0 y3 n (ae (x0+1))
 else
 some (.next ())
def sd (a0:List UInt8):Option Int:=
 Option.bind vE fun(y3:(List (List UInt8)))=>
 (nA a0 y3 ((y3.length - 0:Int).toNat+1) 0).bind fun lr0=>
 Ctl.elim lr0 (fun v=>some v) fun _=>
 some 0
def pG (a0:List UInt8):Nat->Int->Option (Ctl ((List UInt8)) (Unit))
 | 0,_=>none
 | n+1,x0=>
 (if(decide (x0 < ([123,125,40,41,60,62,44,59,46,61,43,45,42,33].length:Int))) then
 some (!(a0==[]))
 else
 some false:Option (Bool)).bind fun x1=>
 if x1=true then
 (idx [123,125,40,41,60,62,44,59,46,61,43,45,42,33] x0).bind fun(y0:UInt8)=>
 (idx a0 0).bind fun(y1:UInt8)=>
 if((y0.toNat:Int)==(y1.toNat:Int)) then
 (jK a0 0 1).bind fun y2=>
 some (.stop y2)
 else
 pG a0 n (ae (x0+1))
 else
 some (.next ())
def sc (a0:List UInt8):Option (List UInt8):=
 (if(decide ((a0.length:Int) > 1)) then
 (jK a0 0 2).bind fun y2=>
 if(y2==[61,61]) then
 some true
 else
 (jK a0 0 2).bind fun y5=>
 some (y5==[38,38])
 else
 some false:Option (Bool)).bind fun x7=>
 if x7=true then
 (jK a0 0 2).bind fun y0=>
 some y0
 else
 (pG a0 (a0.length+64) 0).bind fun lr0=>
 Ctl.elim lr0 (fun v=>some v) fun _=>
 some []
def rP (a0:List UInt8):Nat->Int->Option (Int)
 | 0,_=>none
 | n+1,x0=>
 (if(decide (x0 < (a0.length:Int))) then
 (idx a0 x0).bind fun(y0:UInt8)=>
 (jL (y0.toNat:Int)).bind fun y1=>
 if y1=true then
 some true
 else
 (idx a0 x0).bind fun(y2:UInt8)=>
 (lg (y2.toNat:Int)).bind fun y3=>
 some y3
 else
 some false:Option (Bool)).bind fun x1=>
 if x1=true then
 rP a0 n (ae (x0+1))
 else
 some x0
def rc (a0:List UInt8):Nat->Int->Option (Int)
 | 0,_=>none
 | n+1,x0=>
 (if(decide (x0 < (a0.length:Int))) then
 (idx a0 x0).bind fun(y0:UInt8)=>
 (lg (y0.toNat:Int)).bind fun y1=>
 some y1
 else
 some false:Option (Bool)).bind fun x1=>
 if x1=true then
 rc a0 n (ae (x0+1))
 else
 some x0
def wE (a0:List UInt8):Option aK:=
 (idx a0 0).bind fun(y5:UInt8)=>
 (jL (y5.toNat:Int)).bind fun y7=>
 if y7=true then
 (rP a0 (a0.length+64) 0).bind fun x0=>
 (jK a0 0 x0).bind fun y0=>
 (sd y0).bind fun(y1:Int)=>
 if(decide (y1 > 0)) then
 (jK a0 0 x0).bind fun y2=>
 some (⟨3,y2,0⟩:aK)
 else
 (jK a0 0 x0).bind fun y3=>
 some (⟨1,y3,0⟩:aK)
 else
 (idx a0 0).bind fun(y4:UInt8)=>
 (lg (y4.toNat:Int)).bind fun y6=>
 if y6=true then
 (rc a0 (a0.length+64) 0).bind fun x1=>
 (jK a0 0 x1).bind fun y8=>
 some (⟨2,y8,0⟩:aK)
 else
 (sc a0).bind fun y9=>
 if(!(y9==[])) then
 (sc a0).bind fun y10=>
 some (⟨4,y10,0⟩:aK)
 else
 some je
def nc (a0:List UInt8):Nat->Int->Int->Option (Ctl (Int×Bool) (Int))
 | 0,_,_=>none
 | n+1,x0,x1=>
 if(decide (x1 < (a0.length:Int))) then
 (idx a0 x1).bind fun(y0:UInt8)=>
 (lg (y0.toNat:Int)).bind fun y1=>
 if(!y1) then
 some (.stop (0,false))
 else
 (idx a0 x1).bind fun(y2:UInt8)=>
 nc a0 n (ae ((ae (10 * x0))+(ae (Ak ((y2.toNat:Int) - 48))))) (ae (x1+1))
 else
 some (.next x0)
def ph (a0:List UInt8):Option (Int×Bool):=
 (if(decide ((a0.length:Int) < 1)) then
 some true
 else
 if(decide ((a0.length:Int) > 9)) then
 some true
 else
 (idx a0 0).bind fun(y3:UInt8)=>
 if((y3.toNat:Int)==48) then
 some (decide ((a0.length:Int) > 1))
 else
 some false:Option (Bool)).bind fun x6=>
 if x6=true then
 some (0,false)
 else
 (nc a0 ((a0.length - 0:Int).toNat+1) 0 0).bind fun lr0=>
 Ctl.elim lr0 (fun v=>some v) fun x0=>
 some (x0,true)
def qF (a0:List UInt8):Nat->(List aK)->Int->Option ((List aK))
 | 0,_,_=>none
 | n+1,x0,x1=>
 if(decide (x1 < (a0.length:Int))) then
 (jK a0 x1 a0.length).bind fun y0=>
 (wE y0).bind fun y1=>
 if((({ y1 with fAt:=x1 }:aK).aa)==0) then
 none
 else
 (ph (({ y1 with fAt:=x1 }:aK).bV)).bind fun y2=>
 (if((({ y1 with fAt:=x1 }:aK).aa)==1) then
 if(decide (((({ y1 with fAt:=x1 }:aK).bV).length:Int) > 20)) then
 some true
 else
 if((({ y1 with fAt:=x1 }:aK).aa)==2) then
 some (!y2.2)
 else
 some false
 else
 if((({ y1 with fAt:=x1 }:aK).aa)==2) then
 some (!y2.2)
 else
 some false:Option (Bool)).bind fun x2=>
 if x2=true then
 none
 else
 (dr ((x0.length:Int)+([({ y1 with fAt:=x1 }:aK)].length:Int)) 32).bind fun _=>
 (jK a0 (ae (x1+((({ y1 with fAt:=x1 }:aK).bV).length:Int))) a0.length).bind fun y3=>
 (qp y3).bind fun(y4:Int)=>
 qF a0 n (x0++[({ y1 with fAt:=x1 }:aK)]) (ae ((ae (x1+((({ y1 with fAt:=x1 }:aK).bV).length:Int)))+y4))
 else
 some x0
def zx (a0:List UInt8):Option ((List aK)×nK):=
 if(decide ((a0.length:Int) > 16384)) then
 none
 else
 (qp a0).bind fun(y4:Int)=>
 (qF a0 ((((a0.length:Int):Int) - (y4)).toNat+1) [] y4).bind fun x0=>
 (dr ((x0.length:Int)+([(⟨0,[],(a0.length:Int)⟩:aK)].length:Int)) 32).bind fun _=>
 some ((x0++[(⟨0,[],(a0.length:Int)⟩:aK)]),aM)
def dC (a0:List aK) (a1:Int):Option aK:=
 (if(decide (a1 >= 0)) then
 some (decide (a1 < (a0.length:Int)))
 else
 some false:Option (Bool)).bind fun x2=>
 if x2=true then
 (idx a0 a1).bind fun y6=>
 some y6
 else
 if((a0.length:Int)==0) then
 some je
 else
 (idx a0 (ae ((a0.length:Int) - 1))).bind fun y9=>
 some (⟨0,[],y9.fAt⟩:aK)
def jy (a0:List aK) (a1:Int):Option aK:=
 (dC a0 a1).bind fun y1=>
 some y1
def dz (a0:aK) (a1:List UInt8):Option Bool:=
 if(a0.aa==3) then
 some (a0.bV==a1)
 else
 if(a0.aa==4) then
 some (a0.bV==a1)
 else
 some false
def gd (a0:List aK) (a1:Int) (a2:List UInt8):Option Bool:=
 (dC a0 a1).bind fun y1=>
 (dz y1 a2).bind fun y3=>
 some y3
def ma (a0:List aK):Nat->Int->(List (List UInt8))->Option (Ctl (cJ) (Unit))
 | 0,_,_=>none
 | n+1,x0,x1=>
 (jy a0 (ae (x0+1))).bind fun y0=>
 if(y0.aa != 1) then
 none
 else
 if((x1.length:Int)==3) then
 none
 else
 (jy a0 (ae (x0+1))).bind fun y1=>
 (dr ((x1.length:Int)+([y1.bV].length:Int)) 16).bind fun _=>
 (gd a0 (ae ((ae (x0+1))+1)) [62]).bind fun(y2:Bool)=>
 if y2=true then
 some (.stop (⟨zGClass,zGMethod,[],(x1++[y1.bV]),ae ((ae ((ae (x0+1))+1))+1),aM⟩:cJ))
 else
 (gd a0 (ae ((ae (x0+1))+1)) [44]).bind fun(y3:Bool)=>
 if(!y3) then
 none
 else
 ma a0 n (ae ((ae (x0+1))+1)) (x1++[y1.bV])
def qI (a0:List aK) (a1:Int):Option cJ:=
 (ma a0 (a0.length+64) a1 []).bind fun lr0=>Ctl.elim lr0 (fun v=>some v) fun _=>none
def jV (a0:aK):Nat->Int->Option (Ctl (ay) (Unit))
 | 0,_=>none
 | n+1,x0=>
 if(decide (x0 < ([[114,101,112],[112,101,101,114],[],[119,111,114,108,100],[97,110,121],[117,110,105,113,117,101]].length:Int))) then
 ((idx [[114,101,112],[112,101,101,114],[],[119,111,114,108,100],[97,110,121],[117,110,105,113,117,101]] x0).bind fun(y0:List UInt8)=>
 (dz a0 y0).bind fun y1=>
 if y1=true then
 (idx [[114,101,112],[112,101,101,114],[],[119,111,114,108,100],[97,110,121],[117,110,105,113,117,101]] x0).bind fun(y2:List UInt8)=>
 some (!(y2==[]))
 else
 some false:Option (Bool)).bind fun x1=>
 if x1=true then
 some (.stop (⟨ae (x0+1),0⟩:ay))
 else
 jV a0 n (ae (x0+1))
 else
 some (.next ())
def iu (a0:aK):Option ay:=
 (jV a0 (((([[114,101,112],[112,101,101,114],[],[119,111,114,108,100],[97,110,121],[117,110,105,113,117,101]].length:Int):Int) - (0)).toNat+1) 0).bind fun lr0=>
 Ctl.elim lr0 (fun v=>some v) fun _=>
 some aq
def pZ (a0:List UInt8) (a1:List (List UInt8)):Nat->Int->Option (Ctl (Int) (Unit))
 | 0,_=>none
 | n+1,x7=>
 if(decide (x7 < (a1.length:Int))) then
 (idx a1 x7).bind fun y0=>
 if(y0==a0) then
 some (.stop (ae (x7+1)))
 else
 pZ a0 a1 n (ae (x7+1))
 else
 some (.next ())
def xY (a0:List UInt8) (a1:List (List UInt8)):Option Int:=
 (pZ a0 a1 ((a1.length - 0:Int).toNat+1) 0).bind fun lr0=>
 Ctl.elim lr0 (fun v=>some v) fun _=>
 some 0
def kU (a0:aK) (a1:List (List UInt8)):Option ay:=
 (xY a0.bV a1).bind fun(y3:Int)=>
 if(y3==0) then
 some aq
 else
 some (⟨3,y3⟩:ay)
def nb (a0:List aK) (a2:List (List UInt8)):Nat->Int->(List ay)->Option (Ctl (dc) (Unit))
 | 0,_,_=>none
 | n+1,x0,x1=>
 (dC a0 (ae (x0+1))).bind fun y0=>
 (iu y0).bind fun y1=>
 (if(y0.aa==1) then
 (kU y0 a2).bind fun y2=>
 if(y2.aa==0) then
 none
 else
 some y2
 else
 some y1:Option (ay)).bind fun x2=>
 (if(x2.aa==0) then
 some true
 else
 some (x2.aa==6):Option (Bool)).bind fun x3=>
 if x3=true then
 none
 else
 if((x1.length:Int)==3) then
 none
 else
 (dr ((x1.length:Int)+([x2].length:Int)) 16).bind fun _=>
 (dC a0 (ae ((ae (x0+1))+1))).bind fun y3=>
 (dz y3 [62]).bind fun(y4:Bool)=>
 if y4=true then
 some (.stop (⟨(x1++[x2]),dY,pM,ae ((ae ((ae (x0+1))+1))+1),aM⟩:dc))
 else
 (dC a0 (ae ((ae (x0+1))+1))).bind fun y5=>
 (dz y5 [44]).bind fun(y6:Bool)=>
 if(!y6) then
 none
 else
 nb a0 a2 n (ae ((ae (x0+1))+1)) (x1++[x2])
def pr (a0:List aK) (a1:Int) (a2:List (List UInt8)):Option dc:=
 (dC a0 a1).bind fun y5=>
 (dz y5 [60]).bind fun(y7:Bool)=>
 if(!y7) then
 none
 else
 (nb a0 a2 (a0.length+64) a1 []).bind fun lr0=>Ctl.elim lr0 (fun v=>some v) fun _=>none
def oI (y0:dc):Nat->Int->Option (Unit)
 | 0,_=>none
 | n+1,x0=>
 if(decide (x0 < (y0.fL.length:Int))) then
 ((idx y0.fL x0).bind fun y1=>
 if(y1.aa==1) then
 some true
 else
 (idx y0.fL x0).bind fun y2=>
 some (y2.aa==5):Option (Bool)).bind fun x1=>
 if x1=true then
 none
 else
 oI y0 n (ae (x0+1))
 else
 some ()
def sH (a0:List aK) (a1:Int) (a2_0:List UInt8) (a2_1:List (List UInt8)) (a2_2:List UInt8) (a2_3:List ay) (a2_6:Int) (b0:List cN) (b1:List br):Option ((List UInt8)×(List (List UInt8))×(List UInt8)×(List ay)×(List cN)×(List br)×Int×(List UInt8)×Bool×Int×(List UInt8)×Int×Int×Int×Int×Int×Int×Int×Int×Int×(List cN)×(List cN)×(List ah)×Int×(List cN)×(List (List UInt8))×Int×Int×Int):=
 (jy a0 (ae (a1+1))).bind fun y3=>
 if(y3.aa != 1) then
 none
 else
 (jy a0 (ae (a1+1))).bind fun y8=>
 (gd a0 (ae (a1+2)) [60]).bind fun(y0:Bool)=>
 if(!y0) then
 some (a2_0,a2_1,y8.bV,a2_3,b0,b1,a2_6,zGGot_ref09.fM.af,zGGot_ref09.fM.fm,zGGot_ref09.fM.aQ.aa,zGGot_ref09.fM.aQ.bu,zGGot_ref09.fM.aQ.fN,zGGot_ref09.fM.aQ.am.a0.aa,zGGot_ref09.fM.aQ.am.a0.fN,zGGot_ref09.fM.aQ.am.a1.aa,zGGot_ref09.fM.aQ.am.a1.fN,zGGot_ref09.fM.aQ.am.a2.aa,zGGot_ref09.fM.aQ.am.a2.fN,zGGot_ref09.fM.aQ.am.a3.aa,zGGot_ref09.fM.aQ.am.a3.fN,zGGot_ref09.fM.ac,zGGot_ref09.fM.bC,[],zGGot_ref09.fM.fAt,zGGot_ref09.fV,zGGot_ref09.fN,ae (a1+2),zGGot_ref09.fF.gY,zGGot_ref09.fF.fAt)
 else
 (pr a0 (ae (a1+2)) a2_1).bind fun y1=>
 if(y1.fF.gY != 0) then
 none
 else
 (oI y1 ((y1.fL.length - 0:Int).toNat+1) 0).bind fun _=>
 some (a2_0,a2_1,y8.bV,y1.fL,b0,b1,a2_6,zGGot_ref09.fM.af,zGGot_ref09.fM.fm,zGGot_ref09.fM.aQ.aa,zGGot_ref09.fM.aQ.bu,zGGot_ref09.fM.aQ.fN,zGGot_ref09.fM.aQ.am.a0.aa,zGGot_ref09.fM.aQ.am.a0.fN,zGGot_ref09.fM.aQ.am.a1.aa,zGGot_ref09.fM.aQ.am.a1.fN,zGGot_ref09.fM.aQ.am.a2.aa,zGGot_ref09.fM.aQ.am.a2.fN,zGGot_ref09.fM.aQ.am.a3.aa,zGGot_ref09.fM.aQ.am.a3.fN,zGGot_ref09.fM.ac,zGGot_ref09.fM.bC,[],zGGot_ref09.fM.fAt,zGGot_ref09.fV,zGGot_ref09.fN,y1.aU,zGGot_ref09.fF.gY,zGGot_ref09.fF.fAt)
def nV (a0:be) (x0:Int):Nat->Int->Int->Option (Int)
 | 0,_,_=>none
 | n+1,x1,x2=>
 (idx a0.ak x0).bind fun y0=>
 if(decide (x2 < (y0.au.length:Int))) then
 (idx a0.ak x0).bind fun y1=>
 (idx y1.au x2).bind fun y2=>
 (fq (cc y2+1) y2).bind fun(y3:Int)=>
 nV a0 x0 n (ae (x1+y3)) (ae (x2+1))
 else
 some x1
def oe (a0:be):Nat->Int->Int->Option (Int)
 | 0,_,_=>none
 | n+1,x0,x1=>
 if(decide (x1 < (a0.ak.length:Int))) then
 (nV a0 x1 (Option.getD ((idx a0.ak x1).bind fun y0=>some ((y0.au.length - 0:Int).toNat+1)) 1) x0 0).bind fun x2=>
 oe a0 n x2 (ae (x1+1))
 else
 some x0
def jU (a0:be):Option Int:=
 (oe a0 ((a0.ak.length - 0:Int).toNat+1) 0 0).bind fun x0=>
 some x0
def oD (a0:List aK) (a1:Int) (a2:Bool):Option Bool:=
 (dC a0 (ae (a1+1))).bind fun y5=>
 (dC a0 (ae (a1+2))).bind fun y7=>
 if(y5.aa==1) then
 if(!a2) then
 some true
 else
 if(y7.aa==1) then
 some true
 else
 (dz y7 [60]).bind fun(y0:Bool)=>
 if y0=true then
 some true
 else
 (dz y7 [116,104,105,115]).bind fun(y1:Bool)=>
 if y1=true then
 some true
 else
 (dz y7 [110,117,108,108]).bind fun(y2:Bool)=>
 some y2
 else
 some false
def vf (y0:dc):Nat->bZ->Int->Option (bZ)
 | 0,_,_=>none
 | n+1,x0,x1=>
 if(decide (x1 < (y0.fL.length:Int))) then
 (idx y0.fL x1).bind fun y1=>
 (idx (x0.am).l (ae (x1+1))).bind fun _=>
 vf y0 n ({ x0 with am:=(A4.set x0.am (ae (x1+1):Int).toNat y1) }:bZ) (ae (x1+1))
 else
 some x0
def lc (a0:List aK) (a1:Int) (a2:List (List UInt8)) (a3:Bool):Option dc:=
 (dC a0 a1).bind fun y3=>
 (dz y3 [118,111,105,100]).bind fun(y7:Bool)=>
 if y7=true then
 some (⟨[],dY,pM,ae (a1+1),aM⟩:dc)
 else
 (dz y3 [105,110,116]).bind fun(y0:Bool)=>
 if y0=true then
 some (⟨[],(⟨1,[],0,(⟨aq,aq,aq,aq⟩:A4 ay)⟩:bZ),pM,ae (a1+1),aM⟩:dc)
 else
 ((iu y3).bind fun y1=>
 if(y1.aa != 0) then
 (iu y3).bind fun y2=>
 some (ae (a1+1),({ ({ (⟨2,[],0,(⟨aq,aq,aq,aq⟩:A4 ay)⟩:bZ) with am:=({ (⟨2,[],0,(⟨aq,aq,aq,aq⟩:A4 ay)⟩:bZ).am with a0:=(⟨7,0⟩:ay) }:A4 ay) }:bZ) with am:=({ ({ (⟨2,[],0,(⟨aq,aq,aq,aq⟩:A4 ay)⟩:bZ) with am:=({ (⟨2,[],0,(⟨aq,aq,aq,aq⟩:A4 ay)⟩:bZ).am with a0:=(⟨7,0⟩:ay) }:A4 ay) }:bZ).am with a0:=y2 }:A4 ay) }:bZ))
 else
 (if(y3.aa==1) then
 (oD a0 a1 a3).bind fun y4=>
 some y4
 else
 some false:Option (Bool)).bind fun x0=>
 if x0=true then
 (kU y3 a2).bind fun y5=>
 if((({ ({ (⟨2,[],0,(⟨aq,aq,aq,aq⟩:A4 ay)⟩:bZ) with am:=({ (⟨2,[],0,(⟨aq,aq,aq,aq⟩:A4 ay)⟩:bZ).am with a0:=(⟨7,0⟩:ay) }:A4 ay) }:bZ) with am:=({ ({ (⟨2,[],0,(⟨aq,aq,aq,aq⟩:A4 ay)⟩:bZ) with am:=({ (⟨2,[],0,(⟨aq,aq,aq,aq⟩:A4 ay)⟩:bZ).am with a0:=(⟨7,0⟩:ay) }:A4 ay) }:bZ).am with a0:=y5 }:A4 ay) }:bZ).am.a0.aa)==0) then
 none
 else
 some (ae (a1+1),({ ({ (⟨2,[],0,(⟨aq,aq,aq,aq⟩:A4 ay)⟩:bZ) with am:=({ (⟨2,[],0,(⟨aq,aq,aq,aq⟩:A4 ay)⟩:bZ).am with a0:=(⟨7,0⟩:ay) }:A4 ay) }:bZ) with am:=({ ({ (⟨2,[],0,(⟨aq,aq,aq,aq⟩:A4 ay)⟩:bZ) with am:=({ (⟨2,[],0,(⟨aq,aq,aq,aq⟩:A4 ay)⟩:bZ).am with a0:=(⟨7,0⟩:ay) }:A4 ay) }:bZ).am with a0:=y5 }:A4 ay) }:bZ))
 else
 some (a1,({ (⟨2,[],0,(⟨aq,aq,aq,aq⟩:A4 ay)⟩:bZ) with am:=({ (⟨2,[],0,(⟨aq,aq,aq,aq⟩:A4 ay)⟩:bZ).am with a0:=(⟨7,0⟩:ay) }:A4 ay) }:bZ)):Option (Int×bZ)).bind fun(x1,x2)=>
 (dC a0 x1).bind fun y6=>
 if(y6.aa != 1) then
 none
 else
 (dC a0 (ae (x1+1))).bind fun y8=>
 (dz y8 [60]).bind fun(y9:Bool)=>
 if(!y9) then
 some (⟨[],({ x2 with bu:=y6.bV }:bZ),pM,ae (x1+1),aM⟩:dc)
 else
 (pr a0 (ae (x1+1)) a2).bind fun y10=>
 if(y10.fF.gY != 0) then
 none
 else
 (vf y10 ((y10.fL.length - 0:Int).toNat+1) ({ ({ x2 with bu:=y6.bV }:bZ) with fN:=(y10.fL.length:Int) }:bZ) 0).bind fun x3=>
 some (⟨[],x3,pM,y10.aU,aM⟩:dc)
def uE (a0:List aK) (a1:Int) (a2:List (List UInt8)):Option dc:=
 (lc a0 a1 a2 true).bind fun y3=>
 if(y3.fF.gY != 0) then
 none
 else
 if(y3.fT.aa==0) then
 none
 else
 (dC a0 y3.aU).bind fun y9=>
 if(y9.aa != 1) then
 none
 else
 (dC a0 a1).bind fun y0=>
 some (⟨[],dY,(⟨y9.bV,y3.fT,y0.fAt⟩:cN),ae (y3.aU+1),aM⟩:dc)
def mU (a0:List aK) (a2:List (List UInt8)):Nat->Int->(List cN)->Option (Ctl (cJ) (Unit))
 | 0,_,_=>none
 | n+1,x0,x1=>
 if((x1.length:Int)==5) then
 none
 else
 (uE a0 x0 a2).bind fun y0=>
 if(y0.fF.gY != 0) then
 none
 else
 (dr ((x1.length:Int)+([y0.fV].length:Int)) 120).bind fun _=>
 (gd a0 y0.aU [41]).bind fun(y1:Bool)=>
 if y1=true then
 some (.stop (⟨zGClass,zGMethod,(x1++[y0.fV]),[],ae (y0.aU+1),aM⟩:cJ))
 else
 (gd a0 y0.aU [44]).bind fun(y2:Bool)=>
 if(!y2) then
 none
 else
 mU a0 a2 n (ae (y0.aU+1)) (x1++[y0.fV])
def rI (a0:List aK) (a1:Int) (a2:List (List UInt8)):Option cJ:=
 (gd a0 (ae (a1+1)) [41]).bind fun(y3:Bool)=>
 if y3=true then
 some (⟨zGClass,zGMethod,[],[],ae ((ae (a1+1))+1),aM⟩:cJ)
 else
 (mU a0 a2 (a0.length+64) (ae (a1+1)) []).bind fun lr0=>Ctl.elim lr0 (fun v=>some v) fun _=>none
def rJ (a0:List aK) (a1:Int):Option Bool:=
 (dC a0 a1).bind fun y3=>
 ((dz y3 [105,110,116]).bind fun(y7:Bool)=>
 if y7=true then
 some true
 else
 (iu y3).bind fun y0=>
 some (y0.aa != 0):Option (Bool)).bind fun x0=>
 if x0=true then
 some true
 else
 if(y3.aa != 1) then
 some false
 else
 (dC a0 (ae (a1+1))).bind fun y1=>
 if(y1.aa==1) then
 some true
 else
 (dz y1 [60]).bind fun(y2:Bool)=>
 some y2
def ky (a0:List aK) (a2:List (List UInt8)):Nat->Int->(List cN)->Option (Int×(List cN))
 | 0,_,_=>none
 | n+1,x0,x1=>
 (rJ a0 x0).bind fun y0=>
 if y0=true then
 if((x1.length:Int)==12) then
 none
 else
 (uE a0 x0 a2).bind fun y1=>
 if(y1.fF.gY != 0) then
 none
 else
 (gd a0 y1.aU [59]).bind fun(y2:Bool)=>
 if(!y2) then
 none
 else
 (dr ((x1.length:Int)+([y1.fV].length:Int)) 120).bind fun _=>
 ky a0 a2 n (ae (y1.aU+1)) (x1++[y1.fV])
 else
 some (x0,x1)
def rC (a0:List aK) (a1:Int) (a2:List (List UInt8)):Option cJ:=
 (ky a0 a2 (a0.length+64) a1 []).bind fun(x0,x1)=>
 some (⟨zGClass,zGMethod,x1,[],x0,aM⟩:cJ)
def eK (a0:List aK) (a1:Int):Option aK:=
 (dC a0 a1).bind fun y1=>
 some y1
def dj (a0:List aK) (a1:Int) (a2:List UInt8):Option Bool:=
 (eK a0 a1).bind fun y1=>
 (dz y1 a2).bind fun y3=>
 some y3
def qy (a0:List aK) (a1:Int):Option Bool:=
 (eK a0 a1).bind fun y1=>
 if(y1.aa==1) then
 some true
 else
 (dj a0 a1 [116,104,105,115]).bind fun(y4:Bool)=>
 some y4
def oO (a0:Int):Option (List (List UInt8)):=
 (idx [[[38,38]],[[60],[61,61]],[[43],[45]],[[42]]] a0).bind fun(y1:List (List UInt8))=>
 some y1
def ff (a0:List aK) (a1:Int) (y3:(List (List UInt8))):Nat->Int->Option (Ctl ((List UInt8)) (Unit))
 | 0,_=>none
 | n+1,x0=>
 if(decide (x0 < (y3.length:Int))) then
 (dC a0 a1).bind fun y0=>
 (idx y3 x0).bind fun y1=>
 (dz y0 y1).bind fun y2=>
 if y2=true then
 (idx y3 x0).bind fun y4=>
 some (.stop y4)
 else
 ff a0 a1 y3 n (ae (x0+1))
 else
 some (.next ())
def nn (a0:List aK) (a1:Int) (a2:Int):Option (List UInt8):=
 (oO a2).bind fun y3=>
 (ff a0 a1 y3 ((y3.length - 0:Int).toNat+1) 0).bind fun lr0=>
 Ctl.elim lr0 (fun v=>some v) fun _=>
 some []
def vW (a0:List UInt8):Nat->Int->Option (Ctl (Int) (Unit))
 | 0,_=>none
 | n+1,x7=>
 if(decide (x7 < ([[43],[45],[42],[60],[61,61],[38,38]].length:Int))) then
 (idx [[43],[45],[42],[60],[61,61],[38,38]] x7).bind fun(y0:List UInt8)=>
 if(y0==a0) then
 some (.stop (ae (6+x7)))
 else
 vW a0 n (ae (x7+1))
 else
 some (.next ())
def xz (a0:List UInt8):Option Int:=
 (vW a0 (((([[43],[45],[42],[60],[61,61],[38,38]].length:Int):Int) - (0)).toNat+1) 0).bind fun lr0=>
 Ctl.elim lr0 (fun v=>some v) fun _=>
 some 0
def ny (a0:ai) (ref06_Deep_rec:ai->Option Int):Nat->Int->Int->Option (Int)
 | 0,_,_=>none
 | n+1,x0,x1=>
 if(decide (x1 < (a0.az.length:Int))) then
 (idx a0.az x1).bind fun y0=>
 (ref06_Deep_rec y0).bind fun(y1:Int)=>
 ny a0 ref06_Deep_rec n (if y1 > x0 then y1 else x0) (ae (x1+1))
 else
 some x0
def ik : Nat->ai->Option Int
 | 0,_=>none
 | n+1,a0=>
 (ny a0 (ik n) ((a0.az.length - 0:Int).toNat+1) 0 0).bind fun x0=>
 some (ae (x0+1))
def oW (a0:List aK) (a1:bv) (a2:List UInt8):Option bv:=
 if(a1.fF.gY != 0) then
 none
 else
 (dC a0 a1.aU).bind fun y6=>
 (dz y6 a2).bind fun y8=>
 if(!y8) then
 none
 else
 some ({ a1 with aU:=ae (a1.aU+1) }:bv)
def jH (a0:List aK) (a1:Int) (a2:Bool):Option bv:=
 (dC a0 a1).bind fun y3=>
 if(y3.aa==1) then
 some (⟨(⟨2,0,y3.bV,[]⟩:ai),ae (a1+1),aM⟩:bv)
 else
 (dz y3 [116,104,105,115]).bind fun(y8:Bool)=>
 if y8=true then
 some (⟨(⟨3,0,[],[]⟩:ai),ae (a1+1),aM⟩:bv)
 else
 (if a2=true then
 (dz y3 [110,117,108,108]).bind fun(y0:Bool)=>
 some y0
 else
 some false:Option (Bool)).bind fun x0=>
 if x0=true then
 some (⟨(⟨4,0,[],[]⟩:ai),ae (a1+1),aM⟩:bv)
 else
 none
def oU (a0:List aK) (a1:Int):Option bv:=
 (dC a0 a1).bind fun y5=>
 (dz y5 [115,97,109,101]).bind fun(y7:Bool)=>
 (oW a0 (⟨cA,ae (a1+1),aM⟩:bv) [40]).bind fun(y0:bv)=>
 if(y0.fF.gY != 0) then
 none
 else
 (jH a0 y0.aU y7).bind fun y1=>
 if(y1.fF.gY != 0) then
 none
 else
 (if y7=true then
 (oW a0 y1 [44]).bind fun(y2:bv)=>
 if(y2.fF.gY != 0) then
 none
 else
 (jH a0 y2.aU true).bind fun y3=>
 if(y3.fF.gY != 0) then
 none
 else
 some (y3,(⟨14,0,[],[y1.fE,y3.fE]⟩:ai))
 else
 some (y1,(⟨13,0,[],[y1.fE]⟩:ai)):Option (bv×ai)).bind fun(x0,x1)=>
 (oW a0 x0 [41]).bind fun(y4:bv)=>
 if((({ y4 with fE:=x1 }:bv).fF.gY) != 0) then
 none
 else
 some ({ y4 with fE:=x1 }:bv)
def eW (a0:List aK) (a2:Int) (a3:Int) (ref06_chain_rec:(List aK)->Int->Int->Int->Option bv):Nat->bv->Option (Ctl (bv) (bv))
 | 0,_=>none
 | n+1,x0=>
 (if(x0.fF.gY==0) then
 (nn a0 x0.aU a2).bind fun y0=>
 some (!(y0==[]))
 else
 some false:Option (Bool)).bind fun x1=>
 if x1=true then
 (ref06_chain_rec a0 (ae (x0.aU+1)) (ae (a2+1)) a3).bind fun y1=>
 if(y1.fF.gY != 0) then
 none
 else
 (nn a0 x0.aU a2).bind fun y2=>
 (xz y2).bind fun(y3:Int)=>
 (ik (bL (⟨y3,0,[],[x0.fE,y1.fE]⟩:ai)+1) (⟨y3,0,[],[x0.fE,y1.fE]⟩:ai)).bind fun(y4:Int)=>
 if(decide (y4 > 20)) then
 none
 else
 if(a2==1) then
 some (.stop (⟨(⟨y3,0,[],[x0.fE,y1.fE]⟩:ai),y1.aU,aM⟩:bv))
 else
 eW a0 a2 a3 ref06_chain_rec n (⟨(⟨y3,0,[],[x0.fE,y1.fE]⟩:ai),y1.aU,aM⟩:bv)
 else
 some (.next x0)
mutual
def dq : Nat->(List aK)->Int->Int->Int->Option bv
 | 0,_,_,_,_=>none
 | n+1,a0,a1,a2,a3=>
 if(a2==4) then
 ((iC n) a0 a1 a3).bind fun y2=>
 some y2
 else
 ((dq n) a0 a1 (ae (a2+1)) a3).bind fun y6=>
 (eW a0 a2 a3 (dq n) (a0.length+64) y6).bind fun lr0=>
 Ctl.elim lr0 (fun v=>some v) fun x0=>
 some x0
def iC : Nat->(List aK)->Int->Int->Option bv
 | 0,_,_,_=>none
 | n+1,a0,a1,a2=>
 (dC a0 a1).bind fun y3=>
 ((dz y3 [40]).bind fun(y7:Bool)=>
 if y7=true then
 some (a2==20)
 else
 (dz y3 [33]).bind fun(y0:Bool)=>
 if y0=true then
 some (a2==20)
 else
 some false:Option (Bool)).bind fun x0=>
 if x0=true then
 none
 else
 (dz y3 [40]).bind fun(y1:Bool)=>
 if y1=true then
 ((dq n) a0 (ae (a1+1)) 0 (ae (a2+1))).bind fun y2=>
 (oW a0 y2 [41]).bind fun(y4:bv)=>
 some y4
 else
 (dz y3 [33]).bind fun(y5:Bool)=>
 if y5=true then
 ((iC n) a0 (ae (a1+1)) (ae (a2+1))).bind fun y6=>
 if(y6.fF.gY != 0) then
 none
 else
 (ik (bL (({ y6 with fE:=({ aa:=12,cj:=0,af:=[],az:=[y6.fE] }:ai) }:bv).fE)+1) (({ y6 with fE:=({ aa:=12,cj:=0,af:=[],az:=[y6.fE] }:ai) }:bv).fE)).bind fun(y8:Int)=>
 if(decide (y8 > 20)) then
 none
 else
 some ({ y6 with fE:=({ aa:=12,cj:=0,af:=[],az:=[y6.fE] }:ai) }:bv)
 else
 ((dz y3 [110,105,108]).bind fun(y9:Bool)=>
 if y9=true then
 some true
 else
 (dz y3 [115,97,109,101]).bind fun(y11:Bool)=>
 some y11:Option (Bool)).bind fun x1=>
 if x1=true then
 (oU a0 a1).bind fun y12=>
 some y12
 else
 (dz y3 [105,110,112,117,116]).bind fun(y13:Bool)=>
 if y13=true then
 some (⟨(⟨5,0,[],[]⟩:ai),ae (a1+1),aM⟩:bv)
 else
 (ph y3.bV).bind fun y14=>
 (if(y3.aa==2) then
 some y14.2
 else
 some false:Option (Bool)).bind fun x2=>
 if x2=true then
 some (⟨(⟨1,y14.1,[],[]⟩:ai),ae (a1+1),aM⟩:bv)
 else
 (jH a0 a1 true).bind fun y15=>
 some y15
end

def kI (a0:List aK) (a1:Int):Option bv:=
 (dq 200 a0 a1 0 0).bind fun y3=>
 if(y3.fF.gY != 0) then
 none
 else
 some y3
def pO (a0:List aK):Nat->Int->(List ai)->Option (Ctl (ct) (Unit))
 | 0,_,_=>none
 | n+1,x0,x1=>
 if((x1.length:Int)==5) then
 none
 else
 (kI a0 x0).bind fun y0=>
 if(y0.fF.gY != 0) then
 none
 else
 (dr ((x1.length:Int)+([y0.fE].length:Int)) 56).bind fun _=>
 (dj a0 y0.aU [41]).bind fun(y1:Bool)=>
 if y1=true then
 some (.stop (⟨iW,[],(x1++[y0.fE]),ae (y0.aU+1),aM⟩:ct))
 else
 (dj a0 y0.aU [44]).bind fun(y2:Bool)=>
 if(!y2) then
 none
 else
 pO a0 n (ae (y0.aU+1)) (x1++[y0.fE])
def uK (a0:List aK) (a1:Int):Option ct:=
 (dj a0 (ae (a1+1)) [41]).bind fun(y3:Bool)=>
 if y3=true then
 some (⟨iW,[],[],ae ((ae (a1+1))+1),aM⟩:ct)
 else
 (pO a0 (a0.length+64) (ae (a1+1)) []).bind fun lr0=>Ctl.elim lr0 (fun v=>some v) fun _=>none
def ja (a0:List aK) (a1:Int) (a2:ah):Option ct:=
 (dj a0 a1 [59]).bind fun(y3:Bool)=>
 if(!y3) then
 none
 else
 some (⟨a2,[],[],ae (a1+1),aM⟩:ct)
def iG (a0:List aK) (a1:Int) (a2:ah):Option ct:=
 (eK a0 a1).bind fun y3=>
 (eK a0 (ae (a1+2))).bind fun y7=>
 if(y7.aa != 1) then
 none
 else
 (eK a0 (ae (a1+2))).bind fun y0=>
 (dj a0 (ae (a1+3)) [40]).bind fun(y1:Bool)=>
 if y1=true then
 (uK a0 (ae (a1+3))).bind fun y2=>
 if(y2.fF.gY != 0) then
 none
 else
 (ja a0 y2.aU ({ ({ ({ ({ a2 with fY:=y3.bV }:ah) with af:=y0.bV }:ah) with aa:=4 }:ah) with bN:=y2.fA }:ah)).bind fun y4=>
 some y4
 else
 if(!((({ ({ a2 with fY:=y3.bV }:ah) with af:=y0.bV }:ah).fX)==[])) then
 (ja a0 (ae (a1+3)) ({ ({ ({ a2 with fY:=y3.bV }:ah) with af:=y0.bV }:ah) with aa:=2 }:ah)).bind fun y5=>
 some y5
 else
 (dj a0 (ae (a1+3)) [61]).bind fun(y6:Bool)=>
 if(!y6) then
 none
 else
 (kI a0 (ae (a1+4))).bind fun y8=>
 if(y8.fF.gY != 0) then
 none
 else
 (ja a0 y8.aU ({ ({ ({ ({ a2 with fY:=y3.bV }:ah) with af:=y0.bV }:ah) with aa:=3 }:ah) with fE:=y8.fE }:ah)).bind fun y9=>
 some y9
def mw (a0:List aK) (a1:Int) (a2:ah) (a3:List (List UInt8)):Option ct:=
 ((dj a0 a1 [99,97,115,116]).bind fun(y3:Bool)=>
 if y3=true then
 some ({ ({ a2 with aa:=5 }:ah) with aa:=6 }:ah)
 else
 some ({ a2 with aa:=5 }:ah):Option (ah)).bind fun x6=>
 (lc a0 (ae (a1+1)) a3 (x6.aa==6)).bind fun y0=>
 if(y0.fF.gY != 0) then
 none
 else
 if(y0.fT.aa != 2) then
 none
 else
 if((({ x6 with av:=y0.fT }:ah).aa)==5) then
 (ja a0 y0.aU ({ x6 with av:=y0.fT }:ah)).bind fun y1=>
 some y1
 else
 (eK a0 y0.aU).bind fun y2=>
 (if(y2.aa==1) then
 some ({ ({ x6 with av:=y0.fT }:ah) with fE:=({ aa:=2,cj:=0,af:=y2.bV,az:=[] }:ai) }:ah)
 else
 (dj a0 y0.aU [116,104,105,115]).bind fun(y4:Bool)=>
 if y4=true then
 some ({ ({ x6 with av:=y0.fT }:ah) with fE:=({ aa:=3,cj:=0,af:=[],az:=[] }:ai) }:ah)
 else
 (dj a0 y0.aU [110,117,108,108]).bind fun(y5:Bool)=>
 if y5=true then
 some ({ ({ x6 with av:=y0.fT }:ah) with fE:=({ aa:=4,cj:=0,af:=[],az:=[] }:ai) }:ah)
 else
 none:Option (ah)).bind fun x0=>
 (ja a0 (ae (y0.aU+1)) x0).bind fun y6=>
 some y6
def jE (a0:List aK) (a1:Int) (a2:ah) (a3:List (List UInt8)):Option ct:=
 ((dj a0 a1 [110,101,119]).bind fun(y3:Bool)=>
 if y3=true then
 some true
 else
 (dj a0 a1 [99,97,115,116]).bind fun(y6:Bool)=>
 some y6:Option (Bool)).bind fun x8=>
 if x8=true then
 (mw a0 a1 a2 a3).bind fun y0=>
 some y0
 else
 (dj a0 a1 [109,111,118,101]).bind fun(y1:Bool)=>
 if y1=true then
 (eK a0 (ae (a1+1))).bind fun y2=>
 if(y2.aa != 1) then
 none
 else
 (eK a0 (ae (a1+1))).bind fun y4=>
 (ja a0 (ae (a1+2)) ({ ({ a2 with aa:=7 }:ah) with fY:=y4.bV }:ah)).bind fun y5=>
 some y5
 else
 ((qy a0 a1).bind fun y7=>
 if y7=true then
 (dj a0 (ae (a1+1)) [46]).bind fun(y8:Bool)=>
 some y8
 else
 some false:Option (Bool)).bind fun x0=>
 if x0=true then
 (iG a0 a1 a2).bind fun y9=>
 some y9
 else
 (kI a0 a1).bind fun y10=>
 if(y10.fF.gY != 0) then
 none
 else
 (ja a0 y10.aU ({ ({ a2 with aa:=1 }:ah) with fE:=y10.fE }:ah)).bind fun y11=>
 some y11
def mr (a0:List aK) (a2:List (List UInt8)) (a3:Int) (ref08_Parse_rec:(List aK)->Int->(List (List UInt8))->Int->Option ct):Nat->Int->(List ah)->Option (Int×(List ah))
 | 0,_,_=>none
 | n+1,x0,x1=>
 (dj a0 x0 [125]).bind fun(y0:Bool)=>
 if(!y0) then
 (ref08_Parse_rec a0 x0 a2 a3).bind fun y1=>
 if(y1.fF.gY != 0) then
 none
 else
 (dr ((x1.length:Int)+([y1.fS].length:Int)) 288).bind fun _=>
 mr a0 a2 a3 ref08_Parse_rec n y1.aU (x1++[y1.fS])
 else
 some (x0,x1)
mutual
def dP : Nat->(List aK)->Int->(List (List UInt8))->Int->Option ct
 | 0,_,_,_,_=>none
 | n+1,a0,a1,a2,a3=>
 (eK a0 a1).bind fun y3=>
 if(decide (a3 >= 20)) then
 none
 else
 ((qy a0 a1).bind fun y8=>
 if y8=true then
 (dj a0 (ae (a1+1)) [46]).bind fun(y0:Bool)=>
 some y0
 else
 some false:Option (Bool)).bind fun x0=>
 if x0=true then
 (iG a0 a1 (⟨0,[],[],[],dY,cA,[],[],[],y3.fAt⟩:ah)).bind fun y1=>
 some y1
 else
 (eK a0 a1).bind fun y2=>
 if(y2.aa==1) then
 (dj a0 (ae (a1+1)) [61]).bind fun(y4:Bool)=>
 if(!y4) then
 none
 else
 (eK a0 a1).bind fun y5=>
 (jE a0 (ae (a1+2)) ({ ({ aa:=0,fX:=[],fY:=[],af:=[],av:=dY,fE:=cA,bN:=[],au:=[],aZ:=[],fAt:=y3.fAt }:ah) with fX:=y5.bV }:ah) a2).bind fun y6=>
 some y6
 else
 (dj a0 a1 [116,104,105,115]).bind fun(y7:Bool)=>
 if y7=true then
 none
 else
 (dj a0 a1 [100,101,108,101,116,101]).bind fun(y9:Bool)=>
 if y9=true then
 (eK a0 (ae (a1+1))).bind fun y10=>
 if(y10.aa != 1) then
 none
 else
 (eK a0 (ae (a1+1))).bind fun y12=>
 (ja a0 (ae (a1+2)) ({ ({ ({ aa:=0,fX:=[],fY:=[],af:=[],av:=dY,fE:=cA,bN:=[],au:=[],aZ:=[],fAt:=y3.fAt }:ah) with aa:=8 }:ah) with fY:=y12.bV }:ah)).bind fun y13=>
 some y13
 else
 ((dj a0 a1 [105,102]).bind fun(y14:Bool)=>
 if y14=true then
 some true
 else
 (dj a0 a1 [119,104,105,108,101]).bind fun(y15:Bool)=>
 some y15:Option (Bool)).bind fun x1=>
 if x1=true then
 ((mQ n) a0 a1 (⟨0,[],[],[],dY,cA,[],[],[],y3.fAt⟩:ah) a2 (if 0 > a3 then 0 else a3)).bind fun y16=>
 some y16
 else
 (dj a0 a1 [114,101,116,117,114,110]).bind fun(y18:Bool)=>
 if(!y18) then
 none
 else
 (dj a0 (ae (a1+1)) [59]).bind fun(y19:Bool)=>
 if y19=true then
 some ({ fS:=({ ({ aa:=0,fX:=[],fY:=[],af:=[],av:=dY,fE:=cA,bN:=[],au:=[],aZ:=[],fAt:=y3.fAt }:ah) with aa:=11 }:ah),fL:=[],fA:=[],aU:=ae (a1+2),fF:=aM }:ct)
 else
 (kI a0 (ae (a1+1))).bind fun y20=>
 if(y20.fF.gY != 0) then
 none
 else
 (ja a0 y20.aU ({ ({ ({ aa:=0,fX:=[],fY:=[],af:=[],av:=dY,fE:=cA,bN:=[],au:=[],aZ:=[],fAt:=y3.fAt }:ah) with aa:=11 }:ah) with fE:=y20.fE }:ah)).bind fun y22=>
 some y22
def mQ : Nat->(List aK)->Int->ah->(List (List UInt8))->Int->Option ct
 | 0,_,_,_,_,_=>none
 | n+1,a0,a1,a2,a3,a4=>
 ((dj a0 a1 [119,104,105,108,101]).bind fun(y3:Bool)=>
 if y3=true then
 some ({ ({ a2 with aa:=9 }:ah) with aa:=10 }:ah)
 else
 some ({ a2 with aa:=9 }:ah):Option (ah)).bind fun x6=>
 (dj a0 (ae (a1+1)) [40]).bind fun(y0:Bool)=>
 if(!y0) then
 none
 else
 (kI a0 (ae (a1+2))).bind fun y1=>
 if(y1.fF.gY != 0) then
 none
 else
 (dj a0 y1.aU [41]).bind fun(y2:Bool)=>
 if(!y2) then
 none
 else
 ((jM n) a0 (ae (y1.aU+1)) a3 (ae (a4+1))).bind fun y4=>
 if(y4.fF.gY != 0) then
 none
 else
 (if((({ ({ x6 with fE:=y1.fE }:ah) with au:=y4.fL }:ah).aa)==9) then
 (dj a0 y4.aU [101,108,115,101]).bind fun(y5:Bool)=>
 some y5
 else
 some false:Option (Bool)).bind fun x0=>
 if x0=true then
 ((jM n) a0 (ae (y4.aU+1)) a3 (ae (a4+1))).bind fun y6=>
 if(y6.fF.gY != 0) then
 none
 else
 some ({ fS:=({ ({ ({ x6 with fE:=y1.fE }:ah) with au:=y4.fL }:ah) with aZ:=y6.fL }:ah),fL:=[],fA:=[],aU:=y6.aU,fF:=aM }:ct)
 else
 some ({ fS:=({ ({ x6 with fE:=y1.fE }:ah) with au:=y4.fL }:ah),fL:=[],fA:=[],aU:=y4.aU,fF:=aM }:ct)
def jM : Nat->(List aK)->Int->(List (List UInt8))->Int->Option ct
 | 0,_,_,_,_=>none
 | n+1,a0,a1,a2,a3=>
 (dj a0 a1 [123]).bind fun(y3:Bool)=>
 if(!y3) then
 none
 else
 (mr a0 a2 a3 (dP n) (a0.length+64) (ae (a1+1)) []).bind fun(x0,x1)=>
 some (⟨iW,x1,[],ae (x0+1),aM⟩:ct)
end


def kz (a0:List aK) (a2:List (List UInt8)):Nat->Int->Int->(List ah)->Option (Int×(List ah))
 | 0,_,_,_=>none
 | n+1,x0,x1,x2=>
 (gd a0 x0 [125]).bind fun(y0:Bool)=>
 if(!y0) then
 (dP 80 a0 x0 a2 0).bind fun y1=>
 if(y1.fF.gY != 0) then
 none
 else
 (fq (cc y1.fS+1) y1.fS).bind fun(y2:Int)=>
 if(decide ((ae (x1+y2)) > 400)) then
 none
 else
 (dr ((x2.length:Int)+([y1.fS].length:Int)) 288).bind fun _=>
 kz a0 a2 n y1.aU (ae (x1+y2)) (x2++[y1.fS])
 else
 some (x0,x2)
def rz (a0:List aK) (a1:Int) (a2:List (List UInt8)) (a3_0:List UInt8) (a3_1:Bool) (a3_2:Int) (a3_3:List UInt8) (a3_4:Int) (a3_5:Int) (a3_6:Int) (a3_7:Int) (a3_8:Int) (a3_9:Int) (a3_10:Int) (a3_11:Int) (a3_12:Int) (a3_13:List cN) (a3_14:List cN) (a3_16:Int) (a4:Int) (b0:List ah):Option cJ:=
 (rI a0 a1 a2).bind fun y3=>
 if(y3.fF.gY != 0) then
 none
 else
 (gd a0 y3.aU [123]).bind fun(y8:Bool)=>
 if(!y8) then
 none
 else
 (rC a0 (ae (y3.aU+1)) a2).bind fun y0=>
 if(y0.fF.gY != 0) then
 none
 else
 (kz a0 a2 (a0.length+64) y0.aU a4 b0).bind fun(x0,x1)=>
 some (⟨zGClass,(⟨a3_0,a3_1,(⟨a3_2,a3_3,a3_4,(⟨(⟨a3_5,a3_6⟩:ay),(⟨a3_7,a3_8⟩:ay),(⟨a3_9,a3_10⟩:ay),(⟨a3_11,a3_12⟩:ay)⟩:A4 ay)⟩:bZ),y3.fV,y0.fV,x1,a3_16⟩:br),[],[],ae (x0+1),aM⟩:cJ)
def mB (a0:List aK) (a1:Int) (a2_0:List UInt8) (a2_1:List (List UInt8)) (a2_2:List UInt8) (a2_3:List ay) (a2_6:Int) (a3:Int) (b0:List cN) (b1:List br):Option ((List UInt8)×(List (List UInt8))×(List UInt8)×(List ay)×(List cN)×(List br)×Int×(List UInt8)×Bool×Int×(List UInt8)×Int×Int×Int×Int×Int×Int×Int×Int×Int×(List cN)×(List cN)×(List ah)×Int×(List cN)×(List (List UInt8))×Int×Int×Int):=
 (jy a0 a1).bind fun y3=>
 (gd a0 a1 [112,117,114,101]).bind fun(y7:Bool)=>
 (if y7=true then
 some (ae (a1+1))
 else
 some a1:Option (Int)).bind fun x0=>
 (lc a0 x0 a2_1 true).bind fun y0=>
 if(y0.fF.gY != 0) then
 none
 else
 (jy a0 y0.aU).bind fun y1=>
 if(y1.aa != 1) then
 none
 else
 (gd a0 (ae (y0.aU+1)) [40]).bind fun(y2:Bool)=>
 if y2=true then
 if((b1.length:Int)==12) then
 none
 else
 (rz a0 (ae (y0.aU+1)) a2_1 y1.bV y7 y0.fT.aa y0.fT.bu y0.fT.fN y0.fT.am.a0.aa y0.fT.am.a0.fN y0.fT.am.a1.aa y0.fT.am.a1.fN y0.fT.am.a2.aa y0.fT.am.a2.fN y0.fT.am.a3.aa y0.fT.am.a3.fN zGMethod.ac zGMethod.bC y3.fAt a3 []).bind fun y4=>
 if(y4.fF.gY != 0) then
 none
 else
 (dr ((b1.length:Int)+([y4.fM].length:Int)) 200).bind fun _=>
 some (a2_0,a2_1,a2_2,a2_3,b0,(b1++[y4.fM]),a2_6,zGGot_ref09.fM.af,zGGot_ref09.fM.fm,zGGot_ref09.fM.aQ.aa,zGGot_ref09.fM.aQ.bu,zGGot_ref09.fM.aQ.fN,zGGot_ref09.fM.aQ.am.a0.aa,zGGot_ref09.fM.aQ.am.a0.fN,zGGot_ref09.fM.aQ.am.a1.aa,zGGot_ref09.fM.aQ.am.a1.fN,zGGot_ref09.fM.aQ.am.a2.aa,zGGot_ref09.fM.aQ.am.a2.fN,zGGot_ref09.fM.aQ.am.a3.aa,zGGot_ref09.fM.aQ.am.a3.fN,zGGot_ref09.fM.ac,zGGot_ref09.fM.bC,[],zGGot_ref09.fM.fAt,zGGot_ref09.fV,zGGot_ref09.fN,y4.aU,zGGot_ref09.fF.gY,zGGot_ref09.fF.fAt)
 else
 ((gd a0 (ae (y0.aU+1)) [59]).bind fun(y5:Bool)=>
 if(!y5) then
 some true
 else
 if y7=true then
 some true
 else
 some (y0.fT.aa==0):Option (Bool)).bind fun x1=>
 if x1=true then
 none
 else
 if((b0.length:Int)==12) then
 none
 else
 (dr ((b0.length:Int)+([(⟨y1.bV,y0.fT,y3.fAt⟩:cN)].length:Int)) 120).bind fun _=>
 some (a2_0,a2_1,a2_2,a2_3,(b0++[(⟨y1.bV,y0.fT,y3.fAt⟩:cN)]),b1,a2_6,zGGot_ref09.fM.af,zGGot_ref09.fM.fm,zGGot_ref09.fM.aQ.aa,zGGot_ref09.fM.aQ.bu,zGGot_ref09.fM.aQ.fN,zGGot_ref09.fM.aQ.am.a0.aa,zGGot_ref09.fM.aQ.am.a0.fN,zGGot_ref09.fM.aQ.am.a1.aa,zGGot_ref09.fM.aQ.am.a1.fN,zGGot_ref09.fM.aQ.am.a2.aa,zGGot_ref09.fM.aQ.am.a2.fN,zGGot_ref09.fM.aQ.am.a3.aa,zGGot_ref09.fM.aQ.am.a3.fN,zGGot_ref09.fM.ac,zGGot_ref09.fM.bC,[],zGGot_ref09.fM.fAt,zGGot_ref09.fV,zGGot_ref09.fN,ae ((ae (y0.aU+1))+1),zGGot_ref09.fF.gY,zGGot_ref09.fF.fAt)
def iw (a0:List aK) (a2:Int):Nat->Int->(List UInt8)->(List (List UInt8))->(List UInt8)->(List ay)->(List cN)->(List br)->Int->Option (Int×(List UInt8)×(List (List UInt8))×(List UInt8)×(List ay)×(List cN)×(List br)×Int)
 | 0,_,_,_,_,_,_,_,_=>none
 | n+1,x0,x1,x2,x3,x4,x5,x6,x7=>
 (gd a0 x0 [125]).bind fun(y0:Bool)=>
 if(!y0) then
 (jU (⟨x1,x2,x3,x4,x5,x6,x7⟩:be)).bind fun(y1:Int)=>
 (mB a0 x0 x1 x2 x3 x4 x7 (ae (a2+y1)) x5 x6).bind fun y2=>
 if(y2.2.2.2.2.2.2.2.2.2.2.2.2.2.2.2.2.2.2.2.2.2.2.2.2.2.2.2.1 != 0) then
 none
 else
 iw a0 a2 n y2.2.2.2.2.2.2.2.2.2.2.2.2.2.2.2.2.2.2.2.2.2.2.2.2.2.2.1 y2.1 y2.2.1 y2.2.2.1 y2.2.2.2.1 y2.2.2.2.2.1 y2.2.2.2.2.2.1 y2.2.2.2.2.2.2.1
 else
 some (x0,x1,x2,x3,x4,x5,x6,x7)
def sO (a0:List aK) (a1:Int) (a2:Int):Option cJ:=
 (jy a0 a1).bind fun y3=>
 (jy a0 (ae (a1+1))).bind fun y7=>
 if(y7.aa != 1) then
 none
 else
 (jy a0 (ae (a1+1))).bind fun y0=>
 ((gd a0 (ae (a1+2)) [60]).bind fun(y1:Bool)=>
 if y1=true then
 (qI a0 (ae (a1+2))).bind fun y2=>
 if(y2.fF.gY != 0) then
 none
 else
 some (y2.aU,y2.fN)
 else
 some (ae (a1+2),zGClass.ac):Option (Int×(List (List UInt8)))).bind fun(x0,x1)=>
 ((gd a0 x0 [101,120,116,101,110,100,115]).bind fun(y4:Bool)=>
 if y4=true then
 (sH a0 x0 y0.bV x1 zGClass.cb zGClass.bl y3.fAt [] []).bind fun y5=>
 if(y5.2.2.2.2.2.2.2.2.2.2.2.2.2.2.2.2.2.2.2.2.2.2.2.2.2.2.2.1 != 0) then
 none
 else
 some (y5.2.2.2.2.2.2.2.2.2.2.2.2.2.2.2.2.2.2.2.2.2.2.2.2.2.2.1,y5.1,y5.2.1,y5.2.2.1,y5.2.2.2.1,y5.2.2.2.2.1,y5.2.2.2.2.2.1,y5.2.2.2.2.2.2.1)
 else
 some (x0,y0.bV,x1,zGClass.cb,zGClass.bl,[],[],y3.fAt):Option (Int×(List UInt8)×(List (List UInt8))×(List UInt8)×(List ay)×(List cN)×(List br)×Int)).bind fun(x2,x3,x4,x5,x6,x7,x8,x9)=>
 (gd a0 x2 [123]).bind fun(y6:Bool)=>
 if(!y6) then
 none
 else
 (iw a0 a2 (a0.length+64) (ae (x2+1)) x3 x4 x5 x6 x7 x8 x9).bind fun(x10,x11,x12,x13,x14,x15,x16,x17)=>
 some (⟨(⟨x11,x12,x13,x14,x15,x16,x17⟩:be),zGMethod,[],[],ae (x10+1),aM⟩:cJ)
def qC (y3:(List aK)×nK):Nat->(List be)->Int->Int->Option ((List be))
 | 0,_,_,_=>none
 | n+1,x0,x1,x2=>
 (jy y3.1 x1).bind fun y0=>
 if(y0.aa != 0) then
 (gd y3.1 x1 [99,108,97,115,115]).bind fun(y1:Bool)=>
 if(!y1) then
 none
 else
 if((x0.length:Int)==20) then
 none
 else
 (sO y3.1 x1 x2).bind fun y2=>
 if(y2.fF.gY != 0) then
 none
 else
 (dr ((x0.length:Int)+([y2.fC].length:Int)) 136).bind fun _=>
 (jU y2.fC).bind fun(y4:Int)=>
 qC y3 n (x0++[y2.fC]) y2.aU (ae (x2+y4))
 else
 some x0
def xg (a0:List UInt8):Option ((List be)×nK):=
 (zx a0).bind fun y3=>
 if(y3.2.gY != 0) then
 none
 else
 (qC y3 (a0.length+64) [] 0 0).bind fun x0=>
 some (x0,aM)
def eF (a0:List be) (q1:be->Option Bool):Nat->Int->Option (Ctl (Int) (Unit))
 | 0,_=>none
 | n+1,x0=>
 if(decide (x0 < (a0.length:Int))) then
 (idx a0 x0).bind fun y0=>
 (q1 y0).bind fun y1=>
 if y1=true then
 some (.stop x0)
 else
 eF a0 q1 n (ae (x0+1))
 else
 some (.next ())
def im (a0:List be) (q1:be->Option Bool):Option Int:=
 (eF a0 q1 ((a0.length - 0:Int).toNat+1) 0).bind fun lr0=>
 Ctl.elim lr0 (fun v=>some v) fun _=>
 some (-1)
def eD (a0:List be) (q1:be->Option Bool):Option Bool:=
 (im a0 q1).bind fun(y1:Int)=>
 some (decide (y1 >= 0))
def jk (a0:Int):Option Bool:=
 if(decide ((orI .u8 a0 32) >= 97)) then
 some (decide ((orI .u8 a0 32)<=122))
 else
 some false
def uO (a0:Int):Option Bool:=
 some (decide ((Ak (a0 - 48)) < 10))
def glob_0 : List (List UInt8):=[[99,108,97,115,115],[101,120,116,101,110,100,115],[114,101,112],[112,101,101,114],[119,111,114,108,100],[97,110,121],[117,110,105,113,117,101],[112,117,114,101],[118,111,105,100],[105,110,116],[105,102],[101,108,115,101],[119,104,105,108,101],[114,101,116,117,114,110],[110,101,119],[109,111,118,101],[100,101,108,101,116,101],[116,104,105,115],[110,117,108,108],[105,110,112,117,116],[110,105,108],[115,97,109,101],[99,97,115,116]]
def MP : List PV:=[.str [99,108,97,115,115],.str [101,120,116,101,110,100,115],.str [114,101,112],.str [112,101,101,114],.str [119,111,114,108,100],.str [97,110,121],.str [117,110,105,113,117,101],.str [112,117,114,101],.str [118,111,105,100],.str [105,110,116],.str [105,102],.str [101,108,115,101],.str [119,104,105,108,101],.str [114,101,116,117,114,110],.str [110,101,119],.str [109,111,118,101],.str [100,101,108,101,116,101],.str [116,104,105,115],.str [110,117,108,108],.str [105,110,112,117,116],.str [110,105,108],.str [115,97,109,101],.str [99,97,115,116]]
theorem aaK : MP=(map eS glob_0).flatten:=by kernel_rfl
theorem aaC : (0,MP)∈eg:= .head _
def GJ (a0:List UInt8):Option (List UInt8):=
 some a0
def dU (a0:List (List UInt8)) (q1:(List UInt8)->Option Bool):Nat->Int->Option (Ctl (Int) (Unit))
 | 0,_=>none
 | n+1,x0=>
 if(decide (x0 < (a0.length:Int))) then
 (idx a0 x0).bind fun y0=>
 (q1 y0).bind fun y1=>
 if y1=true then
 some (.stop x0)
 else
 dU a0 q1 n (ae (x0+1))
 else
 some (.next ())
def fK (a0:List (List UInt8)) (q1:(List UInt8)->Option Bool):Option Int:=
 (dU a0 q1 ((a0.length - 0:Int).toNat+1) 0).bind fun lr0=>
 Ctl.elim lr0 (fun v=>some v) fun _=>
 some (-1)
def wO (a0:List UInt8) (c0:List UInt8):Option Bool:=
 some (a0==c0)
def wx (a0:List UInt8):Option Int:=
 (GJ a0).bind fun y1=>
 (fK glob_0 (fun(z3:List UInt8)=>wO z3 y1)).bind fun(y4:Int)=>
 some (ae (y4+1))
def re (a0:List UInt8):Nat->Int->Option (Ctl (Bool) (Unit))
 | 0,_=>none
 | n+1,x0=>
 if(decide (x0 < ((bh a0).length:Int))) then
 (idx (bh a0) x0).bind fun(y0:Int)=>
 ((jk y0).bind fun y1=>
 if(!y1) then
 (uO y0).bind fun y2=>
 some (!y2)
 else
 some false:Option (Bool)).bind fun x1=>
 if x1=true then
 some (.stop false)
 else
 re a0 n (ae (x0+1))
 else
 some (.next ())
def jz (a0:List UInt8):Option Bool:=
 (if(a0==[]) then
 some true
 else
 if(decide ((a0.length:Int) > 20)) then
 some true
 else
 (idx a0 0).bind fun(y3:UInt8)=>
 (jk (y3.toNat:Int)).bind fun y5=>
 some (!y5):Option (Bool)).bind fun x7=>
 if x7=true then
 some false
 else
 (dr (a0.length:Int) 1).bind fun _=>
 (re a0 (((((bh a0).length:Int):Int) - (0)).toNat+1) 0).bind fun lr0=>
 Ctl.elim lr0 (fun v=>some v) fun _=>
 (wx a0).bind fun(y0:Int)=>
 some (y0==0)
def ew (a0:List (List UInt8)) (q1:(List UInt8)->Option Bool):Option Bool:=
 (fK a0 q1).bind fun(y1:Int)=>
 some (decide (y1 >= 0))
def sF (a0:List UInt8):Option Bool:=
 (jz a0).bind fun y1=>
 some (!y1)
def nZ (a0:ay) (a1:Int):Option Bool:=
 Ctl.go (if(a0.aa==3) then
 if(decide (a0.fN > 0)) then
 .stop (some (decide (a0.fN<=a1)))
 else
 .stop (some false)
 else
 if(a0.aa==7) then
 .stop (some (decide (a0.fN >= 0)))
 else
 if(a0.aa==1) then
 .next ()
 else
 if(a0.aa==2) then
 .next ()
 else
 nU (if(a0.aa==4) then
 some (a0.aa==4)
 else
 if(a0.aa==5) then
 some (a0.aa==5)
 else
 some (a0.aa==6):Option (Bool)) fun x8=>
 if x8=true then
 .next ()
 else
 .stop (some false):Ctl (Option Bool) (Unit)) fun _=>
 some (a0.fN==0)
def pw (a0:be):Nat->Int->Option (Ctl (Bool) (Unit))
 | 0,_=>none
 | n+1,x0=>
 if(decide (x0 < (a0.bl.length:Int))) then
 (idx a0.bl x0).bind fun y0=>
 (if(y0.aa==2) then
 some (y0.aa==2)
 else
 if(y0.aa==3) then
 some (y0.aa==3)
 else
 some (y0.aa==4):Option (Bool)).bind fun x1=>
 if x1=true then
 (nZ y0 (a0.ac.length:Int)).bind fun y1=>
 if(!y1) then
 some (.stop false)
 else
 pw a0 n (ae (x0+1))
 else
 some (.stop false)
 else
 some (.next ())
def xi (a0:be):Option Bool:=
 ((jz a0.af).bind fun y3=>
 if(!y3) then
 some true
 else
 if(decide ((a0.ac.length:Int) > 3)) then
 some true
 else
 if(decide ((a0.bl.length:Int) > 3)) then
 some true
 else
 (ew a0.ac (fun(z8:List UInt8)=>sF z8)).bind fun y9=>
 some y9:Option (Bool)).bind fun x0=>
 if x0=true then
 some false
 else
 if(a0.cb==[]) then
 some ((a0.bl.length:Int)==0)
 else
 (pw a0 ((a0.bl.length - 0:Int).toNat+1) 0).bind fun lr0=>
 Ctl.elim lr0 (fun v=>some v) fun _=>
 (jz a0.cb).bind fun y0=>
 some y0
def fy (a0:List cN) (q1:cN->Option Bool):Nat->Int->Option (Ctl (Int) (Unit))
 | 0,_=>none
 | n+1,x0=>
 if(decide (x0 < (a0.length:Int))) then
 (idx a0 x0).bind fun y0=>
 (q1 y0).bind fun y1=>
 if y1=true then
 some (.stop x0)
 else
 fy a0 q1 n (ae (x0+1))
 else
 some (.next ())
def jc (a0:List cN) (q1:cN->Option Bool):Option Int:=
 (fy a0 q1 ((a0.length - 0:Int).toNat+1) 0).bind fun lr0=>
 Ctl.elim lr0 (fun v=>some v) fun _=>
 some (-1)
def fG (a0:List cN) (q1:cN->Option Bool):Option Bool:=
 (jc a0 q1).bind fun(y1:Int)=>
 some (decide (y1 >= 0))
def eH (a0:List ay) (q1:ay->Option Bool):Nat->Int->Option (Ctl (Int) (Unit))
 | 0,_=>none
 | n+1,x0=>
 if(decide (x0 < (a0.length:Int))) then
 (idx a0 x0).bind fun y0=>
 (q1 y0).bind fun y1=>
 if y1=true then
 some (.stop x0)
 else
 eH a0 q1 n (ae (x0+1))
 else
 some (.next ())
def ir (a0:List ay) (q1:ay->Option Bool):Option Int:=
 (eH a0 q1 ((a0.length - 0:Int).toNat+1) 0).bind fun lr0=>
 Ctl.elim lr0 (fun v=>some v) fun _=>
 some (-1)
def eA (a0:List ay) (q1:ay->Option Bool):Option Bool:=
 (ir a0 q1).bind fun(y1:Int)=>
 some (decide (y1 >= 0))
def qV (a0:ay):Option Bool:=
 some (a0.aa==7)
def wL (a0:bZ):Option (List ay):=
 (jK (a0.am).l 0 (ae ((if(if 3 < a0.fN then 3 else a0.fN) > 0 then(if 3 < a0.fN then 3 else a0.fN) else 0)+1))).bind fun y1=>
 some y1
def nf (a1:Int) (y0:(List ay)):Nat->Int->Option (Ctl (Bool) (Unit))
 | 0,_=>none
 | n+1,x0=>
 if(decide (x0 < (y0.length:Int))) then
 (idx y0 x0).bind fun y1=>
 (nZ y1 a1).bind fun y2=>
 if(!y2) then
 some (.stop false)
 else
 nf a1 y0 n (ae (x0+1))
 else
 some (.next ())
def nj (y0:List ay):Nat->Int->Option (Ctl (Bool) (Unit))
 | 0,_=>none
 | n+1,x0=>
 if(decide (x0 < (y0.length:Int))) then
 (idx y0 x0).bind fun y1=>
 if(y1.aa==6) then
 some (.stop false)
 else
 nj y0 n (ae (x0+1))
 else
 some (.next ())
def nu (y0:List ay):Nat->Int->Option (Ctl (Bool) (Unit))
 | 0,_=>none
 | n+1,x0=>
 if(decide (x0 < (y0.length:Int))) then
 (idx y0 x0).bind fun y1=>
 if(!(jx y1 aq)) then
 some (.stop false)
 else
 nu y0 n (ae (x0+1))
 else
 some (.next ())
def oy (a0:bZ) (a1:Int):Option Bool:=
 (if(a0.aa==0) then
 some (a0.aa==0)
 else
 some (a0.aa==1):Option (Bool)).bind fun x2=>
 if x2=true then
 some (jp a0 (⟨a0.aa,[],0,(⟨aq,aq,aq,aq⟩:A4 ay)⟩:bZ))
 else
 if(a0.aa==2) then
 ((jz a0.bu).bind fun y9=>
 if(!y9) then
 some true
 else
 if(decide (a0.fN < 0)) then
 some true
 else
 some (decide (a0.fN > 3)):Option (Bool)).bind fun x0=>
 if x0=true then
 some false
 else
 (wL a0).bind fun y0=>
 (nf a1 y0 ((y0.length - 0:Int).toNat+1) 0).bind fun lr0=>
 Ctl.elim lr0 (fun v=>some v) fun _=>
 (jK y0 1 y0.length).bind fun y1=>
 (nj y1 ((y1.length - 0:Int).toNat+1) 0).bind fun lr1=>
 Ctl.elim lr1 (fun v=>some v) fun _=>
 (jK (a0.am).l (y0.length:Int) (a0.am).l.length).bind fun y2=>
 (nu y2 ((y2.length - 0:Int).toNat+1) 0).bind fun lr2=>
 Ctl.elim lr2 (fun v=>some v) fun _=>
 some true
 else
 some false
def mN (a0:bZ) (a1:Int):Option Bool:=
 (jK (a0.am).l 1 (a0.am).l.length).bind fun y6=>
 (eA y6 (fun(z8:ay)=>qV z8)).bind fun y9=>
 if(!y9) then
 (oy a0 a1).bind fun y0=>
 if y0=true then
 if(a0.am.a0.aa != 7) then
 some true
 else
 some (a0.am.a0.fN==0)
 else
 some false
 else
 some false
def vG (a0:cN) (c0:Int):Option Bool:=
 if(a0.av.aa==0) then
 some true
 else
 (jz a0.af).bind fun y2=>
 if(!y2) then
 some true
 else
 (mN a0.av c0).bind fun y5=>
 some (!y5)
def np (a0:List cN) (a1:Int) (a2:Int):Option Bool:=
 if(decide ((a0.length:Int)<=a1)) then
 (fG a0 (fun(z2:cN)=>vG z2 a2)).bind fun y3=>
 some (!y3)
 else
 some false
def et (a0:List br) (q1:br->Option Bool):Nat->Int->Option (Ctl (Int) (Unit))
 | 0,_=>none
 | n+1,x0=>
 if(decide (x0 < (a0.length:Int))) then
 (idx a0 x0).bind fun y0=>
 (q1 y0).bind fun y1=>
 if y1=true then
 some (.stop x0)
 else
 et a0 q1 n (ae (x0+1))
 else
 some (.next ())
def ig (a0:List br) (q1:br->Option Bool):Option Int:=
 (et a0 q1 ((a0.length - 0:Int).toNat+1) 0).bind fun lr0=>
 Ctl.elim lr0 (fun v=>some v) fun _=>
 some (-1)
def dT (a0:List br) (q1:br->Option Bool):Option Bool:=
 (ig a0 q1).bind fun(y1:Int)=>
 some (decide (y1 >= 0))
def rk (a0:Int):Option Int:=
 if(a0==1) then
 some 33
 else
 if(a0==2) then
 some 15
 else
 if(a0==3) then
 some 46
 else
 if(a0==4) then
 some 591
 else
 if(a0==5) then
 some 17
 else
 if(a0==6) then
 some 49
 else
 if(a0==7) then
 some 3
 else
 if(a0==8) then
 some 2
 else
 if(a0==9) then
 some 416
 else
 if(a0==10) then
 some 160
 else
 if(a0==11) then
 some 32
 else
 some 0
def uH (a0:ah) (a1:Int):Option Bool:=
 Ctl.go (nU (if((yC .i64 a1 1)==0) then
 some true
 else
 if((yC .i64 a1 512) != 0) then
 some (a0.fX==[])
 else
 some false:Option (Bool)) fun x3=>
 if x3=true then
 if(!(a0.fX==[])) then
 .stop (some false)
 else
 .next ()
 else
 nU (jz a0.fX) fun(y0:Bool)=>
 if(!y0) then
 .stop (some false)
 else
 .next ():Ctl (Option Bool) (Unit)) fun _=>
 Ctl.go (if((yC .i64 a1 2)==0) then
 if(!(a0.fY==[])) then
 .stop (some false)
 else
 .next ()
 else
 nU ((jz a0.fY).bind fun y1=>
 if(!y1) then
 if((yC .i64 a1 4)==0) then
 some true
 else
 some (!(a0.fY==[116,104,105,115]))
 else
 some false:Option (Bool)) fun x0=>
 if x0=true then
 .stop (some false)
 else
 .next ():Ctl (Option Bool) (Unit)) fun _=>
 if((yC .i64 a1 8)==0) then
 some (a0.af==[])
 else
 (jz a0.af).bind fun y2=>
 some y2
def gQ (a0:List ai) (a1:List ai) (q2:ai->ai->Option Bool):Nat->Int->Option (Ctl (Bool) (Unit))
 | 0,_=>none
 | n+1,x0=>
 if(decide (x0 < (a0.length:Int))) then
 (idx a0 x0).bind fun y0=>
 (idx a1 x0).bind fun y1=>
 (q2 y0 y1).bind fun y2=>
 if(!y2) then
 some (.stop false)
 else
 gQ a0 a1 q2 n (ae (x0+1))
 else
 some (.next ())
def iO (a0:List ai) (a1:List ai) (q2:ai->ai->Option Bool):Option Bool:=
 if((a0.length:Int) != (a1.length:Int)) then
 some false
 else
 (gQ a0 a1 q2 ((a0.length - 0:Int).toNat+1) 0).bind fun lr0=>
 Ctl.elim lr0 (fun v=>some v) fun _=>
 some true
def qH : Nat->ai->ai->Option Bool
 | 0,_,_=>none
 | n+1,a0,a1=>
 if(a0.aa==a1.aa) then
 if(a0.cj==a1.cj) then
 if(a0.af==a1.af) then
 (iO a0.az a1.az (fun(z4:ai) (z5:ai)=>(qH n) z4 z5)).bind fun y6=>
 some y6
 else
 some false
 else
 some false
 else
 some false
def uC (a0:ai):Option Bool:=
 (qH (bL a0+bL cA+1) a0 cA).bind fun y1=>
 some y1
def dv (a0:List ai) (q1:ai->Option Bool):Nat->Int->Option (Ctl (Int) (Unit))
 | 0,_=>none
 | n+1,x0=>
 if(decide (x0 < (a0.length:Int))) then
 (idx a0 x0).bind fun y0=>
 (q1 y0).bind fun y1=>
 if y1=true then
 some (.stop x0)
 else
 dv a0 q1 n (ae (x0+1))
 else
 some (.next ())
def gl (a0:List ai) (q1:ai->Option Bool):Option Int:=
 (dv a0 q1 ((a0.length - 0:Int).toNat+1) 0).bind fun lr0=>
 Ctl.elim lr0 (fun v=>some v) fun _=>
 some (-1)
def cw (a0:List ai) (q1:ai->Option Bool):Option Bool:=
 (gl a0 q1).bind fun(y1:Int)=>
 some (decide (y1 >= 0))
mutual
def lZ : Nat->ai->Int->Option Bool
 | 0,_,_=>none
 | n+1,a0,a1=>
 if(a1==0) then
 some false
 else
 (cw a0.az (fun(z2:ai)=>(oh n) z2 a1)).bind fun y3=>
 some (!y3)
def oh : Nat->ai->Int->Option Bool
 | 0,_,_=>none
 | n+1,a0,c0=>
 ((lZ n) a0 (ae (c0 - 1))).bind fun y1=>
 some (!y1)
end

def Dm (a0:ai):Option ai:=
 some a0
def ji (a0:List ai):Option (List ai):=
 some a0
def dW (c0:List ai) (sp:Nat) (rows:List (Int×ai)):Nat->Nat->Int->Option (Ctl (Nat) (Nat))
 | 0,_,_=>none
 | n+1,x0,x1=>
 if(decide (x1 >= 0)) then
 (idx c0 x1).bind fun y0=>
 (yck rows sp x0 (x1,y0)).bind fun _=>
 if(!(!(x0==sp))) then
 some (.stop (x0+1))
 else
 dW c0 sp rows n (x0+1) (ae (x1 - 1))
 else
 some (.next x0)
def iv (rows:List (Int×ai)) (sp:Nat) (c0:List ai):Option Nat:=
 (dW c0 sp rows ((((ae ((c0.length:Int) - 1)):Int) - (0)).toNat+2) 0 (ae ((c0.length:Int) - 1))).bind fun lr0=>
 Ctl.elim lr0 (fun v=>some v) fun x0=>
 some x0
def dB (l:List ai):Nat->List (Int×ai)
 | 0=>[]
 | n+1=>match l[n]? with
 | some x=>((n:Int),x)::dB l n
 | none=>[]
def kS (l:List ai):Option (List (Int×ai)):=if l.length < 4611686018427387904 then some (dB l l.length) else none
def pH  : Int×ai->(List ai)->Option (Ctl Unit (List ai))
 | (x0,x1),x2=>
 (dr ((x2.length:Int)+(([cA]:List ai).length:Int)) 56).bind fun _=>
 (idx (x2++([cA]:List ai)) (x2.length:Int)).bind fun _=>
 some (.next ((x2++([cA]:List ai)).set ((x2.length:Int):Int).toNat x1))
def nC (sp:Nat) (rows:List (ai)):Nat->Nat->(List ai)->Option (Ctl (Nat) (Nat))
 | 0,_,_=>none
 | n+1,x0,x1=>
 if(decide ((x1.length:Int) > 0)) then
 (idx x1 (ae ((x1.length:Int) - 1))).bind fun y0=>
 (jK x1 0 (ae ((x1.length:Int) - 1))).bind fun y1=>
 (yck rows sp x0 y0).bind fun _=>
 if(!(!(x0==sp))) then
 some (.stop (x0+1))
 else
 (ji y0.az).bind fun y2=>
 (kS y2).bind fun(rows0:List (Int×ai))=>
 (DQ pH rows0 y1).bind fun(lr0:Ctl Unit (List ai))=>
 Ctl.elim lr0 (fun _=>none) (fun x2=>
 nC sp rows n (x0+1) x2)
 else
 some (.next x0)
def xW (rows:List (ai)) (sp:Nat) (c0:ai):Option Nat:=
 (nC sp rows (bL c0+2) 0 [c0]).bind fun lr0=>
 Ctl.elim lr0 (fun v=>some v) fun x0=>
 some x0
mutual
def JK : ai->List ai
 | ⟨k,n,nm,l⟩=>⟨k,n,nm,l⟩::sb l
def sb : List ai->List ai
 | []=>[]
 | x::l=>JK x++sb l
end
def Ib (e:ai):Option (List ai):=if bL e<=1000000 then some (JK e) else none
def ww (a0:Int):Option Int:=
 (if(a0==1) then
 some (a0==1)
 else
 if(a0==2) then
 some (a0==2)
 else
 if(a0==3) then
 some (a0==3)
 else
 if(a0==4) then
 some (a0==4)
 else
 some (a0==5):Option (Bool)).bind fun x5=>
 if x5=true then
 some 0
 else
 (if(a0==12) then
 some (a0==12)
 else
 some (a0==13):Option (Bool)).bind fun x0=>
 if x0=true then
 some 1
 else
 (if(a0==6) then
 some (a0==6)
 else
 if(a0==7) then
 some (a0==7)
 else
 if(a0==8) then
 some (a0==8)
 else
 if(a0==9) then
 some (a0==9)
 else
 if(a0==10) then
 some (a0==10)
 else
 if(a0==11) then
 some (a0==11)
 else
 some (a0==14):Option (Bool)).bind fun x1=>
 if x1=true then
 some 2
 else
 some (-1)
def qY (a0:ai) (c0:ai):Option Bool:=
 if(a0.aa != 2) then
 if(a0.aa != 3) then
 if(a0.aa != 4) then
 some true
 else
 some (c0.aa==13)
 else
 some false
 else
 some false
def uV (a0:ai):Option Bool:=
 ((ww a0.aa).bind fun(y3:Int)=>
 if((a0.az.length:Int) != y3) then
 some true
 else
 if(a0.aa != 1) then
 if(a0.cj != 0) then
 some true
 else
 if(a0.aa != 2) then
 some (!(a0.af==[]))
 else
 some false
 else
 if(a0.aa != 2) then
 some (!(a0.af==[]))
 else
 some false:Option (Bool)).bind fun x0=>
 if x0=true then
 some false
 else
 if(a0.aa==1) then
 if(decide (a0.cj >= 0)) then
 some (decide (a0.cj<=999999999))
 else
 some false
 else
 if(a0.aa==2) then
 (jz a0.af).bind fun y0=>
 some y0
 else
 (if(a0.aa==13) then
 some (a0.aa==13)
 else
 some (a0.aa==14):Option (Bool)).bind fun x1=>
 if x1=true then
 (cw a0.az (fun(z24:ai)=>qY z24 a0)).bind fun y1=>
 some (!y1)
 else
 some true
def pJ  : ai->Unit->Option (Ctl Unit Unit)
 | x0,_=>
 (uV x0).bind fun y0=>
 if(!y0) then
 some (.stop ())
 else
 some (.next ())
def qm (a0:ai):Option Bool:=
 (lZ (2 * (20:Int).toNat+2) a0 20).bind fun y3=>
 if(!y3) then
 some false
 else
 (Dm a0).bind fun y8=>
 (Ib y8).bind fun(rows0:List (ai))=>
 (DQ pJ rows0 ()).bind fun(lr0:Ctl Unit Unit)=>
 Ctl.elim lr0 (fun _=>
 some false) (fun _=>
 some true)
def ti (a0:ai):Option Bool:=
 (qm a0).bind fun y1=>
 some (!y1)
def wy (a0:ah) (a1:Int) (a2:Int):Option Bool:=
 (if((yC .i64 a1 16)==0) then
 if(!(jp a0.av dY)) then
 some true
 else
 if((yC .i64 a1 16) != 0) then
 if(a0.av.aa != 2) then
 some true
 else
 (oy a0.av a2).bind fun y5=>
 some (!y5)
 else
 some false
 else
 if((yC .i64 a1 16) != 0) then
 if(a0.av.aa != 2) then
 some true
 else
 (oy a0.av a2).bind fun y9=>
 some (!y9)
 else
 some false:Option (Bool)).bind fun x0=>
 if x0=true then
 some false
 else
 Ctl.go (nU (if((yC .i64 a1 32)==0) then
 some true
 else
 if(a0.aa==11) then
 (uC a0.fE).bind fun y0=>
 some y0
 else
 some false:Option (Bool)) fun x1=>
 if x1=true then
 nU (uC a0.fE) fun(y1:Bool)=>
 if(!y1) then
 .stop (some false)
 else
 .next ()
 else
 nU (qm a0.fE) fun(y2:Bool)=>
 if(!y2) then
 .stop (some false)
 else
 nU (if(a0.aa==6) then
 if(a0.fE.aa != 2) then
 if(a0.fE.aa != 3) then
 some (a0.fE.aa != 4)
 else
 some false
 else
 some false
 else
 some false:Option (Bool)) fun x2=>
 if x2=true then
 .stop (some false)
 else
 .next ():Ctl (Option Bool) (Unit)) fun _=>
 if((yC .i64 a1 64)==0) then
 some ((a0.bN.length:Int)==0)
 else
 if(decide ((a0.bN.length:Int)<=5)) then
 (cw a0.bN (fun(z42:ai)=>ti z42)).bind fun y3=>
 some (!y3)
 else
 some false
def fc (a0:List ah) (q1:ah->Option Bool):Nat->Int->Option (Ctl (Int) (Unit))
 | 0,_=>none
 | n+1,x0=>
 if(decide (x0 < (a0.length:Int))) then
 (idx a0 x0).bind fun y0=>
 (q1 y0).bind fun y1=>
 if y1=true then
 some (.stop x0)
 else
 fc a0 q1 n (ae (x0+1))
 else
 some (.next ())
def iM (a0:List ah) (q1:ah->Option Bool):Option Int:=
 (fc a0 q1 ((a0.length - 0:Int).toNat+1) 0).bind fun lr0=>
 Ctl.elim lr0 (fun v=>some v) fun _=>
 some (-1)
def ea (a0:List ah) (q1:ah->Option Bool):Option Bool:=
 (iM a0 q1).bind fun(y1:Int)=>
 some (decide (y1 >= 0))
mutual
def lG : Nat->ah->Int->Int->Option Bool
 | 0,_,_,_=>none
 | n+1,a0,a1,a2=>
 (rk a0.aa).bind fun(y3:Int)=>
 (if(a2==0) then
 some true
 else
 if(y3==0) then
 some true
 else
 (uH a0 y3).bind fun y7=>
 if(!y7) then
 some true
 else
 (wy a0 y3 a1).bind fun y0=>
 if(!y0) then
 some true
 else
 if((yC .i64 y3 128)==0) then
 if(decide ((a0.au.length:Int) > 0)) then
 some true
 else
 if((yC .i64 y3 256)==0) then
 some (decide ((a0.aZ.length:Int) > 0))
 else
 some false
 else
 if((yC .i64 y3 256)==0) then
 some (decide ((a0.aZ.length:Int) > 0))
 else
 some false:Option (Bool)).bind fun x0=>
 if x0=true then
 some false
 else
 (ea a0.au (fun(z21:ah)=>(il n) z21 a1 a2)).bind fun y1=>
 if(!y1) then
 (ea a0.aZ (fun(z25:ah)=>(il n) z25 a1 a2)).bind fun y2=>
 some (!y2)
 else
 some false
def il : Nat->ah->Int->Int->Option Bool
 | 0,_,_,_=>none
 | n+1,a0,c0,c1=>
 ((lG n) a0 c0 (ae (c1 - 1))).bind fun y1=>
 some (!y1)
end

def oz (a0:ah) (a1:Int):Option Bool:=
 (lG (cc a0+1) a0 a1 20).bind fun y1=>
 some y1
def pa (a0:List ah) (a1:Int) (size_body_rec:(List ah)->Int->Option Bool):Nat->Int->Option (Ctl (Bool) (Unit))
 | 0,_=>none
 | n+1,x0=>
 if(decide (x0 < (a0.length:Int))) then
 (idx a0 x0).bind fun y0=>
 ((oz y0 a1).bind fun y1=>
 if(!y1) then
 some true
 else
 if(y0.av.aa==2) then
 (mN y0.av a1).bind fun y2=>
 if(!y2) then
 some true
 else
 (size_body_rec y0.au a1).bind fun y3=>
 if(!y3) then
 some true
 else
 (size_body_rec y0.aZ a1).bind fun y4=>
 some (!y4)
 else
 (size_body_rec y0.au a1).bind fun y5=>
 if(!y5) then
 some true
 else
 (size_body_rec y0.aZ a1).bind fun y6=>
 some (!y6):Option (Bool)).bind fun x1=>
 if x1=true then
 some (.stop false)
 else
 pa a0 a1 size_body_rec n (ae (x0+1))
 else
 some (.next ())
def gZ : Nat->(List ah)->Int->Option Bool
 | 0,_,_=>none
 | n+1,a0,a1=>
 (pa a0 a1 (gZ n) ((a0.length - 0:Int).toNat+1) 0).bind fun lr0=>
 Ctl.elim lr0 (fun v=>some v) fun _=>
 some true
def tz (a0:br) (a1:Int):Option Bool:=
 (jz a0.af).bind fun y1=>
 if y1=true then
 (mN a0.aQ a1).bind fun y4=>
 if y4=true then
 (np a0.ac 5 a1).bind fun y7=>
 if y7=true then
 (np a0.bC 12 a1).bind fun y0=>
 if y0=true then
 (gZ (cC a0.au+1) a0.au a1).bind fun y2=>
 some y2
 else
 some false
 else
 some false
 else
 some false
 else
 some false
def rL (a0:br) (c0:Int):Option Bool:=
 (tz a0 c0).bind fun y1=>
 some (!y1)
def vr (a0:be):Option Bool:=
 (xi a0).bind fun y1=>
 if y1=true then
 (np a0.bn 12 (a0.ac.length:Int)).bind fun y4=>
 if y4=true then
 if(decide ((a0.ak.length:Int)<=12)) then
 (dT a0.ak (fun(z8:br)=>rL z8 (a0.ac.length:Int))).bind fun y9=>
 some (!y9)
 else
 some false
 else
 some false
 else
 some false
def uu (a0:be):Option Bool:=
 (vr a0).bind fun y1=>
 some (!y1)
def iL (a1:List bZ):Nat->aE->Int->Option (aE)
 | 0,_,_=>none
 | n+1,x0,x1=>
 if(decide (x1 < (a1.length:Int))) then
 ((idx a1 x1).bind fun y0=>
 (if(y0.aa==2) then
 some (y0.am.a0.aa==7)
 else
 some false:Option (Bool)).bind fun x2=>
 if x2=true then
 some ({ x0 with zb:=ae (x0.zb+1) }:aE)
 else
 some x0:Option (aE)).bind fun x3=>
 iL a1 n x3 (ae (x1+1))
 else
 some x0
def eO (a1:List bZ) (b0:aE):Option aE:=
 (iL a1 ((a1.length - 0:Int).toNat+1) b0 0).bind fun x0=>
 some x0
def gJ (a1:List cN):Nat->aE->Int->Option (aE)
 | 0,_,_=>none
 | n+1,x0,x1=>
 if(decide (x1 < (a1.length:Int))) then
 (idx a1 x1).bind fun y0=>
 (eO [y0.av] x0).bind fun y1=>
 gJ a1 n y1 (ae (x1+1))
 else
 some x0
def fw (a1:List cN) (b0:aE):Option (Int×aE):=
 (gJ a1 ((a1.length - 0:Int).toNat+1) b0 0).bind fun x0=>
 some ((a1.length:Int),x0)
def gF (a1:List ah) (a2:Int) (__size_Counts__body_w_rec:(List ah)->Int->aE->Option aE):Nat->aE->Int->Option (aE)
 | 0,_,_=>none
 | n+1,x0,x1=>
 if(decide (x1 < (a1.length:Int))) then
 (idx a1 x1).bind fun y0=>
 (eO [y0.av] ({ x0 with jl:=ae (x0.jl+1) }:aE)).bind fun y1=>
 (__size_Counts__body_w_rec y0.au (ae (a2+1)) y1).bind fun y2=>
 (__size_Counts__body_w_rec y0.aZ (ae (a2+1)) y2).bind fun y3=>
 gF a1 a2 __size_Counts__body_w_rec n y3 (ae (x1+1))
 else
 some x0
def du : Nat->(List ah)->Int->aE->Option aE
 | 0,_,_,_=>none
 | n+1,a1,a2,b0=>
 (if(decide ((a1.length:Int) > 0)) then
 some ({ b0 with yj:=(if a2 > b0.yj then a2 else b0.yj) }:aE)
 else
 some b0:Option (aE)).bind fun x2=>
 (gF a1 a2 (du n) ((a1.length - 0:Int).toNat+1) x2 0).bind fun x0=>
 some x0
def uJ (y0:be):Nat->aE->Int->Option (aE)
 | 0,_,_=>none
 | n+1,x0,x1=>
 if(decide (x1 < (y0.ak.length:Int))) then
 (idx y0.ak x1).bind fun y1=>
 (eO [y1.aQ] x0).bind fun y2=>
 (fw y1.ac y2).bind fun y3=>
 (eqI y3.2.lf y2.lf).bind fun _=>
 (fw y1.bC y3.2).bind fun y4=>
 (eqI y4.2.lf y2.lf).bind fun _=>
 (du (cC y1.au+1) y1.au 1 ({ y4.2 with lf:=ae (y2.lf+(ae (y3.1+y4.1))) }:aE)).bind fun y5=>
 uJ y0 n y5 (ae (x1+1))
 else
 some x0
def uY (a0:List be):Nat->aE->Int->Option (aE)
 | 0,_,_=>none
 | n+1,x0,x1=>
 if(decide (x1 < (a0.length:Int))) then
 (idx a0 x1).bind fun y0=>
 (fw y0.bn x0).bind fun y1=>
 (eqI y1.2.bn x0.bn).bind fun _=>
 (uJ y0 ((y0.ak.length - 0:Int).toNat+1) ({ ({ y1.2 with bn:=ae (x0.bn+y1.1) }:aE) with ak:=ae ((({ y1.2 with bn:=ae (x0.bn+y1.1) }:aE).ak)+(y0.ak.length:Int)) }:aE) 0).bind fun x2=>
 uY a0 n x2 (ae (x1+1))
 else
 some x0
def CD (a0:List be):Option aE:=
 (uY a0 ((a0.length - 0:Int).toNat+1) (⟨(a0.length:Int),0,0,0,0,0,0⟩:aE) 0).bind fun x0=>
 some x0
def uW (a0:List be):Option Bool:=
 if(decide ((a0.length:Int)<=20)) then
 (eD a0 (fun(z2:be)=>uu z2)).bind fun y3=>
 if(!y3) then
 (CD a0).bind fun y6=>
 some (decide (y6.jl<=400))
 else
 some false
 else
 some false
def strings_Join (a0:List (List UInt8)) (a1:List UInt8):Option (List UInt8):=Ez a0 a1
def pq (a0:List UInt8) (a1:List (List UInt8)) (a2:List UInt8) (a3:Bool):Option (List UInt8):=
 (if((a1.length:Int)==0) then
 some (!a3)
 else
 some false:Option (Bool)).bind fun x2=>
 if x2=true then
 some []
 else
 (strings_Join a1 [44,32]).bind fun(y6:List UInt8)=>
 (dr ((a0.length:Int)+(y6.length:Int)) 1).bind fun _=>
 (dr (((a0++y6).length:Int)+(a2.length:Int)) 1).bind fun _=>
 some ((a0++y6)++a2)
def si (a0:ay) (a1:List (List UInt8)):Option (List UInt8):=
 (nZ a0 (a1.length:Int)).bind fun y3=>
 if(!y3) then
 some []
 else
 if(a0.aa==1) then
 some [114,101,112]
 else
 if(a0.aa==2) then
 some [112,101,101,114]
 else
 if(a0.aa==4) then
 some [119,111,114,108,100]
 else
 if(a0.aa==5) then
 some [97,110,121]
 else
 if(a0.aa==6) then
 some [117,110,105,113,117,101]
 else
 if(a0.aa==7) then
 some [63]
 else
 (idx a1 (ae (a0.fN - 1))).bind fun y0=>
 some y0
def lj (a0:be):Nat->(List (List UInt8))->Int->Option ((List (List UInt8)))
 | 0,_,_=>none
 | n+1,x0,x1=>
 if(decide (x1 < (a0.bl.length:Int))) then
 (idx a0.bl x1).bind fun y0=>
 (si y0 a0.ac).bind fun y1=>
 (dr ((x0.length:Int)+([y1].length:Int)) 16).bind fun _=>
 lj a0 n (x0++[y1]) (ae (x1+1))
 else
 some x0
def uN (a0:be):Option (List UInt8):=
 (dr (([99,108,97,115,115,32].length:Int)+(a0.af.length:Int)) 1).bind fun _=>
 (pq [60] a0.ac [62] false).bind fun(y9:(List UInt8))=>
 (dr ((([99,108,97,115,115,32]++a0.af).length:Int)+(y9.length:Int)) 1).bind fun _=>
 if(a0.cb==[]) then
 (dr (((([99,108,97,115,115,32]++a0.af)++y9).length:Int)+([32,123].length:Int)) 1).bind fun _=>
 some ((([99,108,97,115,115,32]++a0.af)++y9)++[32,123])
 else
 (lj a0 ((a0.bl.length - 0:Int).toNat+1) [] 0).bind fun x0=>
 (dr (((([99,108,97,115,115,32]++a0.af)++y9).length:Int)+([32,101,120,116,101,110,100,115,32].length:Int)) 1).bind fun _=>
 (dr ((((([99,108,97,115,115,32]++a0.af)++y9)++[32,101,120,116,101,110,100,115,32]).length:Int)+(a0.cb.length:Int)) 1).bind fun _=>
 (pq [60] x0 [62] false).bind fun(y0:(List UInt8))=>
 (dr (((((([99,108,97,115,115,32]++a0.af)++y9)++[32,101,120,116,101,110,100,115,32])++a0.cb).length:Int)+(y0.length:Int)) 1).bind fun _=>
 (dr ((((((([99,108,97,115,115,32]++a0.af)++y9)++[32,101,120,116,101,110,100,115,32])++a0.cb)++y0).length:Int)+([32,123].length:Int)) 1).bind fun _=>
 some (((((([99,108,97,115,115,32]++a0.af)++y9)++[32,101,120,116,101,110,100,115,32])++a0.cb)++y0)++[32,123])
def mW (a1:List (List UInt8)):Nat->(List Int)->Int->Option ((List Int))
 | 0,_,_=>none
 | n+1,x0,x1=>
 if(decide (x1 < (a1.length:Int))) then
 (idx a1 x1).bind fun y0=>
 (dr ((x0.length:Int)+(y0.length:Int)) 1).bind fun _=>
 (dr (((x0++bh y0).length:Int)+([10].length:Int)) 1).bind fun _=>
 mW a1 n ((x0++bh y0)++bh [10]) (ae (x1+1))
 else
 some x0
def jb (a1:List (List UInt8)) (b1:List Int):Option (List Int):=
 (mW a1 ((a1.length - 0:Int).toNat+1) b1 0).bind fun x0=>
 some x0
def oZ (a1:List (List UInt8)) (y0:(List ay)):Nat->(List (List UInt8))->Int->Option ((List (List UInt8)))
 | 0,_,_=>none
 | n+1,x0,x1=>
 if(decide (x1 < (y0.length:Int))) then
 (idx y0 x1).bind fun y1=>
 (si y1 a1).bind fun y2=>
 (dr ((x0.length:Int)+([y2].length:Int)) 16).bind fun _=>
 oZ a1 y0 n (x0++[y2]) (ae (x1+1))
 else
 some x0
def pb (a0:bZ) (a1:List (List UInt8)):Option (List UInt8):=
 (oy a0 (a1.length:Int)).bind fun y3=>
 if(!y3) then
 some []
 else
 if(a0.aa != 2) then
 if(a0.aa==1) then
 some [105,110,116]
 else
 some [118,111,105,100]
 else
 (wL a0).bind fun y0=>
 (oZ a1 y0 ((y0.length - 0:Int).toNat+1) [] 0).bind fun x0=>
 (if(decide ((x0.length:Int) > 1)) then
 (jK x0 1 x0.length).bind fun y1=>
 (strings_Join y1 [44,32]).bind fun(y2:List UInt8)=>
 (dr (([60].length:Int)+(y2.length:Int)) 1).bind fun _=>
 (dr ((([60]++y2).length:Int)+([62].length:Int)) 1).bind fun _=>
 (dr ((a0.bu.length:Int)+((([60]++y2)++[62]).length:Int)) 1).bind fun _=>
 some (a0.bu++(([60]++y2)++[62]))
 else
 some a0.bu:Option ((List UInt8))).bind fun x1=>
 if(a0.am.a0.aa==7) then
 some x1
 else
 (idx x0 0).bind fun y4=>
 (dr ((y4.length:Int)+([32].length:Int)) 1).bind fun _=>
 (dr (((y4++[32]).length:Int)+(x1.length:Int)) 1).bind fun _=>
 some ((y4++[32])++x1)
def lq (a0:cN) (a1:List (List UInt8)):Option (List UInt8):=
 (pb a0.av a1).bind fun y1=>
 (dr ((y1.length:Int)+([32].length:Int)) 1).bind fun _=>
 (dr (((y1++[32]).length:Int)+(a0.af.length:Int)) 1).bind fun _=>
 some ((y1++[32])++a0.af)
def mG (a0:br) (a1:List (List UInt8)):Nat->(List (List UInt8))->Int->Option ((List (List UInt8)))
 | 0,_,_=>none
 | n+1,x0,x1=>
 if(decide (x1 < (a0.ac.length:Int))) then
 (idx a0.ac x1).bind fun y0=>
 (lq y0 a1).bind fun y1=>
 (dr ((x0.length:Int)+([y1].length:Int)) 16).bind fun _=>
 mG a0 a1 n (x0++[y1]) (ae (x1+1))
 else
 some x0
def wI (a0:br) (a1:List (List UInt8)):Option (List UInt8):=
 (mG a0 a1 ((a0.ac.length - 0:Int).toNat+1) [] 0).bind fun x0=>
 (pb a0.aQ a1).bind fun y0=>
 (dr ((y0.length:Int)+([32].length:Int)) 1).bind fun _=>
 (dr (((y0++[32]).length:Int)+(a0.af.length:Int)) 1).bind fun _=>
 (pq [40] x0 [41] true).bind fun(y1:(List UInt8))=>
 (dr ((((y0++[32])++a0.af).length:Int)+(y1.length:Int)) 1).bind fun _=>
 if a0.fm=true then
 (dr (([112,117,114,101,32].length:Int)+((((y0++[32])++a0.af)++y1).length:Int)) 1).bind fun _=>
 some ([112,117,114,101,32]++(((y0++[32])++a0.af)++y1))
 else
 some (((y0++[32])++a0.af)++y1)
def gH  : Nat->(List Int)->Int->Int->Option ((List Int))
 | 0,_,_,_=>none
 | n+1,x0,x1,x2=>
 if(decide (x1 < x2)) then
 (idx x0 x2).bind fun(y0:Int)=>
 (idx x0 x1).bind fun(y1:Int)=>
 (idx x0 x1).bind fun _=>
 (idx (x0.set (x1:Int).toNat y0) x2).bind fun _=>
 gH n ((x0.set (x1:Int).toNat y0).set (x2:Int).toNat y1) (ae (x1+1)) (ae (x2 - 1))
 else
 some x0
def iU (b0:List Int):Option (List Int):=
 (gH (b0.length+1) b0 0 (ae ((b0.length:Int) - 1))).bind fun x0=>
 some x0
def oM  : Nat->Int->(List Int)->Option ((List Int))
 | 0,_,_=>none
 | n+1,x0,x1=>
 if(decide (x0 >= 10)) then
 (dr ((x1.length:Int)+([Ak (lK (48+(Int.tmod (lK (Int.tdiv x0 10)) 10)))].length:Int)) 1).bind fun _=>
 oM n (lK (Int.tdiv x0 10)) (x1++[Ak (lK (48+(Int.tmod (lK (Int.tdiv x0 10)) 10)))])
 else
 some x1
def qv (a0:Int):Option (List UInt8):=
 (if(decide (a0 < 0)) then
 some (lK (0 - (lK a0)))
 else
 some (lK a0):Option (Int)).bind fun x2=>
 (dr ((([]:List Int).length:Int)+([Ak (lK (48+(Int.tmod x2 10)))].length:Int)) 1).bind fun _=>
 (oM 21 x2 ([]++[Ak (lK (48+(Int.tmod x2 10)))])).bind fun x0=>
 (if(decide (a0 < 0)) then
 (dr ((x0.length:Int)+([45].length:Int)) 1).bind fun _=>
 some (x0++[45])
 else
 some x0:Option ((List Int))).bind fun x1=>
 (iU x1).bind fun y0=>
 some (qP y0)
def Ec : List Gbind_expr:=[⟨[38,38],1,11⟩,⟨[60],2,9⟩,⟨[61,61],2,10⟩,⟨[43],3,6⟩,⟨[45],3,7⟩,⟨[42],4,8⟩]
def MQ : List PV:=[.str [38,38],.int .i64 1,.int .i64 11,.str [60],.int .i64 2,.int .i64 9,.str [61,61],.int .i64 2,.int .i64 10,.str [43],.int .i64 3,.int .i64 6,.str [45],.int .i64 3,.int .i64 7,.str [42],.int .i64 4,.int .i64 8]
theorem Vw : MQ=(map js Ec).flatten:=by kernel_rfl
theorem Vk : (1,MQ)∈eg:= .tail _ (.head _)
def jt (a0:List Gbind_expr) (q1:Gbind_expr->Option Bool):Nat->Int->Option (Ctl (Int) (Unit))
 | 0,_=>none
 | n+1,x0=>
 if(decide (x0 < (a0.length:Int))) then
 (idx a0 x0).bind fun y0=>
 (q1 y0).bind fun y1=>
 if y1=true then
 some (.stop x0)
 else
 jt a0 q1 n (ae (x0+1))
 else
 some (.next ())
def io (a0:List Gbind_expr) (q1:Gbind_expr->Option Bool):Option Int:=
 (jt a0 q1 ((a0.length - 0:Int).toNat+1) 0).bind fun lr0=>
 Ctl.elim lr0 (fun v=>some v) fun _=>
 some (-1)
def sJ (a0:Gbind_expr) (c0:ai):Option Bool:=
 some (a0.fkind==c0.aa)
mutual
def lh : Nat->ai->Int->Option (List UInt8)
 | 0,_,_=>none
 | n+1,a0,a1=>
 ((pc n) a0).bind fun y3=>
 if(decide (y3.2 < a1)) then
 (dr (([40].length:Int)+(y3.1.length:Int)) 1).bind fun _=>
 (dr ((([40]++y3.1).length:Int)+([41].length:Int)) 1).bind fun _=>
 some (([40]++y3.1)++[41])
 else
 some y3.1
def pc : Nat->ai->Option ((List UInt8)×Int)
 | 0,_=>none
 | n+1,a0=>
 if(a0.aa==1) then
 (qv a0.cj).bind fun y2=>
 some (y2,5)
 else
 if(a0.aa==2) then
 some (a0.af,5)
 else
 if(a0.aa==3) then
 some ([116,104,105,115],5)
 else
 if(a0.aa==4) then
 some ([110,117,108,108],5)
 else
 if(a0.aa==5) then
 some ([105,110,112,117,116],5)
 else
 if(a0.aa==12) then
 (idx a0.az 0).bind fun y9=>
 ((lh n) y9 5).bind fun y0=>
 (dr (([33].length:Int)+(y0.length:Int)) 1).bind fun _=>
 some (([33]++y0),5)
 else
 if(a0.aa==13) then
 (idx a0.az 0).bind fun y1=>
 ((lh n) y1 0).bind fun y3=>
 (dr (([110,105,108,40].length:Int)+(y3.length:Int)) 1).bind fun _=>
 (dr ((([110,105,108,40]++y3).length:Int)+([41].length:Int)) 1).bind fun _=>
 some ((([110,105,108,40]++y3)++[41]),5)
 else
 if(a0.aa==14) then
 (idx a0.az 0).bind fun y4=>
 ((lh n) y4 0).bind fun y5=>
 (dr (([115,97,109,101,40].length:Int)+(y5.length:Int)) 1).bind fun _=>
 (dr ((([115,97,109,101,40]++y5).length:Int)+([44,32].length:Int)) 1).bind fun _=>
 (idx a0.az 1).bind fun y6=>
 ((lh n) y6 0).bind fun y7=>
 (dr (((([115,97,109,101,40]++y5)++[44,32]).length:Int)+(y7.length:Int)) 1).bind fun _=>
 (dr ((((([115,97,109,101,40]++y5)++[44,32])++y7).length:Int)+([41].length:Int)) 1).bind fun _=>
 some ((((([115,97,109,101,40]++y5)++[44,32])++y7)++[41]),5)
 else
 (io Ec (fun(z44:Gbind_expr)=>sJ z44 a0)).bind fun(y8:Int)=>
 (idx Ec y8).bind fun y10=>
 ((if(y10.fkind==9) then
 some true
 else
 some (y10.fkind==10):Option (Bool)).bind fun x0=>
 if x0=true then
 some (ae (y10.flevel+1))
 else
 some y10.flevel:Option (Int)).bind fun x1=>
 (idx a0.az 0).bind fun y12=>
 ((lh n) y12 x1).bind fun y13=>
 (idx a0.az 1).bind fun y14=>
 ((lh n) y14 (ae (y10.flevel+1))).bind fun y15=>
 (strings_Join [y13,y10.fsign,y15] [32]).bind fun(y17:List UInt8)=>
 some (y17,y10.flevel)
end

def se (a0:ai):Option (List UInt8):=
 (qm a0).bind fun y3=>
 if(!y3) then
 some []
 else
 (lh (2 * bL a0+2) a0 0).bind fun y6=>
 some y6
def gj (a0:List UInt8) (a1:List UInt8):Option Bool:=
 if(decide ((a0.length:Int) >= (a1.length:Int))) then
 (jK a0 (ae ((a0.length:Int) - (a1.length:Int))) a0.length).bind fun y2=>
 some (y2==a1)
 else
 some false
def fQ (a0:List UInt8) (a1:List UInt8):Option (List UInt8):=
 (gj a0 a1).bind fun y3=>
 if y3=true then
 (jK a0 0 (ae ((a0.length:Int) - (a1.length:Int)))).bind fun y6=>
 some y6
 else
 some a0
def ki (a0:List UInt8) (a1:List UInt8):Option (List UInt8):=
 (fQ a0 a1).bind fun y1=>
 some y1
def dX (a1:ah):Nat->(List (List UInt8))->Int->Option ((List (List UInt8)))
 | 0,_,_=>none
 | n+1,x0,x1=>
 if(decide (x1 < (a1.bN.length:Int))) then
 (idx a1.bN x1).bind fun y0=>
 (se y0).bind fun y1=>
 (dr ((x0.length:Int)+([y1].length:Int)) 16).bind fun _=>
 dX a1 n (x0++[y1]) (ae (x1+1))
 else
 some x0
def ef (a1:ah) (b0_2:List (List UInt8)) (b1:List Int):Option (List UInt8):=
 (se a1.fE).bind fun y3=>
 if(a1.aa==2) then
 (dr ((a1.fY.length:Int)+([46].length:Int)) 1).bind fun _=>
 (dr (((a1.fY++[46]).length:Int)+(a1.af.length:Int)) 1).bind fun _=>
 some ((a1.fY++[46])++a1.af)
 else
 if(a1.aa==3) then
 (dr ((a1.fY.length:Int)+([46].length:Int)) 1).bind fun _=>
 (dr (((a1.fY++[46]).length:Int)+(a1.af.length:Int)) 1).bind fun _=>
 (dr ((((a1.fY++[46])++a1.af).length:Int)+([32,61,32].length:Int)) 1).bind fun _=>
 (dr (((((a1.fY++[46])++a1.af)++[32,61,32]).length:Int)+(y3.length:Int)) 1).bind fun _=>
 some ((((a1.fY++[46])++a1.af)++[32,61,32])++y3)
 else
 if(a1.aa==4) then
 (dX a1 ((a1.bN.length - 0:Int).toNat+1) [] 0).bind fun x0=>
 (dr ((a1.fY.length:Int)+([46].length:Int)) 1).bind fun _=>
 (dr (((a1.fY++[46]).length:Int)+(a1.af.length:Int)) 1).bind fun _=>
 (dr ((((a1.fY++[46])++a1.af).length:Int)+([40].length:Int)) 1).bind fun _=>
 (strings_Join x0 [44,32]).bind fun(y0:List UInt8)=>
 (dr (((((a1.fY++[46])++a1.af)++[40]).length:Int)+(y0.length:Int)) 1).bind fun _=>
 (dr ((((((a1.fY++[46])++a1.af)++[40])++y0).length:Int)+([41].length:Int)) 1).bind fun _=>
 some (((((a1.fY++[46])++a1.af)++[40])++y0)++[41])
 else
 if(a1.aa==5) then
 (pb a1.av b0_2).bind fun y1=>
 (dr (([110,101,119,32].length:Int)+(y1.length:Int)) 1).bind fun _=>
 some ([110,101,119,32]++y1)
 else
 if(a1.aa==6) then
 (pb a1.av b0_2).bind fun y2=>
 (dr (([99,97,115,116,32].length:Int)+(y2.length:Int)) 1).bind fun _=>
 (dr ((([99,97,115,116,32]++y2).length:Int)+([32].length:Int)) 1).bind fun _=>
 (dr (((([99,97,115,116,32]++y2)++[32]).length:Int)+(y3.length:Int)) 1).bind fun _=>
 some ((([99,97,115,116,32]++y2)++[32])++y3)
 else
 if(a1.aa==7) then
 (dr (([109,111,118,101,32].length:Int)+(a1.fY.length:Int)) 1).bind fun _=>
 some ([109,111,118,101,32]++a1.fY)
 else
 if(a1.aa==8) then
 (dr (([100,101,108,101,116,101,32].length:Int)+(a1.fY.length:Int)) 1).bind fun _=>
 some ([100,101,108,101,116,101,32]++a1.fY)
 else
 if(a1.aa==11) then
 (dr (([114,101,116,117,114,110,32].length:Int)+(y3.length:Int)) 1).bind fun _=>
 (ki ([114,101,116,117,114,110,32]++y3) [32]).bind fun(y4:(List UInt8))=>
 some y4
 else
 some y3
def strings_Repeat (a0:List UInt8) (a1:Int):Option (List UInt8):=abn a0 a1
def fj (a2:List (List UInt8)):Nat->(List Int)->Int->Option ((List Int))
 | 0,_,_=>none
 | n+1,x0,x1=>
 if(decide (x1 < (a2.length:Int))) then
 (idx a2 x1).bind fun y0=>
 (dr ((x0.length:Int)+(y0.length:Int)) 1).bind fun _=>
 fj a2 n (x0++bh y0) (ae (x1+1))
 else
 some x0
def dh (a1:Int) (a2:List (List UInt8)) (b0_2:List (List UInt8)) (b1:List Int):Option (List Int):=
 (strings_Repeat [9] a1).bind fun(y5:List UInt8)=>
 (dr ((b1.length:Int)+(y5.length:Int)) 1).bind fun _=>
 (fj a2 ((a2.length - 0:Int).toNat+1) (b1++bh y5) 0).bind fun x0=>
 (dr ((x0.length:Int)+1) 1).bind fun _=>
 some (x0++[10])
def fk (a1:ah) (a2:Int) (b0_2:List (List UInt8)) (__stmt_writer__stmt_w_rec:ah->Int->(List (List UInt8))->(List Int)->Option (List Int)):Nat->(List Int)->Int->Option ((List Int))
 | 0,_,_=>none
 | n+1,x0,x1=>
 if(decide (x1 < (a1.au.length:Int))) then
 (idx a1.au x1).bind fun y0=>
 (__stmt_writer__stmt_w_rec y0 (ae (a2+1)) b0_2 x0).bind fun y1=>
 fk a1 a2 b0_2 __stmt_writer__stmt_w_rec n y1 (ae (x1+1))
 else
 some x0
def fh (a1:ah) (a2:Int) (b0_2:List (List UInt8)) (__stmt_writer__stmt_w_rec:ah->Int->(List (List UInt8))->(List Int)->Option (List Int)):Nat->(List Int)->Int->Option ((List Int))
 | 0,_,_=>none
 | n+1,x0,x1=>
 if(decide (x1 < (a1.aZ.length:Int))) then
 (idx a1.aZ x1).bind fun y0=>
 (__stmt_writer__stmt_w_rec y0 (ae (a2+1)) b0_2 x0).bind fun y1=>
 fh a1 a2 b0_2 __stmt_writer__stmt_w_rec n y1 (ae (x1+1))
 else
 some x0
def cy : Nat->ah->Int->(List (List UInt8))->(List Int)->Option (List Int)
 | 0,_,_,_,_=>none
 | n+1,a1,a2,b0_2,b1=>
 Ctl.go (if(a1.aa==10) then
 .next [119,104,105,108,101,32,40]
 else
 if(a1.aa==9) then
 .next [105,102,32,40]
 else
 if(!(a1.fX==[])) then
 nU (ef a1 b0_2 b1) fun(y4:(List UInt8))=>
 nU (dh a2 [a1.fX,[32,61,32],y4,[59]] b0_2 b1) fun(y6:(List Int))=>
 .stop (some y6)
 else
 nU (ef a1 b0_2 b1) fun(y8:(List UInt8))=>
 nU (dh a2 [y8,[59]] b0_2 b1) fun(y0:(List Int))=>
 .stop (some y0):Ctl (Option (List Int)) ((List UInt8))) fun x0=>
 (se a1.fE).bind fun y1=>
 (dh a2 [x0,y1,[41,32,123]] b0_2 b1).bind fun(y2:(List Int))=>
 (fk a1 a2 b0_2 (cy n) ((a1.au.length - 0:Int).toNat+1) y2 0).bind fun x1=>
 (if(decide ((a1.aZ.length:Int) > 0)) then
 (dh a2 [[125,32,101,108,115,101,32,123]] b0_2 x1).bind fun(y3:(List Int))=>
 some y3
 else
 some x1:Option ((List Int))).bind fun x2=>
 (fh a1 a2 b0_2 (cy n) ((a1.aZ.length - 0:Int).toNat+1) x2 0).bind fun x3=>
 (dh a2 [[125]] b0_2 x3).bind fun(y5:(List Int))=>
 some y5
def xf (a0:ah) (a1:List (List UInt8)) (a2:Int):Option (List UInt8):=
 (oz a0 (a1.length:Int)).bind fun y3=>
 if(!y3) then
 some []
 else
 (cy (cc a0+1) a0 (if(if 20 < a2 then 20 else a2) > 0 then(if 20 < a2 then 20 else a2) else 0) a1 []).bind fun y8=>
 (LF y8).bind fun y0=>
 some y0
def kx (a0:be):Nat->(List Int)->Int->Option ((List Int))
 | 0,_,_=>none
 | n+1,x0,x1=>
 if(decide (x1 < (a0.bn.length:Int))) then
 (idx a0.bn x1).bind fun y0=>
 (lq y0 a0.ac).bind fun y1=>
 (dr (([9].length:Int)+(y1.length:Int)) 1).bind fun _=>
 (dr ((([9]++y1).length:Int)+([59].length:Int)) 1).bind fun _=>
 (jb [(([9]++y1)++[59])] x0).bind fun(y2:(List Int))=>
 kx a0 n y2 (ae (x1+1))
 else
 some x0
def kC (a0:be) (y0:br):Nat->(List Int)->Int->Option ((List Int))
 | 0,_,_=>none
 | n+1,x0,x1=>
 if(decide (x1 < (y0.bC.length:Int))) then
 (idx y0.bC x1).bind fun y1=>
 (lq y1 a0.ac).bind fun y2=>
 (dr (([9,9].length:Int)+(y2.length:Int)) 1).bind fun _=>
 (dr ((([9,9]++y2).length:Int)+([59].length:Int)) 1).bind fun _=>
 (jb [(([9,9]++y2)++[59])] x0).bind fun(y3:(List Int))=>
 kC a0 y0 n y3 (ae (x1+1))
 else
 some x0
def kv (a0:be) (y0:br):Nat->(List Int)->Int->Option ((List Int))
 | 0,_,_=>none
 | n+1,x0,x1=>
 if(decide (x1 < (y0.au.length:Int))) then
 (idx y0.au x1).bind fun y1=>
 (xf y1 a0.ac 2).bind fun y2=>
 (dr ((x0.length:Int)+(y2.length:Int)) 1).bind fun _=>
 kv a0 y0 n (x0++bh y2) (ae (x1+1))
 else
 some x0
def jD (a0:be):Nat->(List Int)->Int->Option ((List Int))
 | 0,_,_=>none
 | n+1,x0,x1=>
 if(decide (x1 < (a0.ak.length:Int))) then
 (idx a0.ak x1).bind fun y0=>
 (wI y0 a0.ac).bind fun y1=>
 (dr (([9].length:Int)+(y1.length:Int)) 1).bind fun _=>
 (dr ((([9]++y1).length:Int)+([32,123].length:Int)) 1).bind fun _=>
 (jb [(([9]++y1)++[32,123])] x0).bind fun(y2:(List Int))=>
 (kC a0 y0 ((y0.bC.length - 0:Int).toNat+1) y2 0).bind fun x2=>
 (kv a0 y0 ((y0.au.length - 0:Int).toNat+1) x2 0).bind fun x3=>
 (jb [[9,125]] x3).bind fun(y3:(List Int))=>
 jD a0 n y3 (ae (x1+1))
 else
 some x0
def rN (a0:be) (b1:List Int):Option (List Int):=
 (uN a0).bind fun y5=>
 (jb [y5] b1).bind fun y7=>
 (kx a0 ((a0.bn.length - 0:Int).toNat+1) y7 0).bind fun x0=>
 (jD a0 ((a0.ak.length - 0:Int).toNat+1) x0 0).bind fun x1=>
 (jb [[125]] x1).bind fun(y0:(List Int))=>
 some y0
def mO (a0:List be):Nat->(List Int)->Int->Option ((List Int))
 | 0,_,_=>none
 | n+1,x0,x1=>
 if(decide (x1 < (a0.length:Int))) then
 (idx a0 x1).bind fun y0=>
 (rN y0 x0).bind fun y1=>
 mO a0 n y1 (ae (x1+1))
 else
 some x0
def uy (a0:List be):Option (List UInt8):=
 (uW a0).bind fun y3=>
 if(!y3) then
 some []
 else
 (mO a0 ((a0.length - 0:Int).toNat+1) [] 0).bind fun x0=>
 (LF x0).bind fun y0=>
 some y0
def ox  : Option Bool:=
 (xg [99,108,97,115,115,32,65,60,100,62,32,101,120,116,101,110,100,115,32,66,60,100,62,32,123,32,100,32,67,32,102,59,32,125]).bind fun(y3:(List be)×nK)=>
 (uy y3.1).bind fun y5=>
 some (y5==[99,108,97,115,115,32,65,60,100,62,32,101,120,116,101,110,100,115,32,66,60,100,62,32,123,10,9,100,32,67,32,102,59,10,125,10])
def pD (a0:List UInt8):Nat->Int->Option (Ctl (Bool) (Unit))
 | 0,_=>none
 | n+1,x0=>
 if(decide (x0 < (a0.length:Int))) then
 ((idx a0 x0).bind fun(y0:UInt8)=>
 (jL (y0.toNat:Int)).bind fun y1=>
 if(!y1) then
 (idx a0 x0).bind fun(y2:UInt8)=>
 (lg (y2.toNat:Int)).bind fun y3=>
 some (!y3)
 else
 some false:Option (Bool)).bind fun x1=>
 if x1=true then
 some (.stop false)
 else
 pD a0 n (ae (x0+1))
 else
 some (.next ())
def eN (a0:List UInt8):Option Bool:=
 (if(decide ((a0.length:Int) < 1)) then
 some true
 else
 if(decide ((a0.length:Int) > 20)) then
 some true
 else
 (idx a0 0).bind fun(y3:UInt8)=>
 (jL (y3.toNat:Int)).bind fun y5=>
 if(!y5) then
 some true
 else
 (sd a0).bind fun(y8:Int)=>
 some (decide (y8 > 0)):Option (Bool)).bind fun x0=>
 if x0=true then
 some false
 else
 (pD a0 ((a0.length - 0:Int).toNat+1) 0).bind fun lr0=>
 Ctl.elim lr0 (fun v=>some v) fun _=>
 some true
def oi (a0:ay) (a1:Int):Option Bool:=
 if(a0.aa==3) then
 if(decide (a0.fN >= 1)) then
 some (decide (a0.fN<=a1))
 else
 some false
 else
 if(a0.aa==7) then
 some (decide (a0.fN >= 0))
 else
 if(a0.fN==0) then
 if(a0.aa==1) then
 some true
 else
 if(a0.aa==2) then
 some true
 else
 if(a0.aa==4) then
 some true
 else
 if(a0.aa==5) then
 some true
 else
 some (a0.aa==6)
 else
 some false
def qM (a0:ah):Option ah:=
 ((if(a0.aa==1) then
 some true
 else
 if(a0.aa==2) then
 some true
 else
 if(a0.aa==4) then
 some true
 else
 if(a0.aa==5) then
 some true
 else
 if(a0.aa==6) then
 some true
 else
 some (a0.aa==7):Option (Bool)).bind fun x6=>
 if x6=true then
 some ({ a0 with fX:=[] }:ah)
 else
 some a0:Option (ah)).bind fun x0=>
 ((if(a0.aa==2) then
 some true
 else
 if(a0.aa==3) then
 some true
 else
 if(a0.aa==4) then
 some true
 else
 if(a0.aa==7) then
 some true
 else
 some (a0.aa==8):Option (Bool)).bind fun x1=>
 if x1=true then
 some ({ x0 with fY:=[] }:ah)
 else
 some x0:Option (ah)).bind fun x2=>
 ((if(a0.aa==2) then
 some true
 else
 if(a0.aa==3) then
 some true
 else
 some (a0.aa==4):Option (Bool)).bind fun x3=>
 if x3=true then
 some ({ x2 with af:=[] }:ah)
 else
 some x2:Option (ah)).bind fun x4=>
 ((if(a0.aa==5) then
 some true
 else
 some (a0.aa==6):Option (Bool)).bind fun x5=>
 if x5=true then
 some ({ x4 with av:=({ aa:=0,bu:=[],fN:=0,am:=(⟨aq,aq,aq,aq⟩:A4 ay) }:bZ) }:ah)
 else
 some x4:Option (ah)).bind fun x7=>
 ((if(a0.aa==1) then
 some true
 else
 if(a0.aa==3) then
 some true
 else
 if(a0.aa==6) then
 some true
 else
 if(a0.aa==9) then
 some true
 else
 if(a0.aa==10) then
 some true
 else
 some (a0.aa==11):Option (Bool)).bind fun x8=>
 if x8=true then
 some ({ x7 with fE:=({ aa:=0,cj:=0,af:=[],az:=[] }:ai) }:ah)
 else
 some x7:Option (ah)).bind fun x9=>
 (if(a0.aa==4) then
 some ({ x9 with bN:=[] }:ah)
 else
 some x9:Option (ah)).bind fun x11=>
 ((if(a0.aa==9) then
 some true
 else
 some (a0.aa==10):Option (Bool)).bind fun x12=>
 if x12=true then
 some ({ x11 with au:=[] }:ah)
 else
 some x11:Option (ah)).bind fun x13=>
 if(a0.aa==9) then
 some ({ x13 with aZ:=[] }:ah)
 else
 some x13
def lz (a0:ai) (a1:ai) (ref06_Same_rec:ai->ai->Option Bool):Nat->Int->Option (Ctl (Bool) (Unit))
 | 0,_=>none
 | n+1,x0=>
 if(decide (x0 < (a0.az.length:Int))) then
 (idx a0.az x0).bind fun y0=>
 (idx a1.az x0).bind fun y1=>
 (ref06_Same_rec y0 y1).bind fun y2=>
 if(!y2) then
 some (.stop false)
 else
 lz a0 a1 ref06_Same_rec n (ae (x0+1))
 else
 some (.next ())
def gU : Nat->ai->ai->Option Bool
 | 0,_,_=>none
 | n+1,a0,a1=>
 (if(a0.aa != a1.aa) then
 some true
 else
 if(a0.cj != a1.cj) then
 some true
 else
 if(!(a0.af==a1.af)) then
 some true
 else
 some ((a0.az.length:Int) != (a1.az.length:Int)):Option (Bool)).bind fun x4=>
 if x4=true then
 some false
 else
 (lz a0 a1 (gU n) ((a0.az.length - 0:Int).toNat+1) 0).bind fun lr0=>
 Ctl.elim lr0 (fun v=>some v) fun _=>
 some true
def oY (a0:ah):Option Bool:=
 (qM a0).bind fun y3=>
 if(decide (a0.aa >= 1)) then
 if(decide (a0.aa<=11)) then
 if(y3.fX==[]) then
 if(y3.fY==[]) then
 if(y3.af==[]) then
 if(jp y3.av dY) then
 (gU (bL y3.fE+bL cA+1) y3.fE cA).bind fun y0=>
 if y0=true then
 some ((ae ((ae ((y3.bN.length:Int)+(y3.au.length:Int)))+(y3.aZ.length:Int)))==0)
 else
 some false
 else
 some false
 else
 some false
 else
 some false
 else
 some false
 else
 some false
 else
 some false
def kc (a0:bZ) (a1:Int):Nat->Int->Option (Ctl (Bool) (Unit))
 | 0,_=>none
 | n+1,x0=>
 if(decide (x0 < 4)) then
 (idx (a0.am).l x0).bind fun y0=>
 (if(decide (x0 > a0.fN)) then
 if(!(jx y0 aq)) then
 some true
 else
 if(decide (x0<=a0.fN)) then
 (oi y0 a1).bind fun y1=>
 if(!y1) then
 some true
 else
 if(decide (x0 > 0)) then
 some (y0.aa==6)
 else
 some false
 else
 some false
 else
 if(decide (x0<=a0.fN)) then
 (oi y0 a1).bind fun y2=>
 if(!y2) then
 some true
 else
 if(decide (x0 > 0)) then
 some (y0.aa==6)
 else
 some false
 else
 some false:Option (Bool)).bind fun x1=>
 if x1=true then
 some (.stop false)
 else
 kc a0 a1 n (ae (x0+1))
 else
 some (.next ())
def qK (a0:bZ) (a1:Int):Option Bool:=
 (if(a0.aa==0) then
 some true
 else
 some (a0.aa==1):Option (Bool)).bind fun x2=>
 if x2=true then
 some (jp a0 (⟨a0.aa,[],0,(⟨aq,aq,aq,aq⟩:A4 ay)⟩:bZ))
 else
 (if(a0.aa != 2) then
 some true
 else
 (eN a0.bu).bind fun y7=>
 if(!y7) then
 some true
 else
 if(decide (a0.fN < 0)) then
 some true
 else
 some (decide (a0.fN > 3)):Option (Bool)).bind fun x0=>
 if x0=true then
 some false
 else
 (kc a0 a1 (((4:Int) - (0)).toNat+1) 0).bind fun lr0=>
 Ctl.elim lr0 (fun v=>some v) fun _=>
 some true
def sW (a0:ah) (a1:Int):Option Bool:=
 ((eN a0.fX).bind fun y3=>
 if y3=true then
 some true
 else
 if(a0.aa==4) then
 if(a0.fX==[]) then
 some true
 else
 if(a0.aa==3) then
 some true
 else
 if(a0.aa==8) then
 some true
 else
 some (decide (a0.aa >= 9))
 else
 if(a0.aa==3) then
 some true
 else
 if(a0.aa==8) then
 some true
 else
 some (decide (a0.aa >= 9)):Option (Bool)).bind fun x0=>
 ((eN a0.fY).bind fun y0=>
 if y0=true then
 some true
 else
 if(a0.aa==2) then
 if(a0.fY==[116,104,105,115]) then
 some true
 else
 if(a0.aa==1) then
 some true
 else
 if(a0.aa==5) then
 some true
 else
 if(a0.aa==6) then
 some true
 else
 some (decide (a0.aa >= 9))
 else
 if(a0.aa==3) then
 if(a0.fY==[116,104,105,115]) then
 some true
 else
 if(a0.aa==1) then
 some true
 else
 if(a0.aa==5) then
 some true
 else
 if(a0.aa==6) then
 some true
 else
 some (decide (a0.aa >= 9))
 else
 if(a0.aa==4) then
 if(a0.fY==[116,104,105,115]) then
 some true
 else
 if(a0.aa==1) then
 some true
 else
 if(a0.aa==5) then
 some true
 else
 if(a0.aa==6) then
 some true
 else
 some (decide (a0.aa >= 9))
 else
 if(a0.aa==1) then
 some true
 else
 if(a0.aa==5) then
 some true
 else
 if(a0.aa==6) then
 some true
 else
 some (decide (a0.aa >= 9)):Option (Bool)).bind fun x1=>
 ((eN a0.af).bind fun y1=>
 if y1=true then
 some true
 else
 if(a0.aa != 2) then
 if(a0.aa != 3) then
 some (a0.aa != 4)
 else
 some false
 else
 some false:Option (Bool)).bind fun x2=>
 (if(a0.av.aa==2) then
 (qK a0.av a1).bind fun y2=>
 if y2=true then
 some true
 else
 if(a0.aa != 5) then
 some (a0.aa != 6)
 else
 some false
 else
 if(a0.aa != 5) then
 some (a0.aa != 6)
 else
 some false:Option (Bool)).bind fun x3=>
 if x0=true then
 if x1=true then
 if x2=true then
 some x3
 else
 some false
 else
 some false
 else
 some false
def xG (a0:Int):Option Int:=
 (if(decide (a0 >= 6)) then
 if(decide (a0<=11)) then
 some true
 else
 some (a0==14)
 else
 some (a0==14):Option (Bool)).bind fun x3=>
 if x3=true then
 some 2
 else
 (if(a0==12) then
 some true
 else
 some (a0==13):Option (Bool)).bind fun x8=>
 if x8=true then
 some 1
 else
 some 0
def ni (a0:ai) (ref06_form_rec:ai->Option Bool):Nat->Int->Option (Ctl (Bool) (Unit))
 | 0,_=>none
 | n+1,x0=>
 if(decide (x0 < (a0.az.length:Int))) then
 (idx a0.az x0).bind fun y0=>
 ((idx a0.az x0).bind fun y1=>
 (ref06_form_rec y1).bind fun y2=>
 if(!y2) then
 some true
 else
 if(a0.aa==13) then
 if(y0.aa != 2) then
 if(y0.aa != 3) then
 some true
 else
 if(a0.aa==14) then
 some false
 else
 some false
 else
 if(a0.aa==14) then
 some false
 else
 some false
 else
 if(a0.aa==14) then
 if(y0.aa != 2) then
 if(y0.aa != 3) then
 some (y0.aa != 4)
 else
 some false
 else
 some false
 else
 some false:Option (Bool)).bind fun x1=>
 if x1=true then
 some (.stop false)
 else
 ni a0 ref06_form_rec n (ae (x0+1))
 else
 some (.next ())
def li : Nat->ai->Option Bool
 | 0,_=>none
 | n+1,a0=>
 (if(decide (a0.aa < 1)) then
 some true
 else
 if(decide (a0.aa > 14)) then
 some true
 else
 (xG a0.aa).bind fun(y3:Int)=>
 if((a0.az.length:Int) != y3) then
 some true
 else
 if(a0.aa != 1) then
 if(a0.cj != 0) then
 some true
 else
 if(a0.aa != 2) then
 if(!(a0.af==[])) then
 some true
 else
 if(decide (a0.cj < 0)) then
 some true
 else
 if(decide (a0.cj > 999999999)) then
 some true
 else
 if(a0.aa==2) then
 (eN a0.af).bind fun y0=>
 some (!y0)
 else
 some false
 else
 if(decide (a0.cj < 0)) then
 some true
 else
 if(decide (a0.cj > 999999999)) then
 some true
 else
 if(a0.aa==2) then
 (eN a0.af).bind fun y1=>
 some (!y1)
 else
 some false
 else
 if(a0.aa != 2) then
 if(!(a0.af==[])) then
 some true
 else
 if(decide (a0.cj < 0)) then
 some true
 else
 if(decide (a0.cj > 999999999)) then
 some true
 else
 if(a0.aa==2) then
 (eN a0.af).bind fun y2=>
 some (!y2)
 else
 some false
 else
 if(decide (a0.cj < 0)) then
 some true
 else
 if(decide (a0.cj > 999999999)) then
 some true
 else
 if(a0.aa==2) then
 (eN a0.af).bind fun y4=>
 some (!y4)
 else
 some false:Option (Bool)).bind fun x0=>
 if x0=true then
 some false
 else
 (ni a0 (li n) ((a0.az.length - 0:Int).toNat+1) 0).bind fun lr0=>
 Ctl.elim lr0 (fun v=>some v) fun _=>
 some true
def qx (a0:ai):Option Bool:=
 (li (bL a0+1) a0).bind fun y1=>
 if y1=true then
 (ik (bL a0+1) a0).bind fun(y4:Int)=>
 some (decide (y4<=20))
 else
 some false
def mq (a0:ah):Nat->Int->Option (Ctl (Bool) (Unit))
 | 0,_=>none
 | n+1,x0=>
 if(decide (x0 < (a0.bN.length:Int))) then
 (idx a0.bN x0).bind fun y0=>
 (qx y0).bind fun y1=>
 if(!y1) then
 some (.stop false)
 else
 mq a0 n (ae (x0+1))
 else
 some (.next ())
def tb (a0:ah):Option Bool:=
 (if(a0.aa==2) then
 some true
 else
 if(a0.aa==4) then
 some true
 else
 if(a0.aa==5) then
 some true
 else
 if(a0.aa==7) then
 some true
 else
 if(a0.aa==8) then
 some true
 else
 if(a0.aa==11) then
 (gU (bL a0.fE+bL cA+1) a0.fE cA).bind fun y7=>
 some y7
 else
 some false:Option (Bool)).bind fun x9=>
 (if(!x9) then
 (qx a0.fE).bind fun y0=>
 if(!y0) then
 some true
 else
 if(a0.aa==6) then
 if(a0.fE.aa != 2) then
 if(a0.fE.aa != 3) then
 if(a0.fE.aa != 4) then
 some true
 else
 some (decide ((a0.bN.length:Int) > 5))
 else
 some (decide ((a0.bN.length:Int) > 5))
 else
 some (decide ((a0.bN.length:Int) > 5))
 else
 some (decide ((a0.bN.length:Int) > 5))
 else
 if(a0.aa==6) then
 if(a0.fE.aa != 2) then
 if(a0.fE.aa != 3) then
 if(a0.fE.aa != 4) then
 some true
 else
 some (decide ((a0.bN.length:Int) > 5))
 else
 some (decide ((a0.bN.length:Int) > 5))
 else
 some (decide ((a0.bN.length:Int) > 5))
 else
 some (decide ((a0.bN.length:Int) > 5)):Option (Bool)).bind fun x0=>
 if x0=true then
 some false
 else
 (mq a0 ((a0.bN.length - 0:Int).toNat+1) 0).bind fun lr0=>
 Ctl.elim lr0 (fun v=>some v) fun _=>
 some true
def nJ (a0:ah) (a1:Int) (ref08_form_rec:ah->Int->Option Bool):Nat->Int->Option (Ctl (Bool) (Unit))
 | 0,_=>none
 | n+1,x0=>
 if(decide (x0 < (a0.au.length:Int))) then
 (idx a0.au x0).bind fun y0=>
 (ref08_form_rec y0 a1).bind fun y1=>
 if(!y1) then
 some (.stop false)
 else
 nJ a0 a1 ref08_form_rec n (ae (x0+1))
 else
 some (.next ())
def nv (a0:ah) (a1:Int) (ref08_form_rec:ah->Int->Option Bool):Nat->Int->Option (Ctl (Bool) (Unit))
 | 0,_=>none
 | n+1,x0=>
 if(decide (x0 < (a0.aZ.length:Int))) then
 (idx a0.aZ x0).bind fun y0=>
 (ref08_form_rec y0 a1).bind fun y1=>
 if(!y1) then
 some (.stop false)
 else
 nv a0 a1 ref08_form_rec n (ae (x0+1))
 else
 some (.next ())
def gx : Nat->ah->Int->Option Bool
 | 0,_,_=>none
 | n+1,a0,a1=>
 ((oY a0).bind fun y3=>
 if(!y3) then
 some true
 else
 (sW a0 a1).bind fun y6=>
 if(!y6) then
 some true
 else
 (tb a0).bind fun y9=>
 some (!y9):Option (Bool)).bind fun x0=>
 if x0=true then
 some false
 else
 (nJ a0 a1 (gx n) ((a0.au.length - 0:Int).toNat+1) 0).bind fun lr0=>
 Ctl.elim lr0 (fun v=>some v) fun _=>
 (nv a0 a1 (gx n) ((a0.aZ.length - 0:Int).toNat+1) 0).bind fun lr1=>
 Ctl.elim lr1 (fun v=>some v) fun _=>
 some true
def pY (a0:ah) (ref08_Deep_rec:ah->Option Int):Nat->Int->Int->Option (Int)
 | 0,_,_=>none
 | n+1,x0,x1=>
 if(decide (x1 < (a0.au.length:Int))) then
 (idx a0.au x1).bind fun y0=>
 (ref08_Deep_rec y0).bind fun(y1:Int)=>
 pY a0 ref08_Deep_rec n (if y1 > x0 then y1 else x0) (ae (x1+1))
 else
 some x0
def pU (a0:ah) (ref08_Deep_rec:ah->Option Int):Nat->Int->Int->Option (Int)
 | 0,_,_=>none
 | n+1,x0,x1=>
 if(decide (x1 < (a0.aZ.length:Int))) then
 (idx a0.aZ x1).bind fun y0=>
 (ref08_Deep_rec y0).bind fun(y1:Int)=>
 pU a0 ref08_Deep_rec n (if y1 > x0 then y1 else x0) (ae (x1+1))
 else
 some x0
def jA : Nat->ah->Option Int
 | 0,_=>none
 | n+1,a0=>
 (pY a0 (jA n) ((a0.au.length - 0:Int).toNat+1) 0 0).bind fun x0=>
 (pU a0 (jA n) ((a0.aZ.length - 0:Int).toNat+1) x0 0).bind fun x1=>
 some (ae (x1+1))
def qz (a0:ah) (a1:Int):Option Bool:=
 (gx (cc a0+1) a0 a1).bind fun y1=>
 if y1=true then
 (jA (cc a0+1) a0).bind fun(y4:Int)=>
 some (decide (y4<=20))
 else
 some false
def lv (a0:bZ) (a1:Int):Option Bool:=
 (qK a0 a1).bind fun y1=>
 if y1=true then
 if(a0.am.a1.aa != 7) then
 if(a0.am.a2.aa != 7) then
 if(a0.am.a3.aa != 7) then
 if(a0.am.a0.aa != 7) then
 some true
 else
 some (a0.am.a0.fN==0)
 else
 some false
 else
 some false
 else
 some false
 else
 some false
def nB (a0:List cN) (a2:Int):Nat->Int->Option (Ctl (Bool) (Unit))
 | 0,_=>none
 | n+1,x0=>
 if(decide (x0 < (a0.length:Int))) then
 ((idx a0 x0).bind fun y0=>
 (eN y0.af).bind fun y1=>
 if(!y1) then
 some true
 else
 (idx a0 x0).bind fun y2=>
 if(y2.av.aa==0) then
 some true
 else
 (idx a0 x0).bind fun y3=>
 (lv y3.av a2).bind fun y4=>
 some (!y4):Option (Bool)).bind fun x1=>
 if x1=true then
 some (.stop false)
 else
 nB a0 a2 n (ae (x0+1))
 else
 some (.next ())
def jB (a0:List cN) (a1:Int) (a2:Int):Option Bool:=
 (nB a0 a2 ((a0.length - 0:Int).toNat+1) 0).bind fun lr0=>
 Ctl.elim lr0 (fun v=>some v) fun _=>
 some (decide ((a0.length:Int)<=a1))
def nI (a0:List ah) (a1:Int) (ref10_open_rec:(List ah)->Int->Option Bool):Nat->Int->Option (Ctl (Bool) (Unit))
 | 0,_=>none
 | n+1,x0=>
 if(decide (x0 < (a0.length:Int))) then
 ((idx a0 x0).bind fun y0=>
 if(y0.av.aa==2) then
 (idx a0 x0).bind fun y1=>
 (lv y1.av a1).bind fun y2=>
 if(!y2) then
 some true
 else
 (idx a0 x0).bind fun y3=>
 (ref10_open_rec y3.au a1).bind fun y4=>
 if(!y4) then
 some true
 else
 (idx a0 x0).bind fun y5=>
 (ref10_open_rec y5.aZ a1).bind fun y6=>
 some (!y6)
 else
 (idx a0 x0).bind fun y7=>
 (ref10_open_rec y7.au a1).bind fun y8=>
 if(!y8) then
 some true
 else
 (idx a0 x0).bind fun y9=>
 (ref10_open_rec y9.aZ a1).bind fun y10=>
 some (!y10):Option (Bool)).bind fun x1=>
 if x1=true then
 some (.stop false)
 else
 nI a0 a1 ref10_open_rec n (ae (x0+1))
 else
 some (.next ())
def fW : Nat->(List ah)->Int->Option Bool
 | 0,_,_=>none
 | n+1,a0,a1=>
 (nI a0 a1 (fW n) ((a0.length - 0:Int).toNat+1) 0).bind fun lr0=>
 Ctl.elim lr0 (fun v=>some v) fun _=>
 some true
def kF (a0:br) (a1:Int):Nat->Int->Option (Ctl (Bool) (Unit))
 | 0,_=>none
 | n+1,x0=>
 if(decide (x0 < (a0.au.length:Int))) then
 (idx a0.au x0).bind fun y0=>
 (qz y0 a1).bind fun y1=>
 if(!y1) then
 some (.stop false)
 else
 kF a0 a1 n (ae (x0+1))
 else
 some (.next ())
def pm (a0:br) (a1:Int):Option Bool:=
 (kF a0 a1 ((a0.au.length - 0:Int).toNat+1) 0).bind fun lr0=>
 Ctl.elim lr0 (fun v=>some v) fun _=>
 (eN a0.af).bind fun y0=>
 if y0=true then
 (lv a0.aQ a1).bind fun y1=>
 if y1=true then
 (jB a0.ac 5 a1).bind fun y2=>
 if y2=true then
 (jB a0.bC 12 a1).bind fun y3=>
 if y3=true then
 (fW (cC a0.au+1) a0.au a1).bind fun y4=>
 some y4
 else
 some false
 else
 some false
 else
 some false
 else
 some false
def mo (a0:be):Nat->Int->Option (Ctl (Bool) (Unit))
 | 0,_=>none
 | n+1,x0=>
 if(decide (x0 < (a0.ac.length:Int))) then
 (idx a0.ac x0).bind fun y0=>
 (eN y0).bind fun y1=>
 if(!y1) then
 some (.stop false)
 else
 mo a0 n (ae (x0+1))
 else
 some (.next ())
def mf (a0:be):Nat->Int->Option (Ctl (Bool) (Unit))
 | 0,_=>none
 | n+1,x0=>
 if(decide (x0 < (a0.bl.length:Int))) then
 (idx a0.bl x0).bind fun y0=>
 ((idx a0.bl x0).bind fun y1=>
 (oi y1 (a0.ac.length:Int)).bind fun y2=>
 if(!y2) then
 some true
 else
 if(y0.aa != 2) then
 if(y0.aa != 3) then
 some (y0.aa != 4)
 else
 some false
 else
 some false:Option (Bool)).bind fun x1=>
 if x1=true then
 some (.stop false)
 else
 mf a0 n (ae (x0+1))
 else
 some (.next ())
def mi (a0:be):Nat->Int->Option (Ctl (Bool) (Unit))
 | 0,_=>none
 | n+1,x0=>
 if(decide (x0 < (a0.ak.length:Int))) then
 (idx a0.ak x0).bind fun y0=>
 (pm y0 (a0.ac.length:Int)).bind fun y1=>
 if(!y1) then
 some (.stop false)
 else
 mi a0 n (ae (x0+1))
 else
 some (.next ())
def sE (a0:be):Option Bool:=
 (mo a0 ((a0.ac.length - 0:Int).toNat+1) 0).bind fun lr0=>
 Ctl.elim lr0 (fun v=>some v) fun _=>
 (mf a0 ((a0.bl.length - 0:Int).toNat+1) 0).bind fun lr1=>
 Ctl.elim lr1 (fun v=>some v) fun _=>
 (mi a0 ((a0.ak.length - 0:Int).toNat+1) 0).bind fun lr2=>
 Ctl.elim lr2 (fun v=>some v) fun _=>
 (eN a0.af).bind fun y0=>
 if y0=true then
 if(decide ((a0.ac.length:Int)<=3)) then
 if(a0.cb==[]) then
 if((a0.bl.length:Int)==0) then
 (jB a0.bn 12 (a0.ac.length:Int)).bind fun y1=>
 if y1=true then
 some (decide ((a0.ak.length:Int)<=12))
 else
 some false
 else
 (eN a0.cb).bind fun y2=>
 if y2=true then
 if(decide ((a0.bl.length:Int)<=3)) then
 (jB a0.bn 12 (a0.ac.length:Int)).bind fun y3=>
 if y3=true then
 some (decide ((a0.ak.length:Int)<=12))
 else
 some false
 else
 some false
 else
 some false
 else
 (eN a0.cb).bind fun y4=>
 if y4=true then
 if(decide ((a0.bl.length:Int)<=3)) then
 (jB a0.bn 12 (a0.ac.length:Int)).bind fun y5=>
 if y5=true then
 some (decide ((a0.ak.length:Int)<=12))
 else
 some false
 else
 some false
 else
 some false
 else
 some false
 else
 some false
def oq (a0:List be):Nat->Int->Int->Option (Ctl (Bool) (Int))
 | 0,_,_=>none
 | n+1,x0,x1=>
 if(decide (x1 < (a0.length:Int))) then
 (if(decide ((a0.length:Int) > 20)) then
 some true
 else
 (idx a0 x1).bind fun y0=>
 (sE y0).bind fun y1=>
 some (!y1):Option (Bool)).bind fun x2=>
 if x2=true then
 some (.stop false)
 else
 (idx a0 x1).bind fun y2=>
 (jU y2).bind fun(y3:Int)=>
 oq a0 n (ae (x0+y3)) (ae (x1+1))
 else
 some (.next x0)
def tq (a0:List be):Option Bool:=
 (oq a0 ((a0.length - 0:Int).toNat+1) 0 0).bind fun lr0=>
 Ctl.elim lr0 (fun v=>some v) fun x0=>
 some (decide (x0<=400))
def mg (x0:Int) (y0:be):Nat->Int->Option (Ctl (Bool) (Unit))
 | 0,_=>none
 | n+1,x1=>
 if(decide (x1 < x0)) then
 (idx y0.ac x1).bind fun y1=>
 (idx y0.ac x0).bind fun y2=>
 if(y1==y2) then
 some (.stop true)
 else
 mg x0 y0 n (ae (x1+1))
 else
 some (.next ())
def mb (y0:be):Nat->Int->Option (Ctl (Bool) (Unit))
 | 0,_=>none
 | n+1,x0=>
 if(decide (x0 < (y0.ac.length:Int))) then
 (mg x0 y0 (((x0:Int) - (0)).toNat+1) 0).bind fun lr0=>
 Ctl.elim lr0 (fun v=>some (.stop v)) fun _=>
 mb y0 n (ae (x0+1))
 else
 some (.next ())
def me (a0:List be):Nat->Int->Option (Ctl (Bool) (Unit))
 | 0,_=>none
 | n+1,x0=>
 if(decide (x0 < (a0.length:Int))) then
 (idx a0 x0).bind fun y0=>
 (mb y0 ((y0.ac.length - 0:Int).toNat+1) 0).bind fun lr0=>
 Ctl.elim lr0 (fun v=>some (.stop v)) fun _=>
 me a0 n (ae (x0+1))
 else
 some (.next ())
def sV (a0:List be):Option Bool:=
 (me a0 ((a0.length - 0:Int).toNat+1) 0).bind fun lr0=>
 Ctl.elim lr0 (fun v=>some v) fun _=>
 some false
def nz (a0:List cN) (a1:List cN) (a2:Bool):Nat->Int->Option (Unit)
 | 0,_=>none
 | n+1,x0=>
 if(decide (x0 < (a0.length:Int))) then
 ((idx a0 x0).bind fun y0=>
 (idx a1 x0).bind fun y1=>
 if(!(y0.af==y1.af)) then
 some true
 else
 (idx a0 x0).bind fun y2=>
 (idx a1 x0).bind fun y3=>
 if(!(jp y2.av y3.av)) then
 some true
 else
 if a2=true then
 (idx a0 x0).bind fun y4=>
 (idx a1 x0).bind fun y5=>
 some (y4.fAt != y5.fAt)
 else
 some false:Option (Bool)).bind fun x1=>
 if x1=true then
 none
 else
 nz a0 a1 a2 n (ae (x0+1))
 else
 some ()
def qk (a0:List cN) (a1:List cN) (a2:Bool):Option Bool:=
 if((a0.length:Int) != (a1.length:Int)) then
 none
 else
 (nz a0 a1 a2 ((a0.length - 0:Int).toNat+1) 0).bind fun _=>
 some true
def nr (a0:List ah) (a1:List ah) (ref08_Same_rec:ah->ah->Option Bool):Nat->Int->Option (Unit)
 | 0,_=>none
 | n+1,x0=>
 if(decide (x0 < (a0.length:Int))) then
 (idx a0 x0).bind fun y0=>
 (idx a1 x0).bind fun y1=>
 (ref08_Same_rec y0 y1).bind fun y2=>
 if(!y2) then
 none
 else
 nr a0 a1 ref08_Same_rec n (ae (x0+1))
 else
 some ()
def nG (a0:ah) (a1:ah):Nat->Int->Option (Unit)
 | 0,_=>none
 | n+1,x0=>
 if(decide (x0 < (a0.bN.length:Int))) then
 (idx a0.bN x0).bind fun y0=>
 (idx a1.bN x0).bind fun y1=>
 (gU (bL y0+bL y1+1) y0 y1).bind fun y2=>
 if(!y2) then
 none
 else
 nG a0 a1 n (ae (x0+1))
 else
 some ()
mutual
def kg : Nat->(List ah)->(List ah)->Option Bool
 | 0,_,_=>none
 | n+1,a0,a1=>
 if((a0.length:Int) != (a1.length:Int)) then
 none
 else
 (nr a0 a1 (lk n) ((a0.length - 0:Int).toNat+1) 0).bind fun _=>
 some true
def lk : Nat->ah->ah->Option Bool
 | 0,_,_=>none
 | n+1,a0,a1=>
 (if(a0.aa != a1.aa) then
 none
 else
 if(!(a0.fX==a1.fX)) then
 none
 else
 if(!(a0.fY==a1.fY)) then
 none
 else
 if(!(a0.af==a1.af)) then
 none
 else
 if(!(jp a0.av a1.av)) then
 none
 else
 (gU (bL a0.fE+bL a1.fE+1) a0.fE a1.fE).bind fun y6=>
 if(!y6) then
 none
 else
 some ():Option (Unit)).bind fun _=>
 if((a0.bN.length:Int) != (a1.bN.length:Int)) then
 none
 else
 (nG a0 a1 ((a0.bN.length - 0:Int).toNat+1) 0).bind fun _=>
 ((kg n) a0.au a1.au).bind fun y0=>
 if y0=true then
 ((kg n) a0.aZ a1.aZ).bind fun y1=>
 some y1
 else
 none
end

def uU (a0:br) (a1:br) (a2:Bool):Option Bool:=
 (if(!(a0.af==a1.af)) then
 none
 else
 if(!(a0.fm==a1.fm)) then
 none
 else
 if(!(jp a0.aQ a1.aQ)) then
 none
 else
 if a2=true then
 none
 else
 some ():Option (Unit)).bind fun _=>
 (qk a0.ac a1.ac a2).bind fun y7=>
 if y7=true then
 (qk a0.bC a1.bC a2).bind fun y0=>
 if y0=true then
 (kg (cC a0.au+cC a1.au+1) a0.au a1.au).bind fun y1=>
 some y1
 else
 none
 else
 none
def pd (a0:be) (a1:be):Nat->Int->Option (Unit)
 | 0,_=>none
 | n+1,x0=>
 if(decide (x0 < (a0.ac.length:Int))) then
 (idx a0.ac x0).bind fun y0=>
 (idx a1.ac x0).bind fun y1=>
 if(!(y0==y1)) then
 none
 else
 pd a0 a1 n (ae (x0+1))
 else
 some ()
def pg (a0:be) (a1:be):Nat->Int->Option (Unit)
 | 0,_=>none
 | n+1,x0=>
 if(decide (x0 < (a0.bl.length:Int))) then
 (idx a0.bl x0).bind fun y0=>
 (idx a1.bl x0).bind fun y1=>
 if(!(jx y0 y1)) then
 none
 else
 pg a0 a1 n (ae (x0+1))
 else
 some ()
def pk (a0:be) (a1:be) (a2:Bool):Nat->Int->Option (Unit)
 | 0,_=>none
 | n+1,x0=>
 if(decide (x0 < (a0.ak.length:Int))) then
 (idx a0.ak x0).bind fun y0=>
 (idx a1.ak x0).bind fun y1=>
 (uU y0 y1 a2).bind fun y2=>
 if(!y2) then
 none
 else
 pk a0 a1 a2 n (ae (x0+1))
 else
 some ()
def wG (a0:be) (a1:be) (a2:Bool):Option Bool:=
 (if(!(a0.af==a1.af)) then
 none
 else
 if(!(a0.cb==a1.cb)) then
 none
 else
 if((a0.ac.length:Int) != (a1.ac.length:Int)) then
 none
 else
 if((a0.bl.length:Int) != (a1.bl.length:Int)) then
 none
 else
 if((a0.ak.length:Int) != (a1.ak.length:Int)) then
 none
 else
 if a2=true then
 none
 else
 some ():Option (Unit)).bind fun _=>
 (pd a0 a1 ((a0.ac.length - 0:Int).toNat+1) 0).bind fun _=>
 (pg a0 a1 ((a0.bl.length - 0:Int).toNat+1) 0).bind fun _=>
 (pk a0 a1 a2 ((a0.ak.length - 0:Int).toNat+1) 0).bind fun _=>
 (qk a0.bn a1.bn a2).bind fun y0=>
 some y0
def nF (a0:List be) (a1:List be) (a2:Bool):Nat->Int->Option (Unit)
 | 0,_=>none
 | n+1,x0=>
 if(decide (x0 < (a0.length:Int))) then
 (idx a0 x0).bind fun y0=>
 (idx a1 x0).bind fun y1=>
 (wG y0 y1 a2).bind fun y2=>
 if(!y2) then
 none
 else
 nF a0 a1 a2 n (ae (x0+1))
 else
 some ()
def uQ (a0:List be) (a1:List be) (a2:Bool):Option Bool:=
 if((a0.length:Int) != (a1.length:Int)) then
 none
 else
 (nF a0 a1 a2 ((a0.length - 0:Int).toNat+1) 0).bind fun _=>
 some true
def rm (a0:List be):Option Bool:=
 (tk a0).bind fun y3=>
 if y3=true then
 Option.bind ox fun(y6:Bool)=>
 some y6
 else
 (uy a0).bind fun y0=>
 (tq a0).bind fun y1=>
 if(!y1) then
 if(y0==[]) then
 Option.bind ox fun(y2:Bool)=>
 some y2
 else
 some false
 else
 (if(decide ((y0.length:Int) > 16384)) then
 some true
 else
 (sV a0).bind fun y4=>
 some y4:Option (Bool)).bind fun x0=>
 if x0=true then
 Option.bind ox fun(y5:Bool)=>
 some y5
 else
 (xg y0).bind fun y7=>
 if(y7.2.gY==0) then
 (uQ a0 y7.1 false).bind fun y8=>
 if y8=true then
 Option.bind ox fun(y9:Bool)=>
 some y9
 else
 some false
 else
 some false
end
end Go.Proofs.YtjimbkljclfflaaGreatDoor
