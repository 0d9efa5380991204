/- A part of the proof that the law ShowText gives true for every input. -/
import Derived.Test.YtjimbkljclfflaaGreatDoorShowTextA5
import Derived.Test.YtjimbkljclfflaaGreatDoorShowTextX
/- The types and the plain functions. -/
namespace Go.Proofs.YtjimbkljclfflaaGreatDoor
open Go.RowKit Go.Abs
noncomputable section
structure be where
 aa:Int
 fN:Int
 deriving DecidableEq
abbrev aB : be:=(⟨0,0⟩:be)
abbrev ax (x:be):List PV:=[.int .i64 x.aa,.int .i64 x.fN]
structure cj where
 aa:Int
 ca:List UInt8
 fN:Int
 aP:A4 be
 deriving DecidableEq
abbrev mF : cj:=(⟨0,[],0,(⟨aB,aB,aB,aB⟩:A4 be)⟩:cj)
abbrev br (x:cj):List PV:=[.int .i64 x.aa,.str x.ca,.int .i64 x.fN,.int .i64 x.aP.a0.aa,.int .i64 x.aP.a0.fN,.int .i64 x.aP.a1.aa,.int .i64 x.aP.a1.fN,.int .i64 x.aP.a2.aa,.int .i64 x.aP.a2.fN,.int .i64 x.aP.a3.aa,.int .i64 x.aP.a3.fN]
structure dV where
 aj:List UInt8
 bt:cj
 fAt:Int
 deriving DecidableEq
abbrev vU : dV:=(⟨[],mF,0⟩:dV)
abbrev bm (x:dV):List PV:=[.str x.aj,.int .i64 x.bt.aa,.str x.bt.ca,.int .i64 x.bt.fN,.int .i64 x.bt.aP.a0.aa,.int .i64 x.bt.aP.a0.fN,.int .i64 x.bt.aP.a1.aa,.int .i64 x.bt.aP.a1.fN,.int .i64 x.bt.aP.a2.aa,.int .i64 x.bt.aP.a2.fN,.int .i64 x.bt.aP.a3.aa,.int .i64 x.bt.aP.a3.fN,.int .i64 x.fAt]
structure au where
 aa:Int
 cQ:Int
 aj:List UInt8
 aZ:List au
abbrev gv : au:=(⟨0,0,[],[]⟩:au)
mutual
def Ni : au→List PV
 | ⟨z0,z1,z2,z3⟩=>[.int .i64 z0,.int .i64 z1,.str z2,.vs 4 (cc z3)]
def cc : List au→List (List PV)
 | []=>[]
 | x::l=>Ni x::cc l
end
abbrev ai (x:au):List PV:=[.int .i64 x.aa,.int .i64 x.cQ,.str x.aj,.vs 4 (cc x.aZ)]
theorem Qd (x:au):Ni x=ai x:=by cases x;simp only[Ni]
theorem aU : ∀ l:List au,cc l=l.map ai
 | []=>by simp only[cc,List.map_nil]
 | x::l=>by simp only[cc,List.map_cons,Qd,aU l]
mutual
def cr : au→Nat
 | ⟨_,_,_,z3⟩=>1+dB z3
def dB : List au→Nat
 | []=>0
 | x::l=>cr x+dB l
end
structure aI where
 aa:Int
 fX:List UInt8
 fY:List UInt8
 aj:List UInt8
 bt:cj
 fE:au
 ce:List au
 aH:List aI
 bC:List aI
 fAt:Int
abbrev kF : aI:=(⟨0,[],[],[],mF,gv,[],[],[],0⟩:aI)
mutual
def MW : aI→List PV
 | ⟨z0,z1,z2,z3,z4,z5,z6,z7,z8,z9⟩=>[.int .i64 z0,.str z1,.str z2,.str z3,.int .i64 z4.aa,.str z4.ca,.int .i64 z4.fN,.int .i64 z4.aP.a0.aa,.int .i64 z4.aP.a0.fN,.int .i64 z4.aP.a1.aa,.int .i64 z4.aP.a1.fN,.int .i64 z4.aP.a2.aa,.int .i64 z4.aP.a2.fN,.int .i64 z4.aP.a3.aa,.int .i64 z4.aP.a3.fN,.int .i64 z5.aa,.int .i64 z5.cQ,.str z5.aj,.vs 4 (cc z5.aZ),.vs 4 (cc z6),.vs 23 (cq z7),.vs 23 (cq z8),.int .i64 z9]
def cq : List aI→List (List PV)
 | []=>[]
 | x::l=>MW x::cq l
end
abbrev aE (x:aI):List PV:=[.int .i64 x.aa,.str x.fX,.str x.fY,.str x.aj,.int .i64 x.bt.aa,.str x.bt.ca,.int .i64 x.bt.fN,.int .i64 x.bt.aP.a0.aa,.int .i64 x.bt.aP.a0.fN,.int .i64 x.bt.aP.a1.aa,.int .i64 x.bt.aP.a1.fN,.int .i64 x.bt.aP.a2.aa,.int .i64 x.bt.aP.a2.fN,.int .i64 x.bt.aP.a3.aa,.int .i64 x.bt.aP.a3.fN,.int .i64 x.fE.aa,.int .i64 x.fE.cQ,.str x.fE.aj,.vs 4 (cc x.fE.aZ),.vs 4 (cc x.ce),.vs 23 (cq x.aH),.vs 23 (cq x.bC),.int .i64 x.fAt]
theorem Qh (x:aI):MW x=aE x:=by cases x;simp only[MW]
theorem bn : ∀ l:List aI,cq l=l.map aE
 | []=>by simp only[cq,List.map_nil]
 | x::l=>by simp only[cq,List.map_cons,Qh,bn l]
mutual
def cy : aI→Nat
 | ⟨_,_,_,_,_,z5,z6,z7,z8,_⟩=>1+cr z5+dB z6+dt z7+dt z8
def dt : List aI→Nat
 | []=>0
 | x::l=>cy x+dt l
end
structure bG where
 aj:List UInt8
 kO:Bool
 cf:cj
 ab:List dV
 co:List dV
 aH:List aI
 fAt:Int
abbrev zGMethod : bG:=(⟨[],false,mF,[],[],[],0⟩:bG)
def KE : bG→Nat
 | ⟨_,_,_,_,_,z5,_⟩=>1+dt z5
def GY : List bG→Nat
 | []=>0
 | x::l=>KE x+GY l
abbrev ay (x:bG):List PV:=[.str x.aj,.bool x.kO,.int .i64 x.cf.aa,.str x.cf.ca,.int .i64 x.cf.fN,.int .i64 x.cf.aP.a0.aa,.int .i64 x.cf.aP.a0.fN,.int .i64 x.cf.aP.a1.aa,.int .i64 x.cf.aP.a1.fN,.int .i64 x.cf.aP.a2.aa,.int .i64 x.cf.aP.a2.fN,.int .i64 x.cf.aP.a3.aa,.int .i64 x.cf.aP.a3.fN,.vs 13 (List.map bm x.ab),.vs 13 (List.map bm x.co),.vs 23 (cq x.aH),.int .i64 x.fAt]
structure aJ where
 aj:List UInt8
 ab:List (List UInt8)
 cO:List UInt8
 bU:List be
 bw:List dV
 af:List bG
 fAt:Int
abbrev zGClass : aJ:=(⟨[],[],[],[],[],[],0⟩:aJ)
def Oa : aJ→Nat
 | ⟨_,_,_,_,_,z5,_⟩=>1+GY z5
def RR : List aJ→Nat
 | []=>0
 | x::l=>Oa x+RR l
abbrev ah (x:aJ):List PV:=[.str x.aj,.vs 1 (List.map eS x.ab),.str x.cO,.vs 2 (List.map ax x.bU),.vs 13 (List.map bm x.bw),.vs 17 (List.map ay x.af),.int .i64 x.fAt]
structure oY where
 ue:Int
 fAt:Int
 deriving DecidableEq
abbrev gj : oY:=(⟨0,0⟩:oY)
abbrev iQ (x:oY):List PV:=[.int .i64 x.ue,.int .i64 x.fAt]
structure ct where
 aa:Int
 dT:List UInt8
 fAt:Int
 deriving DecidableEq
abbrev ig : ct:=(⟨0,[],0⟩:ct)
abbrev aF (x:ct):List PV:=[.int .i64 x.aa,.str x.dT,.int .i64 x.fAt]
structure gx where
 fC:aJ
 fM:bG
 fV:List dV
 fN:List (List UInt8)
 gJ:Int
 fF:oY
abbrev zGGot_ref09 : gx:=(⟨zGClass,zGMethod,[],[],0,gj⟩:gx)
def KU : gx→Nat
 | ⟨z0,z1,_,_,_,_⟩=>1+Oa z0+KE z1
def Ki : List gx→Nat
 | []=>0
 | x::l=>KU x+Ki l
abbrev cI (x:gx):List PV:=[.str x.fC.aj,.vs 1 (List.map eS x.fC.ab),.str x.fC.cO,.vs 2 (List.map ax x.fC.bU),.vs 13 (List.map bm x.fC.bw),.vs 17 (List.map ay x.fC.af),.int .i64 x.fC.fAt,.str x.fM.aj,.bool x.fM.kO,.int .i64 x.fM.cf.aa,.str x.fM.cf.ca,.int .i64 x.fM.cf.fN,.int .i64 x.fM.cf.aP.a0.aa,.int .i64 x.fM.cf.aP.a0.fN,.int .i64 x.fM.cf.aP.a1.aa,.int .i64 x.fM.cf.aP.a1.fN,.int .i64 x.fM.cf.aP.a2.aa,.int .i64 x.fM.cf.aP.a2.fN,.int .i64 x.fM.cf.aP.a3.aa,.int .i64 x.fM.cf.aP.a3.fN,.vs 13 (List.map bm x.fM.ab),.vs 13 (List.map bm x.fM.co),.vs 23 (cq x.fM.aH),.int .i64 x.fM.fAt,.vs 13 (List.map bm x.fV),.vs 1 (List.map eS x.fN),.int .i64 x.gJ,.int .i64 x.fF.ue,.int .i64 x.fF.fAt]
structure gw where
 fL:List be
 fT:cj
 fV:dV
 gJ:Int
 fF:oY
 deriving DecidableEq
abbrev kZ : gw:=(⟨[],mF,vU,0,gj⟩:gw)
abbrev dP (x:gw):List PV:=[.vs 2 (List.map ax x.fL),.int .i64 x.fT.aa,.str x.fT.ca,.int .i64 x.fT.fN,.int .i64 x.fT.aP.a0.aa,.int .i64 x.fT.aP.a0.fN,.int .i64 x.fT.aP.a1.aa,.int .i64 x.fT.aP.a1.fN,.int .i64 x.fT.aP.a2.aa,.int .i64 x.fT.aP.a2.fN,.int .i64 x.fT.aP.a3.aa,.int .i64 x.fT.aP.a3.fN,.str x.fV.aj,.int .i64 x.fV.bt.aa,.str x.fV.bt.ca,.int .i64 x.fV.bt.fN,.int .i64 x.fV.bt.aP.a0.aa,.int .i64 x.fV.bt.aP.a0.fN,.int .i64 x.fV.bt.aP.a1.aa,.int .i64 x.fV.bt.aP.a1.fN,.int .i64 x.fV.bt.aP.a2.aa,.int .i64 x.fV.bt.aP.a2.fN,.int .i64 x.fV.bt.aP.a3.aa,.int .i64 x.fV.bt.aP.a3.fN,.int .i64 x.fV.fAt,.int .i64 x.gJ,.int .i64 x.fF.ue,.int .i64 x.fF.fAt]
structure aK where
 uG:Int
 bw:Int
 af:Int
 jc:Int
 gU:Int
 vN:Int
 ui:Int
 deriving DecidableEq
abbrev gk : aK:=(⟨0,0,0,0,0,0,0⟩:aK)
abbrev aV (x:aK):List PV:=[.int .i64 x.uG,.int .i64 x.bw,.int .i64 x.af,.int .i64 x.jc,.int .i64 x.gU,.int .i64 x.vN,.int .i64 x.ui]
structure Gbind_expr where
 fsign:List UInt8
 flevel:Int
 fkind:Int
 deriving DecidableEq
abbrev Li : Gbind_expr:=(⟨[],0,0⟩:Gbind_expr)
abbrev fb (x:Gbind_expr):List PV:=[.str x.fsign,.int .i64 x.flevel,.int .i64 x.fkind]
def qg (a b:cj):Bool:=(a.aa==b.aa&&(a.ca==b.ca&&(a.fN==b.fN&&(a.aP.a0.aa==b.aP.a0.aa&&(a.aP.a0.fN==b.aP.a0.fN&&(a.aP.a1.aa==b.aP.a1.aa&&(a.aP.a1.fN==b.aP.a1.fN&&(a.aP.a2.aa==b.aP.a2.aa&&(a.aP.a2.fN==b.aP.a2.fN&&(a.aP.a3.aa==b.aP.a3.aa&&(a.aP.a3.fN==b.aP.a3.fN&&true)))))))))))
def lv (a b:be):Bool:=(a.aa==b.aa&&(a.fN==b.fN&&true))
def jd (a0:bG):Nat→Int→Int→Option (Int)
 | 0,_,_=>none
 | n+1,x0,x1=>
 if(decide (x1 < (a0.ab.length:Int))) then
 ((idx a0.ab x1).bind fun y0=>
 if(y0.bt.aP.a0.aa==6) then
 some (ae (x0+1))
 else
 some x0:Option (Int)).bind fun x2=>
 jd a0 n x2 (ae (x1+1))
 else
 some x0
def je (a0:bG):Nat→Int→Int→Option (Int)
 | 0,_,_=>none
 | n+1,x0,x1=>
 if(decide (x1 < (a0.co.length:Int))) then
 ((idx a0.co x1).bind fun y0=>
 if(y0.bt.aP.a0.aa==6) then
 some (ae (x0+1))
 else
 some x0:Option (Int)).bind fun x2=>
 je a0 n x2 (ae (x1+1))
 else
 some x0
def oi (a0:bG):Option Int:=
 (jd a0 ((a0.ab.length - 0:Int).toNat+1) 0 0).bind fun x0=>
 (je a0 ((a0.co.length - 0:Int).toNat+1) x0 0).bind fun x1=>
 some x1
def mz (a0:au) (a1:Int) (ref10_kids_rec:au→Int→Option Bool):Nat→Int→Option (Ctl (Bool) (Unit))
 | 0,_=>none
 | n+1,x0=>
 if(decide (x0 < (a0.aZ.length:Int))) then
 (idx a0.aZ x0).bind fun y0=>
 (ref10_kids_rec y0 (ae (a1 - 1))).bind fun y1=>
 if y1=true then
 some (.stop true)
 else
 mz a0 a1 ref10_kids_rec n (ae (x0+1))
 else
 some (.next ())
def jl : Nat→au→Int→Option Bool
 | 0,_,_=>none
 | n+1,a0,a1=>
 (if(decide (a1 < 0)) then
 some true
 else
 some (decide ((a0.aZ.length:Int) > 4)):Option (Bool)).bind fun x2=>
 if x2=true then
 some true
 else
 (mz a0 a1 (jl n) ((a0.aZ.length - 0:Int).toNat+1) 0).bind fun lr0=>
 Ctl.elim lr0 (fun v=>some v) fun _=>
 some false
def mn (a0:aI):Nat→Int→Option (Ctl (Bool) (Unit))
 | 0,_=>none
 | n+1,x0=>
 if(decide (x0 < (a0.ce.length:Int))) then
 (idx a0.ce x0).bind fun y0=>
 (jl (cr y0+1) y0 25).bind fun y1=>
 if y1=true then
 some (.stop true)
 else
 mn a0 n (ae (x0+1))
 else
 some (.next ())
def mi (a0:aI) (a1:Int) (ref10_much_rec:aI→Int→Option Bool):Nat→Int→Option (Ctl (Bool) (Unit))
 | 0,_=>none
 | n+1,x0=>
 if(decide (x0 < (a0.aH.length:Int))) then
 (idx a0.aH x0).bind fun y0=>
 (ref10_much_rec y0 (ae (a1 - 1))).bind fun y1=>
 if y1=true then
 some (.stop true)
 else
 mi a0 a1 ref10_much_rec n (ae (x0+1))
 else
 some (.next ())
def lV (a0:aI) (a1:Int) (ref10_much_rec:aI→Int→Option Bool):Nat→Int→Option (Ctl (Bool) (Unit))
 | 0,_=>none
 | n+1,x0=>
 if(decide (x0 < (a0.bC.length:Int))) then
 (idx a0.bC x0).bind fun y0=>
 (ref10_much_rec y0 (ae (a1 - 1))).bind fun y1=>
 if y1=true then
 some (.stop true)
 else
 lV a0 a1 ref10_much_rec n (ae (x0+1))
 else
 some (.next ())
def iB : Nat→aI→Int→Option Bool
 | 0,_,_=>none
 | n+1,a0,a1=>
 (if(decide (a1 < 0)) then
 some true
 else
 if(decide ((a0.aH.length:Int) > 500)) then
 some true
 else
 if(decide ((a0.bC.length:Int) > 500)) then
 some true
 else
 if(decide ((a0.ce.length:Int) > 20)) then
 some true
 else
 (jl (cr a0.fE+1) a0.fE 25).bind fun y5=>
 some y5:Option (Bool)).bind fun x7=>
 if x7=true then
 some true
 else
 (mn a0 ((a0.ce.length - 0:Int).toNat+1) 0).bind fun lr0=>
 Ctl.elim lr0 (fun v=>some v) fun _=>
 (mi a0 a1 (iB n) ((a0.aH.length - 0:Int).toNat+1) 0).bind fun lr1=>
 Ctl.elim lr1 (fun v=>some v) fun _=>
 (lV a0 a1 (iB n) ((a0.bC.length - 0:Int).toNat+1) 0).bind fun lr2=>
 Ctl.elim lr2 (fun v=>some v) fun _=>
 some false
def jb (a0:aI) (ref08_Size_rec:aI→Option Int):Nat→Int→Int→Option (Int)
 | 0,_,_=>none
 | n+1,x0,x1=>
 if(decide (x1 < (a0.aH.length:Int))) then
 (idx a0.aH x1).bind fun y0=>
 (ref08_Size_rec y0).bind fun(y1:Int)=>
 jb a0 ref08_Size_rec n (ae (x0+y1)) (ae (x1+1))
 else
 some x0
def iU (a0:aI) (ref08_Size_rec:aI→Option Int):Nat→Int→Int→Option (Int)
 | 0,_,_=>none
 | n+1,x0,x1=>
 if(decide (x1 < (a0.bC.length:Int))) then
 (idx a0.bC x1).bind fun y0=>
 (ref08_Size_rec y0).bind fun(y1:Int)=>
 iU a0 ref08_Size_rec n (ae (x0+y1)) (ae (x1+1))
 else
 some x0
def fc : Nat→aI→Option Int
 | 0,_=>none
 | n+1,a0=>
 (jb a0 (fc n) ((a0.aH.length - 0:Int).toNat+1) 1 0).bind fun x0=>
 (iU a0 (fc n) ((a0.bC.length - 0:Int).toNat+1) x0 0).bind fun x1=>
 some x1
def na (y0:bG):Nat→Int→Int→Option (Ctl (Bool) (Int))
 | 0,_,_=>none
 | n+1,x0,x1=>
 if(decide (x1 < (y0.aH.length:Int))) then
 (if(decide (x0 > 500)) then
 some true
 else
 (idx y0.aH x1).bind fun y1=>
 (iB (cy y1+1) y1 25).bind fun y2=>
 some y2:Option (Bool)).bind fun x2=>
 if x2=true then
 some (.stop true)
 else
 (idx y0.aH x1).bind fun y3=>
 (fc (cy y3+1) y3).bind fun(y4:Int)=>
 na y0 n (ae (x0+y4)) (ae (x1+1))
 else
 some (.next x0)
def kI (y0:aJ):Nat→Int→Int→Option (Ctl (Bool) (Int))
 | 0,_,_=>none
 | n+1,x0,x1=>
 if(decide (x1 < (y0.af.length:Int))) then
 (idx y0.af x1).bind fun y1=>
 (if(decide ((y1.ab.length:Int) > 40)) then
 some true
 else
 if(decide ((y1.co.length:Int) > 40)) then
 some true
 else
 if(decide ((y1.aH.length:Int) > 500)) then
 some true
 else
 (oi y1).bind fun(y2:Int)=>
 some (decide (y2 > 8)):Option (Bool)).bind fun x2=>
 if x2=true then
 some (.stop true)
 else
 (na y1 ((y1.aH.length - 0:Int).toNat+1) x0 0).bind fun lr0=>
 Ctl.elim lr0 (fun v=>some (.stop v)) fun x3=>
 kI y0 n x3 (ae (x1+1))
 else
 some (.next x0)
def kQ (a0:List aJ):Nat→Int→Int→Option (Ctl (Bool) (Int))
 | 0,_,_=>none
 | n+1,x0,x1=>
 if(decide (x1 < (a0.length:Int))) then
 (idx a0 x1).bind fun y0=>
 (if(decide ((a0.length:Int) > 30)) then
 some true
 else
 if(decide ((y0.ab.length:Int) > 20)) then
 some true
 else
 if(decide ((y0.bU.length:Int) > 20)) then
 some true
 else
 if(decide ((y0.bw.length:Int) > 40)) then
 some true
 else
 some (decide ((y0.af.length:Int) > 40)):Option (Bool)).bind fun x2=>
 if x2=true then
 some (.stop true)
 else
 (kI y0 ((y0.af.length - 0:Int).toNat+1) x0 0).bind fun lr0=>
 Ctl.elim lr0 (fun v=>some (.stop v)) fun x3=>
 kQ a0 n x3 (ae (x1+1))
 else
 some (.next x0)
def qI (a0:List aJ):Option Bool:=
 (kQ a0 ((a0.length - 0:Int).toNat+1) 0 0).bind fun lr0=>
 Ctl.elim lr0 (fun v=>some v) fun x0=>
 some (decide (x0 > 500))
def wQ (a0:Int):Option Bool:=
 if(a0==9) then
 none
 else
 if(a0==10) then
 none
 else
 if(a0==13) then
 none
 else
 some (a0==32)
def tZ (a0:List UInt8):Nat→Int→Option (Ctl (Int) (Int))
 | 0,_=>none
 | n+1,x0=>
 if(decide (x0 < (a0.length:Int))) then
 (idx a0 x0).bind fun(y0:UInt8)=>
 (wQ (y0.toNat:Int)).bind fun y1=>
 if y1=true then
 tZ a0 n (ae (x0+1))
 else
 (if(decide ((ae (x0+1)) ≥ (a0.length:Int))) then
 some ()
 else
 (idx a0 x0).bind fun(y2:UInt8)=>
 if((y2.toNat:Int) != 47) then
 some ()
 else
 none:Option (Unit)).bind fun _=>
 some (.stop x0)
 else
 some (.next x0)
def vw (a0:List UInt8):Option Int:=
 (tZ a0 (a0.length+64) 0).bind fun lr0=>
 Ctl.elim lr0 (fun v=>some v) fun x0=>
 some x0
def iR (a0:Int):Option Bool:=
 if(decide (a0 ≥ 97)) then
 if(decide (a0≤122)) then
 some true
 else
 if(decide (a0 ≥ 65)) then
 some (decide (a0≤90))
 else
 some false
 else
 if(decide (a0 ≥ 65)) then
 some (decide (a0≤90))
 else
 some false
def lb (a0:Int):Option Bool:=
 if(decide (a0 ≥ 48)) then
 some (decide (a0≤57))
 else
 some false
def tv  : Option (List (List UInt8)):=
 some [[99,108,97,115,115],[101,120,116,101,110,100,115],[114,101,112],[112,101,101,114],[119,111,114,108,100],[97,110,121],[117,110,105,113,117,101],[112,117,114,101],[118,111,105,100],[105,110,116],[105,102],[101,108,115,101],[119,104,105,108,101],[114,101,116,117,114,110],[110,101,119],[109,111,118,101],[100,101,108,101,116,101],[116,104,105,115],[110,117,108,108],[105,110,112,117,116],[110,105,108],[115,97,109,101],[99,97,115,116]]
def mp (a0:List UInt8) (y3:(List (List UInt8))):Nat→Int→Option (Ctl (Int) (Unit))
 | 0,_=>none
 | n+1,x0=>
 if(decide (x0 < (y3.length:Int))) then
 (idx y3 x0).bind fun y0=>
 if(y0==a0) then
 some (.stop (ae (x0+1)))
 else
 mp a0 y3 n (ae (x0+1))
 else
 some (.next ())
def qq (a0:List UInt8):Option Int:=
 Option.bind tv fun(y3:(List (List UInt8)))=>
 (mp a0 y3 ((y3.length - 0:Int).toNat+1) 0).bind fun lr0=>
 Ctl.elim lr0 (fun v=>some v) fun _=>
 some 0
def uc (a0:List UInt8):Nat→Int→Option (Ctl ((List UInt8)) (Unit))
 | 0,_=>none
 | n+1,x0=>
 (if(decide (x0 < ([123,125,40,41,60,62,44,59,46,61,43,45,42,33].length:Int))) then
 some ()
 else
 none:Option (Unit)).bind fun _=>
 if(!(a0==[])) then
 (idx [123,125,40,41,60,62,44,59,46,61,43,45,42,33] x0).bind fun(y0:UInt8)=>
 (idx a0 0).bind fun(y1:UInt8)=>
 if((y0.toNat:Int)==(y1.toNat:Int)) then
 (jG a0 0 1).bind fun y2=>
 some (.stop y2)
 else
 uc a0 n (ae (x0+1))
 else
 some (.next ())
def vu (a0:List UInt8):Option (List UInt8):=
 (if(decide ((a0.length:Int) > 1)) then
 (jG a0 0 2).bind fun y2=>
 if(y2==[61,61]) then
 none
 else
 (jG a0 0 2).bind fun y5=>
 some (y5==[38,38])
 else
 some false:Option (Bool)).bind fun x7=>
 if x7=true then
 none
 else
 (uc a0 (a0.length+64) 0).bind fun lr0=>
 Ctl.elim lr0 (fun v=>some v) fun _=>
 some []
def vD (a0:List UInt8):Nat→Int→Option (Int)
 | 0,_=>none
 | n+1,x0=>
 (if(decide (x0 < (a0.length:Int))) then
 (idx a0 x0).bind fun(y0:UInt8)=>
 (iR (y0.toNat:Int)).bind fun y1=>
 if y1=true then
 some true
 else
 (idx a0 x0).bind fun(y2:UInt8)=>
 (lb (y2.toNat:Int)).bind fun y3=>
 some y3
 else
 none:Option (Bool)).bind fun x1=>
 if x1=true then
 vD a0 n (ae (x0+1))
 else
 some x0
def Ai (a0:List UInt8):Option ct:=
 (idx a0 0).bind fun(y5:UInt8)=>
 (iR (y5.toNat:Int)).bind fun y7=>
 if y7=true then
 (vD a0 (a0.length+64) 0).bind fun x0=>
 (jG a0 0 x0).bind fun y0=>
 (qq y0).bind fun(y1:Int)=>
 if(decide (y1 > 0)) then
 (jG a0 0 x0).bind fun y2=>
 some (⟨3,y2,0⟩:ct)
 else
 (jG a0 0 x0).bind fun y3=>
 some (⟨1,y3,0⟩:ct)
 else
 (idx a0 0).bind fun(y4:UInt8)=>
 (lb (y4.toNat:Int)).bind fun y6=>
 if y6=true then
 none
 else
 (vu a0).bind fun y8=>
 if(!(y8==[])) then
 (vu a0).bind fun y9=>
 some (⟨4,y9,0⟩:ct)
 else
 none
def vW (a0:List UInt8):Nat→Option (Ctl (Int×Bool) (Unit))
 | 0=>none
 | n+1=>
 if(decide (0 < (a0.length:Int))) then
 (idx a0 0).bind fun(y0:UInt8)=>
 (lb (y0.toNat:Int)).bind fun y1=>
 if(!y1) then
 some (.stop (0,false))
 else
 none
 else
 some (.next ())
def vh (a0:List UInt8):Option (Int×Bool):=
 (if(decide ((a0.length:Int) < 1)) then
 none
 else
 if(decide ((a0.length:Int) > 9)) then
 none
 else
 (idx a0 0).bind fun(y3:UInt8)=>
 if((y3.toNat:Int)==48) then
 none
 else
 some ():Option (Unit)).bind fun _=>
 (vW a0 ((a0.length - 0:Int).toNat+1)).bind fun lr0=>
 Ctl.elim lr0 (fun v=>some v) fun _=>
 some (0,true)
def wZ (a0:List UInt8):Nat→(List ct)→Int→Option ((List ct))
 | 0,_,_=>none
 | n+1,x0,x1=>
 if(decide (x1 < (a0.length:Int))) then
 (jG a0 x1 a0.length).bind fun y0=>
 (Ai y0).bind fun y1=>
 if((({ y1 with fAt:=x1 }:ct).aa)==0) then
 none
 else
 (vh (({ y1 with fAt:=x1 }:ct).dT)).bind fun _=>
 (if((({ y1 with fAt:=x1 }:ct).aa)==1) then
 if(decide (((({ y1 with fAt:=x1 }:ct).dT).length:Int) > 20)) then
 none
 else
 if((({ y1 with fAt:=x1 }:ct).aa)==2) then
 none
 else
 some ()
 else
 if((({ y1 with fAt:=x1 }:ct).aa)==2) then
 none
 else
 some ():Option (Unit)).bind fun _=>
 (bQ ((x0.length:Int)+([({ y1 with fAt:=x1 }:ct)].length:Int)) 32).bind fun _=>
 (jG a0 (ae (x1+((({ y1 with fAt:=x1 }:ct).dT).length:Int))) a0.length).bind fun y3=>
 (vw y3).bind fun(y4:Int)=>
 wZ a0 n (x0++[({ y1 with fAt:=x1 }:ct)]) (ae ((ae (x1+((({ y1 with fAt:=x1 }:ct).dT).length:Int)))+y4))
 else
 some x0
def Di (a0:List UInt8):Option ((List ct)×oY):=
 if(decide ((a0.length:Int) > 16384)) then
 none
 else
 (vw a0).bind fun(y4:Int)=>
 (wZ a0 ((((a0.length:Int):Int) - (y4)).toNat+1) [] y4).bind fun x0=>
 (bQ ((x0.length:Int)+([(⟨0,[],(a0.length:Int)⟩:ct)].length:Int)) 32).bind fun _=>
 some ((x0++[(⟨0,[],(a0.length:Int)⟩:ct)]),gj)
def jC (a0:List ct) (a1:Int):Option ct:=
 (if(decide (a1 ≥ 0)) then
 some ()
 else
 none:Option (Unit)).bind fun _=>
 if(decide (a1 < (a0.length:Int))) then
 (idx a0 a1).bind fun y5=>
 some y5
 else
 none
def jD (a0:List ct) (a1:Int):Option ct:=
 (jC a0 a1).bind fun y1=>
 some y1
def pZ (a0:ct) (a1:List UInt8):Option Bool:=
 if(a0.aa==3) then
 some (a0.dT==a1)
 else
 if(a0.aa==4) then
 some (a0.dT==a1)
 else
 some false
def lQ (a0:List ct) (a1:Int) (a2:List UInt8):Option Bool:=
 (jC a0 a1).bind fun y1=>
 (pZ y1 a2).bind fun y3=>
 some y3
def wX (a0:List ct) (a1:Int):Nat→Option (Ctl (gx) (Unit))
 | 0=>none
 | n+1=>
 (jD a0 (ae (a1+1))).bind fun y0=>
 if(y0.aa != 1) then
 none
 else
 if((([]:List (List UInt8)).length:Int)==3) then
 none
 else
 (jD a0 (ae (a1+1))).bind fun y1=>
 (bQ ((([]:List (List UInt8)).length:Int)+([y1.dT].length:Int)) 16).bind fun _=>
 (lQ a0 (ae ((ae (a1+1))+1)) [62]).bind fun(y2:Bool)=>
 if y2=true then
 some (.stop (⟨zGClass,zGMethod,[],([]++[y1.dT]),ae ((ae ((ae (a1+1))+1))+1),gj⟩:gx))
 else
 none
def we (a0:List ct) (a1:Int):Option gx:=
 (wX a0 a1 (a0.length+64)).bind fun lr0=>Ctl.elim lr0 (fun v=>some v) fun _=>none
def uh (a0:ct):Nat→Int→Option (Unit)
 | 0,_=>none
 | n+1,x0=>
 if(decide (x0 < ([[114,101,112],[112,101,101,114],[],[119,111,114,108,100],[97,110,121],[117,110,105,113,117,101]].length:Int))) then
 ((idx [[114,101,112],[112,101,101,114],[],[119,111,114,108,100],[97,110,121],[117,110,105,113,117,101]] x0).bind fun(y0:List UInt8)=>
 (pZ a0 y0).bind fun y1=>
 if y1=true then
 (idx [[114,101,112],[112,101,101,114],[],[119,111,114,108,100],[97,110,121],[117,110,105,113,117,101]] x0).bind fun(y2:List UInt8)=>
 some (!(y2==[]))
 else
 some false:Option (Bool)).bind fun x1=>
 if x1=true then
 none
 else
 uh a0 n (ae (x0+1))
 else
 some ()
def uO (a0:ct):Option be:=
 (uh a0 (((([[114,101,112],[112,101,101,114],[],[119,111,114,108,100],[97,110,121],[117,110,105,113,117,101]].length:Int):Int) - (0)).toNat+1) 0).bind fun _=>
 some aB
def xW (a0:List UInt8) (a1:List (List UInt8)):Nat→Option (Ctl (Int) (Unit))
 | 0=>none
 | n+1=>
 if(decide (0 < (a1.length:Int))) then
 (idx a1 0).bind fun y0=>
 if(y0==a0) then
 some (.stop (ae (0+1)))
 else
 none
 else
 some (.next ())
def yB (a0:List UInt8) (a1:List (List UInt8)):Option Int:=
 (xW a0 a1 ((a1.length - 0:Int).toNat+1)).bind fun lr0=>
 Ctl.elim lr0 (fun v=>some v) fun _=>
 some 0
def tI (a0:ct) (a1:List (List UInt8)):Option be:=
 (yB a0.dT a1).bind fun(y3:Int)=>
 if(y3==0) then
 none
 else
 some (⟨3,y3⟩:be)
def vL (a0:List ct) (a1:Int) (a2:List (List UInt8)):Nat→Option (Ctl (gw) (Unit))
 | 0=>none
 | n+1=>
 (jC a0 (ae (a1+1))).bind fun y0=>
 (uO y0).bind fun _=>
 if(y0.aa==1) then
 (tI y0 a2).bind fun y2=>
 if(y2.aa==0) then
 none
 else
 if(y2.aa==6) then
 none
 else
 if((([]:List be).length:Int)==3) then
 none
 else
 (bQ ((([]:List be).length:Int)+([y2].length:Int)) 16).bind fun _=>
 (jC a0 (ae ((ae (a1+1))+1))).bind fun y3=>
 (pZ y3 [62]).bind fun(y4:Bool)=>
 if y4=true then
 some (.stop (⟨([]++[y2]),mF,vU,ae ((ae ((ae (a1+1))+1))+1),gj⟩:gw))
 else
 none
 else
 none
def uQ (a0:List ct) (a1:Int) (a2:List (List UInt8)):Option gw:=
 (jC a0 a1).bind fun y5=>
 (pZ y5 [60]).bind fun(y7:Bool)=>
 if(!y7) then
 none
 else
 (vL a0 a1 a2 (a0.length+64)).bind fun lr0=>Ctl.elim lr0 (fun v=>some v) fun _=>none
def sm (y0:gw):Nat→Int→Option (Unit)
 | 0,_=>none
 | n+1,x0=>
 if(decide (x0 < (y0.fL.length:Int))) then
 ((idx y0.fL x0).bind fun y1=>
 if(y1.aa==1) then
 none
 else
 (idx y0.fL x0).bind fun y2=>
 some (y2.aa==5):Option (Bool)).bind fun x1=>
 if x1=true then
 none
 else
 sm y0 n (ae (x0+1))
 else
 some ()
def wu (a0:List ct) (a1:Int) (a2_0:List UInt8) (a2_1:List (List UInt8)) (a2_2:List UInt8) (a2_3:List be) (a2_6:Int) (b0:List dV) (b1:List bG):Option ((List UInt8)×(List (List UInt8))×(List UInt8)×(List be)×(List dV)×(List bG)×Int×(List UInt8)×Bool×Int×(List UInt8)×Int×Int×Int×Int×Int×Int×Int×Int×Int×(List dV)×(List dV)×(List aI)×Int×(List dV)×(List (List UInt8))×Int×Int×Int):=
 (jD a0 (ae (a1+1))).bind fun y3=>
 if(y3.aa != 1) then
 none
 else
 (jD a0 (ae (a1+1))).bind fun y8=>
 (lQ a0 (ae (a1+2)) [60]).bind fun(y0:Bool)=>
 if(!y0) then
 none
 else
 (uQ a0 (ae (a1+2)) a2_1).bind fun y1=>
 if(y1.fF.ue != 0) then
 none
 else
 (sm y1 ((y1.fL.length - 0:Int).toNat+1) 0).bind fun _=>
 some (a2_0,a2_1,y8.dT,y1.fL,b0,b1,a2_6,zGGot_ref09.fM.aj,zGGot_ref09.fM.kO,zGGot_ref09.fM.cf.aa,zGGot_ref09.fM.cf.ca,zGGot_ref09.fM.cf.fN,zGGot_ref09.fM.cf.aP.a0.aa,zGGot_ref09.fM.cf.aP.a0.fN,zGGot_ref09.fM.cf.aP.a1.aa,zGGot_ref09.fM.cf.aP.a1.fN,zGGot_ref09.fM.cf.aP.a2.aa,zGGot_ref09.fM.cf.aP.a2.fN,zGGot_ref09.fM.cf.aP.a3.aa,zGGot_ref09.fM.cf.aP.a3.fN,zGGot_ref09.fM.ab,zGGot_ref09.fM.co,[],zGGot_ref09.fM.fAt,zGGot_ref09.fV,zGGot_ref09.fN,y1.gJ,zGGot_ref09.fF.ue,zGGot_ref09.fF.fAt)
def ni (a0:aJ) (x0:Int):Nat→Int→Int→Option (Int)
 | 0,_,_=>none
 | n+1,x1,x2=>
 (idx a0.af x0).bind fun y0=>
 if(decide (x2 < (y0.aH.length:Int))) then
 (idx a0.af x0).bind fun y1=>
 (idx y1.aH x2).bind fun y2=>
 (fc (cy y2+1) y2).bind fun(y3:Int)=>
 ni a0 x0 n (ae (x1+y3)) (ae (x2+1))
 else
 some x1
def mR (a0:aJ):Nat→Int→Int→Option (Int)
 | 0,_,_=>none
 | n+1,x0,x1=>
 if(decide (x1 < (a0.af.length:Int))) then
 (ni a0 x1 (Option.getD ((idx a0.af x1).bind fun y0=>some ((y0.aH.length - 0:Int).toNat+1)) 1) x0 0).bind fun x2=>
 mR a0 n x2 (ae (x1+1))
 else
 some x0
def mZ (a0:aJ):Option Int:=
 (mR a0 ((a0.af.length - 0:Int).toNat+1) 0 0).bind fun x0=>
 some x0
def wn (a0:List ct) (a1:Int) (a2:Bool):Option Bool:=
 (jC a0 (ae (a1+1))).bind fun y5=>
 (jC a0 (ae (a1+2))).bind fun y7=>
 if(y5.aa==1) then
 if(!a2) then
 none
 else
 if(y7.aa==1) then
 some true
 else
 none
 else
 none
def wy (a0:List ct) (a1:Int) (a2:List (List UInt8)) (a3:Bool):Option gw:=
 (jC a0 a1).bind fun y3=>
 (pZ y3 [118,111,105,100]).bind fun(y7:Bool)=>
 if y7=true then
 none
 else
 (pZ y3 [105,110,116]).bind fun(y0:Bool)=>
 if y0=true then
 none
 else
 (uO y3).bind fun y1=>
 if(y1.aa != 0) then
 none
 else
 (if(y3.aa==1) then
 (wn a0 a1 a3).bind fun y2=>
 some y2
 else
 none:Option (Bool)).bind fun x0=>
 if x0=true then
 (tI y3 a2).bind fun y4=>
 if((({ ({ (⟨2,[],0,(⟨aB,aB,aB,aB⟩:A4 be)⟩:cj) with aP:=({ (⟨2,[],0,(⟨aB,aB,aB,aB⟩:A4 be)⟩:cj).aP with a0:=(⟨7,0⟩:be) }:A4 be) }:cj) with aP:=({ ({ (⟨2,[],0,(⟨aB,aB,aB,aB⟩:A4 be)⟩:cj) with aP:=({ (⟨2,[],0,(⟨aB,aB,aB,aB⟩:A4 be)⟩:cj).aP with a0:=(⟨7,0⟩:be) }:A4 be) }:cj).aP with a0:=y4 }:A4 be) }:cj).aP.a0.aa)==0) then
 none
 else
 (jC a0 (ae (a1+1))).bind fun y5=>
 if(y5.aa != 1) then
 none
 else
 (jC a0 (ae ((ae (a1+1))+1))).bind fun y6=>
 (pZ y6 [60]).bind fun(y8:Bool)=>
 if(!y8) then
 some ({ fL:=[],fT:=({ ({ ({ (⟨2,[],0,(⟨aB,aB,aB,aB⟩:A4 be)⟩:cj) with aP:=({ (⟨2,[],0,(⟨aB,aB,aB,aB⟩:A4 be)⟩:cj).aP with a0:=(⟨7,0⟩:be) }:A4 be) }:cj) with aP:=({ ({ (⟨2,[],0,(⟨aB,aB,aB,aB⟩:A4 be)⟩:cj) with aP:=({ (⟨2,[],0,(⟨aB,aB,aB,aB⟩:A4 be)⟩:cj).aP with a0:=(⟨7,0⟩:be) }:A4 be) }:cj).aP with a0:=y4 }:A4 be) }:cj) with ca:=y5.dT }:cj),fV:=vU,gJ:=ae ((ae (a1+1))+1),fF:=gj }:gw)
 else
 none
 else
 none
def uW (a0:List ct) (a1:Int) (a2_0:List UInt8) (a2_1:List (List UInt8)) (a2_2:List UInt8) (a2_3:List be) (a2_6:Int) (a3:Int) (b0:List dV) (b1:List bG):Option ((List UInt8)×(List (List UInt8))×(List UInt8)×(List be)×(List dV)×(List bG)×Int×(List UInt8)×Bool×Int×(List UInt8)×Int×Int×Int×Int×Int×Int×Int×Int×Int×(List dV)×(List dV)×(List aI)×Int×(List dV)×(List (List UInt8))×Int×Int×Int):=
 (jD a0 a1).bind fun y3=>
 (lQ a0 a1 [112,117,114,101]).bind fun(y7:Bool)=>
 if y7=true then
 none
 else
 (wy a0 a1 a2_1 true).bind fun y0=>
 if(y0.fF.ue != 0) then
 none
 else
 (jD a0 y0.gJ).bind fun y1=>
 if(y1.aa != 1) then
 none
 else
 (lQ a0 (ae (y0.gJ+1)) [40]).bind fun(y2:Bool)=>
 if y2=true then
 none
 else
 ((lQ a0 (ae (y0.gJ+1)) [59]).bind fun(y4:Bool)=>
 if(!y4) then
 none
 else
 some ():Option (Unit)).bind fun _=>
 if(y0.fT.aa==0) then
 none
 else
 if((b0.length:Int)==12) then
 none
 else
 (bQ ((b0.length:Int)+([(⟨y1.dT,y0.fT,y3.fAt⟩:dV)].length:Int)) 120).bind fun _=>
 some (a2_0,a2_1,a2_2,a2_3,(b0++[(⟨y1.dT,y0.fT,y3.fAt⟩:dV)]),b1,a2_6,zGGot_ref09.fM.aj,zGGot_ref09.fM.kO,zGGot_ref09.fM.cf.aa,zGGot_ref09.fM.cf.ca,zGGot_ref09.fM.cf.fN,zGGot_ref09.fM.cf.aP.a0.aa,zGGot_ref09.fM.cf.aP.a0.fN,zGGot_ref09.fM.cf.aP.a1.aa,zGGot_ref09.fM.cf.aP.a1.fN,zGGot_ref09.fM.cf.aP.a2.aa,zGGot_ref09.fM.cf.aP.a2.fN,zGGot_ref09.fM.cf.aP.a3.aa,zGGot_ref09.fM.cf.aP.a3.fN,zGGot_ref09.fM.ab,zGGot_ref09.fM.co,[],zGGot_ref09.fM.fAt,zGGot_ref09.fV,zGGot_ref09.fN,ae ((ae (y0.gJ+1))+1),zGGot_ref09.fF.ue,zGGot_ref09.fF.fAt)
def tn (a0:List ct) (a2:Int):Nat→Int→(List UInt8)→(List (List UInt8))→(List UInt8)→(List be)→(List dV)→(List bG)→Int→Option (Int×(List UInt8)×(List (List UInt8))×(List UInt8)×(List be)×(List dV)×(List bG)×Int)
 | 0,_,_,_,_,_,_,_,_=>none
 | n+1,x0,x1,x2,x3,x4,x5,x6,x7=>
 (lQ a0 x0 [125]).bind fun(y0:Bool)=>
 if(!y0) then
 (mZ (⟨x1,x2,x3,x4,x5,x6,x7⟩:aJ)).bind fun(y1:Int)=>
 (uW a0 x0 x1 x2 x3 x4 x7 (ae (a2+y1)) x5 x6).bind fun y2=>
 if(y2.2.2.2.2.2.2.2.2.2.2.2.2.2.2.2.2.2.2.2.2.2.2.2.2.2.2.2.1 != 0) then
 none
 else
 tn a0 a2 n y2.2.2.2.2.2.2.2.2.2.2.2.2.2.2.2.2.2.2.2.2.2.2.2.2.2.2.1 y2.1 y2.2.1 y2.2.2.1 y2.2.2.2.1 y2.2.2.2.2.1 y2.2.2.2.2.2.1 y2.2.2.2.2.2.2.1
 else
 some (x0,x1,x2,x3,x4,x5,x6,x7)
def wB (a0:List ct) (a1:Int) (a2:Int):Option gx:=
 (jD a0 a1).bind fun y3=>
 (jD a0 (ae (a1+1))).bind fun y7=>
 if(y7.aa != 1) then
 none
 else
 (jD a0 (ae (a1+1))).bind fun y0=>
 (lQ a0 (ae (a1+2)) [60]).bind fun(y1:Bool)=>
 if y1=true then
 (we a0 (ae (a1+2))).bind fun y2=>
 if(y2.fF.ue != 0) then
 none
 else
 (lQ a0 y2.gJ [101,120,116,101,110,100,115]).bind fun(y4:Bool)=>
 if y4=true then
 (wu a0 y2.gJ y0.dT y2.fN zGClass.cO zGClass.bU y3.fAt [] []).bind fun y5=>
 if(y5.2.2.2.2.2.2.2.2.2.2.2.2.2.2.2.2.2.2.2.2.2.2.2.2.2.2.2.1 != 0) then
 none
 else
 (lQ a0 y5.2.2.2.2.2.2.2.2.2.2.2.2.2.2.2.2.2.2.2.2.2.2.2.2.2.2.1 [123]).bind fun(y6:Bool)=>
 if(!y6) then
 none
 else
 (tn a0 a2 (a0.length+64) (ae (y5.2.2.2.2.2.2.2.2.2.2.2.2.2.2.2.2.2.2.2.2.2.2.2.2.2.2.1+1)) y5.1 y5.2.1 y5.2.2.1 y5.2.2.2.1 y5.2.2.2.2.1 y5.2.2.2.2.2.1 y5.2.2.2.2.2.2.1).bind fun(x0,x1,x2,x3,x4,x5,x6,x7)=>
 some (⟨(⟨x1,x2,x3,x4,x5,x6,x7⟩:aJ),zGMethod,[],[],ae (x0+1),gj⟩:gx)
 else
 none
 else
 none
def wM (y3:(List ct)×oY):Nat→(List aJ)→Int→Int→Option ((List aJ))
 | 0,_,_,_=>none
 | n+1,x0,x1,x2=>
 (jD y3.1 x1).bind fun y0=>
 if(y0.aa != 0) then
 (lQ y3.1 x1 [99,108,97,115,115]).bind fun(y1:Bool)=>
 if(!y1) then
 none
 else
 if((x0.length:Int)==20) then
 none
 else
 (wB y3.1 x1 x2).bind fun y2=>
 if(y2.fF.ue != 0) then
 none
 else
 (bQ ((x0.length:Int)+([y2.fC].length:Int)) 136).bind fun _=>
 (mZ y2.fC).bind fun(y4:Int)=>
 wM y3 n (x0++[y2.fC]) y2.gJ (ae (x2+y4))
 else
 some x0
def Fc (a0:List UInt8):Option ((List aJ)×oY):=
 (Di a0).bind fun y3=>
 if(y3.2.ue != 0) then
 none
 else
 (wM y3 (a0.length+64) [] 0 0).bind fun x0=>
 some (x0,gj)
def ef (a0:List aJ) (q1:aJ→Option Bool):Nat→Int→Option (Ctl (Int) (Unit))
 | 0,_=>none
 | n+1,x0=>
 if(decide (x0 < (a0.length:Int))) then
 (idx a0 x0).bind fun y0=>
 (q1 y0).bind fun y1=>
 if y1=true then
 some (.stop x0)
 else
 ef a0 q1 n (ae (x0+1))
 else
 some (.next ())
def gm (a0:List aJ) (q1:aJ→Option Bool):Option Int:=
 (ef a0 q1 ((a0.length - 0:Int).toNat+1) 0).bind fun lr0=>
 Ctl.elim lr0 (fun v=>some v) fun _=>
 some (-1)
def ed (a0:List aJ) (q1:aJ→Option Bool):Option Bool:=
 (gm a0 q1).bind fun(y1:Int)=>
 some (decide (y1 ≥ 0))
def ii (a0:Int):Option Bool:=
 if(decide ((orI .u8 a0 32) ≥ 97)) then
 some (decide ((orI .u8 a0 32)≤122))
 else
 some false
def sg (a0:Int):Option Bool:=
 some (decide ((tq (a0 - 48)) < 10))
def glob_0 : List (List UInt8):=[[99,108,97,115,115],[101,120,116,101,110,100,115],[114,101,112],[112,101,101,114],[119,111,114,108,100],[97,110,121],[117,110,105,113,117,101],[112,117,114,101],[118,111,105,100],[105,110,116],[105,102],[101,108,115,101],[119,104,105,108,101],[114,101,116,117,114,110],[110,101,119],[109,111,118,101],[100,101,108,101,116,101],[116,104,105,115],[110,117,108,108],[105,110,112,117,116],[110,105,108],[115,97,109,101],[99,97,115,116]]
def Io : List PV:=[.str [99,108,97,115,115],.str [101,120,116,101,110,100,115],.str [114,101,112],.str [112,101,101,114],.str [119,111,114,108,100],.str [97,110,121],.str [117,110,105,113,117,101],.str [112,117,114,101],.str [118,111,105,100],.str [105,110,116],.str [105,102],.str [101,108,115,101],.str [119,104,105,108,101],.str [114,101,116,117,114,110],.str [110,101,119],.str [109,111,118,101],.str [100,101,108,101,116,101],.str [116,104,105,115],.str [110,117,108,108],.str [105,110,112,117,116],.str [110,105,108],.str [115,97,109,101],.str [99,97,115,116]]
theorem S7 : Io=(List.map eS glob_0).flatten:=by kernel_rfl
theorem S5 : (0,Io)∈dW:= .head _
def Co (a0:List UInt8):Option (List UInt8):=
 some a0
def dA (a0:List (List UInt8)) (q1:(List UInt8)→Option Bool):Nat→Int→Option (Ctl (Int) (Unit))
 | 0,_=>none
 | n+1,x0=>
 if(decide (x0 < (a0.length:Int))) then
 (idx a0 x0).bind fun y0=>
 (q1 y0).bind fun y1=>
 if y1=true then
 some (.stop x0)
 else
 dA a0 q1 n (ae (x0+1))
 else
 some (.next ())
def eU (a0:List (List UInt8)) (q1:(List UInt8)→Option Bool):Option Int:=
 (dA a0 q1 ((a0.length - 0:Int).toNat+1) 0).bind fun lr0=>
 Ctl.elim lr0 (fun v=>some v) fun _=>
 some (-1)
def uy (a0:List UInt8) (c0:List UInt8):Option Bool:=
 some (a0==c0)
def uu (a0:List UInt8):Option Int:=
 (Co a0).bind fun y1=>
 (eU glob_0 (fun(z3:List UInt8)=>uy z3 y1)).bind fun(y4:Int)=>
 some (ae (y4+1))
def py (a0:List UInt8):Nat→Int→Option (Ctl (Bool) (Unit))
 | 0,_=>none
 | n+1,x0=>
 if(decide (x0 < ((bv a0).length:Int))) then
 (idx (bv a0) x0).bind fun(y0:Int)=>
 ((ii y0).bind fun y1=>
 if(!y1) then
 (sg y0).bind fun y2=>
 some (!y2)
 else
 some false:Option (Bool)).bind fun x1=>
 if x1=true then
 some (.stop false)
 else
 py a0 n (ae (x0+1))
 else
 some (.next ())
def iw (a0:List UInt8):Option Bool:=
 (if(a0==[]) then
 some true
 else
 if(decide ((a0.length:Int) > 20)) then
 some true
 else
 (idx a0 0).bind fun(y3:UInt8)=>
 (ii (y3.toNat:Int)).bind fun y5=>
 some (!y5):Option (Bool)).bind fun x7=>
 if x7=true then
 some false
 else
 (bQ (a0.length:Int) 1).bind fun _=>
 (py a0 (((((bv a0).length:Int):Int) - (0)).toNat+1) 0).bind fun lr0=>
 Ctl.elim lr0 (fun v=>some v) fun _=>
 (uu a0).bind fun(y0:Int)=>
 some (y0==0)
def dY (a0:List (List UInt8)) (q1:(List UInt8)→Option Bool):Option Bool:=
 (eU a0 q1).bind fun(y1:Int)=>
 some (decide (y1 ≥ 0))
def rm (a0:List UInt8):Option Bool:=
 (iw a0).bind fun y1=>
 some (!y1)
def nb (a0:be) (a1:Int):Option Bool:=
 Ctl.go (if(a0.aa==3) then
 if(decide (a0.fN > 0)) then
 .stop (some (decide (a0.fN≤a1)))
 else
 .stop (some false)
 else
 if(a0.aa==7) then
 .stop (some (decide (a0.fN ≥ 0)))
 else
 if(a0.aa==1) then
 .next ()
 else
 if(a0.aa==2) then
 .next ()
 else
 mJ (if(a0.aa==4) then
 some (a0.aa==4)
 else
 if(a0.aa==5) then
 some (a0.aa==5)
 else
 some (a0.aa==6):Option (Bool)) fun x8=>
 if x8=true then
 .next ()
 else
 .stop (some false):Ctl (Option Bool) (Unit)) fun _=>
 some (a0.fN==0)
def nG (a0:aJ):Nat→Int→Option (Ctl (Bool) (Unit))
 | 0,_=>none
 | n+1,x0=>
 if(decide (x0 < (a0.bU.length:Int))) then
 (idx a0.bU x0).bind fun y0=>
 (if(y0.aa==2) then
 some (y0.aa==2)
 else
 if(y0.aa==3) then
 some (y0.aa==3)
 else
 some (y0.aa==4):Option (Bool)).bind fun x1=>
 if x1=true then
 (nb y0 (a0.ab.length:Int)).bind fun y1=>
 if(!y1) then
 some (.stop false)
 else
 nG a0 n (ae (x0+1))
 else
 some (.stop false)
 else
 some (.next ())
def uD (a0:aJ):Option Bool:=
 ((iw a0.aj).bind fun y3=>
 if(!y3) then
 some true
 else
 if(decide ((a0.ab.length:Int) > 3)) then
 some true
 else
 if(decide ((a0.bU.length:Int) > 3)) then
 some true
 else
 (dY a0.ab (fun(z8:List UInt8)=>rm z8)).bind fun y9=>
 some y9:Option (Bool)).bind fun x0=>
 if x0=true then
 some false
 else
 if(a0.cO==[]) then
 some ((a0.bU.length:Int)==0)
 else
 (nG a0 ((a0.bU.length - 0:Int).toNat+1) 0).bind fun lr0=>
 Ctl.elim lr0 (fun v=>some v) fun _=>
 (iw a0.cO).bind fun y0=>
 some y0
def eG (a0:List dV) (q1:dV→Option Bool):Nat→Int→Option (Ctl (Int) (Unit))
 | 0,_=>none
 | n+1,x0=>
 if(decide (x0 < (a0.length:Int))) then
 (idx a0 x0).bind fun y0=>
 (q1 y0).bind fun y1=>
 if y1=true then
 some (.stop x0)
 else
 eG a0 q1 n (ae (x0+1))
 else
 some (.next ())
def ia (a0:List dV) (q1:dV→Option Bool):Option Int:=
 (eG a0 q1 ((a0.length - 0:Int).toNat+1) 0).bind fun lr0=>
 Ctl.elim lr0 (fun v=>some v) fun _=>
 some (-1)
def eN (a0:List dV) (q1:dV→Option Bool):Option Bool:=
 (ia a0 q1).bind fun(y1:Int)=>
 some (decide (y1 ≥ 0))
def ec (a0:List be) (q1:be→Option Bool):Nat→Int→Option (Ctl (Int) (Unit))
 | 0,_=>none
 | n+1,x0=>
 if(decide (x0 < (a0.length:Int))) then
 (idx a0 x0).bind fun y0=>
 (q1 y0).bind fun y1=>
 if y1=true then
 some (.stop x0)
 else
 ec a0 q1 n (ae (x0+1))
 else
 some (.next ())
def gq (a0:List be) (q1:be→Option Bool):Option Int:=
 (ec a0 q1 ((a0.length - 0:Int).toNat+1) 0).bind fun lr0=>
 Ctl.elim lr0 (fun v=>some v) fun _=>
 some (-1)
def eh (a0:List be) (q1:be→Option Bool):Option Bool:=
 (gq a0 q1).bind fun(y1:Int)=>
 some (decide (y1 ≥ 0))
def pX (a0:be):Option Bool:=
 some (a0.aa==7)
def uM (a0:cj):Option (List be):=
 (jG (a0.aP).l 0 (ae ((if(if 3 < a0.fN then 3 else a0.fN) > 0 then(if 3 < a0.fN then 3 else a0.fN) else 0)+1))).bind fun y1=>
 some y1
def mB (a1:Int) (y0:(List be)):Nat→Int→Option (Ctl (Bool) (Unit))
 | 0,_=>none
 | n+1,x0=>
 if(decide (x0 < (y0.length:Int))) then
 (idx y0 x0).bind fun y1=>
 (nb y1 a1).bind fun y2=>
 if(!y2) then
 some (.stop false)
 else
 mB a1 y0 n (ae (x0+1))
 else
 some (.next ())
def mo (y0:List be):Nat→Int→Option (Ctl (Bool) (Unit))
 | 0,_=>none
 | n+1,x0=>
 if(decide (x0 < (y0.length:Int))) then
 (idx y0 x0).bind fun y1=>
 if(y1.aa==6) then
 some (.stop false)
 else
 mo y0 n (ae (x0+1))
 else
 some (.next ())
def ma (y0:List be):Nat→Int→Option (Ctl (Bool) (Unit))
 | 0,_=>none
 | n+1,x0=>
 if(decide (x0 < (y0.length:Int))) then
 (idx y0 x0).bind fun y1=>
 if(!(lv y1 aB)) then
 some (.stop false)
 else
 ma y0 n (ae (x0+1))
 else
 some (.next ())
def mQ (a0:cj) (a1:Int):Option Bool:=
 (if(a0.aa==0) then
 some (a0.aa==0)
 else
 some (a0.aa==1):Option (Bool)).bind fun x2=>
 if x2=true then
 some (qg a0 (⟨a0.aa,[],0,(⟨aB,aB,aB,aB⟩:A4 be)⟩:cj))
 else
 if(a0.aa==2) then
 ((iw a0.ca).bind fun y9=>
 if(!y9) then
 some true
 else
 if(decide (a0.fN < 0)) then
 some true
 else
 some (decide (a0.fN > 3)):Option (Bool)).bind fun x0=>
 if x0=true then
 some false
 else
 (uM a0).bind fun y0=>
 (mB a1 y0 ((y0.length - 0:Int).toNat+1) 0).bind fun lr0=>
 Ctl.elim lr0 (fun v=>some v) fun _=>
 (jG y0 1 y0.length).bind fun y1=>
 (mo y1 ((y1.length - 0:Int).toNat+1) 0).bind fun lr1=>
 Ctl.elim lr1 (fun v=>some v) fun _=>
 (jG (a0.aP).l (y0.length:Int) (a0.aP).l.length).bind fun y2=>
 (ma y2 ((y2.length - 0:Int).toNat+1) 0).bind fun lr2=>
 Ctl.elim lr2 (fun v=>some v) fun _=>
 some true
 else
 some false
def li (a0:cj) (a1:Int):Option Bool:=
 (jG (a0.aP).l 1 (a0.aP).l.length).bind fun y6=>
 (eh y6 (fun(z8:be)=>pX z8)).bind fun y9=>
 if(!y9) then
 (mQ a0 a1).bind fun y0=>
 if y0=true then
 if(a0.aP.a0.aa != 7) then
 some true
 else
 some (a0.aP.a0.fN==0)
 else
 some false
 else
 some false
def tB (a0:dV) (c0:Int):Option Bool:=
 if(a0.bt.aa==0) then
 some true
 else
 (iw a0.aj).bind fun y2=>
 if(!y2) then
 some true
 else
 (li a0.bt c0).bind fun y5=>
 some (!y5)
def lU (a0:List dV) (a1:Int) (a2:Int):Option Bool:=
 if(decide ((a0.length:Int)≤a1)) then
 (eN a0 (fun(z2:dV)=>tB z2 a2)).bind fun y3=>
 some (!y3)
 else
 some false
def dZ (a0:List bG) (q1:bG→Option Bool):Nat→Int→Option (Ctl (Int) (Unit))
 | 0,_=>none
 | n+1,x0=>
 if(decide (x0 < (a0.length:Int))) then
 (idx a0 x0).bind fun y0=>
 (q1 y0).bind fun y1=>
 if y1=true then
 some (.stop x0)
 else
 dZ a0 q1 n (ae (x0+1))
 else
 some (.next ())
def gi (a0:List bG) (q1:bG→Option Bool):Option Int:=
 (dZ a0 q1 ((a0.length - 0:Int).toNat+1) 0).bind fun lr0=>
 Ctl.elim lr0 (fun v=>some v) fun _=>
 some (-1)
def dy (a0:List bG) (q1:bG→Option Bool):Option Bool:=
 (gi a0 q1).bind fun(y1:Int)=>
 some (decide (y1 ≥ 0))
def pA (a0:Int):Option Int:=
 if(a0==1) then
 some 33
 else
 if(a0==2) then
 some 15
 else
 if(a0==3) then
 some 46
 else
 if(a0==4) then
 some 591
 else
 if(a0==5) then
 some 17
 else
 if(a0==6) then
 some 49
 else
 if(a0==7) then
 some 3
 else
 if(a0==8) then
 some 2
 else
 if(a0==9) then
 some 416
 else
 if(a0==10) then
 some 160
 else
 if(a0==11) then
 some 32
 else
 some 0
def sE (a0:aI) (a1:Int):Option Bool:=
 Ctl.go (mJ (if((wc .i64 a1 1)==0) then
 some true
 else
 if((wc .i64 a1 512) != 0) then
 some (a0.fX==[])
 else
 some false:Option (Bool)) fun x3=>
 if x3=true then
 if(!(a0.fX==[])) then
 .stop (some false)
 else
 .next ()
 else
 mJ (iw a0.fX) fun(y0:Bool)=>
 if(!y0) then
 .stop (some false)
 else
 .next ():Ctl (Option Bool) (Unit)) fun _=>
 Ctl.go (if((wc .i64 a1 2)==0) then
 if(!(a0.fY==[])) then
 .stop (some false)
 else
 .next ()
 else
 mJ ((iw a0.fY).bind fun y1=>
 if(!y1) then
 if((wc .i64 a1 4)==0) then
 some true
 else
 some (!(a0.fY==[116,104,105,115]))
 else
 some false:Option (Bool)) fun x0=>
 if x0=true then
 .stop (some false)
 else
 .next ():Ctl (Option Bool) (Unit)) fun _=>
 if((wc .i64 a1 8)==0) then
 some (a0.aj==[])
 else
 (iw a0.aj).bind fun y2=>
 some y2
def fW (a0:List au) (a1:List au) (q2:au→au→Option Bool):Nat→Int→Option (Ctl (Bool) (Unit))
 | 0,_=>none
 | n+1,x0=>
 if(decide (x0 < (a0.length:Int))) then
 (idx a0 x0).bind fun y0=>
 (idx a1 x0).bind fun y1=>
 (q2 y0 y1).bind fun y2=>
 if(!y2) then
 some (.stop false)
 else
 fW a0 a1 q2 n (ae (x0+1))
 else
 some (.next ())
def gH (a0:List au) (a1:List au) (q2:au→au→Option Bool):Option Bool:=
 if((a0.length:Int) != (a1.length:Int)) then
 some false
 else
 (fW a0 a1 q2 ((a0.length - 0:Int).toNat+1) 0).bind fun lr0=>
 Ctl.elim lr0 (fun v=>some v) fun _=>
 some true
def po : Nat→au→au→Option Bool
 | 0,_,_=>none
 | n+1,a0,a1=>
 if(a0.aa==a1.aa) then
 if(a0.cQ==a1.cQ) then
 if(a0.aj==a1.aj) then
 (gH a0.aZ a1.aZ (fun(z4:au) (z5:au)=>(po n) z4 z5)).bind fun y6=>
 some y6
 else
 some false
 else
 some false
 else
 some false
def se (a0:au):Option Bool:=
 (po (cr a0+cr gv+1) a0 gv).bind fun y1=>
 some y1
def dq (a0:List au) (q1:au→Option Bool):Nat→Int→Option (Ctl (Int) (Unit))
 | 0,_=>none
 | n+1,x0=>
 if(decide (x0 < (a0.length:Int))) then
 (idx a0 x0).bind fun y0=>
 (q1 y0).bind fun y1=>
 if y1=true then
 some (.stop x0)
 else
 dq a0 q1 n (ae (x0+1))
 else
 some (.next ())
def fh (a0:List au) (q1:au→Option Bool):Option Int:=
 (dq a0 q1 ((a0.length - 0:Int).toNat+1) 0).bind fun lr0=>
 Ctl.elim lr0 (fun v=>some v) fun _=>
 some (-1)
def cD (a0:List au) (q1:au→Option Bool):Option Bool:=
 (fh a0 q1).bind fun(y1:Int)=>
 some (decide (y1 ≥ 0))
mutual
def kG : Nat→au→Int→Option Bool
 | 0,_,_=>none
 | n+1,a0,a1=>
 if(a1==0) then
 some false
 else
 (cD a0.aZ (fun(z2:au)=>(lh n) z2 a1)).bind fun y3=>
 some (!y3)
def lh : Nat→au→Int→Option Bool
 | 0,_,_=>none
 | n+1,a0,c0=>
 ((kG n) a0 (ae (c0 - 1))).bind fun y1=>
 some (!y1)
end

def zv (a0:au):Option au:=
 some a0
def gZ (a0:List au):Option (List au):=
 some a0
def dD (c0:List au) (sp:Nat) (rows:List (Int×au)):Nat→Nat→Int→Option (Ctl (Nat) (Nat))
 | 0,_,_=>none
 | n+1,x0,x1=>
 if(decide (x1 ≥ 0)) then
 (idx c0 x1).bind fun y0=>
 (yck rows sp x0 (x1,y0)).bind fun _=>
 if(!(!(x0==sp))) then
 some (.stop (x0+1))
 else
 dD c0 sp rows n (x0+1) (ae (x1 - 1))
 else
 some (.next x0)
def gu (rows:List (Int×au)) (sp:Nat) (c0:List au):Option Nat:=
 (dD c0 sp rows ((((ae ((c0.length:Int) - 1)):Int) - (0)).toNat+2) 0 (ae ((c0.length:Int) - 1))).bind fun lr0=>
 Ctl.elim lr0 (fun v=>some v) fun x0=>
 some x0
def dv (l:List au):Nat→List (Int×au)
 | 0=>[]
 | n+1=>match l[n]? with
 | some x=>((n:Int),x)::dv l n
 | none=>[]
def jL (l:List au):Option (List (Int×au)):=if l.length < 4611686018427387904 then some (dv l l.length) else none
def nR  : Int×au→(List au)→Option (Ctl Unit (List au))
 | (x0,x1),x2=>
 (bQ ((x2.length:Int)+(([gv]:List au).length:Int)) 56).bind fun _=>
 (idx (x2++([gv]:List au)) (x2.length:Int)).bind fun _=>
 some (.next ((x2++([gv]:List au)).set ((x2.length:Int):Int).toNat x1))
def mc (sp:Nat) (rows:List (au)):Nat→Nat→(List au)→Option (Ctl (Nat) (Nat))
 | 0,_,_=>none
 | n+1,x0,x1=>
 if(decide ((x1.length:Int) > 0)) then
 (idx x1 (ae ((x1.length:Int) - 1))).bind fun y0=>
 (jG x1 0 (ae ((x1.length:Int) - 1))).bind fun y1=>
 (yck rows sp x0 y0).bind fun _=>
 if(!(!(x0==sp))) then
 some (.stop (x0+1))
 else
 (gZ y0.aZ).bind fun y2=>
 (jL y2).bind fun(rows0:List (Int×au))=>
 (Au nR rows0 y1).bind fun(lr0:Ctl Unit (List au))=>
 Ctl.elim lr0 (fun _=>none) (fun x2=>
 mc sp rows n (x0+1) x2)
 else
 some (.next x0)
def vl (rows:List (au)) (sp:Nat) (c0:au):Option Nat:=
 (mc sp rows (cr c0+2) 0 [c0]).bind fun lr0=>
 Ctl.elim lr0 (fun v=>some v) fun x0=>
 some x0
mutual
def DD : au→List au
 | ⟨k,n,nm,l⟩=>⟨k,n,nm,l⟩::qb l
def qb : List au→List au
 | []=>[]
 | x::l=>DD x++qb l
end
def CF (e:au):Option (List au):=if cr e≤1000000 then some (DD e) else none
def ut (a0:Int):Option Int:=
 (if(a0==1) then
 some (a0==1)
 else
 if(a0==2) then
 some (a0==2)
 else
 if(a0==3) then
 some (a0==3)
 else
 if(a0==4) then
 some (a0==4)
 else
 some (a0==5):Option (Bool)).bind fun x5=>
 if x5=true then
 some 0
 else
 (if(a0==12) then
 some (a0==12)
 else
 some (a0==13):Option (Bool)).bind fun x0=>
 if x0=true then
 some 1
 else
 (if(a0==6) then
 some (a0==6)
 else
 if(a0==7) then
 some (a0==7)
 else
 if(a0==8) then
 some (a0==8)
 else
 if(a0==9) then
 some (a0==9)
 else
 if(a0==10) then
 some (a0==10)
 else
 if(a0==11) then
 some (a0==11)
 else
 some (a0==14):Option (Bool)).bind fun x1=>
 if x1=true then
 some 2
 else
 some (-1)
def pT (a0:au) (c0:au):Option Bool:=
 if(a0.aa != 2) then
 if(a0.aa != 3) then
 if(a0.aa != 4) then
 some true
 else
 some (c0.aa==13)
 else
 some false
 else
 some false
def sr (a0:au):Option Bool:=
 ((ut a0.aa).bind fun(y3:Int)=>
 if((a0.aZ.length:Int) != y3) then
 some true
 else
 if(a0.aa != 1) then
 if(a0.cQ != 0) then
 some true
 else
 if(a0.aa != 2) then
 some (!(a0.aj==[]))
 else
 some false
 else
 if(a0.aa != 2) then
 some (!(a0.aj==[]))
 else
 some false:Option (Bool)).bind fun x0=>
 if x0=true then
 some false
 else
 if(a0.aa==1) then
 if(decide (a0.cQ ≥ 0)) then
 some (decide (a0.cQ≤999999999))
 else
 some false
 else
 if(a0.aa==2) then
 (iw a0.aj).bind fun y0=>
 some y0
 else
 (if(a0.aa==13) then
 some (a0.aa==13)
 else
 some (a0.aa==14):Option (Bool)).bind fun x1=>
 if x1=true then
 (cD a0.aZ (fun(z24:au)=>pT z24 a0)).bind fun y1=>
 some (!y1)
 else
 some true
def oh  : au→Unit→Option (Ctl Unit Unit)
 | x0,_=>
 (sr x0).bind fun y0=>
 if(!y0) then
 some (.stop ())
 else
 some (.next ())
def oU (a0:au):Option Bool:=
 (kG (2 * (20:Int).toNat+2) a0 20).bind fun y3=>
 if(!y3) then
 some false
 else
 (zv a0).bind fun y8=>
 (CF y8).bind fun(rows0:List (au))=>
 (Au oh rows0 ()).bind fun(lr0:Ctl Unit Unit)=>
 Ctl.elim lr0 (fun _=>
 some false) (fun _=>
 some true)
def qK (a0:au):Option Bool:=
 (oU a0).bind fun y1=>
 some (!y1)
def uw (a0:aI) (a1:Int) (a2:Int):Option Bool:=
 (if((wc .i64 a1 16)==0) then
 if(!(qg a0.bt mF)) then
 some true
 else
 if((wc .i64 a1 16) != 0) then
 if(a0.bt.aa != 2) then
 some true
 else
 (mQ a0.bt a2).bind fun y5=>
 some (!y5)
 else
 some false
 else
 if((wc .i64 a1 16) != 0) then
 if(a0.bt.aa != 2) then
 some true
 else
 (mQ a0.bt a2).bind fun y9=>
 some (!y9)
 else
 some false:Option (Bool)).bind fun x0=>
 if x0=true then
 some false
 else
 Ctl.go (mJ (if((wc .i64 a1 32)==0) then
 some true
 else
 if(a0.aa==11) then
 (se a0.fE).bind fun y0=>
 some y0
 else
 some false:Option (Bool)) fun x1=>
 if x1=true then
 mJ (se a0.fE) fun(y1:Bool)=>
 if(!y1) then
 .stop (some false)
 else
 .next ()
 else
 mJ (oU a0.fE) fun(y2:Bool)=>
 if(!y2) then
 .stop (some false)
 else
 mJ (if(a0.aa==6) then
 if(a0.fE.aa != 2) then
 if(a0.fE.aa != 3) then
 some (a0.fE.aa != 4)
 else
 some false
 else
 some false
 else
 some false:Option (Bool)) fun x2=>
 if x2=true then
 .stop (some false)
 else
 .next ():Ctl (Option Bool) (Unit)) fun _=>
 if((wc .i64 a1 64)==0) then
 some ((a0.ce.length:Int)==0)
 else
 if(decide ((a0.ce.length:Int)≤5)) then
 (cD a0.ce (fun(z42:au)=>qK z42)).bind fun y3=>
 some (!y3)
 else
 some false
def et (a0:List aI) (q1:aI→Option Bool):Nat→Int→Option (Ctl (Int) (Unit))
 | 0,_=>none
 | n+1,x0=>
 if(decide (x0 < (a0.length:Int))) then
 (idx a0 x0).bind fun y0=>
 (q1 y0).bind fun y1=>
 if y1=true then
 some (.stop x0)
 else
 et a0 q1 n (ae (x0+1))
 else
 some (.next ())
def gI (a0:List aI) (q1:aI→Option Bool):Option Int:=
 (et a0 q1 ((a0.length - 0:Int).toNat+1) 0).bind fun lr0=>
 Ctl.elim lr0 (fun v=>some v) fun _=>
 some (-1)
def dM (a0:List aI) (q1:aI→Option Bool):Option Bool:=
 (gI a0 q1).bind fun(y1:Int)=>
 some (decide (y1 ≥ 0))
mutual
def kg : Nat→aI→Int→Int→Option Bool
 | 0,_,_,_=>none
 | n+1,a0,a1,a2=>
 (pA a0.aa).bind fun(y3:Int)=>
 (if(a2==0) then
 some true
 else
 if(y3==0) then
 some true
 else
 (sE a0 y3).bind fun y7=>
 if(!y7) then
 some true
 else
 (uw a0 y3 a1).bind fun y0=>
 if(!y0) then
 some true
 else
 if((wc .i64 y3 128)==0) then
 if(decide ((a0.aH.length:Int) > 0)) then
 some true
 else
 if((wc .i64 y3 256)==0) then
 some (decide ((a0.bC.length:Int) > 0))
 else
 some false
 else
 if((wc .i64 y3 256)==0) then
 some (decide ((a0.bC.length:Int) > 0))
 else
 some false:Option (Bool)).bind fun x0=>
 if x0=true then
 some false
 else
 (dM a0.aH (fun(z21:aI)=>(gf n) z21 a1 a2)).bind fun y1=>
 if(!y1) then
 (dM a0.bC (fun(z25:aI)=>(gf n) z25 a1 a2)).bind fun y2=>
 some (!y2)
 else
 some false
def gf : Nat→aI→Int→Int→Option Bool
 | 0,_,_,_=>none
 | n+1,a0,c0,c1=>
 ((kg n) a0 c0 (ae (c1 - 1))).bind fun y1=>
 some (!y1)
end

def nt (a0:aI) (a1:Int):Option Bool:=
 (kg (cy a0+1) a0 a1 20).bind fun y1=>
 some y1
def nF (a0:List aI) (a1:Int) (size_body_rec:(List aI)→Int→Option Bool):Nat→Int→Option (Ctl (Bool) (Unit))
 | 0,_=>none
 | n+1,x0=>
 if(decide (x0 < (a0.length:Int))) then
 (idx a0 x0).bind fun y0=>
 ((nt y0 a1).bind fun y1=>
 if(!y1) then
 some true
 else
 if(y0.bt.aa==2) then
 (li y0.bt a1).bind fun y2=>
 if(!y2) then
 some true
 else
 (size_body_rec y0.aH a1).bind fun y3=>
 if(!y3) then
 some true
 else
 (size_body_rec y0.bC a1).bind fun y4=>
 some (!y4)
 else
 (size_body_rec y0.aH a1).bind fun y5=>
 if(!y5) then
 some true
 else
 (size_body_rec y0.bC a1).bind fun y6=>
 some (!y6):Option (Bool)).bind fun x1=>
 if x1=true then
 some (.stop false)
 else
 nF a0 a1 size_body_rec n (ae (x0+1))
 else
 some (.next ())
def gg : Nat→(List aI)→Int→Option Bool
 | 0,_,_=>none
 | n+1,a0,a1=>
 (nF a0 a1 (gg n) ((a0.length - 0:Int).toNat+1) 0).bind fun lr0=>
 Ctl.elim lr0 (fun v=>some v) fun _=>
 some true
def qW (a0:bG) (a1:Int):Option Bool:=
 (iw a0.aj).bind fun y1=>
 if y1=true then
 (li a0.cf a1).bind fun y4=>
 if y4=true then
 (lU a0.ab 5 a1).bind fun y7=>
 if y7=true then
 (lU a0.co 12 a1).bind fun y0=>
 if y0=true then
 (gg (dt a0.aH+1) a0.aH a1).bind fun y2=>
 some y2
 else
 some false
 else
 some false
 else
 some false
 else
 some false
def pY (a0:bG) (c0:Int):Option Bool:=
 (qW a0 c0).bind fun y1=>
 some (!y1)
def sF (a0:aJ):Option Bool:=
 (uD a0).bind fun y1=>
 if y1=true then
 (lU a0.bw 12 (a0.ab.length:Int)).bind fun y4=>
 if y4=true then
 if(decide ((a0.af.length:Int)≤12)) then
 (dy a0.af (fun(z8:bG)=>pY z8 (a0.ab.length:Int))).bind fun y9=>
 some (!y9)
 else
 some false
 else
 some false
 else
 some false
def sb (a0:aJ):Option Bool:=
 (sF a0).bind fun y1=>
 some (!y1)
def gG (a1:List cj):Nat→aK→Int→Option (aK)
 | 0,_,_=>none
 | n+1,x0,x1=>
 if(decide (x1 < (a1.length:Int))) then
 ((idx a1 x1).bind fun y0=>
 (if(y0.aa==2) then
 some (y0.aP.a0.aa==7)
 else
 some false:Option (Bool)).bind fun x2=>
 if x2=true then
 some ({ x0 with ui:=ae (x0.ui+1) }:aK)
 else
 some x0:Option (aK)).bind fun x3=>
 gG a1 n x3 (ae (x1+1))
 else
 some x0
def en (a1:List cj) (b0:aK):Option aK:=
 (gG a1 ((a1.length - 0:Int).toNat+1) b0 0).bind fun x0=>
 some x0
def fK (a1:List dV):Nat→aK→Int→Option (aK)
 | 0,_,_=>none
 | n+1,x0,x1=>
 if(decide (x1 < (a1.length:Int))) then
 (idx a1 x1).bind fun y0=>
 (en [y0.bt] x0).bind fun y1=>
 fK a1 n y1 (ae (x1+1))
 else
 some x0
def eF (a1:List dV) (b0:aK):Option (Int×aK):=
 (fK a1 ((a1.length - 0:Int).toNat+1) b0 0).bind fun x0=>
 some ((a1.length:Int),x0)
def fU (a1:List aI) (a2:Int) (__size_Counts__body_w_rec:(List aI)→Int→aK→Option aK):Nat→aK→Int→Option (aK)
 | 0,_,_=>none
 | n+1,x0,x1=>
 if(decide (x1 < (a1.length:Int))) then
 (idx a1 x1).bind fun y0=>
 (en [y0.bt] ({ x0 with gU:=ae (x0.gU+1) }:aK)).bind fun y1=>
 (__size_Counts__body_w_rec y0.aH (ae (a2+1)) y1).bind fun y2=>
 (__size_Counts__body_w_rec y0.bC (ae (a2+1)) y2).bind fun y3=>
 fU a1 a2 __size_Counts__body_w_rec n y3 (ae (x1+1))
 else
 some x0
def dp : Nat→(List aI)→Int→aK→Option aK
 | 0,_,_,_=>none
 | n+1,a1,a2,b0=>
 (if(decide ((a1.length:Int) > 0)) then
 some ({ b0 with vN:=(if a2 > b0.vN then a2 else b0.vN) }:aK)
 else
 some b0:Option (aK)).bind fun x2=>
 (fU a1 a2 (dp n) ((a1.length - 0:Int).toNat+1) x2 0).bind fun x0=>
 some x0
def sI (y0:aJ):Nat→aK→Int→Option (aK)
 | 0,_,_=>none
 | n+1,x0,x1=>
 if(decide (x1 < (y0.af.length:Int))) then
 (idx y0.af x1).bind fun y1=>
 (en [y1.cf] x0).bind fun y2=>
 (eF y1.ab y2).bind fun y3=>
 (eqI y3.2.jc y2.jc).bind fun _=>
 (eF y1.co y3.2).bind fun y4=>
 (eqI y4.2.jc y2.jc).bind fun _=>
 (dp (dt y1.aH+1) y1.aH 1 ({ y4.2 with jc:=ae (y2.jc+(ae (y3.1+y4.1))) }:aK)).bind fun y5=>
 sI y0 n y5 (ae (x1+1))
 else
 some x0
def sj (a0:List aJ):Nat→aK→Int→Option (aK)
 | 0,_,_=>none
 | n+1,x0,x1=>
 if(decide (x1 < (a0.length:Int))) then
 (idx a0 x1).bind fun y0=>
 (eF y0.bw x0).bind fun y1=>
 (eqI y1.2.bw x0.bw).bind fun _=>
 (sI y0 ((y0.af.length - 0:Int).toNat+1) ({ ({ y1.2 with bw:=ae (x0.bw+y1.1) }:aK) with af:=ae ((({ y1.2 with bw:=ae (x0.bw+y1.1) }:aK).af)+(y0.af.length:Int)) }:aK) 0).bind fun x2=>
 sj a0 n x2 (ae (x1+1))
 else
 some x0
def zK (a0:List aJ):Option aK:=
 (sj a0 ((a0.length - 0:Int).toNat+1) (⟨(a0.length:Int),0,0,0,0,0,0⟩:aK) 0).bind fun x0=>
 some x0
def qt (a0:List aJ):Option Bool:=
 if(decide ((a0.length:Int)≤20)) then
 (ed a0 (fun(z2:aJ)=>sb z2)).bind fun y3=>
 if(!y3) then
 (zK a0).bind fun y6=>
 some (decide (y6.gU≤400))
 else
 some false
 else
 some false
def strings_Join (a0:List (List UInt8)) (a1:List UInt8):Option (List UInt8):=Br a0 a1
def ny (a0:List UInt8) (a1:List (List UInt8)) (a2:List UInt8) (a3:Bool):Option (List UInt8):=
 (if((a1.length:Int)==0) then
 some (!a3)
 else
 some false:Option (Bool)).bind fun x2=>
 if x2=true then
 some []
 else
 (strings_Join a1 [44,32]).bind fun(y6:List UInt8)=>
 (bQ ((a0.length:Int)+(y6.length:Int)) 1).bind fun _=>
 (bQ (((a0++y6).length:Int)+(a2.length:Int)) 1).bind fun _=>
 some ((a0++y6)++a2)
def qf (a0:be) (a1:List (List UInt8)):Option (List UInt8):=
 (nb a0 (a1.length:Int)).bind fun y3=>
 if(!y3) then
 some []
 else
 if(a0.aa==1) then
 some [114,101,112]
 else
 if(a0.aa==2) then
 some [112,101,101,114]
 else
 if(a0.aa==4) then
 some [119,111,114,108,100]
 else
 if(a0.aa==5) then
 some [97,110,121]
 else
 if(a0.aa==6) then
 some [117,110,105,113,117,101]
 else
 if(a0.aa==7) then
 some [63]
 else
 (idx a1 (ae (a0.fN - 1))).bind fun y0=>
 some y0
def kj (a0:aJ):Nat→(List (List UInt8))→Int→Option ((List (List UInt8)))
 | 0,_,_=>none
 | n+1,x0,x1=>
 if(decide (x1 < (a0.bU.length:Int))) then
 (idx a0.bU x1).bind fun y0=>
 (qf y0 a0.ab).bind fun y1=>
 (bQ ((x0.length:Int)+([y1].length:Int)) 16).bind fun _=>
 kj a0 n (x0++[y1]) (ae (x1+1))
 else
 some x0
def sQ (a0:aJ):Option (List UInt8):=
 (bQ (([99,108,97,115,115,32].length:Int)+(a0.aj.length:Int)) 1).bind fun _=>
 (ny [60] a0.ab [62] false).bind fun(y9:(List UInt8))=>
 (bQ ((([99,108,97,115,115,32]++a0.aj).length:Int)+(y9.length:Int)) 1).bind fun _=>
 if(a0.cO==[]) then
 (bQ (((([99,108,97,115,115,32]++a0.aj)++y9).length:Int)+([32,123].length:Int)) 1).bind fun _=>
 some ((([99,108,97,115,115,32]++a0.aj)++y9)++[32,123])
 else
 (kj a0 ((a0.bU.length - 0:Int).toNat+1) [] 0).bind fun x0=>
 (bQ (((([99,108,97,115,115,32]++a0.aj)++y9).length:Int)+([32,101,120,116,101,110,100,115,32].length:Int)) 1).bind fun _=>
 (bQ ((((([99,108,97,115,115,32]++a0.aj)++y9)++[32,101,120,116,101,110,100,115,32]).length:Int)+(a0.cO.length:Int)) 1).bind fun _=>
 (ny [60] x0 [62] false).bind fun(y0:(List UInt8))=>
 (bQ (((((([99,108,97,115,115,32]++a0.aj)++y9)++[32,101,120,116,101,110,100,115,32])++a0.cO).length:Int)+(y0.length:Int)) 1).bind fun _=>
 (bQ ((((((([99,108,97,115,115,32]++a0.aj)++y9)++[32,101,120,116,101,110,100,115,32])++a0.cO)++y0).length:Int)+([32,123].length:Int)) 1).bind fun _=>
 some (((((([99,108,97,115,115,32]++a0.aj)++y9)++[32,101,120,116,101,110,100,115,32])++a0.cO)++y0)++[32,123])
def lI (a1:List (List UInt8)):Nat→(List Int)→Int→Option ((List Int))
 | 0,_,_=>none
 | n+1,x0,x1=>
 if(decide (x1 < (a1.length:Int))) then
 (idx a1 x1).bind fun y0=>
 (bQ ((x0.length:Int)+(y0.length:Int)) 1).bind fun _=>
 (bQ (((x0++bv y0).length:Int)+([10].length:Int)) 1).bind fun _=>
 lI a1 n ((x0++bv y0)++bv [10]) (ae (x1+1))
 else
 some x0
def gY (a1:List (List UInt8)) (b1:List Int):Option (List Int):=
 (lI a1 ((a1.length - 0:Int).toNat+1) b1 0).bind fun x0=>
 some x0
def nA (a1:List (List UInt8)) (y0:(List be)):Nat→(List (List UInt8))→Int→Option ((List (List UInt8)))
 | 0,_,_=>none
 | n+1,x0,x1=>
 if(decide (x1 < (y0.length:Int))) then
 (idx y0 x1).bind fun y1=>
 (qf y1 a1).bind fun y2=>
 (bQ ((x0.length:Int)+([y2].length:Int)) 16).bind fun _=>
 nA a1 y0 n (x0++[y2]) (ae (x1+1))
 else
 some x0
def nB (a0:cj) (a1:List (List UInt8)):Option (List UInt8):=
 (mQ a0 (a1.length:Int)).bind fun y3=>
 if(!y3) then
 some []
 else
 if(a0.aa != 2) then
 if(a0.aa==1) then
 some [105,110,116]
 else
 some [118,111,105,100]
 else
 (uM a0).bind fun y0=>
 (nA a1 y0 ((y0.length - 0:Int).toNat+1) [] 0).bind fun x0=>
 (if(decide ((x0.length:Int) > 1)) then
 (jG x0 1 x0.length).bind fun y1=>
 (strings_Join y1 [44,32]).bind fun(y2:List UInt8)=>
 (bQ (([60].length:Int)+(y2.length:Int)) 1).bind fun _=>
 (bQ ((([60]++y2).length:Int)+([62].length:Int)) 1).bind fun _=>
 (bQ ((a0.ca.length:Int)+((([60]++y2)++[62]).length:Int)) 1).bind fun _=>
 some (a0.ca++(([60]++y2)++[62]))
 else
 some a0.ca:Option ((List UInt8))).bind fun x1=>
 if(a0.aP.a0.aa==7) then
 some x1
 else
 (idx x0 0).bind fun y4=>
 (bQ ((y4.length:Int)+([32].length:Int)) 1).bind fun _=>
 (bQ (((y4++[32]).length:Int)+(x1.length:Int)) 1).bind fun _=>
 some ((y4++[32])++x1)
def jY (a0:dV) (a1:List (List UInt8)):Option (List UInt8):=
 (nB a0.bt a1).bind fun y1=>
 (bQ ((y1.length:Int)+([32].length:Int)) 1).bind fun _=>
 (bQ (((y1++[32]).length:Int)+(a0.aj.length:Int)) 1).bind fun _=>
 some ((y1++[32])++a0.aj)
def lC (a0:bG) (a1:List (List UInt8)):Nat→(List (List UInt8))→Int→Option ((List (List UInt8)))
 | 0,_,_=>none
 | n+1,x0,x1=>
 if(decide (x1 < (a0.ab.length:Int))) then
 (idx a0.ab x1).bind fun y0=>
 (jY y0 a1).bind fun y1=>
 (bQ ((x0.length:Int)+([y1].length:Int)) 16).bind fun _=>
 lC a0 a1 n (x0++[y1]) (ae (x1+1))
 else
 some x0
def sc (a0:bG) (a1:List (List UInt8)):Option (List UInt8):=
 (lC a0 a1 ((a0.ab.length - 0:Int).toNat+1) [] 0).bind fun x0=>
 (nB a0.cf a1).bind fun y0=>
 (bQ ((y0.length:Int)+([32].length:Int)) 1).bind fun _=>
 (bQ (((y0++[32]).length:Int)+(a0.aj.length:Int)) 1).bind fun _=>
 (ny [40] x0 [41] true).bind fun(y1:(List UInt8))=>
 (bQ ((((y0++[32])++a0.aj).length:Int)+(y1.length:Int)) 1).bind fun _=>
 if a0.kO=true then
 (bQ (([112,117,114,101,32].length:Int)+((((y0++[32])++a0.aj)++y1).length:Int)) 1).bind fun _=>
 some ([112,117,114,101,32]++(((y0++[32])++a0.aj)++y1))
 else
 some (((y0++[32])++a0.aj)++y1)
def fH  : Nat→(List Int)→Int→Int→Option ((List Int))
 | 0,_,_,_=>none
 | n+1,x0,x1,x2=>
 if(decide (x1 < x2)) then
 (idx x0 x2).bind fun(y0:Int)=>
 (idx x0 x1).bind fun(y1:Int)=>
 (idx x0 x1).bind fun _=>
 (idx (x0.set (x1:Int).toNat y0) x2).bind fun _=>
 fH n ((x0.set (x1:Int).toNat y0).set (x2:Int).toNat y1) (ae (x1+1)) (ae (x2 - 1))
 else
 some x0
def gK (b0:List Int):Option (List Int):=
 (fH (b0.length+1) b0 0 (ae ((b0.length:Int) - 1))).bind fun x0=>
 some x0
def nu  : Nat→Int→(List Int)→Option ((List Int))
 | 0,_,_=>none
 | n+1,x0,x1=>
 if(decide (x0 ≥ 10)) then
 (bQ ((x1.length:Int)+([tq (kr (48+(Int.tmod (kr (Int.tdiv x0 10)) 10)))].length:Int)) 1).bind fun _=>
 nu n (kr (Int.tdiv x0 10)) (x1++[tq (kr (48+(Int.tmod (kr (Int.tdiv x0 10)) 10)))])
 else
 some x1
def ph (a0:Int):Option (List UInt8):=
 (if(decide (a0 < 0)) then
 some (kr (0 - (kr a0)))
 else
 some (kr a0):Option (Int)).bind fun x2=>
 (bQ ((([]:List Int).length:Int)+([tq (kr (48+(Int.tmod x2 10)))].length:Int)) 1).bind fun _=>
 (nu 21 x2 ([]++[tq (kr (48+(Int.tmod x2 10)))])).bind fun x0=>
 (if(decide (a0 < 0)) then
 (bQ ((x0.length:Int)+([45].length:Int)) 1).bind fun _=>
 some (x0++[45])
 else
 some x0:Option ((List Int))).bind fun x1=>
 (gK x1).bind fun y0=>
 some (mW y0)
def xl : List Gbind_expr:=[⟨[38,38],1,11⟩,⟨[60],2,9⟩,⟨[61,61],2,10⟩,⟨[43],3,6⟩,⟨[45],3,7⟩,⟨[42],4,8⟩]
def GJ : List PV:=[.str [38,38],.int .i64 1,.int .i64 11,.str [60],.int .i64 2,.int .i64 9,.str [61,61],.int .i64 2,.int .i64 10,.str [43],.int .i64 3,.int .i64 6,.str [45],.int .i64 3,.int .i64 7,.str [42],.int .i64 4,.int .i64 8]
theorem PA : GJ=(List.map fb xl).flatten:=by kernel_rfl
theorem OT : (1,GJ)∈dW:= .tail _ (.head _)
def ik (a0:List Gbind_expr) (q1:Gbind_expr→Option Bool):Nat→Int→Option (Ctl (Int) (Unit))
 | 0,_=>none
 | n+1,x0=>
 if(decide (x0 < (a0.length:Int))) then
 (idx a0 x0).bind fun y0=>
 (q1 y0).bind fun y1=>
 if y1=true then
 some (.stop x0)
 else
 ik a0 q1 n (ae (x0+1))
 else
 some (.next ())
def gl (a0:List Gbind_expr) (q1:Gbind_expr→Option Bool):Option Int:=
 (ik a0 q1 ((a0.length - 0:Int).toNat+1) 0).bind fun lr0=>
 Ctl.elim lr0 (fun v=>some v) fun _=>
 some (-1)
def rf (a0:Gbind_expr) (c0:au):Option Bool:=
 some (a0.fkind==c0.aa)
mutual
def jK : Nat→au→Int→Option (List UInt8)
 | 0,_,_=>none
 | n+1,a0,a1=>
 ((mj n) a0).bind fun y3=>
 if(decide (y3.2 < a1)) then
 (bQ (([40].length:Int)+(y3.1.length:Int)) 1).bind fun _=>
 (bQ ((([40]++y3.1).length:Int)+([41].length:Int)) 1).bind fun _=>
 some (([40]++y3.1)++[41])
 else
 some y3.1
def mj : Nat→au→Option ((List UInt8)×Int)
 | 0,_=>none
 | n+1,a0=>
 if(a0.aa==1) then
 (ph a0.cQ).bind fun y2=>
 some (y2,5)
 else
 if(a0.aa==2) then
 some (a0.aj,5)
 else
 if(a0.aa==3) then
 some ([116,104,105,115],5)
 else
 if(a0.aa==4) then
 some ([110,117,108,108],5)
 else
 if(a0.aa==5) then
 some ([105,110,112,117,116],5)
 else
 if(a0.aa==12) then
 (idx a0.aZ 0).bind fun y9=>
 ((jK n) y9 5).bind fun y0=>
 (bQ (([33].length:Int)+(y0.length:Int)) 1).bind fun _=>
 some (([33]++y0),5)
 else
 if(a0.aa==13) then
 (idx a0.aZ 0).bind fun y1=>
 ((jK n) y1 0).bind fun y3=>
 (bQ (([110,105,108,40].length:Int)+(y3.length:Int)) 1).bind fun _=>
 (bQ ((([110,105,108,40]++y3).length:Int)+([41].length:Int)) 1).bind fun _=>
 some ((([110,105,108,40]++y3)++[41]),5)
 else
 if(a0.aa==14) then
 (idx a0.aZ 0).bind fun y4=>
 ((jK n) y4 0).bind fun y5=>
 (bQ (([115,97,109,101,40].length:Int)+(y5.length:Int)) 1).bind fun _=>
 (bQ ((([115,97,109,101,40]++y5).length:Int)+([44,32].length:Int)) 1).bind fun _=>
 (idx a0.aZ 1).bind fun y6=>
 ((jK n) y6 0).bind fun y7=>
 (bQ (((([115,97,109,101,40]++y5)++[44,32]).length:Int)+(y7.length:Int)) 1).bind fun _=>
 (bQ ((((([115,97,109,101,40]++y5)++[44,32])++y7).length:Int)+([41].length:Int)) 1).bind fun _=>
 some ((((([115,97,109,101,40]++y5)++[44,32])++y7)++[41]),5)
 else
 (gl xl (fun(z44:Gbind_expr)=>rf z44 a0)).bind fun(y8:Int)=>
 (idx xl y8).bind fun y10=>
 ((if(y10.fkind==9) then
 some true
 else
 some (y10.fkind==10):Option (Bool)).bind fun x0=>
 if x0=true then
 some (ae (y10.flevel+1))
 else
 some y10.flevel:Option (Int)).bind fun x1=>
 (idx a0.aZ 0).bind fun y12=>
 ((jK n) y12 x1).bind fun y13=>
 (idx a0.aZ 1).bind fun y14=>
 ((jK n) y14 (ae (y10.flevel+1))).bind fun y15=>
 (strings_Join [y13,y10.fsign,y15] [32]).bind fun(y17:List UInt8)=>
 some (y17,y10.flevel)
end

def qn (a0:au):Option (List UInt8):=
 (oU a0).bind fun y3=>
 if(!y3) then
 some []
 else
 (jK (2 * cr a0+2) a0 0).bind fun y6=>
 some y6
def fg (a0:List UInt8) (a1:List UInt8):Option Bool:=
 if(decide ((a0.length:Int) ≥ (a1.length:Int))) then
 (jG a0 (ae ((a0.length:Int) - (a1.length:Int))) a0.length).bind fun y2=>
 some (y2==a1)
 else
 some false
def eW (a0:List UInt8) (a1:List UInt8):Option (List UInt8):=
 (fg a0 a1).bind fun y3=>
 if y3=true then
 (jG a0 0 (ae ((a0.length:Int) - (a1.length:Int)))).bind fun y6=>
 some y6
 else
 some a0
def jh (a0:List UInt8) (a1:List UInt8):Option (List UInt8):=
 (eW a0 a1).bind fun y1=>
 some y1
def dJ (a1:aI):Nat→(List (List UInt8))→Int→Option ((List (List UInt8)))
 | 0,_,_=>none
 | n+1,x0,x1=>
 if(decide (x1 < (a1.ce.length:Int))) then
 (idx a1.ce x1).bind fun y0=>
 (qn y0).bind fun y1=>
 (bQ ((x0.length:Int)+([y1].length:Int)) 16).bind fun _=>
 dJ a1 n (x0++[y1]) (ae (x1+1))
 else
 some x0
def dQ (a1:aI) (b0_2:List (List UInt8)) (b1:List Int):Option (List UInt8):=
 (qn a1.fE).bind fun y3=>
 if(a1.aa==2) then
 (bQ ((a1.fY.length:Int)+([46].length:Int)) 1).bind fun _=>
 (bQ (((a1.fY++[46]).length:Int)+(a1.aj.length:Int)) 1).bind fun _=>
 some ((a1.fY++[46])++a1.aj)
 else
 if(a1.aa==3) then
 (bQ ((a1.fY.length:Int)+([46].length:Int)) 1).bind fun _=>
 (bQ (((a1.fY++[46]).length:Int)+(a1.aj.length:Int)) 1).bind fun _=>
 (bQ ((((a1.fY++[46])++a1.aj).length:Int)+([32,61,32].length:Int)) 1).bind fun _=>
 (bQ (((((a1.fY++[46])++a1.aj)++[32,61,32]).length:Int)+(y3.length:Int)) 1).bind fun _=>
 some ((((a1.fY++[46])++a1.aj)++[32,61,32])++y3)
 else
 if(a1.aa==4) then
 (dJ a1 ((a1.ce.length - 0:Int).toNat+1) [] 0).bind fun x0=>
 (bQ ((a1.fY.length:Int)+([46].length:Int)) 1).bind fun _=>
 (bQ (((a1.fY++[46]).length:Int)+(a1.aj.length:Int)) 1).bind fun _=>
 (bQ ((((a1.fY++[46])++a1.aj).length:Int)+([40].length:Int)) 1).bind fun _=>
 (strings_Join x0 [44,32]).bind fun(y0:List UInt8)=>
 (bQ (((((a1.fY++[46])++a1.aj)++[40]).length:Int)+(y0.length:Int)) 1).bind fun _=>
 (bQ ((((((a1.fY++[46])++a1.aj)++[40])++y0).length:Int)+([41].length:Int)) 1).bind fun _=>
 some (((((a1.fY++[46])++a1.aj)++[40])++y0)++[41])
 else
 if(a1.aa==5) then
 (nB a1.bt b0_2).bind fun y1=>
 (bQ (([110,101,119,32].length:Int)+(y1.length:Int)) 1).bind fun _=>
 some ([110,101,119,32]++y1)
 else
 if(a1.aa==6) then
 (nB a1.bt b0_2).bind fun y2=>
 (bQ (([99,97,115,116,32].length:Int)+(y2.length:Int)) 1).bind fun _=>
 (bQ ((([99,97,115,116,32]++y2).length:Int)+([32].length:Int)) 1).bind fun _=>
 (bQ (((([99,97,115,116,32]++y2)++[32]).length:Int)+(y3.length:Int)) 1).bind fun _=>
 some ((([99,97,115,116,32]++y2)++[32])++y3)
 else
 if(a1.aa==7) then
 (bQ (([109,111,118,101,32].length:Int)+(a1.fY.length:Int)) 1).bind fun _=>
 some ([109,111,118,101,32]++a1.fY)
 else
 if(a1.aa==8) then
 (bQ (([100,101,108,101,116,101,32].length:Int)+(a1.fY.length:Int)) 1).bind fun _=>
 some ([100,101,108,101,116,101,32]++a1.fY)
 else
 if(a1.aa==11) then
 (bQ (([114,101,116,117,114,110,32].length:Int)+(y3.length:Int)) 1).bind fun _=>
 (jh ([114,101,116,117,114,110,32]++y3) [32]).bind fun(y4:(List UInt8))=>
 some y4
 else
 some y3
def strings_Repeat (a0:List UInt8) (a1:Int):Option (List UInt8):=Tu a0 a1
def ey (a2:List (List UInt8)):Nat→(List Int)→Int→Option ((List Int))
 | 0,_,_=>none
 | n+1,x0,x1=>
 if(decide (x1 < (a2.length:Int))) then
 (idx a2 x1).bind fun y0=>
 (bQ ((x0.length:Int)+(y0.length:Int)) 1).bind fun _=>
 ey a2 n (x0++bv y0) (ae (x1+1))
 else
 some x0
def de (a1:Int) (a2:List (List UInt8)) (b0_2:List (List UInt8)) (b1:List Int):Option (List Int):=
 (strings_Repeat [9] a1).bind fun(y5:List UInt8)=>
 (bQ ((b1.length:Int)+(y5.length:Int)) 1).bind fun _=>
 (ey a2 ((a2.length - 0:Int).toNat+1) (b1++bv y5) 0).bind fun x0=>
 (bQ ((x0.length:Int)+1) 1).bind fun _=>
 some (x0++[10])
def ew (a1:aI) (a2:Int) (b0_2:List (List UInt8)) (__stmt_writer__stmt_w_rec:aI→Int→(List (List UInt8))→(List Int)→Option (List Int)):Nat→(List Int)→Int→Option ((List Int))
 | 0,_,_=>none
 | n+1,x0,x1=>
 if(decide (x1 < (a1.aH.length:Int))) then
 (idx a1.aH x1).bind fun y0=>
 (__stmt_writer__stmt_w_rec y0 (ae (a2+1)) b0_2 x0).bind fun y1=>
 ew a1 a2 b0_2 __stmt_writer__stmt_w_rec n y1 (ae (x1+1))
 else
 some x0
def eC (a1:aI) (a2:Int) (b0_2:List (List UInt8)) (__stmt_writer__stmt_w_rec:aI→Int→(List (List UInt8))→(List Int)→Option (List Int)):Nat→(List Int)→Int→Option ((List Int))
 | 0,_,_=>none
 | n+1,x0,x1=>
 if(decide (x1 < (a1.bC.length:Int))) then
 (idx a1.bC x1).bind fun y0=>
 (__stmt_writer__stmt_w_rec y0 (ae (a2+1)) b0_2 x0).bind fun y1=>
 eC a1 a2 b0_2 __stmt_writer__stmt_w_rec n y1 (ae (x1+1))
 else
 some x0
def cF : Nat→aI→Int→(List (List UInt8))→(List Int)→Option (List Int)
 | 0,_,_,_,_=>none
 | n+1,a1,a2,b0_2,b1=>
 Ctl.go (if(a1.aa==10) then
 .next [119,104,105,108,101,32,40]
 else
 if(a1.aa==9) then
 .next [105,102,32,40]
 else
 if(!(a1.fX==[])) then
 mJ (dQ a1 b0_2 b1) fun(y4:(List UInt8))=>
 mJ (de a2 [a1.fX,[32,61,32],y4,[59]] b0_2 b1) fun(y6:(List Int))=>
 .stop (some y6)
 else
 mJ (dQ a1 b0_2 b1) fun(y8:(List UInt8))=>
 mJ (de a2 [y8,[59]] b0_2 b1) fun(y0:(List Int))=>
 .stop (some y0):Ctl (Option (List Int)) ((List UInt8))) fun x0=>
 (qn a1.fE).bind fun y1=>
 (de a2 [x0,y1,[41,32,123]] b0_2 b1).bind fun(y2:(List Int))=>
 (ew a1 a2 b0_2 (cF n) ((a1.aH.length - 0:Int).toNat+1) y2 0).bind fun x1=>
 (if(decide ((a1.bC.length:Int) > 0)) then
 (de a2 [[125,32,101,108,115,101,32,123]] b0_2 x1).bind fun(y3:(List Int))=>
 some y3
 else
 some x1:Option ((List Int))).bind fun x2=>
 (eC a1 a2 b0_2 (cF n) ((a1.bC.length - 0:Int).toNat+1) x2 0).bind fun x3=>
 (de a2 [[125]] b0_2 x3).bind fun(y5:(List Int))=>
 some y5
def uL (a0:aI) (a1:List (List UInt8)) (a2:Int):Option (List UInt8):=
 (nt a0 (a1.length:Int)).bind fun y3=>
 if(!y3) then
 some []
 else
 (cF (cy a0+1) a0 (if(if 20 < a2 then 20 else a2) > 0 then(if 20 < a2 then 20 else a2) else 0) a1 []).bind fun y8=>
 (Gv y8).bind fun y0=>
 some y0
def jz (a0:aJ):Nat→(List Int)→Int→Option ((List Int))
 | 0,_,_=>none
 | n+1,x0,x1=>
 if(decide (x1 < (a0.bw.length:Int))) then
 (idx a0.bw x1).bind fun y0=>
 (jY y0 a0.ab).bind fun y1=>
 (bQ (([9].length:Int)+(y1.length:Int)) 1).bind fun _=>
 (bQ ((([9]++y1).length:Int)+([59].length:Int)) 1).bind fun _=>
 (gY [(([9]++y1)++[59])] x0).bind fun(y2:(List Int))=>
 jz a0 n y2 (ae (x1+1))
 else
 some x0
def jE (a0:aJ) (y0:bG):Nat→(List Int)→Int→Option ((List Int))
 | 0,_,_=>none
 | n+1,x0,x1=>
 if(decide (x1 < (y0.co.length:Int))) then
 (idx y0.co x1).bind fun y1=>
 (jY y1 a0.ab).bind fun y2=>
 (bQ (([9,9].length:Int)+(y2.length:Int)) 1).bind fun _=>
 (bQ ((([9,9]++y2).length:Int)+([59].length:Int)) 1).bind fun _=>
 (gY [(([9,9]++y2)++[59])] x0).bind fun(y3:(List Int))=>
 jE a0 y0 n y3 (ae (x1+1))
 else
 some x0
def jA (a0:aJ) (y0:bG):Nat→(List Int)→Int→Option ((List Int))
 | 0,_,_=>none
 | n+1,x0,x1=>
 if(decide (x1 < (y0.aH.length:Int))) then
 (idx y0.aH x1).bind fun y1=>
 (uL y1 a0.ab 2).bind fun y2=>
 (bQ ((x0.length:Int)+(y2.length:Int)) 1).bind fun _=>
 jA a0 y0 n (x0++bv y2) (ae (x1+1))
 else
 some x0
def iL (a0:aJ):Nat→(List Int)→Int→Option ((List Int))
 | 0,_,_=>none
 | n+1,x0,x1=>
 if(decide (x1 < (a0.af.length:Int))) then
 (idx a0.af x1).bind fun y0=>
 (sc y0 a0.ab).bind fun y1=>
 (bQ (([9].length:Int)+(y1.length:Int)) 1).bind fun _=>
 (bQ ((([9]++y1).length:Int)+([32,123].length:Int)) 1).bind fun _=>
 (gY [(([9]++y1)++[32,123])] x0).bind fun(y2:(List Int))=>
 (jE a0 y0 ((y0.co.length - 0:Int).toNat+1) y2 0).bind fun x2=>
 (jA a0 y0 ((y0.aH.length - 0:Int).toNat+1) x2 0).bind fun x3=>
 (gY [[9,125]] x3).bind fun(y3:(List Int))=>
 iL a0 n y3 (ae (x1+1))
 else
 some x0
def pO (a0:aJ) (b1:List Int):Option (List Int):=
 (sQ a0).bind fun y5=>
 (gY [y5] b1).bind fun y7=>
 (jz a0 ((a0.bw.length - 0:Int).toNat+1) y7 0).bind fun x0=>
 (iL a0 ((a0.af.length - 0:Int).toNat+1) x0 0).bind fun x1=>
 (gY [[125]] x1).bind fun(y0:(List Int))=>
 some y0
def lF (a0:List aJ):Nat→(List Int)→Int→Option ((List Int))
 | 0,_,_=>none
 | n+1,x0,x1=>
 if(decide (x1 < (a0.length:Int))) then
 (idx a0 x1).bind fun y0=>
 (pO y0 x0).bind fun y1=>
 lF a0 n y1 (ae (x1+1))
 else
 some x0
def qw (a0:List aJ):Option (List UInt8):=
 (qt a0).bind fun y3=>
 if(!y3) then
 some []
 else
 (lF a0 ((a0.length - 0:Int).toNat+1) [] 0).bind fun x0=>
 (Gv x0).bind fun y0=>
 some y0
def qL  : Option Bool:=
 (Fc [99,108,97,115,115,32,65,60,100,62,32,101,120,116,101,110,100,115,32,66,60,100,62,32,123,32,100,32,67,32,102,59,32,125]).bind fun(y3:(List aJ)×oY)=>
 (qw y3.1).bind fun y5=>
 some (y5==[99,108,97,115,115,32,65,60,100,62,32,101,120,116,101,110,100,115,32,66,60,100,62,32,123,10,9,100,32,67,32,102,59,10,125,10])
def vr (a0:aJ):Option (List UInt8):=
 (qw [a0]).bind fun y1=>
 some y1
def oa (a0:List UInt8):Nat→Int→Option (Ctl (Bool) (Unit))
 | 0,_=>none
 | n+1,x0=>
 if(decide (x0 < (a0.length:Int))) then
 ((idx a0 x0).bind fun(y0:UInt8)=>
 (iR (y0.toNat:Int)).bind fun y1=>
 if(!y1) then
 (idx a0 x0).bind fun(y2:UInt8)=>
 (lb (y2.toNat:Int)).bind fun y3=>
 some (!y3)
 else
 some false:Option (Bool)).bind fun x1=>
 if x1=true then
 some (.stop false)
 else
 oa a0 n (ae (x0+1))
 else
 some (.next ())
def ek (a0:List UInt8):Option Bool:=
 (if(decide ((a0.length:Int) < 1)) then
 some true
 else
 if(decide ((a0.length:Int) > 20)) then
 some true
 else
 (idx a0 0).bind fun(y3:UInt8)=>
 (iR (y3.toNat:Int)).bind fun y5=>
 if(!y5) then
 some true
 else
 (qq a0).bind fun(y8:Int)=>
 some (decide (y8 > 0)):Option (Bool)).bind fun x0=>
 if x0=true then
 some false
 else
 (oa a0 ((a0.length - 0:Int).toNat+1) 0).bind fun lr0=>
 Ctl.elim lr0 (fun v=>some v) fun _=>
 some true
def lf (a0:be) (a1:Int):Option Bool:=
 if(a0.aa==3) then
 if(decide (a0.fN ≥ 1)) then
 some (decide (a0.fN≤a1))
 else
 some false
 else
 if(a0.aa==7) then
 some (decide (a0.fN ≥ 0))
 else
 if(a0.fN==0) then
 if(a0.aa==1) then
 some true
 else
 if(a0.aa==2) then
 some true
 else
 if(a0.aa==4) then
 some true
 else
 if(a0.aa==5) then
 some true
 else
 some (a0.aa==6)
 else
 some false
def pq (a0:aI):Option aI:=
 ((if(a0.aa==1) then
 some true
 else
 if(a0.aa==2) then
 some true
 else
 if(a0.aa==4) then
 some true
 else
 if(a0.aa==5) then
 some true
 else
 if(a0.aa==6) then
 some true
 else
 some (a0.aa==7):Option (Bool)).bind fun x6=>
 if x6=true then
 some ({ a0 with fX:=[] }:aI)
 else
 some a0:Option (aI)).bind fun x0=>
 ((if(a0.aa==2) then
 some true
 else
 if(a0.aa==3) then
 some true
 else
 if(a0.aa==4) then
 some true
 else
 if(a0.aa==7) then
 some true
 else
 some (a0.aa==8):Option (Bool)).bind fun x1=>
 if x1=true then
 some ({ x0 with fY:=[] }:aI)
 else
 some x0:Option (aI)).bind fun x2=>
 ((if(a0.aa==2) then
 some true
 else
 if(a0.aa==3) then
 some true
 else
 some (a0.aa==4):Option (Bool)).bind fun x3=>
 if x3=true then
 some ({ x2 with aj:=[] }:aI)
 else
 some x2:Option (aI)).bind fun x4=>
 ((if(a0.aa==5) then
 some true
 else
 some (a0.aa==6):Option (Bool)).bind fun x5=>
 if x5=true then
 some ({ x4 with bt:=({ aa:=0,ca:=[],fN:=0,aP:=(⟨aB,aB,aB,aB⟩:A4 be) }:cj) }:aI)
 else
 some x4:Option (aI)).bind fun x7=>
 ((if(a0.aa==1) then
 some true
 else
 if(a0.aa==3) then
 some true
 else
 if(a0.aa==6) then
 some true
 else
 if(a0.aa==9) then
 some true
 else
 if(a0.aa==10) then
 some true
 else
 some (a0.aa==11):Option (Bool)).bind fun x8=>
 if x8=true then
 some ({ x7 with fE:=({ aa:=0,cQ:=0,aj:=[],aZ:=[] }:au) }:aI)
 else
 some x7:Option (aI)).bind fun x9=>
 (if(a0.aa==4) then
 some ({ x9 with ce:=[] }:aI)
 else
 some x9:Option (aI)).bind fun x11=>
 ((if(a0.aa==9) then
 some true
 else
 some (a0.aa==10):Option (Bool)).bind fun x12=>
 if x12=true then
 some ({ x11 with aH:=[] }:aI)
 else
 some x11:Option (aI)).bind fun x13=>
 if(a0.aa==9) then
 some ({ x13 with bC:=[] }:aI)
 else
 some x13
def qA (a0:au) (a1:au) (ref06_Same_rec:au→au→Option Bool):Nat→Int→Option (Ctl (Bool) (Unit))
 | 0,_=>none
 | n+1,x0=>
 if(decide (x0 < (a0.aZ.length:Int))) then
 (idx a0.aZ x0).bind fun y0=>
 (idx a1.aZ x0).bind fun y1=>
 (ref06_Same_rec y0 y1).bind fun y2=>
 if(!y2) then
 some (.stop false)
 else
 qA a0 a1 ref06_Same_rec n (ae (x0+1))
 else
 some (.next ())
def jT : Nat→au→au→Option Bool
 | 0,_,_=>none
 | n+1,a0,a1=>
 (if(a0.aa != a1.aa) then
 some true
 else
 if(a0.cQ != a1.cQ) then
 some true
 else
 if(!(a0.aj==a1.aj)) then
 some true
 else
 some ((a0.aZ.length:Int) != (a1.aZ.length:Int)):Option (Bool)).bind fun x4=>
 if x4=true then
 some false
 else
 (qA a0 a1 (jT n) ((a0.aZ.length - 0:Int).toNat+1) 0).bind fun lr0=>
 Ctl.elim lr0 (fun v=>some v) fun _=>
 some true
def mP (a0:aI):Option Bool:=
 (pq a0).bind fun y3=>
 if(decide (a0.aa ≥ 1)) then
 if(decide (a0.aa≤11)) then
 if(y3.fX==[]) then
 if(y3.fY==[]) then
 if(y3.aj==[]) then
 if(qg y3.bt mF) then
 (jT (cr y3.fE+cr gv+1) y3.fE gv).bind fun y0=>
 if y0=true then
 some ((ae ((ae ((y3.ce.length:Int)+(y3.aH.length:Int)))+(y3.bC.length:Int)))==0)
 else
 some false
 else
 some false
 else
 some false
 else
 some false
 else
 some false
 else
 some false
 else
 some false
def jr (a0:cj) (a1:Int):Nat→Int→Option (Ctl (Bool) (Unit))
 | 0,_=>none
 | n+1,x0=>
 if(decide (x0 < 4)) then
 (idx (a0.aP).l x0).bind fun y0=>
 (if(decide (x0 > a0.fN)) then
 if(!(lv y0 aB)) then
 some true
 else
 if(decide (x0≤a0.fN)) then
 (lf y0 a1).bind fun y1=>
 if(!y1) then
 some true
 else
 if(decide (x0 > 0)) then
 some (y0.aa==6)
 else
 some false
 else
 some false
 else
 if(decide (x0≤a0.fN)) then
 (lf y0 a1).bind fun y2=>
 if(!y2) then
 some true
 else
 if(decide (x0 > 0)) then
 some (y0.aa==6)
 else
 some false
 else
 some false:Option (Bool)).bind fun x1=>
 if x1=true then
 some (.stop false)
 else
 jr a0 a1 n (ae (x0+1))
 else
 some (.next ())
def mY (a0:cj) (a1:Int):Option Bool:=
 (if(a0.aa==0) then
 some true
 else
 some (a0.aa==1):Option (Bool)).bind fun x2=>
 if x2=true then
 some (qg a0 (⟨a0.aa,[],0,(⟨aB,aB,aB,aB⟩:A4 be)⟩:cj))
 else
 (if(a0.aa != 2) then
 some true
 else
 (ek a0.ca).bind fun y7=>
 if(!y7) then
 some true
 else
 if(decide (a0.fN < 0)) then
 some true
 else
 some (decide (a0.fN > 3)):Option (Bool)).bind fun x0=>
 if x0=true then
 some false
 else
 (jr a0 a1 (((4:Int) - (0)).toNat+1) 0).bind fun lr0=>
 Ctl.elim lr0 (fun v=>some v) fun _=>
 some true
def qJ (a0:aI) (a1:Int):Option Bool:=
 ((ek a0.fX).bind fun y3=>
 if y3=true then
 some true
 else
 if(a0.aa==4) then
 if(a0.fX==[]) then
 some true
 else
 if(a0.aa==3) then
 some true
 else
 if(a0.aa==8) then
 some true
 else
 some (decide (a0.aa ≥ 9))
 else
 if(a0.aa==3) then
 some true
 else
 if(a0.aa==8) then
 some true
 else
 some (decide (a0.aa ≥ 9)):Option (Bool)).bind fun x0=>
 ((ek a0.fY).bind fun y0=>
 if y0=true then
 some true
 else
 if(a0.aa==2) then
 if(a0.fY==[116,104,105,115]) then
 some true
 else
 if(a0.aa==1) then
 some true
 else
 if(a0.aa==5) then
 some true
 else
 if(a0.aa==6) then
 some true
 else
 some (decide (a0.aa ≥ 9))
 else
 if(a0.aa==3) then
 if(a0.fY==[116,104,105,115]) then
 some true
 else
 if(a0.aa==1) then
 some true
 else
 if(a0.aa==5) then
 some true
 else
 if(a0.aa==6) then
 some true
 else
 some (decide (a0.aa ≥ 9))
 else
 if(a0.aa==4) then
 if(a0.fY==[116,104,105,115]) then
 some true
 else
 if(a0.aa==1) then
 some true
 else
 if(a0.aa==5) then
 some true
 else
 if(a0.aa==6) then
 some true
 else
 some (decide (a0.aa ≥ 9))
 else
 if(a0.aa==1) then
 some true
 else
 if(a0.aa==5) then
 some true
 else
 if(a0.aa==6) then
 some true
 else
 some (decide (a0.aa ≥ 9)):Option (Bool)).bind fun x1=>
 ((ek a0.aj).bind fun y1=>
 if y1=true then
 some true
 else
 if(a0.aa != 2) then
 if(a0.aa != 3) then
 some (a0.aa != 4)
 else
 some false
 else
 some false:Option (Bool)).bind fun x2=>
 (if(a0.bt.aa==2) then
 (mY a0.bt a1).bind fun y2=>
 if y2=true then
 some true
 else
 if(a0.aa != 5) then
 some (a0.aa != 6)
 else
 some false
 else
 if(a0.aa != 5) then
 some (a0.aa != 6)
 else
 some false:Option (Bool)).bind fun x3=>
 if x0=true then
 if x1=true then
 if x2=true then
 some x3
 else
 some false
 else
 some false
 else
 some false
def uX (a0:Int):Option Int:=
 (if(decide (a0 ≥ 6)) then
 if(decide (a0≤11)) then
 some true
 else
 some (a0==14)
 else
 some (a0==14):Option (Bool)).bind fun x3=>
 if x3=true then
 some 2
 else
 (if(a0==12) then
 some true
 else
 some (a0==13):Option (Bool)).bind fun x8=>
 if x8=true then
 some 1
 else
 some 0
def my (a0:au) (ref06_form_rec:au→Option Bool):Nat→Int→Option (Ctl (Bool) (Unit))
 | 0,_=>none
 | n+1,x0=>
 if(decide (x0 < (a0.aZ.length:Int))) then
 (idx a0.aZ x0).bind fun y0=>
 ((idx a0.aZ x0).bind fun y1=>
 (ref06_form_rec y1).bind fun y2=>
 if(!y2) then
 some true
 else
 if(a0.aa==13) then
 if(y0.aa != 2) then
 if(y0.aa != 3) then
 some true
 else
 if(a0.aa==14) then
 some false
 else
 some false
 else
 if(a0.aa==14) then
 some false
 else
 some false
 else
 if(a0.aa==14) then
 if(y0.aa != 2) then
 if(y0.aa != 3) then
 some (y0.aa != 4)
 else
 some false
 else
 some false
 else
 some false:Option (Bool)).bind fun x1=>
 if x1=true then
 some (.stop false)
 else
 my a0 ref06_form_rec n (ae (x0+1))
 else
 some (.next ())
def kf : Nat→au→Option Bool
 | 0,_=>none
 | n+1,a0=>
 (if(decide (a0.aa < 1)) then
 some true
 else
 if(decide (a0.aa > 14)) then
 some true
 else
 (uX a0.aa).bind fun(y3:Int)=>
 if((a0.aZ.length:Int) != y3) then
 some true
 else
 if(a0.aa != 1) then
 if(a0.cQ != 0) then
 some true
 else
 if(a0.aa != 2) then
 if(!(a0.aj==[])) then
 some true
 else
 if(decide (a0.cQ < 0)) then
 some true
 else
 if(decide (a0.cQ > 999999999)) then
 some true
 else
 if(a0.aa==2) then
 (ek a0.aj).bind fun y0=>
 some (!y0)
 else
 some false
 else
 if(decide (a0.cQ < 0)) then
 some true
 else
 if(decide (a0.cQ > 999999999)) then
 some true
 else
 if(a0.aa==2) then
 (ek a0.aj).bind fun y1=>
 some (!y1)
 else
 some false
 else
 if(a0.aa != 2) then
 if(!(a0.aj==[])) then
 some true
 else
 if(decide (a0.cQ < 0)) then
 some true
 else
 if(decide (a0.cQ > 999999999)) then
 some true
 else
 if(a0.aa==2) then
 (ek a0.aj).bind fun y2=>
 some (!y2)
 else
 some false
 else
 if(decide (a0.cQ < 0)) then
 some true
 else
 if(decide (a0.cQ > 999999999)) then
 some true
 else
 if(a0.aa==2) then
 (ek a0.aj).bind fun y4=>
 some (!y4)
 else
 some false:Option (Bool)).bind fun x0=>
 if x0=true then
 some false
 else
 (my a0 (kf n) ((a0.aZ.length - 0:Int).toNat+1) 0).bind fun lr0=>
 Ctl.elim lr0 (fun v=>some v) fun _=>
 some true
def mf (a0:au) (ref06_Deep_rec:au→Option Int):Nat→Int→Int→Option (Int)
 | 0,_,_=>none
 | n+1,x0,x1=>
 if(decide (x1 < (a0.aZ.length:Int))) then
 (idx a0.aZ x1).bind fun y0=>
 (ref06_Deep_rec y0).bind fun(y1:Int)=>
 mf a0 ref06_Deep_rec n (if y1 > x0 then y1 else x0) (ae (x1+1))
 else
 some x0
def jp : Nat→au→Option Int
 | 0,_=>none
 | n+1,a0=>
 (mf a0 (jp n) ((a0.aZ.length - 0:Int).toNat+1) 0 0).bind fun x0=>
 some (ae (x0+1))
def np (a0:au):Option Bool:=
 (kf (cr a0+1) a0).bind fun y1=>
 if y1=true then
 (jp (cr a0+1) a0).bind fun(y4:Int)=>
 some (decide (y4≤20))
 else
 some false
def kJ (a0:aI):Nat→Int→Option (Ctl (Bool) (Unit))
 | 0,_=>none
 | n+1,x0=>
 if(decide (x0 < (a0.ce.length:Int))) then
 (idx a0.ce x0).bind fun y0=>
 (np y0).bind fun y1=>
 if(!y1) then
 some (.stop false)
 else
 kJ a0 n (ae (x0+1))
 else
 some (.next ())
def qO (a0:aI):Option Bool:=
 (if(a0.aa==2) then
 some true
 else
 if(a0.aa==4) then
 some true
 else
 if(a0.aa==5) then
 some true
 else
 if(a0.aa==7) then
 some true
 else
 if(a0.aa==8) then
 some true
 else
 if(a0.aa==11) then
 (jT (cr a0.fE+cr gv+1) a0.fE gv).bind fun y7=>
 some y7
 else
 some false:Option (Bool)).bind fun x9=>
 (if(!x9) then
 (np a0.fE).bind fun y0=>
 if(!y0) then
 some true
 else
 if(a0.aa==6) then
 if(a0.fE.aa != 2) then
 if(a0.fE.aa != 3) then
 if(a0.fE.aa != 4) then
 some true
 else
 some (decide ((a0.ce.length:Int) > 5))
 else
 some (decide ((a0.ce.length:Int) > 5))
 else
 some (decide ((a0.ce.length:Int) > 5))
 else
 some (decide ((a0.ce.length:Int) > 5))
 else
 if(a0.aa==6) then
 if(a0.fE.aa != 2) then
 if(a0.fE.aa != 3) then
 if(a0.fE.aa != 4) then
 some true
 else
 some (decide ((a0.ce.length:Int) > 5))
 else
 some (decide ((a0.ce.length:Int) > 5))
 else
 some (decide ((a0.ce.length:Int) > 5))
 else
 some (decide ((a0.ce.length:Int) > 5)):Option (Bool)).bind fun x0=>
 if x0=true then
 some false
 else
 (kJ a0 ((a0.ce.length - 0:Int).toNat+1) 0).bind fun lr0=>
 Ctl.elim lr0 (fun v=>some v) fun _=>
 some true
def mu (a0:aI) (a1:Int) (ref08_form_rec:aI→Int→Option Bool):Nat→Int→Option (Ctl (Bool) (Unit))
 | 0,_=>none
 | n+1,x0=>
 if(decide (x0 < (a0.aH.length:Int))) then
 (idx a0.aH x0).bind fun y0=>
 (ref08_form_rec y0 a1).bind fun y1=>
 if(!y1) then
 some (.stop false)
 else
 mu a0 a1 ref08_form_rec n (ae (x0+1))
 else
 some (.next ())
def mA (a0:aI) (a1:Int) (ref08_form_rec:aI→Int→Option Bool):Nat→Int→Option (Ctl (Bool) (Unit))
 | 0,_=>none
 | n+1,x0=>
 if(decide (x0 < (a0.bC.length:Int))) then
 (idx a0.bC x0).bind fun y0=>
 (ref08_form_rec y0 a1).bind fun y1=>
 if(!y1) then
 some (.stop false)
 else
 mA a0 a1 ref08_form_rec n (ae (x0+1))
 else
 some (.next ())
def fq : Nat→aI→Int→Option Bool
 | 0,_,_=>none
 | n+1,a0,a1=>
 ((mP a0).bind fun y3=>
 if(!y3) then
 some true
 else
 (qJ a0 a1).bind fun y6=>
 if(!y6) then
 some true
 else
 (qO a0).bind fun y9=>
 some (!y9):Option (Bool)).bind fun x0=>
 if x0=true then
 some false
 else
 (mu a0 a1 (fq n) ((a0.aH.length - 0:Int).toNat+1) 0).bind fun lr0=>
 Ctl.elim lr0 (fun v=>some v) fun _=>
 (mA a0 a1 (fq n) ((a0.bC.length - 0:Int).toNat+1) 0).bind fun lr1=>
 Ctl.elim lr1 (fun v=>some v) fun _=>
 some true
def oj (a0:aI) (ref08_Deep_rec:aI→Option Int):Nat→Int→Int→Option (Int)
 | 0,_,_=>none
 | n+1,x0,x1=>
 if(decide (x1 < (a0.aH.length:Int))) then
 (idx a0.aH x1).bind fun y0=>
 (ref08_Deep_rec y0).bind fun(y1:Int)=>
 oj a0 ref08_Deep_rec n (if y1 > x0 then y1 else x0) (ae (x1+1))
 else
 some x0
def nP (a0:aI) (ref08_Deep_rec:aI→Option Int):Nat→Int→Int→Option (Int)
 | 0,_,_=>none
 | n+1,x0,x1=>
 if(decide (x1 < (a0.bC.length:Int))) then
 (idx a0.bC x1).bind fun y0=>
 (ref08_Deep_rec y0).bind fun(y1:Int)=>
 nP a0 ref08_Deep_rec n (if y1 > x0 then y1 else x0) (ae (x1+1))
 else
 some x0
def iG : Nat→aI→Option Int
 | 0,_=>none
 | n+1,a0=>
 (oj a0 (iG n) ((a0.aH.length - 0:Int).toNat+1) 0 0).bind fun x0=>
 (nP a0 (iG n) ((a0.bC.length - 0:Int).toNat+1) x0 0).bind fun x1=>
 some (ae (x1+1))
def nn (a0:aI) (a1:Int):Option Bool:=
 (fq (cy a0+1) a0 a1).bind fun y1=>
 if y1=true then
 (iG (cy a0+1) a0).bind fun(y4:Int)=>
 some (decide (y4≤20))
 else
 some false
def ke (a0:cj) (a1:Int):Option Bool:=
 (mY a0 a1).bind fun y1=>
 if y1=true then
 if(a0.aP.a1.aa != 7) then
 if(a0.aP.a2.aa != 7) then
 if(a0.aP.a3.aa != 7) then
 if(a0.aP.a0.aa != 7) then
 some true
 else
 some (a0.aP.a0.fN==0)
 else
 some false
 else
 some false
 else
 some false
 else
 some false
def mr (a0:List dV) (a2:Int):Nat→Int→Option (Ctl (Bool) (Unit))
 | 0,_=>none
 | n+1,x0=>
 if(decide (x0 < (a0.length:Int))) then
 ((idx a0 x0).bind fun y0=>
 (ek y0.aj).bind fun y1=>
 if(!y1) then
 some true
 else
 (idx a0 x0).bind fun y2=>
 if(y2.bt.aa==0) then
 some true
 else
 (idx a0 x0).bind fun y3=>
 (ke y3.bt a2).bind fun y4=>
 some (!y4):Option (Bool)).bind fun x1=>
 if x1=true then
 some (.stop false)
 else
 mr a0 a2 n (ae (x0+1))
 else
 some (.next ())
def iA (a0:List dV) (a1:Int) (a2:Int):Option Bool:=
 (mr a0 a2 ((a0.length - 0:Int).toNat+1) 0).bind fun lr0=>
 Ctl.elim lr0 (fun v=>some v) fun _=>
 some (decide ((a0.length:Int)≤a1))
def me (a0:List aI) (a1:Int) (ref10_open_rec:(List aI)→Int→Option Bool):Nat→Int→Option (Ctl (Bool) (Unit))
 | 0,_=>none
 | n+1,x0=>
 if(decide (x0 < (a0.length:Int))) then
 ((idx a0 x0).bind fun y0=>
 if(y0.bt.aa==2) then
 (idx a0 x0).bind fun y1=>
 (ke y1.bt a1).bind fun y2=>
 if(!y2) then
 some true
 else
 (idx a0 x0).bind fun y3=>
 (ref10_open_rec y3.aH a1).bind fun y4=>
 if(!y4) then
 some true
 else
 (idx a0 x0).bind fun y5=>
 (ref10_open_rec y5.bC a1).bind fun y6=>
 some (!y6)
 else
 (idx a0 x0).bind fun y7=>
 (ref10_open_rec y7.aH a1).bind fun y8=>
 if(!y8) then
 some true
 else
 (idx a0 x0).bind fun y9=>
 (ref10_open_rec y9.bC a1).bind fun y10=>
 some (!y10):Option (Bool)).bind fun x1=>
 if x1=true then
 some (.stop false)
 else
 me a0 a1 ref10_open_rec n (ae (x0+1))
 else
 some (.next ())
def eY : Nat→(List aI)→Int→Option Bool
 | 0,_,_=>none
 | n+1,a0,a1=>
 (me a0 a1 (eY n) ((a0.length - 0:Int).toNat+1) 0).bind fun lr0=>
 Ctl.elim lr0 (fun v=>some v) fun _=>
 some true
def jF (a0:bG) (a1:Int):Nat→Int→Option (Ctl (Bool) (Unit))
 | 0,_=>none
 | n+1,x0=>
 if(decide (x0 < (a0.aH.length:Int))) then
 (idx a0.aH x0).bind fun y0=>
 (nn y0 a1).bind fun y1=>
 if(!y1) then
 some (.stop false)
 else
 jF a0 a1 n (ae (x0+1))
 else
 some (.next ())
def nv (a0:bG) (a1:Int):Option Bool:=
 (jF a0 a1 ((a0.aH.length - 0:Int).toNat+1) 0).bind fun lr0=>
 Ctl.elim lr0 (fun v=>some v) fun _=>
 (ek a0.aj).bind fun y0=>
 if y0=true then
 (ke a0.cf a1).bind fun y1=>
 if y1=true then
 (iA a0.ab 5 a1).bind fun y2=>
 if y2=true then
 (iA a0.co 12 a1).bind fun y3=>
 if y3=true then
 (eY (dt a0.aH+1) a0.aH a1).bind fun y4=>
 some y4
 else
 some false
 else
 some false
 else
 some false
 else
 some false
def kv (a0:aJ):Nat→Int→Option (Ctl (Bool) (Unit))
 | 0,_=>none
 | n+1,x0=>
 if(decide (x0 < (a0.ab.length:Int))) then
 (idx a0.ab x0).bind fun y0=>
 (ek y0).bind fun y1=>
 if(!y1) then
 some (.stop false)
 else
 kv a0 n (ae (x0+1))
 else
 some (.next ())
def kC (a0:aJ):Nat→Int→Option (Ctl (Bool) (Unit))
 | 0,_=>none
 | n+1,x0=>
 if(decide (x0 < (a0.bU.length:Int))) then
 (idx a0.bU x0).bind fun y0=>
 ((idx a0.bU x0).bind fun y1=>
 (lf y1 (a0.ab.length:Int)).bind fun y2=>
 if(!y2) then
 some true
 else
 if(y0.aa != 2) then
 if(y0.aa != 3) then
 some (y0.aa != 4)
 else
 some false
 else
 some false:Option (Bool)).bind fun x1=>
 if x1=true then
 some (.stop false)
 else
 kC a0 n (ae (x0+1))
 else
 some (.next ())
def kU (a0:aJ):Nat→Int→Option (Ctl (Bool) (Unit))
 | 0,_=>none
 | n+1,x0=>
 if(decide (x0 < (a0.af.length:Int))) then
 (idx a0.af x0).bind fun y0=>
 (nv y0 (a0.ab.length:Int)).bind fun y1=>
 if(!y1) then
 some (.stop false)
 else
 kU a0 n (ae (x0+1))
 else
 some (.next ())
def rb (a0:aJ):Option Bool:=
 (kv a0 ((a0.ab.length - 0:Int).toNat+1) 0).bind fun lr0=>
 Ctl.elim lr0 (fun v=>some v) fun _=>
 (kC a0 ((a0.bU.length - 0:Int).toNat+1) 0).bind fun lr1=>
 Ctl.elim lr1 (fun v=>some v) fun _=>
 (kU a0 ((a0.af.length - 0:Int).toNat+1) 0).bind fun lr2=>
 Ctl.elim lr2 (fun v=>some v) fun _=>
 (ek a0.aj).bind fun y0=>
 if y0=true then
 if(decide ((a0.ab.length:Int)≤3)) then
 if(a0.cO==[]) then
 if((a0.bU.length:Int)==0) then
 (iA a0.bw 12 (a0.ab.length:Int)).bind fun y1=>
 if y1=true then
 some (decide ((a0.af.length:Int)≤12))
 else
 some false
 else
 (ek a0.cO).bind fun y2=>
 if y2=true then
 if(decide ((a0.bU.length:Int)≤3)) then
 (iA a0.bw 12 (a0.ab.length:Int)).bind fun y3=>
 if y3=true then
 some (decide ((a0.af.length:Int)≤12))
 else
 some false
 else
 some false
 else
 some false
 else
 (ek a0.cO).bind fun y4=>
 if y4=true then
 if(decide ((a0.bU.length:Int)≤3)) then
 (iA a0.bw 12 (a0.ab.length:Int)).bind fun y5=>
 if y5=true then
 some (decide ((a0.af.length:Int)≤12))
 else
 some false
 else
 some false
 else
 some false
 else
 some false
 else
 some false
def nk (a0:List aJ):Nat→Int→Int→Option (Ctl (Bool) (Int))
 | 0,_,_=>none
 | n+1,x0,x1=>
 if(decide (x1 < (a0.length:Int))) then
 (if(decide ((a0.length:Int) > 20)) then
 some true
 else
 (idx a0 x1).bind fun y0=>
 (rb y0).bind fun y1=>
 some (!y1):Option (Bool)).bind fun x2=>
 if x2=true then
 some (.stop false)
 else
 (idx a0 x1).bind fun y2=>
 (mZ y2).bind fun(y3:Int)=>
 nk a0 n (ae (x0+y3)) (ae (x1+1))
 else
 some (.next x0)
def pc (a0:List aJ):Option Bool:=
 (nk a0 ((a0.length - 0:Int).toNat+1) 0 0).bind fun lr0=>
 Ctl.elim lr0 (fun v=>some v) fun x0=>
 some (decide (x0≤400))
def kW (a0:List (List UInt8)):Nat→(List UInt8)→Int→Option ((List UInt8))
 | 0,_,_=>none
 | n+1,x0,x1=>
 if(decide (x1 < (a0.length:Int))) then
 (if(decide (x1 > 0)) then
 (bQ ((x0.length:Int)+([44,32].length:Int)) 1).bind fun _=>
 some (x0++[44,32])
 else
 some x0:Option ((List UInt8))).bind fun x2=>
 (idx a0 x1).bind fun y0=>
 (bQ ((x2.length:Int)+(y0.length:Int)) 1).bind fun _=>
 kW a0 n (x2++y0) (ae (x1+1))
 else
 some x0
def lc (a0:List (List UInt8)):Option (List UInt8):=
 (kW a0 ((a0.length - 0:Int).toNat+1) [] 0).bind fun x0=>
 some x0
def nr (a0:be) (a1:List (List UInt8)):Option (List UInt8):=
 (lf a0 (a1.length:Int)).bind fun y3=>
 if(!y3) then
 some []
 else
 if(a0.aa==3) then
 (idx a1 (ae (a0.fN - 1))).bind fun y7=>
 some y7
 else
 (idx [[],[114,101,112],[112,101,101,114],[],[119,111,114,108,100],[97,110,121],[117,110,105,113,117,101],[63]] a0.aa).bind fun(y9:List UInt8)=>
 some y9
def jV (a0:aJ):Nat→(List (List UInt8))→Int→Option ((List (List UInt8)))
 | 0,_,_=>none
 | n+1,x0,x1=>
 if(decide (x1 < (a0.bU.length:Int))) then
 (idx a0.bU x1).bind fun y0=>
 (nr y0 a0.ab).bind fun y1=>
 (bQ ((x0.length:Int)+([y1].length:Int)) 16).bind fun _=>
 jV a0 n (x0++[y1]) (ae (x1+1))
 else
 some x0
def tp (a0:aJ):Option (List UInt8):=
 (bQ (([99,108,97,115,115,32].length:Int)+(a0.aj.length:Int)) 1).bind fun _=>
 (if(decide ((a0.ab.length:Int) > 0)) then
 (lc a0.ab).bind fun y6=>
 (bQ (([60].length:Int)+(y6.length:Int)) 1).bind fun _=>
 (bQ ((([60]++y6).length:Int)+([62].length:Int)) 1).bind fun _=>
 (bQ ((([99,108,97,115,115,32]++a0.aj).length:Int)+((([60]++y6)++[62]).length:Int)) 1).bind fun _=>
 some (([99,108,97,115,115,32]++a0.aj)++(([60]++y6)++[62]))
 else
 some ([99,108,97,115,115,32]++a0.aj):Option ((List UInt8))).bind fun x0=>
 (if(!(a0.cO==[])) then
 (bQ (([32,101,120,116,101,110,100,115,32].length:Int)+(a0.cO.length:Int)) 1).bind fun _=>
 (bQ ((x0.length:Int)+(([32,101,120,116,101,110,100,115,32]++a0.cO).length:Int)) 1).bind fun _=>
 some (x0++([32,101,120,116,101,110,100,115,32]++a0.cO))
 else
 some x0:Option ((List UInt8))).bind fun x1=>
 (jV a0 ((a0.bU.length - 0:Int).toNat+1) [] 0).bind fun x2=>
 if(decide ((x2.length:Int) > 0)) then
 (lc x2).bind fun y0=>
 (bQ (([60].length:Int)+(y0.length:Int)) 1).bind fun _=>
 (bQ ((([60]++y0).length:Int)+([62].length:Int)) 1).bind fun _=>
 (bQ ((x1.length:Int)+((([60]++y0)++[62]).length:Int)) 1).bind fun _=>
 (bQ (((x1++(([60]++y0)++[62])).length:Int)+([32,123,10].length:Int)) 1).bind fun _=>
 some ((x1++(([60]++y0)++[62]))++[32,123,10])
 else
 (bQ ((x1.length:Int)+([32,123,10].length:Int)) 1).bind fun _=>
 some (x1++[32,123,10])
def fQ (a0:cj) (a1:List (List UInt8)):Nat→(List UInt8)→Int→Option ((List UInt8))
 | 0,_,_=>none
 | n+1,x0,x1=>
 if(decide (x1≤a0.fN)) then
 (if(x1==1) then
 (bQ ((x0.length:Int)+([60].length:Int)) 1).bind fun _=>
 some (x0++[60])
 else
 (bQ ((x0.length:Int)+([44,32].length:Int)) 1).bind fun _=>
 some (x0++[44,32]):Option ((List UInt8))).bind fun x2=>
 (idx (a0.aP).l x1).bind fun y0=>
 (nr y0 a1).bind fun y1=>
 (bQ ((x2.length:Int)+(y1.length:Int)) 1).bind fun _=>
 fQ a0 a1 n (x2++y1) (ae (x1+1))
 else
 some x0
def jU (a0:cj) (a1:List (List UInt8)):Option (List UInt8):=
 (mY a0 (a1.length:Int)).bind fun y3=>
 if(!y3) then
 some []
 else
 if(a0.aa==0) then
 some [118,111,105,100]
 else
 if(a0.aa==1) then
 some [105,110,116]
 else
 (if(a0.aP.a0.aa != 7) then
 (nr a0.aP.a0 a1).bind fun y9=>
 (bQ ((y9.length:Int)+([32].length:Int)) 1).bind fun _=>
 (bQ (((y9++[32]).length:Int)+(a0.ca.length:Int)) 1).bind fun _=>
 some ((y9++[32])++a0.ca)
 else
 some a0.ca:Option ((List UInt8))).bind fun x0=>
 (fQ a0 a1 6 x0 1).bind fun x1=>
 if(decide (a0.fN > 0)) then
 (bQ ((x1.length:Int)+([62].length:Int)) 1).bind fun _=>
 some (x1++[62])
 else
 some x1
def js (a0:dV) (a1:List (List UInt8)):Option (List UInt8):=
 (jU a0.bt a1).bind fun y1=>
 (bQ ((y1.length:Int)+([32].length:Int)) 1).bind fun _=>
 (bQ (((y1++[32]).length:Int)+(a0.aj.length:Int)) 1).bind fun _=>
 some ((y1++[32])++a0.aj)
def qM (a0:au):Option Int:=
 (if(decide (a0.aa ≥ 6)) then
 some (decide (a0.aa≤11))
 else
 some false:Option (Bool)).bind fun x2=>
 if x2=true then
 (idx [2,2,3,1,1,0] (ae (a0.aa - 6))).bind fun(y6:Int)=>
 some y6
 else
 some 4
def lJ  : Nat→Int→(List UInt8)→Option ((List UInt8))
 | 0,_,_=>none
 | n+1,x9,x0=>
 if(decide (x9≤(-10))) then
 (bQ (((mW [tq (ae (48 - (Int.tmod (ae (Int.tdiv x9 10)) 10)))]).length:Int)+(x0.length:Int)) 1).bind fun _=>
 lJ n (ae (Int.tdiv x9 10)) (mW [tq (ae (48 - (Int.tmod (ae (Int.tdiv x9 10)) 10)))]++x0)
 else
 some x0
def nw (a0:Int):Option (List UInt8):=
 (if(decide (a0 < 0)) then
 some (a0,[45])
 else
 some (ae (0 - a0),[]):Option (Int×(List UInt8))).bind fun(x2,x3)=>
 (lJ 21 x2 (mW [tq (ae (48 - (Int.tmod x2 10)))])).bind fun x0=>
 (bQ ((x3.length:Int)+(x0.length:Int)) 1).bind fun _=>
 some (x3++x0)
def fe : Nat→au→Int→Option (List UInt8)
 | 0,_,_=>none
 | n+1,a0,a1=>
 (qM a0).bind fun(y3:Int)=>
 (if(decide (y3 < 4)) then
 (if(y3==1) then
 some 2
 else
 some y3:Option (Int)).bind fun x7=>
 (idx a0.aZ 0).bind fun y0=>
 ((fe n) y0 x7).bind fun y1=>
 (bQ ((y1.length:Int)+([32].length:Int)) 1).bind fun _=>
 (idx [[43],[45],[42],[60],[61,61],[38,38]] (ae (a0.aa - 6))).bind fun(y2:List UInt8)=>
 (bQ (((y1++[32]).length:Int)+(y2.length:Int)) 1).bind fun _=>
 (bQ ((((y1++[32])++y2).length:Int)+([32].length:Int)) 1).bind fun _=>
 (idx a0.aZ 1).bind fun y4=>
 ((fe n) y4 (ae (y3+1))).bind fun y5=>
 (bQ (((((y1++[32])++y2)++[32]).length:Int)+(y5.length:Int)) 1).bind fun _=>
 some ((((y1++[32])++y2)++[32])++y5)
 else
 some []:Option ((List UInt8))).bind fun x0=>
 (if(a0.aa==1) then
 (nw a0.cQ).bind fun y6=>
 some y6
 else
 some x0:Option ((List UInt8))).bind fun x1=>
 (if(a0.aa==2) then
 some a0.aj
 else
 some x1:Option ((List UInt8))).bind fun x2=>
 (if(a0.aa==3) then
 some [116,104,105,115]
 else
 some x2:Option ((List UInt8))).bind fun x3=>
 (if(a0.aa==4) then
 some [110,117,108,108]
 else
 some x3:Option ((List UInt8))).bind fun x4=>
 (if(a0.aa==5) then
 some [105,110,112,117,116]
 else
 some x4:Option ((List UInt8))).bind fun x5=>
 (if(a0.aa==12) then
 (idx a0.aZ 0).bind fun y7=>
 ((fe n) y7 4).bind fun y8=>
 (bQ (([33].length:Int)+(y8.length:Int)) 1).bind fun _=>
 some ([33]++y8)
 else
 some x5:Option ((List UInt8))).bind fun x6=>
 (if(a0.aa==13) then
 (idx a0.aZ 0).bind fun y9=>
 ((fe n) y9 4).bind fun y11=>
 (bQ (([110,105,108,40].length:Int)+(y11.length:Int)) 1).bind fun _=>
 (bQ ((([110,105,108,40]++y11).length:Int)+([41].length:Int)) 1).bind fun _=>
 some (([110,105,108,40]++y11)++[41])
 else
 some x6:Option ((List UInt8))).bind fun x8=>
 (if(a0.aa==14) then
 (idx a0.aZ 0).bind fun y13=>
 ((fe n) y13 4).bind fun y14=>
 (bQ (([115,97,109,101,40].length:Int)+(y14.length:Int)) 1).bind fun _=>
 (bQ ((([115,97,109,101,40]++y14).length:Int)+([44,32].length:Int)) 1).bind fun _=>
 (idx a0.aZ 1).bind fun y15=>
 ((fe n) y15 4).bind fun y17=>
 (bQ (((([115,97,109,101,40]++y14)++[44,32]).length:Int)+(y17.length:Int)) 1).bind fun _=>
 (bQ ((((([115,97,109,101,40]++y14)++[44,32])++y17).length:Int)+([41].length:Int)) 1).bind fun _=>
 some (((([115,97,109,101,40]++y14)++[44,32])++y17)++[41])
 else
 some x8:Option ((List UInt8))).bind fun x9=>
 if(decide (y3 < a1)) then
 (bQ (([40].length:Int)+(x9.length:Int)) 1).bind fun _=>
 (bQ ((([40]++x9).length:Int)+([41].length:Int)) 1).bind fun _=>
 some (([40]++x9)++[41])
 else
 some x9
def qh (a0:au):Option (List UInt8):=
 (np a0).bind fun y3=>
 if(!y3) then
 some []
 else
 (fe (cr a0+1) a0 0).bind fun y6=>
 some y6
def jZ (a0:aI):Nat→(List UInt8)→Int→Option ((List UInt8))
 | 0,_,_=>none
 | n+1,x0,x1=>
 if(decide (x1 < (a0.ce.length:Int))) then
 (if(decide (x1 > 0)) then
 (bQ ((x0.length:Int)+([44,32].length:Int)) 1).bind fun _=>
 some (x0++[44,32])
 else
 some x0:Option ((List UInt8))).bind fun x2=>
 (idx a0.ce x1).bind fun y0=>
 (qh y0).bind fun y1=>
 (bQ ((x2.length:Int)+(y1.length:Int)) 1).bind fun _=>
 jZ a0 n (x2++y1) (ae (x1+1))
 else
 some x0
def ti (a0:aI):Option (List UInt8):=
 (bQ ((a0.fY.length:Int)+([46].length:Int)) 1).bind fun _=>
 (bQ (((a0.fY++[46]).length:Int)+(a0.aj.length:Int)) 1).bind fun _=>
 (bQ ((((a0.fY++[46])++a0.aj).length:Int)+([40].length:Int)) 1).bind fun _=>
 (jZ a0 ((a0.ce.length - 0:Int).toNat+1) (((a0.fY++[46])++a0.aj)++[40]) 0).bind fun x0=>
 (bQ ((x0.length:Int)+([41].length:Int)) 1).bind fun _=>
 some (x0++[41])
def mq (a0:Int):Nat→(List UInt8)→Int→Option ((List UInt8))
 | 0,_,_=>none
 | n+1,x6,x7=>
 if(decide (x7 < a0)) then
 (bQ ((x6.length:Int)+([9].length:Int)) 1).bind fun _=>
 mq a0 n (x6++[9]) (ae (x7+1))
 else
 some x6
def kc (a0:Int):Option (List UInt8):=
 (mq a0 (((a0:Int) - (0)).toNat+1) [] 0).bind fun x0=>
 some x0
def kR (a0:List aI) (a1:List (List UInt8)) (a2:Int) (ref08_write_rec:aI→(List (List UInt8))→Int→Option (List UInt8)):Nat→(List UInt8)→Int→Option ((List UInt8))
 | 0,_,_=>none
 | n+1,x0,x1=>
 if(decide (x1 < (a0.length:Int))) then
 (idx a0 x1).bind fun y0=>
 (ref08_write_rec y0 a1 a2).bind fun y1=>
 (bQ ((x0.length:Int)+(y1.length:Int)) 1).bind fun _=>
 kR a0 a1 a2 ref08_write_rec n (x0++y1) (ae (x1+1))
 else
 some x0
mutual
def fw : Nat→aI→(List (List UInt8))→Int→Option (List UInt8)
 | 0,_,_,_=>none
 | n+1,a0,a1,a2=>
 (qh a0.fE).bind fun y3=>
 (jU a0.bt a1).bind fun y7=>
 (if(!(a0.fX==[])) then
 (bQ ((a0.fX.length:Int)+([32,61,32].length:Int)) 1).bind fun _=>
 some (a0.fX++[32,61,32])
 else
 some []:Option ((List UInt8))).bind fun x0=>
 (bQ ((a0.fY.length:Int)+([46].length:Int)) 1).bind fun _=>
 (bQ (((a0.fY++[46]).length:Int)+(a0.aj.length:Int)) 1).bind fun _=>
 (bQ ((a0.fY.length:Int)+([46].length:Int)) 1).bind fun _=>
 (bQ (((a0.fY++[46]).length:Int)+(a0.aj.length:Int)) 1).bind fun _=>
 (bQ ((((a0.fY++[46])++a0.aj).length:Int)+([32,61,32].length:Int)) 1).bind fun _=>
 (bQ (((((a0.fY++[46])++a0.aj)++[32,61,32]).length:Int)+(y3.length:Int)) 1).bind fun _=>
 (ti a0).bind fun y0=>
 (bQ (([110,101,119,32].length:Int)+(y7.length:Int)) 1).bind fun _=>
 (bQ (([99,97,115,116,32].length:Int)+(y7.length:Int)) 1).bind fun _=>
 (bQ ((([99,97,115,116,32]++y7).length:Int)+([32].length:Int)) 1).bind fun _=>
 (bQ (((([99,97,115,116,32]++y7)++[32]).length:Int)+(y3.length:Int)) 1).bind fun _=>
 (bQ (([109,111,118,101,32].length:Int)+(a0.fY.length:Int)) 1).bind fun _=>
 (bQ (([100,101,108,101,116,101,32].length:Int)+(a0.fY.length:Int)) 1).bind fun _=>
 if(decide (a0.aa≤8)) then
 (kc a2).bind fun y1=>
 (bQ ((y1.length:Int)+(x0.length:Int)) 1).bind fun _=>
 (idx [[],y3,((a0.fY++[46])++a0.aj),((((a0.fY++[46])++a0.aj)++[32,61,32])++y3),y0,([110,101,119,32]++y7),((([99,97,115,116,32]++y7)++[32])++y3),([109,111,118,101,32]++a0.fY),([100,101,108,101,116,101,32]++a0.fY)] a0.aa).bind fun(y2:List UInt8)=>
 (bQ (((y1++x0).length:Int)+(y2.length:Int)) 1).bind fun _=>
 (bQ ((((y1++x0)++y2).length:Int)+([59,10].length:Int)) 1).bind fun _=>
 some (((y1++x0)++y2)++[59,10])
 else
 (if(a0.aa==11) then
 some (y3==[])
 else
 some false:Option (Bool)).bind fun x1=>
 if x1=true then
 (kc a2).bind fun y4=>
 (bQ ((y4.length:Int)+([114,101,116,117,114,110,59,10].length:Int)) 1).bind fun _=>
 some (y4++[114,101,116,117,114,110,59,10])
 else
 if(a0.aa==11) then
 (kc a2).bind fun y5=>
 (bQ ((y5.length:Int)+([114,101,116,117,114,110,32].length:Int)) 1).bind fun _=>
 (bQ (((y5++[114,101,116,117,114,110,32]).length:Int)+(y3.length:Int)) 1).bind fun _=>
 (bQ ((((y5++[114,101,116,117,114,110,32])++y3).length:Int)+([59,10].length:Int)) 1).bind fun _=>
 some (((y5++[114,101,116,117,114,110,32])++y3)++[59,10])
 else
 (if(a0.aa==10) then
 some [119,104,105,108,101]
 else
 some [105,102]:Option ((List UInt8))).bind fun x2=>
 (kc a2).bind fun y6=>
 (bQ ((y6.length:Int)+(x2.length:Int)) 1).bind fun _=>
 (bQ (((y6++x2).length:Int)+([32,40].length:Int)) 1).bind fun _=>
 (bQ ((((y6++x2)++[32,40]).length:Int)+(y3.length:Int)) 1).bind fun _=>
 (bQ (((((y6++x2)++[32,40])++y3).length:Int)+([41,32,123,10].length:Int)) 1).bind fun _=>
 ((ja n) a0.aH a1 (ae (a2+1))).bind fun y8=>
 (bQ ((((((y6++x2)++[32,40])++y3)++[41,32,123,10]).length:Int)+(y8.length:Int)) 1).bind fun _=>
 (kc a2).bind fun y9=>
 (bQ (((((((y6++x2)++[32,40])++y3)++[41,32,123,10])++y8).length:Int)+(y9.length:Int)) 1).bind fun _=>
 (bQ ((((((((y6++x2)++[32,40])++y3)++[41,32,123,10])++y8)++y9).length:Int)+([125].length:Int)) 1).bind fun _=>
 if(decide ((a0.bC.length:Int) > 0)) then
 ((ja n) a0.bC a1 (ae (a2+1))).bind fun y10=>
 (bQ (([32,101,108,115,101,32,123,10].length:Int)+(y10.length:Int)) 1).bind fun _=>
 (kc a2).bind fun y11=>
 (bQ ((([32,101,108,115,101,32,123,10]++y10).length:Int)+(y11.length:Int)) 1).bind fun _=>
 (bQ (((([32,101,108,115,101,32,123,10]++y10)++y11).length:Int)+([125].length:Int)) 1).bind fun _=>
 (bQ (((((((((y6++x2)++[32,40])++y3)++[41,32,123,10])++y8)++y9)++[125]).length:Int)+(((([32,101,108,115,101,32,123,10]++y10)++y11)++[125]).length:Int)) 1).bind fun _=>
 (bQ ((((((((((y6++x2)++[32,40])++y3)++[41,32,123,10])++y8)++y9)++[125])++((([32,101,108,115,101,32,123,10]++y10)++y11)++[125])).length:Int)+([10].length:Int)) 1).bind fun _=>
 some (((((((((y6++x2)++[32,40])++y3)++[41,32,123,10])++y8)++y9)++[125])++((([32,101,108,115,101,32,123,10]++y10)++y11)++[125]))++[10])
 else
 (bQ (((((((((y6++x2)++[32,40])++y3)++[41,32,123,10])++y8)++y9)++[125]).length:Int)+([10].length:Int)) 1).bind fun _=>
 some ((((((((y6++x2)++[32,40])++y3)++[41,32,123,10])++y8)++y9)++[125])++[10])
def ja : Nat→(List aI)→(List (List UInt8))→Int→Option (List UInt8)
 | 0,_,_,_=>none
 | n+1,a0,a1,a2=>
 (kR a0 a1 a2 (fw n) ((a0.length - 0:Int).toNat+1) [] 0).bind fun x0=>
 some x0
end

def th (a0:aI) (a1:List (List UInt8)) (a2:Int):Option (List UInt8):=
 (nn a0 (a1.length:Int)).bind fun y3=>
 if(!y3) then
 some []
 else
 (fw (cy a0+1) a0 a1 (if(if 20 < a2 then 20 else a2) > 0 then(if 20 < a2 then 20 else a2) else 0)).bind fun y6=>
 some y6
def jk (a0:bG) (a1:List (List UInt8)):Nat→(List (List UInt8))→Int→Option ((List (List UInt8)))
 | 0,_,_=>none
 | n+1,x0,x1=>
 if(decide (x1 < (a0.ab.length:Int))) then
 (idx a0.ab x1).bind fun y0=>
 (js y0 a1).bind fun y1=>
 (bQ ((x0.length:Int)+([y1].length:Int)) 16).bind fun _=>
 jk a0 a1 n (x0++[y1]) (ae (x1+1))
 else
 some x0
def kV (a0:bG) (a1:List (List UInt8)):Nat→(List UInt8)→Int→Option ((List UInt8))
 | 0,_,_=>none
 | n+1,x0,x1=>
 if(decide (x1 < (a0.co.length:Int))) then
 (idx a0.co x1).bind fun y0=>
 (js y0 a1).bind fun y1=>
 (bQ (([9,9].length:Int)+(y1.length:Int)) 1).bind fun _=>
 (bQ ((([9,9]++y1).length:Int)+([59,10].length:Int)) 1).bind fun _=>
 (bQ ((x0.length:Int)+((([9,9]++y1)++[59,10]).length:Int)) 1).bind fun _=>
 kV a0 a1 n (x0++(([9,9]++y1)++[59,10])) (ae (x1+1))
 else
 some x0
def kY (a0:bG) (a1:List (List UInt8)):Nat→(List UInt8)→Int→Option ((List UInt8))
 | 0,_,_=>none
 | n+1,x0,x1=>
 if(decide (x1 < (a0.aH.length:Int))) then
 (idx a0.aH x1).bind fun y0=>
 (th y0 a1 2).bind fun y1=>
 (bQ ((x0.length:Int)+(y1.length:Int)) 1).bind fun _=>
 kY a0 a1 n (x0++y1) (ae (x1+1))
 else
 some x0
def ri (a0:bG) (a1:List (List UInt8)):Option (List UInt8):=
 (if a0.kO=true then
 (bQ (([9].length:Int)+([112,117,114,101,32].length:Int)) 1).bind fun _=>
 some ([9]++[112,117,114,101,32])
 else
 some [9]:Option ((List UInt8))).bind fun x4=>
 (jk a0 a1 ((a0.ab.length - 0:Int).toNat+1) [] 0).bind fun x0=>
 (jU a0.cf a1).bind fun y0=>
 (bQ ((y0.length:Int)+([32].length:Int)) 1).bind fun _=>
 (bQ (((y0++[32]).length:Int)+(a0.aj.length:Int)) 1).bind fun _=>
 (bQ ((((y0++[32])++a0.aj).length:Int)+([40].length:Int)) 1).bind fun _=>
 (lc x0).bind fun y1=>
 (bQ (((((y0++[32])++a0.aj)++[40]).length:Int)+(y1.length:Int)) 1).bind fun _=>
 (bQ ((((((y0++[32])++a0.aj)++[40])++y1).length:Int)+([41,32,123,10].length:Int)) 1).bind fun _=>
 (bQ ((x4.length:Int)+((((((y0++[32])++a0.aj)++[40])++y1)++[41,32,123,10]).length:Int)) 1).bind fun _=>
 (kV a0 a1 ((a0.co.length - 0:Int).toNat+1) (x4++(((((y0++[32])++a0.aj)++[40])++y1)++[41,32,123,10])) 0).bind fun x1=>
 (kY a0 a1 ((a0.aH.length - 0:Int).toNat+1) x1 0).bind fun x2=>
 (bQ ((x2.length:Int)+([9,125,10].length:Int)) 1).bind fun _=>
 some (x2++[9,125,10])
def ji (a0:List aJ) (x0:Int):Nat→(List UInt8)→Int→Option ((List UInt8))
 | 0,_,_=>none
 | n+1,x1,x2=>
 (idx a0 x0).bind fun y0=>
 if(decide (x2 < (y0.bw.length:Int))) then
 (idx a0 x0).bind fun y1=>
 (idx y1.bw x2).bind fun y2=>
 (idx a0 x0).bind fun y3=>
 (js y2 y3.ab).bind fun y4=>
 (bQ (([9].length:Int)+(y4.length:Int)) 1).bind fun _=>
 (bQ ((([9]++y4).length:Int)+([59,10].length:Int)) 1).bind fun _=>
 (bQ ((x1.length:Int)+((([9]++y4)++[59,10]).length:Int)) 1).bind fun _=>
 ji a0 x0 n (x1++(([9]++y4)++[59,10])) (ae (x2+1))
 else
 some x1
def jo (a0:List aJ) (x0:Int):Nat→(List UInt8)→Int→Option ((List UInt8))
 | 0,_,_=>none
 | n+1,x1,x2=>
 (idx a0 x0).bind fun y0=>
 if(decide (x2 < (y0.af.length:Int))) then
 (idx a0 x0).bind fun y1=>
 (idx y1.af x2).bind fun y2=>
 (idx a0 x0).bind fun y3=>
 (ri y2 y3.ab).bind fun y4=>
 (bQ ((x1.length:Int)+(y4.length:Int)) 1).bind fun _=>
 jo a0 x0 n (x1++y4) (ae (x2+1))
 else
 some x1
def kN (a0:List aJ):Nat→(List UInt8)→Int→Option ((List UInt8))
 | 0,_,_=>none
 | n+1,x0,x1=>
 if(decide (x1 < (a0.length:Int))) then
 (idx a0 x1).bind fun y0=>
 (tp y0).bind fun y1=>
 (bQ ((x0.length:Int)+(y1.length:Int)) 1).bind fun _=>
 (ji a0 x1 (Option.getD ((idx a0 x1).bind fun y2=>some ((y2.bw.length - 0:Int).toNat+1)) 1) (x0++y1) 0).bind fun x2=>
 (jo a0 x1 (Option.getD ((idx a0 x1).bind fun y3=>some ((y3.af.length - 0:Int).toNat+1)) 1) x2 0).bind fun x3=>
 (bQ ((x3.length:Int)+([125,10].length:Int)) 1).bind fun _=>
 kN a0 n (x3++[125,10]) (ae (x1+1))
 else
 some x0
def re (a0:List aJ):Option (List UInt8):=
 (kN a0 ((a0.length - 0:Int).toNat+1) [] 0).bind fun x0=>
 some x0
def qd (a0:List aJ):Option (List UInt8):=
 (pc a0).bind fun y3=>
 if(!y3) then
 some []
 else
 (re a0).bind fun y6=>
 some y6
def uE (a0:aJ) (a1:bG):Option (List UInt8):=
 (qt [({ a0 with af:=[a1] }:aJ)]).bind fun y3=>
 if(!y3) then
 some []
 else
 (sc a1 (({ a0 with af:=[a1] }:aJ).ab)).bind fun y6=>
 some y6
def mb (a0:aJ) (a1:bG):Nat→(List UInt8)→Int→Option ((List UInt8))
 | 0,_,_=>none
 | n+1,x0,x1=>
 if(decide (x1 < (a1.ab.length:Int))) then
 (if(decide (x1 > 0)) then
 (bQ ((x0.length:Int)+([44,32].length:Int)) 1).bind fun _=>
 some (x0++[44,32])
 else
 some x0:Option ((List UInt8))).bind fun x2=>
 (idx a1.ab x1).bind fun y0=>
 (jU y0.bt (({ a0 with af:=[a1] }:aJ).ab)).bind fun y1=>
 (bQ ((y1.length:Int)+([32].length:Int)) 1).bind fun _=>
 (idx a1.ab x1).bind fun y2=>
 (bQ (((y1++[32]).length:Int)+(y2.aj.length:Int)) 1).bind fun _=>
 (bQ ((x2.length:Int)+(((y1++[32])++y2.aj).length:Int)) 1).bind fun _=>
 mb a0 a1 n (x2++((y1++[32])++y2.aj)) (ae (x1+1))
 else
 some x0
def sk (a0:aJ) (a1:bG):Option (List UInt8):=
 (pc [({ a0 with af:=[a1] }:aJ)]).bind fun y3=>
 if(!y3) then
 some []
 else
 (jU a1.cf (({ a0 with af:=[a1] }:aJ).ab)).bind fun y0=>
 (bQ ((y0.length:Int)+([32].length:Int)) 1).bind fun _=>
 (bQ (((y0++[32]).length:Int)+(a1.aj.length:Int)) 1).bind fun _=>
 (bQ ((((y0++[32])++a1.aj).length:Int)+([40].length:Int)) 1).bind fun _=>
 (if a1.kO=true then
 (bQ (([112,117,114,101,32].length:Int)+((((y0++[32])++a1.aj)++[40]).length:Int)) 1).bind fun _=>
 some ([112,117,114,101,32]++(((y0++[32])++a1.aj)++[40]))
 else
 some (((y0++[32])++a1.aj)++[40]):Option ((List UInt8))).bind fun x0=>
 (mb a0 a1 ((a1.ab.length - 0:Int).toNat+1) x0 0).bind fun x1=>
 (bQ ((x1.length:Int)+([41].length:Int)) 1).bind fun _=>
 some (x1++[41])
def jI (a0:List aJ) (x0:Int):Nat→Int→Option (Ctl (Bool) (Unit))
 | 0,_=>none
 | n+1,x1=>
 (idx a0 x0).bind fun y0=>
 if(decide (x1 < (y0.af.length:Int))) then
 (idx a0 x0).bind fun y1=>
 (idx a0 x0).bind fun y2=>
 (idx y2.af x1).bind fun y3=>
 (uE y1 y3).bind fun y4=>
 (idx a0 x0).bind fun y5=>
 (idx a0 x0).bind fun y6=>
 (idx y6.af x1).bind fun y7=>
 (sk y5 y7).bind fun y8=>
 if(!(y4==y8)) then
 some (.stop false)
 else
 jI a0 x0 n (ae (x1+1))
 else
 some (.next ())
def jO (a0:List aJ):Nat→Int→Option (Ctl (Bool) (Unit))
 | 0,_=>none
 | n+1,x0=>
 if(decide (x0 < (a0.length:Int))) then
 (idx a0 x0).bind fun y0=>
 (vr y0).bind fun y1=>
 (jG a0 x0 (ae (x0+1))).bind fun y2=>
 (qd y2).bind fun y3=>
 if(!(y1==y3)) then
 some (.stop false)
 else
 (jI a0 x0 (Option.getD ((idx a0 x0).bind fun y4=>some ((y4.af.length - 0:Int).toNat+1)) 1) 0).bind fun lr0=>
 Ctl.elim lr0 (fun v=>some (.stop v)) fun _=>
 jO a0 n (ae (x0+1))
 else
 some (.next ())
def pD (a0:List aJ):Option Bool:=
 (qI a0).bind fun y3=>
 if y3=true then
 Option.bind qL fun(y6:Bool)=>
 some y6
 else
 (jO a0 ((a0.length - 0:Int).toNat+1) 0).bind fun lr0=>
 Ctl.elim lr0 (fun v=>some v) fun _=>
 (qw a0).bind fun y0=>
 (qd a0).bind fun y1=>
 if(y0==y1) then
 Option.bind qL fun(y2:Bool)=>
 some y2
 else
 some false
end
end Go.Proofs.YtjimbkljclfflaaGreatDoor
