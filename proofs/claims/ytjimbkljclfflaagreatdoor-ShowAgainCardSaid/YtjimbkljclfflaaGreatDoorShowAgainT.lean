/- A part of the proof that the law ShowAgain gives true for every input. -/
import Derived.Test.YtjimbkljclfflaaGreatDoorShowAgainA5
import Derived.Test.YtjimbkljclfflaaGreatDoorShowAgainX
/- The types and the plain functions. -/
namespace Go.Proofs.YtjimbkljclfflaaGreatDoor
open List
open Go.RowKit Go.Abs
noncomputable section
structure dV where
 bL:Int
 fAt:Int
 deriving DecidableEq
abbrev aK : dV:=(⟨0,0⟩:dV)
abbrev cr (x:dV):List PV:=[.int .i64 x.bL,.int .i64 x.fAt]
structure az where
 aa:Int
 bz:List UInt8
 fAt:Int
 deriving DecidableEq
abbrev jz : az:=(⟨0,[],0⟩:az)
abbrev ak (x:az):List PV:=[.int .i64 x.aa,.str x.bz,.int .i64 x.fAt]
structure aF where
 aa:Int
 fN:Int
 deriving DecidableEq
abbrev av : aF:=(⟨0,0⟩:aF)
abbrev ax (x:aF):List PV:=[.int .i64 x.aa,.int .i64 x.fN]
structure cd where
 aa:Int
 aM:List UInt8
 fN:Int
 ae:A4 aF
 deriving DecidableEq
abbrev cA : cd:=(⟨0,[],0,(⟨av,av,av,av⟩:A4 aF)⟩:cd)
abbrev bV (x:cd):List PV:=[.int .i64 x.aa,.str x.aM,.int .i64 x.fN,.int .i64 x.ae.a0.aa,.int .i64 x.ae.a0.fN,.int .i64 x.ae.a1.aa,.int .i64 x.ae.a1.fN,.int .i64 x.ae.a2.aa,.int .i64 x.ae.a2.fN,.int .i64 x.ae.a3.aa,.int .i64 x.ae.a3.fN]
structure dr where
 ai:List UInt8
 aJ:cd
 fAt:Int
 deriving DecidableEq
abbrev nF : dr:=(⟨[],cA,0⟩:dr)
abbrev aj (x:dr):List PV:=[.str x.ai,.int .i64 x.aJ.aa,.str x.aJ.aM,.int .i64 x.aJ.fN,.int .i64 x.aJ.ae.a0.aa,.int .i64 x.aJ.ae.a0.fN,.int .i64 x.aJ.ae.a1.aa,.int .i64 x.aJ.ae.a1.fN,.int .i64 x.aJ.ae.a2.aa,.int .i64 x.aJ.ae.a2.fN,.int .i64 x.aJ.ae.a3.aa,.int .i64 x.aJ.ae.a3.fN,.int .i64 x.fAt]
structure au where
 aa:Int
 dp:Int
 ai:List UInt8
 aY:List au
abbrev bT : au:=(⟨0,0,[],[]⟩:au)
mutual
def Qk : au->List PV
 | ⟨z0,z1,z2,z3⟩=>[.int .i64 z0,.int .i64 z1,.str z2,.vs 4 (bU z3)]
def bU : List au->List (List PV)
 | []=>[]
 | x::l=>Qk x::bU l
end
abbrev aE (x:au):List PV:=[.int .i64 x.aa,.int .i64 x.dp,.str x.ai,.vs 4 (bU x.aY)]
theorem Uu (x:au):Qk x=aE x:=by cases x;simp only[Qk]
theorem cT : ∀ l:List au,bU l=l.map aE
 | []=>by simp only[bU,map_nil]
 | x::l=>by simp only[bU,map_cons,Uu,cT l]
mutual
def bR : au->Nat
 | ⟨_,_,_,z3⟩=>1+ct z3
def ct : List au->Nat
 | []=>0
 | x::l=>bR x+ct l
end
structure ap where
 aa:Int
 fX:List UInt8
 fY:List UInt8
 ai:List UInt8
 aJ:cd
 fE:au
 cO:List au
 aC:List ap
 bQ:List ap
 fAt:Int
abbrev iM : ap:=(⟨0,[],[],[],cA,bT,[],[],[],0⟩:ap)
mutual
def PX : ap->List PV
 | ⟨z0,z1,z2,z3,z4,z5,z6,z7,z8,z9⟩=>[.int .i64 z0,.str z1,.str z2,.str z3,.int .i64 z4.aa,.str z4.aM,.int .i64 z4.fN,.int .i64 z4.ae.a0.aa,.int .i64 z4.ae.a0.fN,.int .i64 z4.ae.a1.aa,.int .i64 z4.ae.a1.fN,.int .i64 z4.ae.a2.aa,.int .i64 z4.ae.a2.fN,.int .i64 z4.ae.a3.aa,.int .i64 z4.ae.a3.fN,.int .i64 z5.aa,.int .i64 z5.dp,.str z5.ai,.vs 4 (bU z5.aY),.vs 4 (bU z6),.vs 23 (bc z7),.vs 23 (bc z8),.int .i64 z9]
def bc : List ap->List (List PV)
 | []=>[]
 | x::l=>PX x::bc l
end
abbrev bm (x:ap):List PV:=[.int .i64 x.aa,.str x.fX,.str x.fY,.str x.ai,.int .i64 x.aJ.aa,.str x.aJ.aM,.int .i64 x.aJ.fN,.int .i64 x.aJ.ae.a0.aa,.int .i64 x.aJ.ae.a0.fN,.int .i64 x.aJ.ae.a1.aa,.int .i64 x.aJ.ae.a1.fN,.int .i64 x.aJ.ae.a2.aa,.int .i64 x.aJ.ae.a2.fN,.int .i64 x.aJ.ae.a3.aa,.int .i64 x.aJ.ae.a3.fN,.int .i64 x.fE.aa,.int .i64 x.fE.dp,.str x.fE.ai,.vs 4 (bU x.fE.aY),.vs 4 (bU x.cO),.vs 23 (bc x.aC),.vs 23 (bc x.bQ),.int .i64 x.fAt]
theorem UG (x:ap):PX x=bm x:=by cases x;simp only[PX]
theorem iA : ∀ l:List ap,bc l=l.map bm
 | []=>by simp only[bc,map_nil]
 | x::l=>by simp only[bc,map_cons,UG,iA l]
mutual
def cf : ap->Nat
 | ⟨_,_,_,_,_,z5,z6,z7,z8,_⟩=>1+bR z5+ct z6+cb z7+cb z8
def cb : List ap->Nat
 | []=>0
 | x::l=>cf x+cb l
end
structure bM where
 ai:List UInt8
 co:Bool
 af:cd
 ac:List dr
 aP:List dr
 aC:List ap
 fAt:Int
abbrev zGMethod : bM:=(⟨[],false,cA,[],[],[],0⟩:bM)
abbrev bg (x:bM):List PV:=[.str x.ai,.bool x.co,.int .i64 x.af.aa,.str x.af.aM,.int .i64 x.af.fN,.int .i64 x.af.ae.a0.aa,.int .i64 x.af.ae.a0.fN,.int .i64 x.af.ae.a1.aa,.int .i64 x.af.ae.a1.fN,.int .i64 x.af.ae.a2.aa,.int .i64 x.af.ae.a2.fN,.int .i64 x.af.ae.a3.aa,.int .i64 x.af.ae.a3.fN,.vs 13 (map aj x.ac),.vs 13 (map aj x.aP),.vs 23 (bc x.aC),.int .i64 x.fAt]
structure bH where
 ai:List UInt8
 ac:List (List UInt8)
 aU:List UInt8
 aH:List aF
 aZ:List dr
 am:List bM
 fAt:Int
abbrev zGClass : bH:=(⟨[],[],[],[],[],[],0⟩:bH)
abbrev bl (x:bH):List PV:=[.str x.ai,.vs 1 (map eS x.ac),.str x.aU,.vs 2 (map ax x.aH),.vs 13 (map aj x.aZ),.vs 17 (map bg x.am),.int .i64 x.fAt]
structure ba where
 fC:bH
 fM:bM
 fV:List dr
 fN:List (List UInt8)
 aq:Int
 fF:dV
abbrev zGGot_ref09 : ba:=(⟨zGClass,zGMethod,[],[],0,aK⟩:ba)
abbrev bN (x:ba):List PV:=[.str x.fC.ai,.vs 1 (map eS x.fC.ac),.str x.fC.aU,.vs 2 (map ax x.fC.aH),.vs 13 (map aj x.fC.aZ),.vs 17 (map bg x.fC.am),.int .i64 x.fC.fAt,.str x.fM.ai,.bool x.fM.co,.int .i64 x.fM.af.aa,.str x.fM.af.aM,.int .i64 x.fM.af.fN,.int .i64 x.fM.af.ae.a0.aa,.int .i64 x.fM.af.ae.a0.fN,.int .i64 x.fM.af.ae.a1.aa,.int .i64 x.fM.af.ae.a1.fN,.int .i64 x.fM.af.ae.a2.aa,.int .i64 x.fM.af.ae.a2.fN,.int .i64 x.fM.af.ae.a3.aa,.int .i64 x.fM.af.ae.a3.fN,.vs 13 (map aj x.fM.ac),.vs 13 (map aj x.fM.aP),.vs 23 (bc x.fM.aC),.int .i64 x.fM.fAt,.vs 13 (map aj x.fV),.vs 1 (map eS x.fN),.int .i64 x.aq,.int .i64 x.fF.bL,.int .i64 x.fF.fAt]
structure ce where
 fL:List aF
 fT:cd
 fV:dr
 aq:Int
 fF:dV
 deriving DecidableEq
abbrev dB : ce:=(⟨[],cA,nF,0,aK⟩:ce)
abbrev br (x:ce):List PV:=[.vs 2 (map ax x.fL),.int .i64 x.fT.aa,.str x.fT.aM,.int .i64 x.fT.fN,.int .i64 x.fT.ae.a0.aa,.int .i64 x.fT.ae.a0.fN,.int .i64 x.fT.ae.a1.aa,.int .i64 x.fT.ae.a1.fN,.int .i64 x.fT.ae.a2.aa,.int .i64 x.fT.ae.a2.fN,.int .i64 x.fT.ae.a3.aa,.int .i64 x.fT.ae.a3.fN,.str x.fV.ai,.int .i64 x.fV.aJ.aa,.str x.fV.aJ.aM,.int .i64 x.fV.aJ.fN,.int .i64 x.fV.aJ.ae.a0.aa,.int .i64 x.fV.aJ.ae.a0.fN,.int .i64 x.fV.aJ.ae.a1.aa,.int .i64 x.fV.aJ.ae.a1.fN,.int .i64 x.fV.aJ.ae.a2.aa,.int .i64 x.fV.aJ.ae.a2.fN,.int .i64 x.fV.aJ.ae.a3.aa,.int .i64 x.fV.aJ.ae.a3.fN,.int .i64 x.fV.fAt,.int .i64 x.aq,.int .i64 x.fF.bL,.int .i64 x.fF.fAt]
structure bn where
 fS:ap
 fL:List ap
 fA:List au
 aq:Int
 fF:dV
abbrev cw : bn:=(⟨iM,[],[],0,aK⟩:bn)
abbrev aX (x:bn):List PV:=[.int .i64 x.fS.aa,.str x.fS.fX,.str x.fS.fY,.str x.fS.ai,.int .i64 x.fS.aJ.aa,.str x.fS.aJ.aM,.int .i64 x.fS.aJ.fN,.int .i64 x.fS.aJ.ae.a0.aa,.int .i64 x.fS.aJ.ae.a0.fN,.int .i64 x.fS.aJ.ae.a1.aa,.int .i64 x.fS.aJ.ae.a1.fN,.int .i64 x.fS.aJ.ae.a2.aa,.int .i64 x.fS.aJ.ae.a2.fN,.int .i64 x.fS.aJ.ae.a3.aa,.int .i64 x.fS.aJ.ae.a3.fN,.int .i64 x.fS.fE.aa,.int .i64 x.fS.fE.dp,.str x.fS.fE.ai,.vs 4 (bU x.fS.fE.aY),.vs 4 (bU x.fS.cO),.vs 23 (bc x.fS.aC),.vs 23 (bc x.fS.bQ),.int .i64 x.fS.fAt,.vs 23 (bc x.fL),.vs 4 (bU x.fA),.int .i64 x.aq,.int .i64 x.fF.bL,.int .i64 x.fF.fAt]
structure aV where
 fE:au
 aq:Int
 fF:dV
abbrev cG : aV:=(⟨bT,0,aK⟩:aV)
abbrev ay (x:aV):List PV:=[.int .i64 x.fE.aa,.int .i64 x.fE.dp,.str x.fE.ai,.vs 4 (bU x.fE.aY),.int .i64 x.aq,.int .i64 x.fF.bL,.int .i64 x.fF.fAt]
structure aI where
 vz:Int
 aZ:Int
 am:Int
 lh:Int
 jF:Int
 wO:Int
 xu:Int
 deriving DecidableEq
abbrev jB : aI:=(⟨0,0,0,0,0,0,0⟩:aI)
abbrev be (x:aI):List PV:=[.int .i64 x.vz,.int .i64 x.aZ,.int .i64 x.am,.int .i64 x.lh,.int .i64 x.jF,.int .i64 x.wO,.int .i64 x.xu]
structure Gbind_expr where
 fsign:List UInt8
 flevel:Int
 fkind:Int
 deriving DecidableEq
abbrev NP : Gbind_expr:=(⟨[],0,0⟩:Gbind_expr)
abbrev jP (x:Gbind_expr):List PV:=[.str x.fsign,.int .i64 x.flevel,.int .i64 x.fkind]
def lM (a b:cd):Bool:=(a.aa==b.aa&&(a.aM==b.aM&&(a.fN==b.fN&&(a.ae.a0.aa==b.ae.a0.aa&&(a.ae.a0.fN==b.ae.a0.fN&&(a.ae.a1.aa==b.ae.a1.aa&&(a.ae.a1.fN==b.ae.a1.fN&&(a.ae.a2.aa==b.ae.a2.aa&&(a.ae.a2.fN==b.ae.a2.fN&&(a.ae.a3.aa==b.ae.a3.aa&&(a.ae.a3.fN==b.ae.a3.fN&&true)))))))))))
def kO (a b:aF):Bool:=(a.aa==b.aa&&(a.fN==b.fN&&true))
def rU (a0:Int):Option Bool:=
 if(a0==9) then
 some true
 else
 if(a0==10) then
 some true
 else
 if(a0==13) then
 some true
 else
 some (a0==32)
def ph (a0:List UInt8):Nat->Int->Option (Int)
 | 0,_=>none
 | n+1,x0=>
 (if(decide (x0 < (a0.length:Int))) then
 (idx a0 x0).bind fun(y0:UInt8)=>
 some ((y0.toNat:Int) != 10)
 else
 some false:Option (Bool)).bind fun x1=>
 if x1=true then
 ph a0 n (ah (x0+1))
 else
 some x0
def iC (a0:List UInt8):Nat->Int->Option (Ctl (Int) (Int))
 | 0,_=>none
 | n+1,x0=>
 if(decide (x0 < (a0.length:Int))) then
 (idx a0 x0).bind fun(y0:UInt8)=>
 (rU (y0.toNat:Int)).bind fun y1=>
 if y1=true then
 iC a0 n (ah (x0+1))
 else
 (if(decide ((ah (x0+1)) >= (a0.length:Int))) then
 some true
 else
 (idx a0 x0).bind fun(y2:UInt8)=>
 if((y2.toNat:Int) != 47) then
 some true
 else
 (idx a0 (ah (x0+1))).bind fun(y3:UInt8)=>
 some ((y3.toNat:Int) != 47):Option (Bool)).bind fun x1=>
 if x1=true then
 some (.stop x0)
 else
 (ph a0 (a0.length+64) x0).bind fun x2=>
 iC a0 n x2
 else
 some (.next x0)
def lJ (a0:List UInt8):Option Int:=
 (iC a0 (a0.length+64) 0).bind fun lr0=>
 Ctl.elim lr0 (fun v=>some v) fun x0=>
 some x0
def mU (a0:Int):Option Bool:=
 if(decide (a0 >= 97)) then
 if(decide (a0<=122)) then
 some true
 else
 if(decide (a0 >= 65)) then
 some (decide (a0<=90))
 else
 some false
 else
 if(decide (a0 >= 65)) then
 some (decide (a0<=90))
 else
 some false
def mz (a0:Int):Option Bool:=
 if(decide (a0 >= 48)) then
 some (decide (a0<=57))
 else
 some false
def uG  : Option (List (List UInt8)):=
 some [[99,108,97,115,115],[101,120,116,101,110,100,115],[114,101,112],[112,101,101,114],[119,111,114,108,100],[97,110,121],[117,110,105,113,117,101],[112,117,114,101],[118,111,105,100],[105,110,116],[105,102],[101,108,115,101],[119,104,105,108,101],[114,101,116,117,114,110],[110,101,119],[109,111,118,101],[100,101,108,101,116,101],[116,104,105,115],[110,117,108,108],[105,110,112,117,116],[110,105,108],[115,97,109,101],[99,97,115,116]]
def np (a0:List UInt8) (y3:(List (List UInt8))):Nat->Int->Option (Ctl (Int) (Unit))
 | 0,_=>none
 | n+1,x0=>
 if(decide (x0 < (y3.length:Int))) then
 (idx y3 x0).bind fun y0=>
 if(y0==a0) then
 some (.stop (ah (x0+1)))
 else
 np a0 y3 n (ah (x0+1))
 else
 some (.next ())
def uq (a0:List UInt8):Option Int:=
 Option.bind uG fun(y3:(List (List UInt8)))=>
 (np a0 y3 ((y3.length - 0:Int).toNat+1) 0).bind fun lr0=>
 Ctl.elim lr0 (fun v=>some v) fun _=>
 some 0
def pj (a0:List UInt8):Nat->Int->Option (Ctl ((List UInt8)) (Unit))
 | 0,_=>none
 | n+1,x0=>
 (if(decide (x0 < ([123,125,40,41,60,62,44,59,46,61,43,45,42,33].length:Int))) then
 some (!(a0==[]))
 else
 some false:Option (Bool)).bind fun x1=>
 if x1=true then
 (idx [123,125,40,41,60,62,44,59,46,61,43,45,42,33] x0).bind fun(y0:UInt8)=>
 (idx a0 0).bind fun(y1:UInt8)=>
 if((y0.toNat:Int)==(y1.toNat:Int)) then
 (jW a0 0 1).bind fun y2=>
 some (.stop y2)
 else
 pj a0 n (ah (x0+1))
 else
 some (.next ())
def rn (a0:List UInt8):Option (List UInt8):=
 (if(decide ((a0.length:Int) > 1)) then
 (jW a0 0 2).bind fun y2=>
 if(y2==[61,61]) then
 some true
 else
 (jW a0 0 2).bind fun y5=>
 some (y5==[38,38])
 else
 some false:Option (Bool)).bind fun x7=>
 if x7=true then
 (jW a0 0 2).bind fun y0=>
 some y0
 else
 (pj a0 (a0.length+64) 0).bind fun lr0=>
 Ctl.elim lr0 (fun v=>some v) fun _=>
 some []
def qI (a0:List UInt8):Nat->Int->Option (Int)
 | 0,_=>none
 | n+1,x0=>
 (if(decide (x0 < (a0.length:Int))) then
 (idx a0 x0).bind fun(y0:UInt8)=>
 (mU (y0.toNat:Int)).bind fun y1=>
 if y1=true then
 some true
 else
 (idx a0 x0).bind fun(y2:UInt8)=>
 (mz (y2.toNat:Int)).bind fun y3=>
 some y3
 else
 some false:Option (Bool)).bind fun x1=>
 if x1=true then
 qI a0 n (ah (x0+1))
 else
 some x0
def qx (a0:List UInt8):Nat->Int->Option (Int)
 | 0,_=>none
 | n+1,x0=>
 (if(decide (x0 < (a0.length:Int))) then
 (idx a0 x0).bind fun(y0:UInt8)=>
 (mz (y0.toNat:Int)).bind fun y1=>
 some y1
 else
 some false:Option (Bool)).bind fun x1=>
 if x1=true then
 qx a0 n (ah (x0+1))
 else
 some x0
def vC (a0:List UInt8):Option az:=
 (idx a0 0).bind fun(y5:UInt8)=>
 (mU (y5.toNat:Int)).bind fun y7=>
 if y7=true then
 (qI a0 (a0.length+64) 0).bind fun x0=>
 (jW a0 0 x0).bind fun y0=>
 (uq y0).bind fun(y1:Int)=>
 if(decide (y1 > 0)) then
 (jW a0 0 x0).bind fun y2=>
 some (⟨3,y2,0⟩:az)
 else
 (jW a0 0 x0).bind fun y3=>
 some (⟨1,y3,0⟩:az)
 else
 (idx a0 0).bind fun(y4:UInt8)=>
 (mz (y4.toNat:Int)).bind fun y6=>
 if y6=true then
 (qx a0 (a0.length+64) 0).bind fun x1=>
 (jW a0 0 x1).bind fun y8=>
 some (⟨2,y8,0⟩:az)
 else
 (rn a0).bind fun y9=>
 if(!(y9==[])) then
 (rn a0).bind fun y10=>
 some (⟨4,y10,0⟩:az)
 else
 some jz
def nb (a0:List UInt8):Nat->Int->Int->Option (Ctl (Int×Bool) (Int))
 | 0,_,_=>none
 | n+1,x0,x1=>
 if(decide (x1 < (a0.length:Int))) then
 (idx a0 x1).bind fun(y0:UInt8)=>
 (mz (y0.toNat:Int)).bind fun y1=>
 if(!y1) then
 some (.stop (0,false))
 else
 (idx a0 x1).bind fun(y2:UInt8)=>
 nb a0 n (ah ((ah (10 * x0))+(ah (yx ((y2.toNat:Int) - 48))))) (ah (x1+1))
 else
 some (.next x0)
def oW (a0:List UInt8):Option (Int×Bool):=
 (if(decide ((a0.length:Int) < 1)) then
 some true
 else
 if(decide ((a0.length:Int) > 9)) then
 some true
 else
 (idx a0 0).bind fun(y3:UInt8)=>
 if((y3.toNat:Int)==48) then
 some (decide ((a0.length:Int) > 1))
 else
 some false:Option (Bool)).bind fun x6=>
 if x6=true then
 some (0,false)
 else
 (nb a0 ((a0.length - 0:Int).toNat+1) 0 0).bind fun lr0=>
 Ctl.elim lr0 (fun v=>some v) fun x0=>
 some (x0,true)
def lF (a0:List UInt8):Nat->(List az)->Int->Option (Ctl ((List az)×dV) ((List az)))
 | 0,_,_=>none
 | n+1,x0,x1=>
 if(decide (x1 < (a0.length:Int))) then
 (jW a0 x1 a0.length).bind fun y0=>
 (vC y0).bind fun y1=>
 if((({ y1 with fAt:=x1 }:az).aa)==0) then
 some (.stop ([],(⟨1,x1⟩:dV)))
 else
 (oW (({ y1 with fAt:=x1 }:az).bz)).bind fun y2=>
 (if((({ y1 with fAt:=x1 }:az).aa)==1) then
 if(decide (((({ y1 with fAt:=x1 }:az).bz).length:Int) > 20)) then
 some true
 else
 if((({ y1 with fAt:=x1 }:az).aa)==2) then
 some (!y2.2)
 else
 some false
 else
 if((({ y1 with fAt:=x1 }:az).aa)==2) then
 some (!y2.2)
 else
 some false:Option (Bool)).bind fun x2=>
 if x2=true then
 some (.stop ([],(⟨2,x1⟩:dV)))
 else
 (dL ((x0.length:Int)+([({ y1 with fAt:=x1 }:az)].length:Int)) 32).bind fun _=>
 (jW a0 (ah (x1+((({ y1 with fAt:=x1 }:az).bz).length:Int))) a0.length).bind fun y3=>
 (lJ y3).bind fun(y4:Int)=>
 lF a0 n (x0++[({ y1 with fAt:=x1 }:az)]) (ah ((ah (x1+((({ y1 with fAt:=x1 }:az).bz).length:Int)))+y4))
 else
 some (.next x0)
def tI (a0:List UInt8):Option ((List az)×dV):=
 if(decide ((a0.length:Int) > 16384)) then
 some ([],(⟨6,0⟩:dV))
 else
 (lJ a0).bind fun(y4:Int)=>
 (lF a0 ((((a0.length:Int):Int) - (y4)).toNat+1) [] y4).bind fun lr0=>
 Ctl.elim lr0 (fun v=>some v) fun x0=>
 (dL ((x0.length:Int)+([(⟨0,[],(a0.length:Int)⟩:az)].length:Int)) 32).bind fun _=>
 some ((x0++[(⟨0,[],(a0.length:Int)⟩:az)]),aK)
def dl (a0:List az) (a1:Int):Option az:=
 (if(decide (a1 >= 0)) then
 some (decide (a1 < (a0.length:Int)))
 else
 some false:Option (Bool)).bind fun x2=>
 if x2=true then
 (idx a0 a1).bind fun y6=>
 some y6
 else
 if((a0.length:Int)==0) then
 some jz
 else
 (idx a0 (ah ((a0.length:Int) - 1))).bind fun y9=>
 some (⟨0,[],y9.fAt⟩:az)
def gQ (a0:List az) (a1:Int):Option az:=
 (dl a0 a1).bind fun y1=>
 some y1
def dJ (a0:az) (a1:List UInt8):Option Bool:=
 if(a0.aa==3) then
 some (a0.bz==a1)
 else
 if(a0.aa==4) then
 some (a0.bz==a1)
 else
 some false
def fG (a0:List az) (a1:Int) (a2:List UInt8):Option Bool:=
 (dl a0 a1).bind fun y1=>
 (dJ y1 a2).bind fun y3=>
 some y3
def dv (a0:Int) (a1:List az) (a2:Int):Option ba:=
 (gQ a1 a2).bind fun y1=>
 some (⟨zGClass,zGMethod,[],[],0,(⟨a0,y1.fAt⟩:dV)⟩:ba)
def jE (a0:List az):Nat->Int->(List (List UInt8))->Option (Ctl (ba) (Unit))
 | 0,_,_=>none
 | n+1,x0,x1=>
 (gQ a0 (ah (x0+1))).bind fun y0=>
 if(y0.aa != 1) then
 (dv 3 a0 (ah (x0+1))).bind fun y1=>
 some (.stop y1)
 else
 if((x1.length:Int)==3) then
 (dv 10 a0 (ah (x0+1))).bind fun y2=>
 some (.stop y2)
 else
 (gQ a0 (ah (x0+1))).bind fun y3=>
 (dL ((x1.length:Int)+([y3.bz].length:Int)) 16).bind fun _=>
 (fG a0 (ah ((ah (x0+1))+1)) [62]).bind fun(y4:Bool)=>
 if y4=true then
 some (.stop (⟨zGClass,zGMethod,[],(x1++[y3.bz]),ah ((ah ((ah (x0+1))+1))+1),aK⟩:ba))
 else
 (fG a0 (ah ((ah (x0+1))+1)) [44]).bind fun(y5:Bool)=>
 if(!y5) then
 (dv 3 a0 (ah ((ah (x0+1))+1))).bind fun y6=>
 some (.stop y6)
 else
 jE a0 n (ah ((ah (x0+1))+1)) (x1++[y3.bz])
def mE (a0:List az) (a1:Int):Option ba:=
 (jE a0 (a0.length+64) a1 []).bind fun lr0=>Ctl.elim lr0 (fun v=>some v) fun _=>none

def gD (a0:Int) (a1:List az) (a2:Int):Option ce:=
 (dl a1 a2).bind fun y1=>
 some (⟨[],cA,nF,0,(⟨a0,y1.fAt⟩:dV)⟩:ce)
def ku (a0:az):Nat->Int->Option (Ctl (aF) (Unit))
 | 0,_=>none
 | n+1,x0=>
 if(decide (x0 < ([[114,101,112],[112,101,101,114],[],[119,111,114,108,100],[97,110,121],[117,110,105,113,117,101]].length:Int))) then
 ((idx [[114,101,112],[112,101,101,114],[],[119,111,114,108,100],[97,110,121],[117,110,105,113,117,101]] x0).bind fun(y0:List UInt8)=>
 (dJ a0 y0).bind fun y1=>
 if y1=true then
 (idx [[114,101,112],[112,101,101,114],[],[119,111,114,108,100],[97,110,121],[117,110,105,113,117,101]] x0).bind fun(y2:List UInt8)=>
 some (!(y2==[]))
 else
 some false:Option (Bool)).bind fun x1=>
 if x1=true then
 some (.stop (⟨ah (x0+1),0⟩:aF))
 else
 ku a0 n (ah (x0+1))
 else
 some (.next ())
def iv (a0:az):Option aF:=
 (ku a0 (((([[114,101,112],[112,101,101,114],[],[119,111,114,108,100],[97,110,121],[117,110,105,113,117,101]].length:Int):Int) - (0)).toNat+1) 0).bind fun lr0=>
 Ctl.elim lr0 (fun v=>some v) fun _=>
 some av
def lU (a0:List UInt8) (a1:List (List UInt8)):Nat->Int->Option (Ctl (Int) (Unit))
 | 0,_=>none
 | n+1,x7=>
 if(decide (x7 < (a1.length:Int))) then
 (idx a1 x7).bind fun y0=>
 if(y0==a0) then
 some (.stop (ah (x7+1)))
 else
 lU a0 a1 n (ah (x7+1))
 else
 some (.next ())
def uv (a0:List UInt8) (a1:List (List UInt8)):Option Int:=
 (lU a0 a1 ((a1.length - 0:Int).toNat+1) 0).bind fun lr0=>
 Ctl.elim lr0 (fun v=>some v) fun _=>
 some 0
def jG (a0:az) (a1:List (List UInt8)):Option aF:=
 (uv a0.bz a1).bind fun(y3:Int)=>
 if(y3==0) then
 some av
 else
 some (⟨3,y3⟩:aF)
def kc (a0:List az) (a2:List (List UInt8)):Nat->Int->(List aF)->Option (Ctl (ce) (Unit))
 | 0,_,_=>none
 | n+1,x0,x1=>
 (dl a0 (ah (x0+1))).bind fun y0=>
 (iv y0).bind fun y1=>
 Ctl.go (if(y0.aa==1) then
 eZ (jG y0 a2) fun(y2:aF)=>
 if(y2.aa==0) then
 eZ (gD 4 a0 (ah (x0+1))) fun(y3:ce)=>
 .stop (some (.stop y3))
 else
 .next y2
 else
 .next y1:Ctl (Option (Ctl (ce) (Unit))) (aF)) fun x2=>
 (if(x2.aa==0) then
 some true
 else
 some (x2.aa==6):Option (Bool)).bind fun x3=>
 if x3=true then
 (gD 3 a0 (ah (x0+1))).bind fun y4=>
 some (.stop y4)
 else
 if((x1.length:Int)==3) then
 (gD 10 a0 (ah (x0+1))).bind fun y5=>
 some (.stop y5)
 else
 (dL ((x1.length:Int)+([x2].length:Int)) 16).bind fun _=>
 (dl a0 (ah ((ah (x0+1))+1))).bind fun y6=>
 (dJ y6 [62]).bind fun(y7:Bool)=>
 if y7=true then
 some (.stop (⟨(x1++[x2]),cA,nF,ah ((ah ((ah (x0+1))+1))+1),aK⟩:ce))
 else
 (dl a0 (ah ((ah (x0+1))+1))).bind fun y8=>
 (dJ y8 [44]).bind fun(y9:Bool)=>
 if(!y9) then
 (gD 3 a0 (ah ((ah (x0+1))+1))).bind fun y10=>
 some (.stop y10)
 else
 kc a0 a2 n (ah ((ah (x0+1))+1)) (x1++[x2])
def lm (a0:List az) (a1:Int) (a2:List (List UInt8)):Option ce:=
 (dl a0 a1).bind fun y5=>
 (dJ y5 [60]).bind fun(y7:Bool)=>
 if(!y7) then
 (gD 3 a0 a1).bind fun y0=>
 some y0
 else
 (kc a0 a2 (a0.length+64) a1 []).bind fun lr0=>Ctl.elim lr0 (fun v=>some v) fun _=>none
def kG (a0:List az) (a1:Int) (y0:ce):Nat->Int->Option (Ctl (ba) (Unit))
 | 0,_=>none
 | n+1,x0=>
 if(decide (x0 < (y0.fL.length:Int))) then
 ((idx y0.fL x0).bind fun y1=>
 if(y1.aa==1) then
 some true
 else
 (idx y0.fL x0).bind fun y2=>
 some (y2.aa==5):Option (Bool)).bind fun x1=>
 if x1=true then
 (dv 4 a0 (ah ((ah (a1+3))+(ah (2 * x0))))).bind fun y3=>
 some (.stop (⟨zGClass,zGMethod,[],[],0,y3.fF⟩:ba))
 else
 kG a0 a1 y0 n (ah (x0+1))
 else
 some (.next ())
def oq (a0:List az) (a1:Int) (a2_0:List UInt8) (a2_1:List (List UInt8)) (a2_2:List UInt8) (a2_3:List aF) (a2_6:Int) (b0:List dr) (b1:List bM):Option ba:=
 (gQ a0 (ah (a1+1))).bind fun y3=>
 if(y3.aa != 1) then
 (dv 3 a0 (ah (a1+1))).bind fun y6=>
 some (⟨zGClass,zGMethod,[],[],0,y6.fF⟩:ba)
 else
 (gQ a0 (ah (a1+1))).bind fun y0=>
 (fG a0 (ah (a1+2)) [60]).bind fun(y1:Bool)=>
 if(!y1) then
 some (⟨(⟨a2_0,a2_1,y0.bz,a2_3,b0,b1,a2_6⟩:bH),zGMethod,[],[],ah (a1+2),aK⟩:ba)
 else
 (lm a0 (ah (a1+2)) a2_1).bind fun y2=>
 if(y2.fF.bL != 0) then
 some (⟨zGClass,zGMethod,[],[],0,y2.fF⟩:ba)
 else
 (kG a0 a1 y2 ((y2.fL.length - 0:Int).toNat+1) 0).bind fun lr0=>
 Ctl.elim lr0 (fun v=>some v) fun _=>
 some (⟨(⟨a2_0,a2_1,y0.bz,y2.fL,b0,b1,a2_6⟩:bH),zGMethod,[],[],y2.aq,aK⟩:ba)
def pt (a0:ap) (ref08_Size_rec:ap->Option Int):Nat->Int->Int->Option (Int)
 | 0,_,_=>none
 | n+1,x0,x1=>
 if(decide (x1 < (a0.aC.length:Int))) then
 (idx a0.aC x1).bind fun y0=>
 (ref08_Size_rec y0).bind fun(y1:Int)=>
 pt a0 ref08_Size_rec n (ah (x0+y1)) (ah (x1+1))
 else
 some x0
def pr (a0:ap) (ref08_Size_rec:ap->Option Int):Nat->Int->Int->Option (Int)
 | 0,_,_=>none
 | n+1,x0,x1=>
 if(decide (x1 < (a0.bQ.length:Int))) then
 (idx a0.bQ x1).bind fun y0=>
 (ref08_Size_rec y0).bind fun(y1:Int)=>
 pr a0 ref08_Size_rec n (ah (x0+y1)) (ah (x1+1))
 else
 some x0
def jq : Nat->ap->Option Int
 | 0,_=>none
 | n+1,a0=>
 (pt a0 (jq n) ((a0.aC.length - 0:Int).toNat+1) 1 0).bind fun x0=>
 (pr a0 (jq n) ((a0.bQ.length - 0:Int).toNat+1) x0 0).bind fun x1=>
 some x1
def nZ (a0:bH) (x0:Int):Nat->Int->Int->Option (Int)
 | 0,_,_=>none
 | n+1,x1,x2=>
 (idx a0.am x0).bind fun y0=>
 if(decide (x2 < (y0.aC.length:Int))) then
 (idx a0.am x0).bind fun y1=>
 (idx y1.aC x2).bind fun y2=>
 (jq (cf y2+1) y2).bind fun(y3:Int)=>
 nZ a0 x0 n (ah (x1+y3)) (ah (x2+1))
 else
 some x1
def nI (a0:bH):Nat->Int->Int->Option (Int)
 | 0,_,_=>none
 | n+1,x0,x1=>
 if(decide (x1 < (a0.am.length:Int))) then
 (nZ a0 x1 (Option.getD ((idx a0.am x1).bind fun y0=>some ((y0.aC.length - 0:Int).toNat+1)) 1) x0 0).bind fun x2=>
 nI a0 n x2 (ah (x1+1))
 else
 some x0
def lj (a0:bH):Option Int:=
 (nI a0 ((a0.am.length - 0:Int).toNat+1) 0 0).bind fun x0=>
 some x0
def li (a0:List az) (a1:Int) (a2:Bool):Option Bool:=
 (dl a0 (ah (a1+1))).bind fun y5=>
 (dl a0 (ah (a1+2))).bind fun y7=>
 if(y5.aa==1) then
 if(!a2) then
 some true
 else
 if(y7.aa==1) then
 some true
 else
 (dJ y7 [60]).bind fun(y0:Bool)=>
 if y0=true then
 some true
 else
 (dJ y7 [116,104,105,115]).bind fun(y1:Bool)=>
 if y1=true then
 some true
 else
 (dJ y7 [110,117,108,108]).bind fun(y2:Bool)=>
 some y2
 else
 some false
def qD (y0:ce):Nat->cd->Int->Option (cd)
 | 0,_,_=>none
 | n+1,x0,x1=>
 if(decide (x1 < (y0.fL.length:Int))) then
 (idx y0.fL x1).bind fun y1=>
 (idx (x0.ae).l (ah (x1+1))).bind fun _=>
 qD y0 n ({ x0 with ae:=(A4.set x0.ae (ah (x1+1):Int).toNat y1) }:cd) (ah (x1+1))
 else
 some x0
def jM (a0:List az) (a1:Int) (a2:List (List UInt8)) (a3:Bool):Option ce:=
 (dl a0 a1).bind fun y3=>
 (dJ y3 [118,111,105,100]).bind fun(y7:Bool)=>
 if y7=true then
 some (⟨[],cA,nF,ah (a1+1),aK⟩:ce)
 else
 (dJ y3 [105,110,116]).bind fun(y0:Bool)=>
 if y0=true then
 some (⟨[],(⟨1,[],0,(⟨av,av,av,av⟩:A4 aF)⟩:cd),nF,ah (a1+1),aK⟩:ce)
 else
 Ctl.go (eZ (iv y3) fun(y1:aF)=>
 if(y1.aa != 0) then
 eZ (iv y3) fun(y2:aF)=>
 .next (ah (a1+1),({ ({ (⟨2,[],0,(⟨av,av,av,av⟩:A4 aF)⟩:cd) with ae:=({ (⟨2,[],0,(⟨av,av,av,av⟩:A4 aF)⟩:cd).ae with a0:=(⟨7,0⟩:aF) }:A4 aF) }:cd) with ae:=({ ({ (⟨2,[],0,(⟨av,av,av,av⟩:A4 aF)⟩:cd) with ae:=({ (⟨2,[],0,(⟨av,av,av,av⟩:A4 aF)⟩:cd).ae with a0:=(⟨7,0⟩:aF) }:A4 aF) }:cd).ae with a0:=y2 }:A4 aF) }:cd))
 else
 eZ (if(y3.aa==1) then
 (li a0 a1 a3).bind fun y4=>
 some y4
 else
 some false:Option (Bool)) fun x0=>
 if x0=true then
 eZ (jG y3 a2) fun(y5:aF)=>
 if((({ ({ (⟨2,[],0,(⟨av,av,av,av⟩:A4 aF)⟩:cd) with ae:=({ (⟨2,[],0,(⟨av,av,av,av⟩:A4 aF)⟩:cd).ae with a0:=(⟨7,0⟩:aF) }:A4 aF) }:cd) with ae:=({ ({ (⟨2,[],0,(⟨av,av,av,av⟩:A4 aF)⟩:cd) with ae:=({ (⟨2,[],0,(⟨av,av,av,av⟩:A4 aF)⟩:cd).ae with a0:=(⟨7,0⟩:aF) }:A4 aF) }:cd).ae with a0:=y5 }:A4 aF) }:cd).ae.a0.aa)==0) then
 eZ (gD 4 a0 a1) fun(y6:ce)=>
 .stop (some y6)
 else
 .next (ah (a1+1),({ ({ (⟨2,[],0,(⟨av,av,av,av⟩:A4 aF)⟩:cd) with ae:=({ (⟨2,[],0,(⟨av,av,av,av⟩:A4 aF)⟩:cd).ae with a0:=(⟨7,0⟩:aF) }:A4 aF) }:cd) with ae:=({ ({ (⟨2,[],0,(⟨av,av,av,av⟩:A4 aF)⟩:cd) with ae:=({ (⟨2,[],0,(⟨av,av,av,av⟩:A4 aF)⟩:cd).ae with a0:=(⟨7,0⟩:aF) }:A4 aF) }:cd).ae with a0:=y5 }:A4 aF) }:cd))
 else
 .next (a1,({ (⟨2,[],0,(⟨av,av,av,av⟩:A4 aF)⟩:cd) with ae:=({ (⟨2,[],0,(⟨av,av,av,av⟩:A4 aF)⟩:cd).ae with a0:=(⟨7,0⟩:aF) }:A4 aF) }:cd)):Ctl (Option ce) (Int×cd)) fun(x1,x2)=>
 (dl a0 x1).bind fun y8=>
 if(y8.aa != 1) then
 (gD 3 a0 x1).bind fun y9=>
 some y9
 else
 (dl a0 (ah (x1+1))).bind fun y10=>
 (dJ y10 [60]).bind fun(y11:Bool)=>
 if(!y11) then
 some (⟨[],({ x2 with aM:=y8.bz }:cd),nF,ah (x1+1),aK⟩:ce)
 else
 (lm a0 (ah (x1+1)) a2).bind fun y13=>
 if(y13.fF.bL != 0) then
 some y13
 else
 (qD y13 ((y13.fL.length - 0:Int).toNat+1) ({ ({ x2 with aM:=y8.bz }:cd) with fN:=(y13.fL.length:Int) }:cd) 0).bind fun x3=>
 some (⟨[],x3,nF,y13.aq,aK⟩:ce)
def pW (a0:List az) (a1:Int) (a2:List (List UInt8)):Option ce:=
 (jM a0 a1 a2 true).bind fun y3=>
 if(y3.fF.bL != 0) then
 some y3
 else
 if(y3.fT.aa==0) then
 (gD 3 a0 a1).bind fun y7=>
 some y7
 else
 (dl a0 y3.aq).bind fun y0=>
 if(y0.aa != 1) then
 (gD 3 a0 y3.aq).bind fun y1=>
 some y1
 else
 (dl a0 a1).bind fun y2=>
 some (⟨[],cA,(⟨y0.bz,y3.fT,y2.fAt⟩:dr),ah (y3.aq+1),aK⟩:ce)
def ke (a0:List az) (a2:List (List UInt8)):Nat->Int->(List dr)->Option (Ctl (ba) (Unit))
 | 0,_,_=>none
 | n+1,x0,x1=>
 if((x1.length:Int)==5) then
 (dv 6 a0 x0).bind fun y0=>
 some (.stop (⟨zGClass,zGMethod,[],[],0,y0.fF⟩:ba))
 else
 (pW a0 x0 a2).bind fun y1=>
 if(y1.fF.bL != 0) then
 some (.stop (⟨zGClass,zGMethod,[],[],0,y1.fF⟩:ba))
 else
 (dL ((x1.length:Int)+([y1.fV].length:Int)) 120).bind fun _=>
 (fG a0 y1.aq [41]).bind fun(y2:Bool)=>
 if y2=true then
 some (.stop (⟨zGClass,zGMethod,(x1++[y1.fV]),[],ah (y1.aq+1),aK⟩:ba))
 else
 (fG a0 y1.aq [44]).bind fun(y3:Bool)=>
 if(!y3) then
 (dv 3 a0 y1.aq).bind fun y4=>
 some (.stop (⟨zGClass,zGMethod,[],[],0,y4.fF⟩:ba))
 else
 ke a0 a2 n (ah (y1.aq+1)) (x1++[y1.fV])
def mO (a0:List az) (a1:Int) (a2:List (List UInt8)):Option ba:=
 (fG a0 (ah (a1+1)) [41]).bind fun(y3:Bool)=>
 if y3=true then
 some (⟨zGClass,zGMethod,[],[],ah ((ah (a1+1))+1),aK⟩:ba)
 else
 (ke a0 a2 (a0.length+64) (ah (a1+1)) []).bind fun lr0=>Ctl.elim lr0 (fun v=>some v) fun _=>none
def mJ (a0:List az) (a1:Int):Option Bool:=
 (dl a0 a1).bind fun y3=>
 ((dJ y3 [105,110,116]).bind fun(y7:Bool)=>
 if y7=true then
 some true
 else
 (iv y3).bind fun y0=>
 some (y0.aa != 0):Option (Bool)).bind fun x0=>
 if x0=true then
 some true
 else
 if(y3.aa != 1) then
 some false
 else
 (dl a0 (ah (a1+1))).bind fun y1=>
 if(y1.aa==1) then
 some true
 else
 (dJ y1 [60]).bind fun(y2:Bool)=>
 some y2
def jd (a0:List az) (a2:List (List UInt8)):Nat->Int->(List dr)->Option (Ctl (ba) (Int×(List dr)))
 | 0,_,_=>none
 | n+1,x0,x1=>
 (mJ a0 x0).bind fun y0=>
 if y0=true then
 if((x1.length:Int)==12) then
 (dv 6 a0 x0).bind fun y1=>
 some (.stop (⟨zGClass,zGMethod,[],[],0,y1.fF⟩:ba))
 else
 (pW a0 x0 a2).bind fun y2=>
 if(y2.fF.bL != 0) then
 some (.stop (⟨zGClass,zGMethod,[],[],0,y2.fF⟩:ba))
 else
 (fG a0 y2.aq [59]).bind fun(y3:Bool)=>
 if(!y3) then
 (dv 3 a0 y2.aq).bind fun y4=>
 some (.stop (⟨zGClass,zGMethod,[],[],0,y4.fF⟩:ba))
 else
 (dL ((x1.length:Int)+([y2.fV].length:Int)) 120).bind fun _=>
 jd a0 a2 n (ah (y2.aq+1)) (x1++[y2.fV])
 else
 some (.next (x0,x1))
def na (a0:List az) (a1:Int) (a2:List (List UInt8)):Option ba:=
 (jd a0 a2 (a0.length+64) a1 []).bind fun lr0=>
 Ctl.elim lr0 (fun v=>some v) fun(x0,x1)=>
 some (⟨zGClass,zGMethod,x1,[],x0,aK⟩:ba)
def ew (a0:List az) (a1:Int):Option az:=
 (dl a0 a1).bind fun y1=>
 some y1
def dR (a0:Int) (a1:List az) (a2:Int):Option bn:=
 (ew a1 a2).bind fun y1=>
 some (⟨iM,[],[],0,(⟨a0,y1.fAt⟩:dV)⟩:bn)
def du (a0:List az) (a1:Int) (a2:List UInt8):Option Bool:=
 (ew a0 a1).bind fun y1=>
 (dJ y1 a2).bind fun y3=>
 some y3
def mI (a0:List az) (a1:Int):Option Bool:=
 (ew a0 a1).bind fun y1=>
 if(y1.aa==1) then
 some true
 else
 (du a0 a1 [116,104,105,115]).bind fun(y4:Bool)=>
 some y4
def nV (a0:Int):Option (List (List UInt8)):=
 (idx [[[38,38]],[[60],[61,61]],[[43],[45]],[[42]]] a0).bind fun(y1:List (List UInt8))=>
 some y1
def fQ (a0:List az) (a1:Int) (y3:(List (List UInt8))):Nat->Int->Option (Ctl ((List UInt8)) (Unit))
 | 0,_=>none
 | n+1,x0=>
 if(decide (x0 < (y3.length:Int))) then
 (dl a0 a1).bind fun y0=>
 (idx y3 x0).bind fun y1=>
 (dJ y0 y1).bind fun y2=>
 if y2=true then
 (idx y3 x0).bind fun y4=>
 some (.stop y4)
 else
 fQ a0 a1 y3 n (ah (x0+1))
 else
 some (.next ())
def lH (a0:List az) (a1:Int) (a2:Int):Option (List UInt8):=
 (nV a2).bind fun y3=>
 (fQ a0 a1 y3 ((y3.length - 0:Int).toNat+1) 0).bind fun lr0=>
 Ctl.elim lr0 (fun v=>some v) fun _=>
 some []
def ve (a0:List UInt8):Nat->Int->Option (Ctl (Int) (Unit))
 | 0,_=>none
 | n+1,x7=>
 if(decide (x7 < ([[43],[45],[42],[60],[61,61],[38,38]].length:Int))) then
 (idx [[43],[45],[42],[60],[61,61],[38,38]] x7).bind fun(y0:List UInt8)=>
 if(y0==a0) then
 some (.stop (ah (6+x7)))
 else
 ve a0 n (ah (x7+1))
 else
 some (.next ())
def uh (a0:List UInt8):Option Int:=
 (ve a0 (((([[43],[45],[42],[60],[61,61],[38,38]].length:Int):Int) - (0)).toNat+1) 0).bind fun lr0=>
 Ctl.elim lr0 (fun v=>some v) fun _=>
 some 0
def ni (a0:au) (ref06_Deep_rec:au->Option Int):Nat->Int->Int->Option (Int)
 | 0,_,_=>none
 | n+1,x0,x1=>
 if(decide (x1 < (a0.aY.length:Int))) then
 (idx a0.aY x1).bind fun y0=>
 (ref06_Deep_rec y0).bind fun(y1:Int)=>
 ni a0 ref06_Deep_rec n (if y1 > x0 then y1 else x0) (ah (x1+1))
 else
 some x0
def jp : Nat->au->Option Int
 | 0,_=>none
 | n+1,a0=>
 (ni a0 (jp n) ((a0.aY.length - 0:Int).toNat+1) 0 0).bind fun x0=>
 some (ah (x0+1))
def lz (a0:Int) (a1:List az) (a2:Int):Option aV:=
 (dl a1 a2).bind fun y1=>
 some (⟨bT,0,(⟨a0,y1.fAt⟩:dV)⟩:aV)
def ky (a0:List az) (a1:aV) (a2:List UInt8):Option aV:=
 if(a1.fF.bL != 0) then
 some a1
 else
 (dl a0 a1.aq).bind fun y6=>
 (dJ y6 a2).bind fun y8=>
 if(!y8) then
 (lz 3 a0 a1.aq).bind fun y0=>
 some y0
 else
 some ({ a1 with aq:=ah (a1.aq+1) }:aV)
def iI (a0:List az) (a1:Int) (a2:Bool):Option aV:=
 (dl a0 a1).bind fun y3=>
 if(y3.aa==1) then
 some (⟨(⟨2,0,y3.bz,[]⟩:au),ah (a1+1),aK⟩:aV)
 else
 (dJ y3 [116,104,105,115]).bind fun(y8:Bool)=>
 if y8=true then
 some (⟨(⟨3,0,[],[]⟩:au),ah (a1+1),aK⟩:aV)
 else
 (if a2=true then
 (dJ y3 [110,117,108,108]).bind fun(y0:Bool)=>
 some y0
 else
 some false:Option (Bool)).bind fun x0=>
 if x0=true then
 some (⟨(⟨4,0,[],[]⟩:au),ah (a1+1),aK⟩:aV)
 else
 (lz 3 a0 a1).bind fun y1=>
 some y1
def lv (a0:List az) (a1:Int):Option aV:=
 (dl a0 a1).bind fun y5=>
 (dJ y5 [115,97,109,101]).bind fun(y7:Bool)=>
 (ky a0 (⟨bT,ah (a1+1),aK⟩:aV) [40]).bind fun(y0:aV)=>
 if(y0.fF.bL != 0) then
 some y0
 else
 (iI a0 y0.aq y7).bind fun y1=>
 if(y1.fF.bL != 0) then
 some y1
 else
 Ctl.go (if y7=true then
 eZ (ky a0 y1 [44]) fun(y2:aV)=>
 if(y2.fF.bL != 0) then
 .stop (some y2)
 else
 eZ (iI a0 y2.aq true) fun(y3:aV)=>
 if(y3.fF.bL != 0) then
 .stop (some y3)
 else
 .next (y3,(⟨14,0,[],[y1.fE,y3.fE]⟩:au))
 else
 .next (y1,(⟨13,0,[],[y1.fE]⟩:au)):Ctl (Option aV) (aV×au)) fun(x0,x1)=>
 (ky a0 x0 [41]).bind fun(y4:aV)=>
 if((({ y4 with fE:=x1 }:aV).fF.bL) != 0) then
 some ({ ({ y4 with fE:=x1 }:aV) with fE:=({ aa:=0,dp:=0,ai:=[],aY:=[] }:au) }:aV)
 else
 some ({ y4 with fE:=x1 }:aV)
def eF (a0:List az) (a2:Int) (a3:Int) (ref06_chain_rec:(List az)->Int->Int->Int->Option aV):Nat->aV->Option (Ctl (aV) (aV))
 | 0,_=>none
 | n+1,x0=>
 (if(x0.fF.bL==0) then
 (lH a0 x0.aq a2).bind fun y0=>
 some (!(y0==[]))
 else
 some false:Option (Bool)).bind fun x1=>
 if x1=true then
 (ref06_chain_rec a0 (ah (x0.aq+1)) (ah (a2+1)) a3).bind fun y1=>
 if(y1.fF.bL != 0) then
 some (.stop y1)
 else
 (lH a0 x0.aq a2).bind fun y2=>
 (uh y2).bind fun(y3:Int)=>
 (jp (bR (⟨y3,0,[],[x0.fE,y1.fE]⟩:au)+1) (⟨y3,0,[],[x0.fE,y1.fE]⟩:au)).bind fun(y4:Int)=>
 if(decide (y4 > 20)) then
 (lz 5 a0 x0.aq).bind fun y5=>
 some (.stop y5)
 else
 if(a2==1) then
 some (.stop (⟨(⟨y3,0,[],[x0.fE,y1.fE]⟩:au),y1.aq,aK⟩:aV))
 else
 eF a0 a2 a3 ref06_chain_rec n (⟨(⟨y3,0,[],[x0.fE,y1.fE]⟩:au),y1.aq,aK⟩:aV)
 else
 some (.next x0)
mutual
def dq : Nat->(List az)->Int->Int->Int->Option aV
 | 0,_,_,_,_=>none
 | n+1,a0,a1,a2,a3=>
 if(a2==4) then
 ((ia n) a0 a1 a3).bind fun y2=>
 some y2
 else
 ((dq n) a0 a1 (ah (a2+1)) a3).bind fun y6=>
 (eF a0 a2 a3 (dq n) (a0.length+64) y6).bind fun lr0=>
 Ctl.elim lr0 (fun v=>some v) fun x0=>
 some x0
def ia : Nat->(List az)->Int->Int->Option aV
 | 0,_,_,_=>none
 | n+1,a0,a1,a2=>
 (dl a0 a1).bind fun y3=>
 ((dJ y3 [40]).bind fun(y7:Bool)=>
 if y7=true then
 some (a2==20)
 else
 (dJ y3 [33]).bind fun(y0:Bool)=>
 if y0=true then
 some (a2==20)
 else
 some false:Option (Bool)).bind fun x0=>
 if x0=true then
 (lz 5 a0 a1).bind fun y1=>
 some y1
 else
 (dJ y3 [40]).bind fun(y2:Bool)=>
 if y2=true then
 ((dq n) a0 (ah (a1+1)) 0 (ah (a2+1))).bind fun y4=>
 (ky a0 y4 [41]).bind fun(y5:aV)=>
 some y5
 else
 (dJ y3 [33]).bind fun(y6:Bool)=>
 if y6=true then
 ((ia n) a0 (ah (a1+1)) (ah (a2+1))).bind fun y8=>
 if(y8.fF.bL != 0) then
 some y8
 else
 (jp (bR (({ y8 with fE:=({ aa:=12,dp:=0,ai:=[],aY:=[y8.fE] }:au) }:aV).fE)+1) (({ y8 with fE:=({ aa:=12,dp:=0,ai:=[],aY:=[y8.fE] }:au) }:aV).fE)).bind fun(y9:Int)=>
 if(decide (y9 > 20)) then
 (lz 5 a0 a1).bind fun y11=>
 some y11
 else
 some ({ y8 with fE:=({ aa:=12,dp:=0,ai:=[],aY:=[y8.fE] }:au) }:aV)
 else
 ((dJ y3 [110,105,108]).bind fun(y12:Bool)=>
 if y12=true then
 some true
 else
 (dJ y3 [115,97,109,101]).bind fun(y13:Bool)=>
 some y13:Option (Bool)).bind fun x1=>
 if x1=true then
 (lv a0 a1).bind fun y14=>
 some y14
 else
 (dJ y3 [105,110,112,117,116]).bind fun(y15:Bool)=>
 if y15=true then
 some (⟨(⟨5,0,[],[]⟩:au),ah (a1+1),aK⟩:aV)
 else
 (oW y3.bz).bind fun y16=>
 (if(y3.aa==2) then
 some y16.2
 else
 some false:Option (Bool)).bind fun x2=>
 if x2=true then
 some (⟨(⟨1,y16.1,[],[]⟩:au),ah (a1+1),aK⟩:aV)
 else
 (iI a0 a1 true).bind fun y18=>
 some y18
end

def jQ (a0:List az) (a1:Int):Option aV:=
 (dq 200 a0 a1 0 0).bind fun y3=>
 if(y3.fF.bL != 0) then
 some (⟨bT,0,y3.fF⟩:aV)
 else
 some y3
def ma (a0:List az):Nat->Int->(List au)->Option (Ctl (bn) (Unit))
 | 0,_,_=>none
 | n+1,x0,x1=>
 if((x1.length:Int)==5) then
 (dR 6 a0 x0).bind fun y0=>
 some (.stop y0)
 else
 (jQ a0 x0).bind fun y1=>
 if(y1.fF.bL != 0) then
 some (.stop (⟨iM,[],[],0,y1.fF⟩:bn))
 else
 (dL ((x1.length:Int)+([y1.fE].length:Int)) 56).bind fun _=>
 (du a0 y1.aq [41]).bind fun(y2:Bool)=>
 if y2=true then
 some (.stop (⟨iM,[],(x1++[y1.fE]),ah (y1.aq+1),aK⟩:bn))
 else
 (du a0 y1.aq [44]).bind fun(y3:Bool)=>
 if(!y3) then
 (dR 3 a0 y1.aq).bind fun y4=>
 some (.stop y4)
 else
 ma a0 n (ah (y1.aq+1)) (x1++[y1.fE])
def pD (a0:List az) (a1:Int):Option bn:=
 (du a0 (ah (a1+1)) [41]).bind fun(y3:Bool)=>
 if y3=true then
 some (⟨iM,[],[],ah ((ah (a1+1))+1),aK⟩:bn)
 else
 (ma a0 (a0.length+64) (ah (a1+1)) []).bind fun lr0=>Ctl.elim lr0 (fun v=>some v) fun _=>none
def gY (a0:List az) (a1:Int) (a2:ap):Option bn:=
 (du a0 a1 [59]).bind fun(y3:Bool)=>
 if(!y3) then
 (dR 3 a0 a1).bind fun y6=>
 some y6
 else
 some (⟨a2,[],[],ah (a1+1),aK⟩:bn)
def ib (a0:List az) (a1:Int) (a2:ap):Option bn:=
 (ew a0 a1).bind fun y3=>
 (ew a0 (ah (a1+2))).bind fun y7=>
 if(y7.aa != 1) then
 (dR 3 a0 (ah (a1+2))).bind fun y0=>
 some y0
 else
 (ew a0 (ah (a1+2))).bind fun y1=>
 (du a0 (ah (a1+3)) [40]).bind fun(y2:Bool)=>
 if y2=true then
 (pD a0 (ah (a1+3))).bind fun y4=>
 if(y4.fF.bL != 0) then
 some y4
 else
 (gY a0 y4.aq ({ ({ ({ ({ a2 with fY:=y3.bz }:ap) with ai:=y1.bz }:ap) with aa:=4 }:ap) with cO:=y4.fA }:ap)).bind fun y5=>
 some y5
 else
 if(!((({ ({ a2 with fY:=y3.bz }:ap) with ai:=y1.bz }:ap).fX)==[])) then
 (gY a0 (ah (a1+3)) ({ ({ ({ a2 with fY:=y3.bz }:ap) with ai:=y1.bz }:ap) with aa:=2 }:ap)).bind fun y6=>
 some y6
 else
 (du a0 (ah (a1+3)) [61]).bind fun(y8:Bool)=>
 if(!y8) then
 (dR 3 a0 (ah (a1+3))).bind fun y9=>
 some y9
 else
 (jQ a0 (ah (a1+4))).bind fun y11=>
 if(y11.fF.bL != 0) then
 some (⟨iM,[],[],0,y11.fF⟩:bn)
 else
 (gY a0 y11.aq ({ ({ ({ ({ a2 with fY:=y3.bz }:ap) with ai:=y1.bz }:ap) with aa:=3 }:ap) with fE:=y11.fE }:ap)).bind fun y12=>
 some y12
def kr (a0:List az) (a1:Int) (a2:ap) (a3:List (List UInt8)):Option bn:=
 ((du a0 a1 [99,97,115,116]).bind fun(y3:Bool)=>
 if y3=true then
 some ({ ({ a2 with aa:=5 }:ap) with aa:=6 }:ap)
 else
 some ({ a2 with aa:=5 }:ap):Option (ap)).bind fun x6=>
 (jM a0 (ah (a1+1)) a3 (x6.aa==6)).bind fun y0=>
 if(y0.fF.bL != 0) then
 some (⟨iM,[],[],0,y0.fF⟩:bn)
 else
 if(y0.fT.aa != 2) then
 (dR 3 a0 (ah (a1+1))).bind fun y1=>
 some y1
 else
 if((({ x6 with aJ:=y0.fT }:ap).aa)==5) then
 (gY a0 y0.aq ({ x6 with aJ:=y0.fT }:ap)).bind fun y2=>
 some y2
 else
 (ew a0 y0.aq).bind fun y4=>
 Ctl.go (if(y4.aa==1) then
 .next ({ ({ x6 with aJ:=y0.fT }:ap) with fE:=({ aa:=2,dp:=0,ai:=y4.bz,aY:=[] }:au) }:ap)
 else
 eZ (du a0 y0.aq [116,104,105,115]) fun(y5:Bool)=>
 if y5=true then
 .next ({ ({ x6 with aJ:=y0.fT }:ap) with fE:=({ aa:=3,dp:=0,ai:=[],aY:=[] }:au) }:ap)
 else
 eZ (du a0 y0.aq [110,117,108,108]) fun(y6:Bool)=>
 if y6=true then
 .next ({ ({ x6 with aJ:=y0.fT }:ap) with fE:=({ aa:=4,dp:=0,ai:=[],aY:=[] }:au) }:ap)
 else
 eZ (dR 3 a0 y0.aq) fun(y7:bn)=>
 .stop (some y7):Ctl (Option bn) (ap)) fun x0=>
 (gY a0 (ah (y0.aq+1)) x0).bind fun y8=>
 some y8
def iR (a0:List az) (a1:Int) (a2:ap) (a3:List (List UInt8)):Option bn:=
 ((du a0 a1 [110,101,119]).bind fun(y3:Bool)=>
 if y3=true then
 some true
 else
 (du a0 a1 [99,97,115,116]).bind fun(y6:Bool)=>
 some y6:Option (Bool)).bind fun x8=>
 if x8=true then
 (kr a0 a1 a2 a3).bind fun y0=>
 some y0
 else
 (du a0 a1 [109,111,118,101]).bind fun(y1:Bool)=>
 if y1=true then
 (ew a0 (ah (a1+1))).bind fun y2=>
 if(y2.aa != 1) then
 (dR 3 a0 (ah (a1+1))).bind fun y4=>
 some y4
 else
 (ew a0 (ah (a1+1))).bind fun y5=>
 (gY a0 (ah (a1+2)) ({ ({ a2 with aa:=7 }:ap) with fY:=y5.bz }:ap)).bind fun y7=>
 some y7
 else
 ((mI a0 a1).bind fun y8=>
 if y8=true then
 (du a0 (ah (a1+1)) [46]).bind fun(y9:Bool)=>
 some y9
 else
 some false:Option (Bool)).bind fun x0=>
 if x0=true then
 (ib a0 a1 a2).bind fun y10=>
 some y10
 else
 (jQ a0 a1).bind fun y11=>
 if(y11.fF.bL != 0) then
 some (⟨iM,[],[],0,y11.fF⟩:bn)
 else
 (gY a0 y11.aq ({ ({ a2 with aa:=1 }:ap) with fE:=y11.fE }:ap)).bind fun y13=>
 some y13
def jK (a0:List az) (a2:List (List UInt8)) (a3:Int) (ref08_Parse_rec:(List az)->Int->(List (List UInt8))->Int->Option bn):Nat->Int->(List ap)->Option (Ctl (bn) (Int×(List ap)))
 | 0,_,_=>none
 | n+1,x0,x1=>
 (du a0 x0 [125]).bind fun(y0:Bool)=>
 if(!y0) then
 (ref08_Parse_rec a0 x0 a2 a3).bind fun y1=>
 if(y1.fF.bL != 0) then
 some (.stop y1)
 else
 (dL ((x1.length:Int)+([y1.fS].length:Int)) 288).bind fun _=>
 jK a0 a2 a3 ref08_Parse_rec n y1.aq (x1++[y1.fS])
 else
 some (.next (x0,x1))
mutual
def dI : Nat->(List az)->Int->(List (List UInt8))->Int->Option bn
 | 0,_,_,_,_=>none
 | n+1,a0,a1,a2,a3=>
 (ew a0 a1).bind fun y3=>
 if(decide (a3 >= 20)) then
 (dR 5 a0 a1).bind fun y6=>
 some y6
 else
 ((mI a0 a1).bind fun y0=>
 if y0=true then
 (du a0 (ah (a1+1)) [46]).bind fun(y1:Bool)=>
 some y1
 else
 some false:Option (Bool)).bind fun x0=>
 if x0=true then
 (ib a0 a1 (⟨0,[],[],[],cA,bT,[],[],[],y3.fAt⟩:ap)).bind fun y2=>
 some y2
 else
 (ew a0 a1).bind fun y4=>
 if(y4.aa==1) then
 (du a0 (ah (a1+1)) [61]).bind fun(y5:Bool)=>
 if(!y5) then
 (dR 3 a0 (ah (a1+1))).bind fun y7=>
 some y7
 else
 (ew a0 a1).bind fun y8=>
 (iR a0 (ah (a1+2)) ({ ({ aa:=0,fX:=[],fY:=[],ai:=[],aJ:=cA,fE:=bT,cO:=[],aC:=[],bQ:=[],fAt:=y3.fAt }:ap) with fX:=y8.bz }:ap) a2).bind fun y9=>
 some y9
 else
 (du a0 a1 [116,104,105,115]).bind fun(y11:Bool)=>
 if y11=true then
 (dR 3 a0 (ah (a1+1))).bind fun y12=>
 some y12
 else
 (du a0 a1 [100,101,108,101,116,101]).bind fun(y14:Bool)=>
 if y14=true then
 (ew a0 (ah (a1+1))).bind fun y15=>
 if(y15.aa != 1) then
 (dR 3 a0 (ah (a1+1))).bind fun y16=>
 some y16
 else
 (ew a0 (ah (a1+1))).bind fun y17=>
 (gY a0 (ah (a1+2)) ({ ({ ({ aa:=0,fX:=[],fY:=[],ai:=[],aJ:=cA,fE:=bT,cO:=[],aC:=[],bQ:=[],fAt:=y3.fAt }:ap) with aa:=8 }:ap) with fY:=y17.bz }:ap)).bind fun y18=>
 some y18
 else
 ((du a0 a1 [105,102]).bind fun(y20:Bool)=>
 if y20=true then
 some true
 else
 (du a0 a1 [119,104,105,108,101]).bind fun(y21:Bool)=>
 some y21:Option (Bool)).bind fun x1=>
 if x1=true then
 ((kI n) a0 a1 (⟨0,[],[],[],cA,bT,[],[],[],y3.fAt⟩:ap) a2 (if 0 > a3 then 0 else a3)).bind fun y22=>
 some y22
 else
 (du a0 a1 [114,101,116,117,114,110]).bind fun(y24:Bool)=>
 if(!y24) then
 (dR 3 a0 a1).bind fun y25=>
 some y25
 else
 (du a0 (ah (a1+1)) [59]).bind fun(y26:Bool)=>
 if y26=true then
 some ({ fS:=({ ({ aa:=0,fX:=[],fY:=[],ai:=[],aJ:=cA,fE:=bT,cO:=[],aC:=[],bQ:=[],fAt:=y3.fAt }:ap) with aa:=11 }:ap),fL:=[],fA:=[],aq:=ah (a1+2),fF:=aK }:bn)
 else
 (jQ a0 (ah (a1+1))).bind fun y27=>
 if(y27.fF.bL != 0) then
 some (⟨iM,[],[],0,y27.fF⟩:bn)
 else
 (gY a0 y27.aq ({ ({ ({ aa:=0,fX:=[],fY:=[],ai:=[],aJ:=cA,fE:=bT,cO:=[],aC:=[],bQ:=[],fAt:=y3.fAt }:ap) with aa:=11 }:ap) with fE:=y27.fE }:ap)).bind fun y29=>
 some y29
def kI : Nat->(List az)->Int->ap->(List (List UInt8))->Int->Option bn
 | 0,_,_,_,_,_=>none
 | n+1,a0,a1,a2,a3,a4=>
 ((du a0 a1 [119,104,105,108,101]).bind fun(y3:Bool)=>
 if y3=true then
 some ({ ({ a2 with aa:=9 }:ap) with aa:=10 }:ap)
 else
 some ({ a2 with aa:=9 }:ap):Option (ap)).bind fun x6=>
 (du a0 (ah (a1+1)) [40]).bind fun(y0:Bool)=>
 if(!y0) then
 (dR 3 a0 (ah (a1+1))).bind fun y1=>
 some y1
 else
 (jQ a0 (ah (a1+2))).bind fun y2=>
 if(y2.fF.bL != 0) then
 some (⟨iM,[],[],0,y2.fF⟩:bn)
 else
 (du a0 y2.aq [41]).bind fun(y4:Bool)=>
 if(!y4) then
 (dR 3 a0 y2.aq).bind fun y5=>
 some y5
 else
 ((je n) a0 (ah (y2.aq+1)) a3 (ah (a4+1))).bind fun y6=>
 if(y6.fF.bL != 0) then
 some y6
 else
 (if((({ ({ x6 with fE:=y2.fE }:ap) with aC:=y6.fL }:ap).aa)==9) then
 (du a0 y6.aq [101,108,115,101]).bind fun(y7:Bool)=>
 some y7
 else
 some false:Option (Bool)).bind fun x0=>
 if x0=true then
 ((je n) a0 (ah (y6.aq+1)) a3 (ah (a4+1))).bind fun y8=>
 if(y8.fF.bL != 0) then
 some y8
 else
 some ({ fS:=({ ({ ({ x6 with fE:=y2.fE }:ap) with aC:=y6.fL }:ap) with bQ:=y8.fL }:ap),fL:=[],fA:=[],aq:=y8.aq,fF:=aK }:bn)
 else
 some ({ fS:=({ ({ x6 with fE:=y2.fE }:ap) with aC:=y6.fL }:ap),fL:=[],fA:=[],aq:=y6.aq,fF:=aK }:bn)
def je : Nat->(List az)->Int->(List (List UInt8))->Int->Option bn
 | 0,_,_,_,_=>none
 | n+1,a0,a1,a2,a3=>
 (du a0 a1 [123]).bind fun(y3:Bool)=>
 if(!y3) then
 (dR 3 a0 a1).bind fun y6=>
 some y6
 else
 (jK a0 a2 a3 (dI n) (a0.length+64) (ah (a1+1)) []).bind fun lr0=>
 Ctl.elim lr0 (fun v=>some v) fun(x0,x1)=>
 some (⟨iM,x1,[],ah (x0+1),aK⟩:bn)
end


def jc (a0:List az) (a2:List (List UInt8)):Nat->Int->Int->(List ap)->Option (Ctl (ba) (Int×(List ap)))
 | 0,_,_,_=>none
 | n+1,x0,x1,x2=>
 (fG a0 x0 [125]).bind fun(y0:Bool)=>
 if(!y0) then
 (dI 80 a0 x0 a2 0).bind fun y1=>
 if(y1.fF.bL != 0) then
 some (.stop (⟨zGClass,zGMethod,[],[],0,y1.fF⟩:ba))
 else
 (jq (cf y1.fS+1) y1.fS).bind fun(y2:Int)=>
 if(decide ((ah (x1+y2)) > 400)) then
 (dv 6 a0 x0).bind fun y3=>
 some (.stop (⟨zGClass,zGMethod,[],[],0,y3.fF⟩:ba))
 else
 (dL ((x2.length:Int)+([y1.fS].length:Int)) 288).bind fun _=>
 jc a0 a2 n y1.aq (ah (x1+y2)) (x2++[y1.fS])
 else
 some (.next (x0,x2))
def mW (a0:List az) (a1:Int) (a2:List (List UInt8)) (a3_0:List UInt8) (a3_1:Bool) (a3_2:Int) (a3_3:List UInt8) (a3_4:Int) (a3_5:Int) (a3_6:Int) (a3_7:Int) (a3_8:Int) (a3_9:Int) (a3_10:Int) (a3_11:Int) (a3_12:Int) (a3_13:List dr) (a3_14:List dr) (a3_16:Int) (a4:Int) (b0:List ap):Option ba:=
 (mO a0 a1 a2).bind fun y3=>
 if(y3.fF.bL != 0) then
 some (⟨zGClass,zGMethod,y3.fV,[],y3.aq,y3.fF⟩:ba)
 else
 (fG a0 y3.aq [123]).bind fun(y8:Bool)=>
 if(!y8) then
 (dv 3 a0 y3.aq).bind fun y0=>
 some (⟨zGClass,zGMethod,[],[],0,y0.fF⟩:ba)
 else
 (na a0 (ah (y3.aq+1)) a2).bind fun y1=>
 if(y1.fF.bL != 0) then
 some (⟨zGClass,zGMethod,y1.fV,[],y1.aq,y1.fF⟩:ba)
 else
 (jc a0 a2 (a0.length+64) y1.aq a4 b0).bind fun lr0=>
 Ctl.elim lr0 (fun v=>some v) fun(x0,x1)=>
 some (⟨zGClass,(⟨a3_0,a3_1,(⟨a3_2,a3_3,a3_4,(⟨(⟨a3_5,a3_6⟩:aF),(⟨a3_7,a3_8⟩:aF),(⟨a3_9,a3_10⟩:aF),(⟨a3_11,a3_12⟩:aF)⟩:A4 aF)⟩:cd),y3.fV,y1.fV,x1,a3_16⟩:bM),[],[],ah (x0+1),aK⟩:ba)
def kq (a0:List az) (a1:Int) (a2_0:List UInt8) (a2_1:List (List UInt8)) (a2_2:List UInt8) (a2_3:List aF) (a2_6:Int) (a3:Int) (b0:List dr) (b1:List bM):Option ba:=
 (gQ a0 a1).bind fun y3=>
 (fG a0 a1 [112,117,114,101]).bind fun(y7:Bool)=>
 (if y7=true then
 some (ah (a1+1))
 else
 some a1:Option (Int)).bind fun x0=>
 (jM a0 x0 a2_1 true).bind fun y0=>
 if(y0.fF.bL != 0) then
 some (⟨zGClass,zGMethod,[],[],0,y0.fF⟩:ba)
 else
 (gQ a0 y0.aq).bind fun y1=>
 if(y1.aa != 1) then
 (dv 3 a0 y0.aq).bind fun y2=>
 some (⟨zGClass,zGMethod,[],[],0,y2.fF⟩:ba)
 else
 (fG a0 (ah (y0.aq+1)) [40]).bind fun(y4:Bool)=>
 if y4=true then
 if((b1.length:Int)==12) then
 (dv 6 a0 (ah (y0.aq+1))).bind fun y5=>
 some (⟨zGClass,zGMethod,[],[],0,y5.fF⟩:ba)
 else
 (mW a0 (ah (y0.aq+1)) a2_1 y1.bz y7 y0.fT.aa y0.fT.aM y0.fT.fN y0.fT.ae.a0.aa y0.fT.ae.a0.fN y0.fT.ae.a1.aa y0.fT.ae.a1.fN y0.fT.ae.a2.aa y0.fT.ae.a2.fN y0.fT.ae.a3.aa y0.fT.ae.a3.fN zGMethod.ac zGMethod.aP y3.fAt a3 []).bind fun y6=>
 if(y6.fF.bL != 0) then
 some y6
 else
 (dL ((b1.length:Int)+([y6.fM].length:Int)) 200).bind fun _=>
 some (⟨(⟨a2_0,a2_1,a2_2,a2_3,b0,(b1++[y6.fM]),a2_6⟩:bH),zGMethod,[],[],y6.aq,aK⟩:ba)
 else
 ((fG a0 (ah (y0.aq+1)) [59]).bind fun(y8:Bool)=>
 if(!y8) then
 some true
 else
 if y7=true then
 some true
 else
 some (y0.fT.aa==0):Option (Bool)).bind fun x1=>
 if x1=true then
 (dv 3 a0 (ah (y0.aq+1))).bind fun y9=>
 some (⟨zGClass,zGMethod,[],[],0,y9.fF⟩:ba)
 else
 if((b0.length:Int)==12) then
 (dv 6 a0 (ah (y0.aq+1))).bind fun y10=>
 some (⟨zGClass,zGMethod,[],[],0,y10.fF⟩:ba)
 else
 (dL ((b0.length:Int)+([(⟨y1.bz,y0.fT,y3.fAt⟩:dr)].length:Int)) 120).bind fun _=>
 some (⟨(⟨a2_0,a2_1,a2_2,a2_3,(b0++[(⟨y1.bz,y0.fT,y3.fAt⟩:dr)]),b1,a2_6⟩:bH),zGMethod,[],[],ah ((ah (y0.aq+1))+1),aK⟩:ba)
def gI (a0:List az) (a2:Int):Nat->Int->(List UInt8)->(List (List UInt8))->(List UInt8)->(List aF)->(List dr)->(List bM)->Int->Option (Ctl (ba) (Int×(List UInt8)×(List (List UInt8))×(List UInt8)×(List aF)×(List dr)×(List bM)×Int))
 | 0,_,_,_,_,_,_,_,_=>none
 | n+1,x0,x1,x2,x3,x4,x5,x6,x7=>
 (fG a0 x0 [125]).bind fun(y0:Bool)=>
 if(!y0) then
 (lj (⟨x1,x2,x3,x4,x5,x6,x7⟩:bH)).bind fun(y1:Int)=>
 (kq a0 x0 x1 x2 x3 x4 x7 (ah (a2+y1)) x5 x6).bind fun y2=>
 if(y2.fF.bL != 0) then
 some (.stop y2)
 else
 gI a0 a2 n y2.aq y2.fC.ai y2.fC.ac y2.fC.aU y2.fC.aH y2.fC.aZ y2.fC.am y2.fC.fAt
 else
 some (.next (x0,x1,x2,x3,x4,x5,x6,x7))
def oy (a0:List az) (a1:Int) (a2:Int):Option ba:=
 (gQ a0 a1).bind fun y3=>
 (gQ a0 (ah (a1+1))).bind fun y7=>
 if(y7.aa != 1) then
 (dv 3 a0 (ah (a1+1))).bind fun y0=>
 some y0
 else
 (gQ a0 (ah (a1+1))).bind fun y1=>
 Ctl.go (eZ (fG a0 (ah (a1+2)) [60]) fun(y2:Bool)=>
 if y2=true then
 eZ (mE a0 (ah (a1+2))) fun(y4:ba)=>
 if(y4.fF.bL != 0) then
 .stop (some y4)
 else
 .next (y4.aq,y4.fN)
 else
 .next (ah (a1+2),zGClass.ac):Ctl (Option ba) (Int×(List (List UInt8)))) fun(x0,x1)=>
 Ctl.go (eZ (fG a0 x0 [101,120,116,101,110,100,115]) fun(y5:Bool)=>
 if y5=true then
 eZ (oq a0 x0 y1.bz x1 zGClass.aU zGClass.aH y3.fAt [] []) fun(y6:ba)=>
 if(y6.fF.bL != 0) then
 .stop (some y6)
 else
 .next (y6.aq,y6.fC.ai,y6.fC.ac,y6.fC.aU,y6.fC.aH,y6.fC.aZ,y6.fC.am,y6.fC.fAt)
 else
 .next (x0,y1.bz,x1,zGClass.aU,zGClass.aH,[],[],y3.fAt):Ctl (Option ba) (Int×(List UInt8)×(List (List UInt8))×(List UInt8)×(List aF)×(List dr)×(List bM)×Int)) fun(x2,x3,x4,x5,x6,x7,x8,x9)=>
 (fG a0 x2 [123]).bind fun(y8:Bool)=>
 if(!y8) then
 (dv 3 a0 x2).bind fun y9=>
 some y9
 else
 (gI a0 a2 (a0.length+64) (ah (x2+1)) x3 x4 x5 x6 x7 x8 x9).bind fun lr0=>
 Ctl.elim lr0 (fun v=>some v) fun(x10,x11,x12,x13,x14,x15,x16,x17)=>
 some (⟨(⟨x11,x12,x13,x14,x15,x16,x17⟩:bH),zGMethod,[],[],ah (x10+1),aK⟩:ba)
def mC (y3:(List az)×dV):Nat->(List bH)->Int->Int->Option (Ctl ((List bH)×dV) ((List bH)))
 | 0,_,_,_=>none
 | n+1,x0,x1,x2=>
 (gQ y3.1 x1).bind fun y0=>
 if(y0.aa != 0) then
 (fG y3.1 x1 [99,108,97,115,115]).bind fun(y1:Bool)=>
 if(!y1) then
 (gQ y3.1 x1).bind fun y2=>
 some (.stop ([],(⟨3,y2.fAt⟩:dV)))
 else
 if((x0.length:Int)==20) then
 (gQ y3.1 x1).bind fun y4=>
 some (.stop ([],(⟨6,y4.fAt⟩:dV)))
 else
 (oy y3.1 x1 x2).bind fun y5=>
 if(y5.fF.bL != 0) then
 some (.stop ([],y5.fF))
 else
 (dL ((x0.length:Int)+([y5.fC].length:Int)) 136).bind fun _=>
 (lj y5.fC).bind fun(y6:Int)=>
 mC y3 n (x0++[y5.fC]) y5.aq (ah (x2+y6))
 else
 some (.next x0)
def qC (a0:List UInt8):Option ((List bH)×dV):=
 (tI a0).bind fun y3=>
 if(y3.2.bL != 0) then
 some ([],y3.2)
 else
 (mC y3 (a0.length+64) [] 0 0).bind fun lr0=>
 Ctl.elim lr0 (fun v=>some v) fun x0=>
 some (x0,aK)
def fj (a0:List bH) (q1:bH->Option Bool):Nat->Int->Option (Ctl (Int) (Unit))
 | 0,_=>none
 | n+1,x0=>
 if(decide (x0 < (a0.length:Int))) then
 (idx a0 x0).bind fun y0=>
 (q1 y0).bind fun y1=>
 if y1=true then
 some (.stop x0)
 else
 fj a0 q1 n (ah (x0+1))
 else
 some (.next ())
def iZ (a0:List bH) (q1:bH->Option Bool):Option Int:=
 (fj a0 q1 ((a0.length - 0:Int).toNat+1) 0).bind fun lr0=>
 Ctl.elim lr0 (fun v=>some v) fun _=>
 some (-1)
def fh (a0:List bH) (q1:bH->Option Bool):Option Bool:=
 (iZ a0 q1).bind fun(y1:Int)=>
 some (decide (y1 >= 0))
def jL (a0:Int):Option Bool:=
 if(decide ((orI .u8 a0 32) >= 97)) then
 some (decide ((orI .u8 a0 32)<=122))
 else
 some false
def uk (a0:Int):Option Bool:=
 some (decide ((yx (a0 - 48)) < 10))
def glob_0 : List (List UInt8):=[[99,108,97,115,115],[101,120,116,101,110,100,115],[114,101,112],[112,101,101,114],[119,111,114,108,100],[97,110,121],[117,110,105,113,117,101],[112,117,114,101],[118,111,105,100],[105,110,116],[105,102],[101,108,115,101],[119,104,105,108,101],[114,101,116,117,114,110],[110,101,119],[109,111,118,101],[100,101,108,101,116,101],[116,104,105,115],[110,117,108,108],[105,110,112,117,116],[110,105,108],[115,97,109,101],[99,97,115,116]]
def Jz : List PV:=[.str [99,108,97,115,115],.str [101,120,116,101,110,100,115],.str [114,101,112],.str [112,101,101,114],.str [119,111,114,108,100],.str [97,110,121],.str [117,110,105,113,117,101],.str [112,117,114,101],.str [118,111,105,100],.str [105,110,116],.str [105,102],.str [101,108,115,101],.str [119,104,105,108,101],.str [114,101,116,117,114,110],.str [110,101,119],.str [109,111,118,101],.str [100,101,108,101,116,101],.str [116,104,105,115],.str [110,117,108,108],.str [105,110,112,117,116],.str [110,105,108],.str [115,97,109,101],.str [99,97,115,116]]
theorem ZG : Jz=(map eS glob_0).flatten:=by kernel_rfl
theorem ZX : (0,Jz)∈dY:= .head _
def DJ (a0:List UInt8):Option (List UInt8):=
 some a0
def ef (a0:List (List UInt8)) (q1:(List UInt8)->Option Bool):Nat->Int->Option (Ctl (Int) (Unit))
 | 0,_=>none
 | n+1,x0=>
 if(decide (x0 < (a0.length:Int))) then
 (idx a0 x0).bind fun y0=>
 (q1 y0).bind fun y1=>
 if y1=true then
 some (.stop x0)
 else
 ef a0 q1 n (ah (x0+1))
 else
 some (.next ())
def gx (a0:List (List UInt8)) (q1:(List UInt8)->Option Bool):Option Int:=
 (ef a0 q1 ((a0.length - 0:Int).toNat+1) 0).bind fun lr0=>
 Ctl.elim lr0 (fun v=>some v) fun _=>
 some (-1)
def vn (a0:List UInt8) (c0:List UInt8):Option Bool:=
 some (a0==c0)
def vG (a0:List UInt8):Option Int:=
 (DJ a0).bind fun y1=>
 (gx glob_0 (fun(z3:List UInt8)=>vn z3 y1)).bind fun(y4:Int)=>
 some (ah (y4+1))
def qh (a0:List UInt8):Nat->Int->Option (Ctl (Bool) (Unit))
 | 0,_=>none
 | n+1,x0=>
 if(decide (x0 < ((bu a0).length:Int))) then
 (idx (bu a0) x0).bind fun(y0:Int)=>
 ((jL y0).bind fun y1=>
 if(!y1) then
 (uk y0).bind fun y2=>
 some (!y2)
 else
 some false:Option (Bool)).bind fun x1=>
 if x1=true then
 some (.stop false)
 else
 qh a0 n (ah (x0+1))
 else
 some (.next ())
def jT (a0:List UInt8):Option Bool:=
 (if(a0==[]) then
 some true
 else
 if(decide ((a0.length:Int) > 20)) then
 some true
 else
 (idx a0 0).bind fun(y3:UInt8)=>
 (jL (y3.toNat:Int)).bind fun y5=>
 some (!y5):Option (Bool)).bind fun x7=>
 if x7=true then
 some false
 else
 (dL (a0.length:Int) 1).bind fun _=>
 (qh a0 (((((bu a0).length:Int):Int) - (0)).toNat+1) 0).bind fun lr0=>
 Ctl.elim lr0 (fun v=>some v) fun _=>
 (vG a0).bind fun(y0:Int)=>
 some (y0==0)
def eY (a0:List (List UInt8)) (q1:(List UInt8)->Option Bool):Option Bool:=
 (gx a0 q1).bind fun(y1:Int)=>
 some (decide (y1 >= 0))
def sn (a0:List UInt8):Option Bool:=
 (jT a0).bind fun y1=>
 some (!y1)
def od (a0:aF) (a1:Int):Option Bool:=
 Ctl.go (if(a0.aa==3) then
 if(decide (a0.fN > 0)) then
 .stop (some (decide (a0.fN<=a1)))
 else
 .stop (some false)
 else
 if(a0.aa==7) then
 .stop (some (decide (a0.fN >= 0)))
 else
 if(a0.aa==1) then
 .next ()
 else
 if(a0.aa==2) then
 .next ()
 else
 eZ (if(a0.aa==4) then
 some (a0.aa==4)
 else
 if(a0.aa==5) then
 some (a0.aa==5)
 else
 some (a0.aa==6):Option (Bool)) fun x8=>
 if x8=true then
 .next ()
 else
 .stop (some false):Ctl (Option Bool) (Unit)) fun _=>
 some (a0.fN==0)
def oE (a0:bH):Nat->Int->Option (Ctl (Bool) (Unit))
 | 0,_=>none
 | n+1,x0=>
 if(decide (x0 < (a0.aH.length:Int))) then
 (idx a0.aH x0).bind fun y0=>
 (if(y0.aa==2) then
 some (y0.aa==2)
 else
 if(y0.aa==3) then
 some (y0.aa==3)
 else
 some (y0.aa==4):Option (Bool)).bind fun x1=>
 if x1=true then
 (od y0 (a0.ac.length:Int)).bind fun y1=>
 if(!y1) then
 some (.stop false)
 else
 oE a0 n (ah (x0+1))
 else
 some (.stop false)
 else
 some (.next ())
def vt (a0:bH):Option Bool:=
 ((jT a0.ai).bind fun y3=>
 if(!y3) then
 some true
 else
 if(decide ((a0.ac.length:Int) > 3)) then
 some true
 else
 if(decide ((a0.aH.length:Int) > 3)) then
 some true
 else
 (eY a0.ac (fun(z8:List UInt8)=>sn z8)).bind fun y9=>
 some y9:Option (Bool)).bind fun x0=>
 if x0=true then
 some false
 else
 if(a0.aU==[]) then
 some ((a0.aH.length:Int)==0)
 else
 (oE a0 ((a0.aH.length - 0:Int).toNat+1) 0).bind fun lr0=>
 Ctl.elim lr0 (fun v=>some v) fun _=>
 (jT a0.aU).bind fun y0=>
 some y0
def gi (a0:List dr) (q1:dr->Option Bool):Nat->Int->Option (Ctl (Int) (Unit))
 | 0,_=>none
 | n+1,x0=>
 if(decide (x0 < (a0.length:Int))) then
 (idx a0 x0).bind fun y0=>
 (q1 y0).bind fun y1=>
 if y1=true then
 some (.stop x0)
 else
 gi a0 q1 n (ah (x0+1))
 else
 some (.next ())
def jy (a0:List dr) (q1:dr->Option Bool):Option Int:=
 (gi a0 q1 ((a0.length - 0:Int).toNat+1) 0).bind fun lr0=>
 Ctl.elim lr0 (fun v=>some v) fun _=>
 some (-1)
def gq (a0:List dr) (q1:dr->Option Bool):Option Bool:=
 (jy a0 q1).bind fun(y1:Int)=>
 some (decide (y1 >= 0))
def fk (a0:List aF) (q1:aF->Option Bool):Nat->Int->Option (Ctl (Int) (Unit))
 | 0,_=>none
 | n+1,x0=>
 if(decide (x0 < (a0.length:Int))) then
 (idx a0 x0).bind fun y0=>
 (q1 y0).bind fun y1=>
 if y1=true then
 some (.stop x0)
 else
 fk a0 q1 n (ah (x0+1))
 else
 some (.next ())
def iK (a0:List aF) (q1:aF->Option Bool):Option Int:=
 (fk a0 q1 ((a0.length - 0:Int).toNat+1) 0).bind fun lr0=>
 Ctl.elim lr0 (fun v=>some v) fun _=>
 some (-1)
def fg (a0:List aF) (q1:aF->Option Bool):Option Bool:=
 (iK a0 q1).bind fun(y1:Int)=>
 some (decide (y1 >= 0))
def qt (a0:aF):Option Bool:=
 some (a0.aa==7)
def vE (a0:cd):Option (List aF):=
 (jW (a0.ae).l 0 (ah ((if(if 3 < a0.fN then 3 else a0.fN) > 0 then(if 3 < a0.fN then 3 else a0.fN) else 0)+1))).bind fun y1=>
 some y1
def nr (a1:Int) (y0:(List aF)):Nat->Int->Option (Ctl (Bool) (Unit))
 | 0,_=>none
 | n+1,x0=>
 if(decide (x0 < (y0.length:Int))) then
 (idx y0 x0).bind fun y1=>
 (od y1 a1).bind fun y2=>
 if(!y2) then
 some (.stop false)
 else
 nr a1 y0 n (ah (x0+1))
 else
 some (.next ())
def ng (y0:List aF):Nat->Int->Option (Ctl (Bool) (Unit))
 | 0,_=>none
 | n+1,x0=>
 if(decide (x0 < (y0.length:Int))) then
 (idx y0 x0).bind fun y1=>
 if(y1.aa==6) then
 some (.stop false)
 else
 ng y0 n (ah (x0+1))
 else
 some (.next ())
def nv (y0:List aF):Nat->Int->Option (Ctl (Bool) (Unit))
 | 0,_=>none
 | n+1,x0=>
 if(decide (x0 < (y0.length:Int))) then
 (idx y0 x0).bind fun y1=>
 if(!(kO y1 av)) then
 some (.stop false)
 else
 nv y0 n (ah (x0+1))
 else
 some (.next ())
def nQ (a0:cd) (a1:Int):Option Bool:=
 (if(a0.aa==0) then
 some (a0.aa==0)
 else
 some (a0.aa==1):Option (Bool)).bind fun x2=>
 if x2=true then
 some (lM a0 (⟨a0.aa,[],0,(⟨av,av,av,av⟩:A4 aF)⟩:cd))
 else
 if(a0.aa==2) then
 ((jT a0.aM).bind fun y9=>
 if(!y9) then
 some true
 else
 if(decide (a0.fN < 0)) then
 some true
 else
 some (decide (a0.fN > 3)):Option (Bool)).bind fun x0=>
 if x0=true then
 some false
 else
 (vE a0).bind fun y0=>
 (nr a1 y0 ((y0.length - 0:Int).toNat+1) 0).bind fun lr0=>
 Ctl.elim lr0 (fun v=>some v) fun _=>
 (jW y0 1 y0.length).bind fun y1=>
 (ng y1 ((y1.length - 0:Int).toNat+1) 0).bind fun lr1=>
 Ctl.elim lr1 (fun v=>some v) fun _=>
 (jW (a0.ae).l (y0.length:Int) (a0.ae).l.length).bind fun y2=>
 (nv y2 ((y2.length - 0:Int).toNat+1) 0).bind fun lr2=>
 Ctl.elim lr2 (fun v=>some v) fun _=>
 some true
 else
 some false
def mQ (a0:cd) (a1:Int):Option Bool:=
 (jW (a0.ae).l 1 (a0.ae).l.length).bind fun y6=>
 (fg y6 (fun(z8:aF)=>qt z8)).bind fun y9=>
 if(!y9) then
 (nQ a0 a1).bind fun y0=>
 if y0=true then
 if(a0.ae.a0.aa != 7) then
 some true
 else
 some (a0.ae.a0.fN==0)
 else
 some false
 else
 some false
def uC (a0:dr) (c0:Int):Option Bool:=
 if(a0.aJ.aa==0) then
 some true
 else
 (jT a0.ai).bind fun y2=>
 if(!y2) then
 some true
 else
 (mQ a0.aJ c0).bind fun y5=>
 some (!y5)
def ny (a0:List dr) (a1:Int) (a2:Int):Option Bool:=
 if(decide ((a0.length:Int)<=a1)) then
 (gq a0 (fun(z2:dr)=>uC z2 a2)).bind fun y3=>
 some (!y3)
 else
 some false
def eO (a0:List bM) (q1:bM->Option Bool):Nat->Int->Option (Ctl (Int) (Unit))
 | 0,_=>none
 | n+1,x0=>
 if(decide (x0 < (a0.length:Int))) then
 (idx a0 x0).bind fun y0=>
 (q1 y0).bind fun y1=>
 if y1=true then
 some (.stop x0)
 else
 eO a0 q1 n (ah (x0+1))
 else
 some (.next ())
def iB (a0:List bM) (q1:bM->Option Bool):Option Int:=
 (eO a0 q1 ((a0.length - 0:Int).toNat+1) 0).bind fun lr0=>
 Ctl.elim lr0 (fun v=>some v) fun _=>
 some (-1)
def ea (a0:List bM) (q1:bM->Option Bool):Option Bool:=
 (iB a0 q1).bind fun(y1:Int)=>
 some (decide (y1 >= 0))
def qf (a0:Int):Option Int:=
 if(a0==1) then
 some 33
 else
 if(a0==2) then
 some 15
 else
 if(a0==3) then
 some 46
 else
 if(a0==4) then
 some 591
 else
 if(a0==5) then
 some 17
 else
 if(a0==6) then
 some 49
 else
 if(a0==7) then
 some 3
 else
 if(a0==8) then
 some 2
 else
 if(a0==9) then
 some 416
 else
 if(a0==10) then
 some 160
 else
 if(a0==11) then
 some 32
 else
 some 0
def ue (a0:ap) (a1:Int):Option Bool:=
 Ctl.go (eZ (if((wZ .i64 a1 1)==0) then
 some true
 else
 if((wZ .i64 a1 512) != 0) then
 some (a0.fX==[])
 else
 some false:Option (Bool)) fun x3=>
 if x3=true then
 if(!(a0.fX==[])) then
 .stop (some false)
 else
 .next ()
 else
 eZ (jT a0.fX) fun(y0:Bool)=>
 if(!y0) then
 .stop (some false)
 else
 .next ():Ctl (Option Bool) (Unit)) fun _=>
 Ctl.go (if((wZ .i64 a1 2)==0) then
 if(!(a0.fY==[])) then
 .stop (some false)
 else
 .next ()
 else
 eZ ((jT a0.fY).bind fun y1=>
 if(!y1) then
 if((wZ .i64 a1 4)==0) then
 some true
 else
 some (!(a0.fY==[116,104,105,115]))
 else
 some false:Option (Bool)) fun x0=>
 if x0=true then
 .stop (some false)
 else
 .next ():Ctl (Option Bool) (Unit)) fun _=>
 if((wZ .i64 a1 8)==0) then
 some (a0.ai==[])
 else
 (jT a0.ai).bind fun y2=>
 some y2
def io (a0:List au) (a1:List au) (q2:au->au->Option Bool):Nat->Int->Option (Ctl (Bool) (Unit))
 | 0,_=>none
 | n+1,x0=>
 if(decide (x0 < (a0.length:Int))) then
 (idx a0 x0).bind fun y0=>
 (idx a1 x0).bind fun y1=>
 (q2 y0 y1).bind fun y2=>
 if(!y2) then
 some (.stop false)
 else
 io a0 a1 q2 n (ah (x0+1))
 else
 some (.next ())
def jh (a0:List au) (a1:List au) (q2:au->au->Option Bool):Option Bool:=
 if((a0.length:Int) != (a1.length:Int)) then
 some false
 else
 (io a0 a1 q2 ((a0.length - 0:Int).toNat+1) 0).bind fun lr0=>
 Ctl.elim lr0 (fun v=>some v) fun _=>
 some true
def pO : Nat->au->au->Option Bool
 | 0,_,_=>none
 | n+1,a0,a1=>
 if(a0.aa==a1.aa) then
 if(a0.dp==a1.dp) then
 if(a0.ai==a1.ai) then
 (jh a0.aY a1.aY (fun(z4:au) (z5:au)=>(pO n) z4 z5)).bind fun y6=>
 some y6
 else
 some false
 else
 some false
 else
 some false
def tv (a0:au):Option Bool:=
 (pO (bR a0+bR bT+1) a0 bT).bind fun y1=>
 some y1
def dP (a0:List au) (q1:au->Option Bool):Nat->Int->Option (Ctl (Int) (Unit))
 | 0,_=>none
 | n+1,x0=>
 if(decide (x0 < (a0.length:Int))) then
 (idx a0 x0).bind fun y0=>
 (q1 y0).bind fun y1=>
 if y1=true then
 some (.stop x0)
 else
 dP a0 q1 n (ah (x0+1))
 else
 some (.next ())
def gW (a0:List au) (q1:au->Option Bool):Option Int:=
 (dP a0 q1 ((a0.length - 0:Int).toNat+1) 0).bind fun lr0=>
 Ctl.elim lr0 (fun v=>some v) fun _=>
 some (-1)
def cJ (a0:List au) (q1:au->Option Bool):Option Bool:=
 (gW a0 q1).bind fun(y1:Int)=>
 some (decide (y1 >= 0))
mutual
def mu : Nat->au->Int->Option Bool
 | 0,_,_=>none
 | n+1,a0,a1=>
 if(a1==0) then
 some false
 else
 (cJ a0.aY (fun(z2:au)=>(om n) z2 a1)).bind fun y3=>
 some (!y3)
def om : Nat->au->Int->Option Bool
 | 0,_,_=>none
 | n+1,a0,c0=>
 ((mu n) a0 (ah (c0 - 1))).bind fun y1=>
 some (!y1)
end

def AJ (a0:au):Option au:=
 some a0
def jv (a0:List au):Option (List au):=
 some a0
def ek (c0:List au) (sp:Nat) (rows:List (Int×au)):Nat->Nat->Int->Option (Ctl (Nat) (Nat))
 | 0,_,_=>none
 | n+1,x0,x1=>
 if(decide (x1 >= 0)) then
 (idx c0 x1).bind fun y0=>
 (yck rows sp x0 (x1,y0)).bind fun _=>
 if(!(!(x0==sp))) then
 some (.stop (x0+1))
 else
 ek c0 sp rows n (x0+1) (ah (x1 - 1))
 else
 some (.next x0)
def iO (rows:List (Int×au)) (sp:Nat) (c0:List au):Option Nat:=
 (ek c0 sp rows ((((ah ((c0.length:Int) - 1)):Int) - (0)).toNat+2) 0 (ah ((c0.length:Int) - 1))).bind fun lr0=>
 Ctl.elim lr0 (fun v=>some v) fun x0=>
 some x0
def dW (l:List au):Nat->List (Int×au)
 | 0=>[]
 | n+1=>match l[n]? with
 | some x=>((n:Int),x)::dW l n
 | none=>[]
def lf (l:List au):Option (List (Int×au)):=if l.length < 4611686018427387904 then some (dW l l.length) else none
def pw  : Int×au->(List au)->Option (Ctl Unit (List au))
 | (x0,x1),x2=>
 (dL ((x2.length:Int)+(([bT]:List au).length:Int)) 56).bind fun _=>
 (idx (x2++([bT]:List au)) (x2.length:Int)).bind fun _=>
 some (.next ((x2++([bT]:List au)).set ((x2.length:Int):Int).toNat x1))
def nj (sp:Nat) (rows:List (au)):Nat->Nat->(List au)->Option (Ctl (Nat) (Nat))
 | 0,_,_=>none
 | n+1,x0,x1=>
 if(decide ((x1.length:Int) > 0)) then
 (idx x1 (ah ((x1.length:Int) - 1))).bind fun y0=>
 (jW x1 0 (ah ((x1.length:Int) - 1))).bind fun y1=>
 (yck rows sp x0 y0).bind fun _=>
 if(!(!(x0==sp))) then
 some (.stop (x0+1))
 else
 (jv y0.aY).bind fun y2=>
 (lf y2).bind fun(rows0:List (Int×au))=>
 (BE pw rows0 y1).bind fun(lr0:Ctl Unit (List au))=>
 Ctl.elim lr0 (fun _=>none) (fun x2=>
 nj sp rows n (x0+1) x2)
 else
 some (.next x0)
def wo (rows:List (au)) (sp:Nat) (c0:au):Option Nat:=
 (nj sp rows (bR c0+2) 0 [c0]).bind fun lr0=>
 Ctl.elim lr0 (fun v=>some v) fun x0=>
 some x0
mutual
def Fj : au->List au
 | ⟨k,n,nm,l⟩=>⟨k,n,nm,l⟩::qV l
def qV : List au->List au
 | []=>[]
 | x::l=>Fj x++qV l
end
def DR (e:au):Option (List au):=if bR e<=1000000 then some (Fj e) else none
def vF (a0:Int):Option Int:=
 (if(a0==1) then
 some (a0==1)
 else
 if(a0==2) then
 some (a0==2)
 else
 if(a0==3) then
 some (a0==3)
 else
 if(a0==4) then
 some (a0==4)
 else
 some (a0==5):Option (Bool)).bind fun x5=>
 if x5=true then
 some 0
 else
 (if(a0==12) then
 some (a0==12)
 else
 some (a0==13):Option (Bool)).bind fun x0=>
 if x0=true then
 some 1
 else
 (if(a0==6) then
 some (a0==6)
 else
 if(a0==7) then
 some (a0==7)
 else
 if(a0==8) then
 some (a0==8)
 else
 if(a0==9) then
 some (a0==9)
 else
 if(a0==10) then
 some (a0==10)
 else
 if(a0==11) then
 some (a0==11)
 else
 some (a0==14):Option (Bool)).bind fun x1=>
 if x1=true then
 some 2
 else
 some (-1)
def qu (a0:au) (c0:au):Option Bool:=
 if(a0.aa != 2) then
 if(a0.aa != 3) then
 if(a0.aa != 4) then
 some true
 else
 some (c0.aa==13)
 else
 some false
 else
 some false
def tJ (a0:au):Option Bool:=
 ((vF a0.aa).bind fun(y3:Int)=>
 if((a0.aY.length:Int) != y3) then
 some true
 else
 if(a0.aa != 1) then
 if(a0.dp != 0) then
 some true
 else
 if(a0.aa != 2) then
 some (!(a0.ai==[]))
 else
 some false
 else
 if(a0.aa != 2) then
 some (!(a0.ai==[]))
 else
 some false:Option (Bool)).bind fun x0=>
 if x0=true then
 some false
 else
 if(a0.aa==1) then
 if(decide (a0.dp >= 0)) then
 some (decide (a0.dp<=999999999))
 else
 some false
 else
 if(a0.aa==2) then
 (jT a0.ai).bind fun y0=>
 some y0
 else
 (if(a0.aa==13) then
 some (a0.aa==13)
 else
 some (a0.aa==14):Option (Bool)).bind fun x1=>
 if x1=true then
 (cJ a0.aY (fun(z24:au)=>qu z24 a0)).bind fun y1=>
 some (!y1)
 else
 some true
def po  : au->Unit->Option (Ctl Unit Unit)
 | x0,_=>
 (tJ x0).bind fun y0=>
 if(!y0) then
 some (.stop ())
 else
 some (.next ())
def pJ (a0:au):Option Bool:=
 (mu (2 * (20:Int).toNat+2) a0 20).bind fun y3=>
 if(!y3) then
 some false
 else
 (AJ a0).bind fun y8=>
 (DR y8).bind fun(rows0:List (au))=>
 (BE po rows0 ()).bind fun(lr0:Ctl Unit Unit)=>
 Ctl.elim lr0 (fun _=>
 some false) (fun _=>
 some true)
def sc (a0:au):Option Bool:=
 (pJ a0).bind fun y1=>
 some (!y1)
def vm (a0:ap) (a1:Int) (a2:Int):Option Bool:=
 (if((wZ .i64 a1 16)==0) then
 if(!(lM a0.aJ cA)) then
 some true
 else
 if((wZ .i64 a1 16) != 0) then
 if(a0.aJ.aa != 2) then
 some true
 else
 (nQ a0.aJ a2).bind fun y5=>
 some (!y5)
 else
 some false
 else
 if((wZ .i64 a1 16) != 0) then
 if(a0.aJ.aa != 2) then
 some true
 else
 (nQ a0.aJ a2).bind fun y9=>
 some (!y9)
 else
 some false:Option (Bool)).bind fun x0=>
 if x0=true then
 some false
 else
 Ctl.go (eZ (if((wZ .i64 a1 32)==0) then
 some true
 else
 if(a0.aa==11) then
 (tv a0.fE).bind fun y0=>
 some y0
 else
 some false:Option (Bool)) fun x1=>
 if x1=true then
 eZ (tv a0.fE) fun(y1:Bool)=>
 if(!y1) then
 .stop (some false)
 else
 .next ()
 else
 eZ (pJ a0.fE) fun(y2:Bool)=>
 if(!y2) then
 .stop (some false)
 else
 eZ (if(a0.aa==6) then
 if(a0.fE.aa != 2) then
 if(a0.fE.aa != 3) then
 some (a0.fE.aa != 4)
 else
 some false
 else
 some false
 else
 some false:Option (Bool)) fun x2=>
 if x2=true then
 .stop (some false)
 else
 .next ():Ctl (Option Bool) (Unit)) fun _=>
 if((wZ .i64 a1 64)==0) then
 some ((a0.cO.length:Int)==0)
 else
 if(decide ((a0.cO.length:Int)<=5)) then
 (cJ a0.cO (fun(z42:au)=>sc z42)).bind fun y3=>
 some (!y3)
 else
 some false
def fy (a0:List ap) (q1:ap->Option Bool):Nat->Int->Option (Ctl (Int) (Unit))
 | 0,_=>none
 | n+1,x0=>
 if(decide (x0 < (a0.length:Int))) then
 (idx a0 x0).bind fun y0=>
 (q1 y0).bind fun y1=>
 if y1=true then
 some (.stop x0)
 else
 fy a0 q1 n (ah (x0+1))
 else
 some (.next ())
def jl (a0:List ap) (q1:ap->Option Bool):Option Int:=
 (fy a0 q1 ((a0.length - 0:Int).toNat+1) 0).bind fun lr0=>
 Ctl.elim lr0 (fun v=>some v) fun _=>
 some (-1)
def ey (a0:List ap) (q1:ap->Option Bool):Option Bool:=
 (jl a0 q1).bind fun(y1:Int)=>
 some (decide (y1 >= 0))
mutual
def mc : Nat->ap->Int->Int->Option Bool
 | 0,_,_,_=>none
 | n+1,a0,a1,a2=>
 (qf a0.aa).bind fun(y3:Int)=>
 (if(a2==0) then
 some true
 else
 if(y3==0) then
 some true
 else
 (ue a0 y3).bind fun y7=>
 if(!y7) then
 some true
 else
 (vm a0 y3 a1).bind fun y0=>
 if(!y0) then
 some true
 else
 if((wZ .i64 y3 128)==0) then
 if(decide ((a0.aC.length:Int) > 0)) then
 some true
 else
 if((wZ .i64 y3 256)==0) then
 some (decide ((a0.bQ.length:Int) > 0))
 else
 some false
 else
 if((wZ .i64 y3 256)==0) then
 some (decide ((a0.bQ.length:Int) > 0))
 else
 some false:Option (Bool)).bind fun x0=>
 if x0=true then
 some false
 else
 (ey a0.aC (fun(z21:ap)=>(iG n) z21 a1 a2)).bind fun y1=>
 if(!y1) then
 (ey a0.bQ (fun(z25:ap)=>(iG n) z25 a1 a2)).bind fun y2=>
 some (!y2)
 else
 some false
def iG : Nat->ap->Int->Int->Option Bool
 | 0,_,_,_=>none
 | n+1,a0,c0,c1=>
 ((mc n) a0 c0 (ah (c1 - 1))).bind fun y1=>
 some (!y1)
end

def nG (a0:ap) (a1:Int):Option Bool:=
 (mc (cf a0+1) a0 a1 20).bind fun y1=>
 some y1
def oI (a0:List ap) (a1:Int) (size_body_rec:(List ap)->Int->Option Bool):Nat->Int->Option (Ctl (Bool) (Unit))
 | 0,_=>none
 | n+1,x0=>
 if(decide (x0 < (a0.length:Int))) then
 (idx a0 x0).bind fun y0=>
 ((nG y0 a1).bind fun y1=>
 if(!y1) then
 some true
 else
 if(y0.aJ.aa==2) then
 (mQ y0.aJ a1).bind fun y2=>
 if(!y2) then
 some true
 else
 (size_body_rec y0.aC a1).bind fun y3=>
 if(!y3) then
 some true
 else
 (size_body_rec y0.bQ a1).bind fun y4=>
 some (!y4)
 else
 (size_body_rec y0.aC a1).bind fun y5=>
 if(!y5) then
 some true
 else
 (size_body_rec y0.bQ a1).bind fun y6=>
 some (!y6):Option (Bool)).bind fun x1=>
 if x1=true then
 some (.stop false)
 else
 oI a0 a1 size_body_rec n (ah (x0+1))
 else
 some (.next ())
def iw : Nat->(List ap)->Int->Option Bool
 | 0,_,_=>none
 | n+1,a0,a1=>
 (oI a0 a1 (iw n) ((a0.length - 0:Int).toNat+1) 0).bind fun lr0=>
 Ctl.elim lr0 (fun v=>some v) fun _=>
 some true
def rI (a0:bM) (a1:Int):Option Bool:=
 (jT a0.ai).bind fun y1=>
 if y1=true then
 (mQ a0.af a1).bind fun y4=>
 if y4=true then
 (ny a0.ac 5 a1).bind fun y7=>
 if y7=true then
 (ny a0.aP 12 a1).bind fun y0=>
 if y0=true then
 (iw (cb a0.aC+1) a0.aC a1).bind fun y2=>
 some y2
 else
 some false
 else
 some false
 else
 some false
 else
 some false
def qM (a0:bM) (c0:Int):Option Bool:=
 (rI a0 c0).bind fun y1=>
 some (!y1)
def tV (a0:bH):Option Bool:=
 (vt a0).bind fun y1=>
 if y1=true then
 (ny a0.aZ 12 (a0.ac.length:Int)).bind fun y4=>
 if y4=true then
 if(decide ((a0.am.length:Int)<=12)) then
 (ea a0.am (fun(z8:bM)=>qM z8 (a0.ac.length:Int))).bind fun y9=>
 some (!y9)
 else
 some false
 else
 some false
 else
 some false
def tc (a0:bH):Option Bool:=
 (tV a0).bind fun y1=>
 some (!y1)
def jk (a1:List cd):Nat->aI->Int->Option (aI)
 | 0,_,_=>none
 | n+1,x0,x1=>
 if(decide (x1 < (a1.length:Int))) then
 ((idx a1 x1).bind fun y0=>
 (if(y0.aa==2) then
 some (y0.ae.a0.aa==7)
 else
 some false:Option (Bool)).bind fun x2=>
 if x2=true then
 some ({ x0 with xu:=ah (x0.xu+1) }:aI)
 else
 some x0:Option (aI)).bind fun x3=>
 jk a1 n x3 (ah (x1+1))
 else
 some x0
def fm (a1:List cd) (b0:aI):Option aI:=
 (jk a1 ((a1.length - 0:Int).toNat+1) b0 0).bind fun x0=>
 some x0
def ii (a1:List dr):Nat->aI->Int->Option (aI)
 | 0,_,_=>none
 | n+1,x0,x1=>
 if(decide (x1 < (a1.length:Int))) then
 (idx a1 x1).bind fun y0=>
 (fm [y0.aJ] x0).bind fun y1=>
 ii a1 n y1 (ah (x1+1))
 else
 some x0
def gf (a1:List dr) (b0:aI):Option (Int×aI):=
 (ii a1 ((a1.length - 0:Int).toNat+1) b0 0).bind fun x0=>
 some ((a1.length:Int),x0)
def im (a1:List ap) (a2:Int) (__size_Counts__body_w_rec:(List ap)->Int->aI->Option aI):Nat->aI->Int->Option (aI)
 | 0,_,_=>none
 | n+1,x0,x1=>
 if(decide (x1 < (a1.length:Int))) then
 (idx a1 x1).bind fun y0=>
 (fm [y0.aJ] ({ x0 with jF:=ah (x0.jF+1) }:aI)).bind fun y1=>
 (__size_Counts__body_w_rec y0.aC (ah (a2+1)) y1).bind fun y2=>
 (__size_Counts__body_w_rec y0.bQ (ah (a2+1)) y2).bind fun y3=>
 im a1 a2 __size_Counts__body_w_rec n y3 (ah (x1+1))
 else
 some x0
def dM : Nat->(List ap)->Int->aI->Option aI
 | 0,_,_,_=>none
 | n+1,a1,a2,b0=>
 (if(decide ((a1.length:Int) > 0)) then
 some ({ b0 with wO:=(if a2 > b0.wO then a2 else b0.wO) }:aI)
 else
 some b0:Option (aI)).bind fun x2=>
 (im a1 a2 (dM n) ((a1.length - 0:Int).toNat+1) x2 0).bind fun x0=>
 some x0
def tC (y0:bH):Nat->aI->Int->Option (aI)
 | 0,_,_=>none
 | n+1,x0,x1=>
 if(decide (x1 < (y0.am.length:Int))) then
 (idx y0.am x1).bind fun y1=>
 (fm [y1.af] x0).bind fun y2=>
 (gf y1.ac y2).bind fun y3=>
 (eqI y3.2.lh y2.lh).bind fun _=>
 (gf y1.aP y3.2).bind fun y4=>
 (eqI y4.2.lh y2.lh).bind fun _=>
 (dM (cb y1.aC+1) y1.aC 1 ({ y4.2 with lh:=ah (y2.lh+(ah (y3.1+y4.1))) }:aI)).bind fun y5=>
 tC y0 n y5 (ah (x1+1))
 else
 some x0
def ub (a0:List bH):Nat->aI->Int->Option (aI)
 | 0,_,_=>none
 | n+1,x0,x1=>
 if(decide (x1 < (a0.length:Int))) then
 (idx a0 x1).bind fun y0=>
 (gf y0.aZ x0).bind fun y1=>
 (eqI y1.2.aZ x0.aZ).bind fun _=>
 (tC y0 ((y0.am.length - 0:Int).toNat+1) ({ ({ y1.2 with aZ:=ah (x0.aZ+y1.1) }:aI) with am:=ah ((({ y1.2 with aZ:=ah (x0.aZ+y1.1) }:aI).am)+(y0.am.length:Int)) }:aI) 0).bind fun x2=>
 ub a0 n x2 (ah (x1+1))
 else
 some x0
def Av (a0:List bH):Option aI:=
 (ub a0 ((a0.length - 0:Int).toNat+1) (⟨(a0.length:Int),0,0,0,0,0,0⟩:aI) 0).bind fun x0=>
 some x0
def un (a0:List bH):Option Bool:=
 if(decide ((a0.length:Int)<=20)) then
 (fh a0 (fun(z2:bH)=>tc z2)).bind fun y3=>
 if(!y3) then
 (Av a0).bind fun y6=>
 some (decide (y6.jF<=400))
 else
 some false
 else
 some false
def strings_Join (a0:List (List UInt8)) (a1:List UInt8):Option (List UInt8):=CU a0 a1
def oM (a0:List UInt8) (a1:List (List UInt8)) (a2:List UInt8) (a3:Bool):Option (List UInt8):=
 (if((a1.length:Int)==0) then
 some (!a3)
 else
 some false:Option (Bool)).bind fun x2=>
 if x2=true then
 some []
 else
 (strings_Join a1 [44,32]).bind fun(y6:List UInt8)=>
 (dL ((a0.length:Int)+(y6.length:Int)) 1).bind fun _=>
 (dL (((a0++y6).length:Int)+(a2.length:Int)) 1).bind fun _=>
 some ((a0++y6)++a2)
def rf (a0:aF) (a1:List (List UInt8)):Option (List UInt8):=
 (od a0 (a1.length:Int)).bind fun y3=>
 if(!y3) then
 some []
 else
 if(a0.aa==1) then
 some [114,101,112]
 else
 if(a0.aa==2) then
 some [112,101,101,114]
 else
 if(a0.aa==4) then
 some [119,111,114,108,100]
 else
 if(a0.aa==5) then
 some [97,110,121]
 else
 if(a0.aa==6) then
 some [117,110,105,113,117,101]
 else
 if(a0.aa==7) then
 some [63]
 else
 (idx a1 (ah (a0.fN - 1))).bind fun y0=>
 some y0
def lG (a0:bH):Nat->(List (List UInt8))->Int->Option ((List (List UInt8)))
 | 0,_,_=>none
 | n+1,x0,x1=>
 if(decide (x1 < (a0.aH.length:Int))) then
 (idx a0.aH x1).bind fun y0=>
 (rf y0 a0.ac).bind fun y1=>
 (dL ((x0.length:Int)+([y1].length:Int)) 16).bind fun _=>
 lG a0 n (x0++[y1]) (ah (x1+1))
 else
 some x0
def uw (a0:bH):Option (List UInt8):=
 (dL (([99,108,97,115,115,32].length:Int)+(a0.ai.length:Int)) 1).bind fun _=>
 (oM [60] a0.ac [62] false).bind fun(y9:(List UInt8))=>
 (dL ((([99,108,97,115,115,32]++a0.ai).length:Int)+(y9.length:Int)) 1).bind fun _=>
 if(a0.aU==[]) then
 (dL (((([99,108,97,115,115,32]++a0.ai)++y9).length:Int)+([32,123].length:Int)) 1).bind fun _=>
 some ((([99,108,97,115,115,32]++a0.ai)++y9)++[32,123])
 else
 (lG a0 ((a0.aH.length - 0:Int).toNat+1) [] 0).bind fun x0=>
 (dL (((([99,108,97,115,115,32]++a0.ai)++y9).length:Int)+([32,101,120,116,101,110,100,115,32].length:Int)) 1).bind fun _=>
 (dL ((((([99,108,97,115,115,32]++a0.ai)++y9)++[32,101,120,116,101,110,100,115,32]).length:Int)+(a0.aU.length:Int)) 1).bind fun _=>
 (oM [60] x0 [62] false).bind fun(y0:(List UInt8))=>
 (dL (((((([99,108,97,115,115,32]++a0.ai)++y9)++[32,101,120,116,101,110,100,115,32])++a0.aU).length:Int)+(y0.length:Int)) 1).bind fun _=>
 (dL ((((((([99,108,97,115,115,32]++a0.ai)++y9)++[32,101,120,116,101,110,100,115,32])++a0.aU)++y0).length:Int)+([32,123].length:Int)) 1).bind fun _=>
 some (((((([99,108,97,115,115,32]++a0.ai)++y9)++[32,101,120,116,101,110,100,115,32])++a0.aU)++y0)++[32,123])
def nc (a1:List (List UInt8)):Nat->(List Int)->Int->Option ((List Int))
 | 0,_,_=>none
 | n+1,x0,x1=>
 if(decide (x1 < (a1.length:Int))) then
 (idx a1 x1).bind fun y0=>
 (dL ((x0.length:Int)+(y0.length:Int)) 1).bind fun _=>
 (dL (((x0++bu y0).length:Int)+([10].length:Int)) 1).bind fun _=>
 nc a1 n ((x0++bu y0)++bu [10]) (ah (x1+1))
 else
 some x0
def jA (a1:List (List UInt8)) (b1:List Int):Option (List Int):=
 (nc a1 ((a1.length - 0:Int).toNat+1) b1 0).bind fun x0=>
 some x0
def oU (a1:List (List UInt8)) (y0:(List aF)):Nat->(List (List UInt8))->Int->Option ((List (List UInt8)))
 | 0,_,_=>none
 | n+1,x0,x1=>
 if(decide (x1 < (y0.length:Int))) then
 (idx y0 x1).bind fun y1=>
 (rf y1 a1).bind fun y2=>
 (dL ((x0.length:Int)+([y2].length:Int)) 16).bind fun _=>
 oU a1 y0 n (x0++[y2]) (ah (x1+1))
 else
 some x0
def oX (a0:cd) (a1:List (List UInt8)):Option (List UInt8):=
 (nQ a0 (a1.length:Int)).bind fun y3=>
 if(!y3) then
 some []
 else
 if(a0.aa != 2) then
 if(a0.aa==1) then
 some [105,110,116]
 else
 some [118,111,105,100]
 else
 (vE a0).bind fun y0=>
 (oU a1 y0 ((y0.length - 0:Int).toNat+1) [] 0).bind fun x0=>
 (if(decide ((x0.length:Int) > 1)) then
 (jW x0 1 x0.length).bind fun y1=>
 (strings_Join y1 [44,32]).bind fun(y2:List UInt8)=>
 (dL (([60].length:Int)+(y2.length:Int)) 1).bind fun _=>
 (dL ((([60]++y2).length:Int)+([62].length:Int)) 1).bind fun _=>
 (dL ((a0.aM.length:Int)+((([60]++y2)++[62]).length:Int)) 1).bind fun _=>
 some (a0.aM++(([60]++y2)++[62]))
 else
 some a0.aM:Option ((List UInt8))).bind fun x1=>
 if(a0.ae.a0.aa==7) then
 some x1
 else
 (idx x0 0).bind fun y4=>
 (dL ((y4.length:Int)+([32].length:Int)) 1).bind fun _=>
 (dL (((y4++[32]).length:Int)+(x1.length:Int)) 1).bind fun _=>
 some ((y4++[32])++x1)
def lK (a0:dr) (a1:List (List UInt8)):Option (List UInt8):=
 (oX a0.aJ a1).bind fun y1=>
 (dL ((y1.length:Int)+([32].length:Int)) 1).bind fun _=>
 (dL (((y1++[32]).length:Int)+(a0.ai.length:Int)) 1).bind fun _=>
 some ((y1++[32])++a0.ai)
def mZ (a0:bM) (a1:List (List UInt8)):Nat->(List (List UInt8))->Int->Option ((List (List UInt8)))
 | 0,_,_=>none
 | n+1,x0,x1=>
 if(decide (x1 < (a0.ac.length:Int))) then
 (idx a0.ac x1).bind fun y0=>
 (lK y0 a1).bind fun y1=>
 (dL ((x0.length:Int)+([y1].length:Int)) 16).bind fun _=>
 mZ a0 a1 n (x0++[y1]) (ah (x1+1))
 else
 some x0
def vD (a0:bM) (a1:List (List UInt8)):Option (List UInt8):=
 (mZ a0 a1 ((a0.ac.length - 0:Int).toNat+1) [] 0).bind fun x0=>
 (oX a0.af a1).bind fun y0=>
 (dL ((y0.length:Int)+([32].length:Int)) 1).bind fun _=>
 (dL (((y0++[32]).length:Int)+(a0.ai.length:Int)) 1).bind fun _=>
 (oM [40] x0 [41] true).bind fun(y1:(List UInt8))=>
 (dL ((((y0++[32])++a0.ai).length:Int)+(y1.length:Int)) 1).bind fun _=>
 if a0.co=true then
 (dL (([112,117,114,101,32].length:Int)+((((y0++[32])++a0.ai)++y1).length:Int)) 1).bind fun _=>
 some ([112,117,114,101,32]++(((y0++[32])++a0.ai)++y1))
 else
 some (((y0++[32])++a0.ai)++y1)
def ig  : Nat->(List Int)->Int->Int->Option ((List Int))
 | 0,_,_,_=>none
 | n+1,x0,x1,x2=>
 if(decide (x1 < x2)) then
 (idx x0 x2).bind fun(y0:Int)=>
 (idx x0 x1).bind fun(y1:Int)=>
 (idx x0 x1).bind fun _=>
 (idx (x0.set (x1:Int).toNat y0) x2).bind fun _=>
 ig n ((x0.set (x1:Int).toNat y0).set (x2:Int).toNat y1) (ah (x1+1)) (ah (x2 - 1))
 else
 some x0
def jm (b0:List Int):Option (List Int):=
 (ig (b0.length+1) b0 0 (ah ((b0.length:Int) - 1))).bind fun x0=>
 some x0
def oj  : Nat->Int->(List Int)->Option ((List Int))
 | 0,_,_=>none
 | n+1,x0,x1=>
 if(decide (x0 >= 10)) then
 (dL ((x1.length:Int)+([yx (mg (48+(Int.tmod (mg (Int.tdiv x0 10)) 10)))].length:Int)) 1).bind fun _=>
 oj n (mg (Int.tdiv x0 10)) (x1++[yx (mg (48+(Int.tmod (mg (Int.tdiv x0 10)) 10)))])
 else
 some x1
def pR (a0:Int):Option (List UInt8):=
 (if(decide (a0 < 0)) then
 some (mg (0 - (mg a0)))
 else
 some (mg a0):Option (Int)).bind fun x2=>
 (dL ((([]:List Int).length:Int)+([yx (mg (48+(Int.tmod x2 10)))].length:Int)) 1).bind fun _=>
 (oj 21 x2 ([]++[yx (mg (48+(Int.tmod x2 10)))])).bind fun x0=>
 (if(decide (a0 < 0)) then
 (dL ((x0.length:Int)+([45].length:Int)) 1).bind fun _=>
 some (x0++[45])
 else
 some x0:Option ((List Int))).bind fun x1=>
 (jm x1).bind fun y0=>
 some (pY y0)
def B6 : List Gbind_expr:=[⟨[38,38],1,11⟩,⟨[60],2,9⟩,⟨[61,61],2,10⟩,⟨[43],3,6⟩,⟨[45],3,7⟩,⟨[42],4,8⟩]
def JR : List PV:=[.str [38,38],.int .i64 1,.int .i64 11,.str [60],.int .i64 2,.int .i64 9,.str [61,61],.int .i64 2,.int .i64 10,.str [43],.int .i64 3,.int .i64 6,.str [45],.int .i64 3,.int .i64 7,.str [42],.int .i64 4,.int .i64 8]
theorem TU : JR=(map jP B6).flatten:=by kernel_rfl
theorem SM : (1,JR)∈dY:= .tail _ (.head _)
def jI (a0:List Gbind_expr) (q1:Gbind_expr->Option Bool):Nat->Int->Option (Ctl (Int) (Unit))
 | 0,_=>none
 | n+1,x0=>
 if(decide (x0 < (a0.length:Int))) then
 (idx a0 x0).bind fun y0=>
 (q1 y0).bind fun y1=>
 if y1=true then
 some (.stop x0)
 else
 jI a0 q1 n (ah (x0+1))
 else
 some (.next ())
def iL (a0:List Gbind_expr) (q1:Gbind_expr->Option Bool):Option Int:=
 (jI a0 q1 ((a0.length - 0:Int).toNat+1) 0).bind fun lr0=>
 Ctl.elim lr0 (fun v=>some v) fun _=>
 some (-1)
def rM (a0:Gbind_expr) (c0:au):Option Bool:=
 some (a0.fkind==c0.aa)
mutual
def lc : Nat->au->Int->Option (List UInt8)
 | 0,_,_=>none
 | n+1,a0,a1=>
 ((oQ n) a0).bind fun y3=>
 if(decide (y3.2 < a1)) then
 (dL (([40].length:Int)+(y3.1.length:Int)) 1).bind fun _=>
 (dL ((([40]++y3.1).length:Int)+([41].length:Int)) 1).bind fun _=>
 some (([40]++y3.1)++[41])
 else
 some y3.1
def oQ : Nat->au->Option ((List UInt8)×Int)
 | 0,_=>none
 | n+1,a0=>
 if(a0.aa==1) then
 (pR a0.dp).bind fun y2=>
 some (y2,5)
 else
 if(a0.aa==2) then
 some (a0.ai,5)
 else
 if(a0.aa==3) then
 some ([116,104,105,115],5)
 else
 if(a0.aa==4) then
 some ([110,117,108,108],5)
 else
 if(a0.aa==5) then
 some ([105,110,112,117,116],5)
 else
 if(a0.aa==12) then
 (idx a0.aY 0).bind fun y9=>
 ((lc n) y9 5).bind fun y0=>
 (dL (([33].length:Int)+(y0.length:Int)) 1).bind fun _=>
 some (([33]++y0),5)
 else
 if(a0.aa==13) then
 (idx a0.aY 0).bind fun y1=>
 ((lc n) y1 0).bind fun y3=>
 (dL (([110,105,108,40].length:Int)+(y3.length:Int)) 1).bind fun _=>
 (dL ((([110,105,108,40]++y3).length:Int)+([41].length:Int)) 1).bind fun _=>
 some ((([110,105,108,40]++y3)++[41]),5)
 else
 if(a0.aa==14) then
 (idx a0.aY 0).bind fun y4=>
 ((lc n) y4 0).bind fun y5=>
 (dL (([115,97,109,101,40].length:Int)+(y5.length:Int)) 1).bind fun _=>
 (dL ((([115,97,109,101,40]++y5).length:Int)+([44,32].length:Int)) 1).bind fun _=>
 (idx a0.aY 1).bind fun y6=>
 ((lc n) y6 0).bind fun y7=>
 (dL (((([115,97,109,101,40]++y5)++[44,32]).length:Int)+(y7.length:Int)) 1).bind fun _=>
 (dL ((((([115,97,109,101,40]++y5)++[44,32])++y7).length:Int)+([41].length:Int)) 1).bind fun _=>
 some ((((([115,97,109,101,40]++y5)++[44,32])++y7)++[41]),5)
 else
 (iL B6 (fun(z44:Gbind_expr)=>rM z44 a0)).bind fun(y8:Int)=>
 (idx B6 y8).bind fun y10=>
 ((if(y10.fkind==9) then
 some true
 else
 some (y10.fkind==10):Option (Bool)).bind fun x0=>
 if x0=true then
 some (ah (y10.flevel+1))
 else
 some y10.flevel:Option (Int)).bind fun x1=>
 (idx a0.aY 0).bind fun y12=>
 ((lc n) y12 x1).bind fun y13=>
 (idx a0.aY 1).bind fun y14=>
 ((lc n) y14 (ah (y10.flevel+1))).bind fun y15=>
 (strings_Join [y13,y10.fsign,y15] [32]).bind fun(y17:List UInt8)=>
 some (y17,y10.flevel)
end

def re (a0:au):Option (List UInt8):=
 (pJ a0).bind fun y3=>
 if(!y3) then
 some []
 else
 (lc (2 * bR a0+2) a0 0).bind fun y6=>
 some y6
def gV (a0:List UInt8) (a1:List UInt8):Option Bool:=
 if(decide ((a0.length:Int) >= (a1.length:Int))) then
 (jW a0 (ah ((a0.length:Int) - (a1.length:Int))) a0.length).bind fun y2=>
 some (y2==a1)
 else
 some false
def gy (a0:List UInt8) (a1:List UInt8):Option (List UInt8):=
 (gV a0 a1).bind fun y3=>
 if y3=true then
 (jW a0 0 (ah ((a0.length:Int) - (a1.length:Int)))).bind fun y6=>
 some y6
 else
 some a0
def kJ (a0:List UInt8) (a1:List UInt8):Option (List UInt8):=
 (gy a0 a1).bind fun y1=>
 some y1
def eo (a1:ap):Nat->(List (List UInt8))->Int->Option ((List (List UInt8)))
 | 0,_,_=>none
 | n+1,x0,x1=>
 if(decide (x1 < (a1.cO.length:Int))) then
 (idx a1.cO x1).bind fun y0=>
 (re y0).bind fun y1=>
 (dL ((x0.length:Int)+([y1].length:Int)) 16).bind fun _=>
 eo a1 n (x0++[y1]) (ah (x1+1))
 else
 some x0
def eD (a1:ap) (b0_2:List (List UInt8)) (b1:List Int):Option (List UInt8):=
 (re a1.fE).bind fun y3=>
 if(a1.aa==2) then
 (dL ((a1.fY.length:Int)+([46].length:Int)) 1).bind fun _=>
 (dL (((a1.fY++[46]).length:Int)+(a1.ai.length:Int)) 1).bind fun _=>
 some ((a1.fY++[46])++a1.ai)
 else
 if(a1.aa==3) then
 (dL ((a1.fY.length:Int)+([46].length:Int)) 1).bind fun _=>
 (dL (((a1.fY++[46]).length:Int)+(a1.ai.length:Int)) 1).bind fun _=>
 (dL ((((a1.fY++[46])++a1.ai).length:Int)+([32,61,32].length:Int)) 1).bind fun _=>
 (dL (((((a1.fY++[46])++a1.ai)++[32,61,32]).length:Int)+(y3.length:Int)) 1).bind fun _=>
 some ((((a1.fY++[46])++a1.ai)++[32,61,32])++y3)
 else
 if(a1.aa==4) then
 (eo a1 ((a1.cO.length - 0:Int).toNat+1) [] 0).bind fun x0=>
 (dL ((a1.fY.length:Int)+([46].length:Int)) 1).bind fun _=>
 (dL (((a1.fY++[46]).length:Int)+(a1.ai.length:Int)) 1).bind fun _=>
 (dL ((((a1.fY++[46])++a1.ai).length:Int)+([40].length:Int)) 1).bind fun _=>
 (strings_Join x0 [44,32]).bind fun(y0:List UInt8)=>
 (dL (((((a1.fY++[46])++a1.ai)++[40]).length:Int)+(y0.length:Int)) 1).bind fun _=>
 (dL ((((((a1.fY++[46])++a1.ai)++[40])++y0).length:Int)+([41].length:Int)) 1).bind fun _=>
 some (((((a1.fY++[46])++a1.ai)++[40])++y0)++[41])
 else
 if(a1.aa==5) then
 (oX a1.aJ b0_2).bind fun y1=>
 (dL (([110,101,119,32].length:Int)+(y1.length:Int)) 1).bind fun _=>
 some ([110,101,119,32]++y1)
 else
 if(a1.aa==6) then
 (oX a1.aJ b0_2).bind fun y2=>
 (dL (([99,97,115,116,32].length:Int)+(y2.length:Int)) 1).bind fun _=>
 (dL ((([99,97,115,116,32]++y2).length:Int)+([32].length:Int)) 1).bind fun _=>
 (dL (((([99,97,115,116,32]++y2)++[32]).length:Int)+(y3.length:Int)) 1).bind fun _=>
 some ((([99,97,115,116,32]++y2)++[32])++y3)
 else
 if(a1.aa==7) then
 (dL (([109,111,118,101,32].length:Int)+(a1.fY.length:Int)) 1).bind fun _=>
 some ([109,111,118,101,32]++a1.fY)
 else
 if(a1.aa==8) then
 (dL (([100,101,108,101,116,101,32].length:Int)+(a1.fY.length:Int)) 1).bind fun _=>
 some ([100,101,108,101,116,101,32]++a1.fY)
 else
 if(a1.aa==11) then
 (dL (([114,101,116,117,114,110,32].length:Int)+(y3.length:Int)) 1).bind fun _=>
 (kJ ([114,101,116,117,114,110,32]++y3) [32]).bind fun(y4:(List UInt8))=>
 some y4
 else
 some y3
def strings_Repeat (a0:List UInt8) (a1:Int):Option (List UInt8):=Zp a0 a1
def fU (a2:List (List UInt8)):Nat->(List Int)->Int->Option ((List Int))
 | 0,_,_=>none
 | n+1,x0,x1=>
 if(decide (x1 < (a2.length:Int))) then
 (idx a2 x1).bind fun y0=>
 (dL ((x0.length:Int)+(y0.length:Int)) 1).bind fun _=>
 fU a2 n (x0++bu y0) (ah (x1+1))
 else
 some x0
def dz (a1:Int) (a2:List (List UInt8)) (b0_2:List (List UInt8)) (b1:List Int):Option (List Int):=
 (strings_Repeat [9] a1).bind fun(y5:List UInt8)=>
 (dL ((b1.length:Int)+(y5.length:Int)) 1).bind fun _=>
 (fU a2 ((a2.length - 0:Int).toNat+1) (b1++bu y5) 0).bind fun x0=>
 (dL ((x0.length:Int)+1) 1).bind fun _=>
 some (x0++[10])
def ga (a1:ap) (a2:Int) (b0_2:List (List UInt8)) (__stmt_writer__stmt_w_rec:ap->Int->(List (List UInt8))->(List Int)->Option (List Int)):Nat->(List Int)->Int->Option ((List Int))
 | 0,_,_=>none
 | n+1,x0,x1=>
 if(decide (x1 < (a1.aC.length:Int))) then
 (idx a1.aC x1).bind fun y0=>
 (__stmt_writer__stmt_w_rec y0 (ah (a2+1)) b0_2 x0).bind fun y1=>
 ga a1 a2 b0_2 __stmt_writer__stmt_w_rec n y1 (ah (x1+1))
 else
 some x0
def fW (a1:ap) (a2:Int) (b0_2:List (List UInt8)) (__stmt_writer__stmt_w_rec:ap->Int->(List (List UInt8))->(List Int)->Option (List Int)):Nat->(List Int)->Int->Option ((List Int))
 | 0,_,_=>none
 | n+1,x0,x1=>
 if(decide (x1 < (a1.bQ.length:Int))) then
 (idx a1.bQ x1).bind fun y0=>
 (__stmt_writer__stmt_w_rec y0 (ah (a2+1)) b0_2 x0).bind fun y1=>
 fW a1 a2 b0_2 __stmt_writer__stmt_w_rec n y1 (ah (x1+1))
 else
 some x0
def cN : Nat->ap->Int->(List (List UInt8))->(List Int)->Option (List Int)
 | 0,_,_,_,_=>none
 | n+1,a1,a2,b0_2,b1=>
 Ctl.go (if(a1.aa==10) then
 .next [119,104,105,108,101,32,40]
 else
 if(a1.aa==9) then
 .next [105,102,32,40]
 else
 if(!(a1.fX==[])) then
 eZ (eD a1 b0_2 b1) fun(y4:(List UInt8))=>
 eZ (dz a2 [a1.fX,[32,61,32],y4,[59]] b0_2 b1) fun(y6:(List Int))=>
 .stop (some y6)
 else
 eZ (eD a1 b0_2 b1) fun(y8:(List UInt8))=>
 eZ (dz a2 [y8,[59]] b0_2 b1) fun(y0:(List Int))=>
 .stop (some y0):Ctl (Option (List Int)) ((List UInt8))) fun x0=>
 (re a1.fE).bind fun y1=>
 (dz a2 [x0,y1,[41,32,123]] b0_2 b1).bind fun(y2:(List Int))=>
 (ga a1 a2 b0_2 (cN n) ((a1.aC.length - 0:Int).toNat+1) y2 0).bind fun x1=>
 (if(decide ((a1.bQ.length:Int) > 0)) then
 (dz a2 [[125,32,101,108,115,101,32,123]] b0_2 x1).bind fun(y3:(List Int))=>
 some y3
 else
 some x1:Option ((List Int))).bind fun x2=>
 (fW a1 a2 b0_2 (cN n) ((a1.bQ.length - 0:Int).toNat+1) x2 0).bind fun x3=>
 (dz a2 [[125]] b0_2 x3).bind fun(y5:(List Int))=>
 some y5
def vH (a0:ap) (a1:List (List UInt8)) (a2:Int):Option (List UInt8):=
 (nG a0 (a1.length:Int)).bind fun y3=>
 if(!y3) then
 some []
 else
 (cN (cf a0+1) a0 (if(if 20 < a2 then 20 else a2) > 0 then(if 20 < a2 then 20 else a2) else 0) a1 []).bind fun y8=>
 (IG y8).bind fun y0=>
 some y0
def kZ (a0:bH):Nat->(List Int)->Int->Option ((List Int))
 | 0,_,_=>none
 | n+1,x0,x1=>
 if(decide (x1 < (a0.aZ.length:Int))) then
 (idx a0.aZ x1).bind fun y0=>
 (lK y0 a0.ac).bind fun y1=>
 (dL (([9].length:Int)+(y1.length:Int)) 1).bind fun _=>
 (dL ((([9]++y1).length:Int)+([59].length:Int)) 1).bind fun _=>
 (jA [(([9]++y1)++[59])] x0).bind fun(y2:(List Int))=>
 kZ a0 n y2 (ah (x1+1))
 else
 some x0
def kX (a0:bH) (y0:bM):Nat->(List Int)->Int->Option ((List Int))
 | 0,_,_=>none
 | n+1,x0,x1=>
 if(decide (x1 < (y0.aP.length:Int))) then
 (idx y0.aP x1).bind fun y1=>
 (lK y1 a0.ac).bind fun y2=>
 (dL (([9,9].length:Int)+(y2.length:Int)) 1).bind fun _=>
 (dL ((([9,9]++y2).length:Int)+([59].length:Int)) 1).bind fun _=>
 (jA [(([9,9]++y2)++[59])] x0).bind fun(y3:(List Int))=>
 kX a0 y0 n y3 (ah (x1+1))
 else
 some x0
def kV (a0:bH) (y0:bM):Nat->(List Int)->Int->Option ((List Int))
 | 0,_,_=>none
 | n+1,x0,x1=>
 if(decide (x1 < (y0.aC.length:Int))) then
 (idx y0.aC x1).bind fun y1=>
 (vH y1 a0.ac 2).bind fun y2=>
 (dL ((x0.length:Int)+(y2.length:Int)) 1).bind fun _=>
 kV a0 y0 n (x0++bu y2) (ah (x1+1))
 else
 some x0
def jZ (a0:bH):Nat->(List Int)->Int->Option ((List Int))
 | 0,_,_=>none
 | n+1,x0,x1=>
 if(decide (x1 < (a0.am.length:Int))) then
 (idx a0.am x1).bind fun y0=>
 (vD y0 a0.ac).bind fun y1=>
 (dL (([9].length:Int)+(y1.length:Int)) 1).bind fun _=>
 (dL ((([9]++y1).length:Int)+([32,123].length:Int)) 1).bind fun _=>
 (jA [(([9]++y1)++[32,123])] x0).bind fun(y2:(List Int))=>
 (kX a0 y0 ((y0.aP.length - 0:Int).toNat+1) y2 0).bind fun x2=>
 (kV a0 y0 ((y0.aC.length - 0:Int).toNat+1) x2 0).bind fun x3=>
 (jA [[9,125]] x3).bind fun(y3:(List Int))=>
 jZ a0 n y3 (ah (x1+1))
 else
 some x0
def qF (a0:bH) (b1:List Int):Option (List Int):=
 (uw a0).bind fun y5=>
 (jA [y5] b1).bind fun y7=>
 (kZ a0 ((a0.aZ.length - 0:Int).toNat+1) y7 0).bind fun x0=>
 (jZ a0 ((a0.am.length - 0:Int).toNat+1) x0 0).bind fun x1=>
 (jA [[125]] x1).bind fun(y0:(List Int))=>
 some y0
def mN (a0:List bH):Nat->(List Int)->Int->Option ((List Int))
 | 0,_,_=>none
 | n+1,x0,x1=>
 if(decide (x1 < (a0.length:Int))) then
 (idx a0 x1).bind fun y0=>
 (qF y0 x0).bind fun y1=>
 mN a0 n y1 (ah (x1+1))
 else
 some x0
def rk (a0:List bH):Option (List UInt8):=
 (un a0).bind fun y3=>
 if(!y3) then
 some []
 else
 (mN a0 ((a0.length - 0:Int).toNat+1) [] 0).bind fun x0=>
 (IG x0).bind fun y0=>
 some y0
def oi  : Option Bool:=
 (qC [99,108,97,115,115,32,65,60,100,62,32,101,120,116,101,110,100,115,32,66,60,100,62,32,123,32,100,32,67,32,102,59,32,125]).bind fun(y3:(List bH)×dV)=>
 (rk y3.1).bind fun y5=>
 some (y5==[99,108,97,115,115,32,65,60,100,62,32,101,120,116,101,110,100,115,32,66,60,100,62,32,123,10,9,100,32,67,32,102,59,10,125,10])
def mq (x0:Int) (y0:bH):Nat->Int->Option (Ctl (Bool) (Unit))
 | 0,_=>none
 | n+1,x1=>
 if(decide (x1 < x0)) then
 (idx y0.ac x1).bind fun y1=>
 (idx y0.ac x0).bind fun y2=>
 if(y1==y2) then
 some (.stop true)
 else
 mq x0 y0 n (ah (x1+1))
 else
 some (.next ())
def mr (y0:bH):Nat->Int->Option (Ctl (Bool) (Unit))
 | 0,_=>none
 | n+1,x0=>
 if(decide (x0 < (y0.ac.length:Int))) then
 (mq x0 y0 (((x0:Int) - (0)).toNat+1) 0).bind fun lr0=>
 Ctl.elim lr0 (fun v=>some (.stop v)) fun _=>
 mr y0 n (ah (x0+1))
 else
 some (.next ())
def mn (a0:List bH):Nat->Int->Option (Ctl (Bool) (Unit))
 | 0,_=>none
 | n+1,x0=>
 if(decide (x0 < (a0.length:Int))) then
 (idx a0 x0).bind fun y0=>
 (mr y0 ((y0.ac.length - 0:Int).toNat+1) 0).bind fun lr0=>
 Ctl.elim lr0 (fun v=>some (.stop v)) fun _=>
 mn a0 n (ah (x0+1))
 else
 some (.next ())
def sg (a0:List bH):Option Bool:=
 (mn a0 ((a0.length - 0:Int).toNat+1) 0).bind fun lr0=>
 Ctl.elim lr0 (fun v=>some v) fun _=>
 some false
def wl (a0:List ap) (a1:List ap) (ref09_ats_rec:(List ap)->(List ap)->Option Bool):Nat->Int->Option (Ctl (Bool) (Unit))
 | 0,_=>none
 | n+1,x0=>
 if(decide (x0 < (a0.length:Int))) then
 ((idx a0 x0).bind fun y0=>
 (idx a1 x0).bind fun y1=>
 if(y0.fAt != y1.fAt) then
 some true
 else
 (idx a0 x0).bind fun y2=>
 (idx a1 x0).bind fun y3=>
 (ref09_ats_rec y2.aC y3.aC).bind fun y4=>
 if(!y4) then
 some true
 else
 (idx a0 x0).bind fun y5=>
 (idx a1 x0).bind fun y6=>
 (ref09_ats_rec y5.bQ y6.bQ).bind fun y7=>
 some (!y7):Option (Bool)).bind fun x1=>
 if x1=true then
 some (.stop false)
 else
 wl a0 a1 ref09_ats_rec n (ah (x0+1))
 else
 some (.next ())
def rb : Nat->(List ap)->(List ap)->Option Bool
 | 0,_,_=>none
 | n+1,a0,a1=>
 if((a0.length:Int) != (a1.length:Int)) then
 some false
 else
 (wl a0 a1 (rb n) ((a0.length - 0:Int).toNat+1) 0).bind fun lr0=>
 Ctl.elim lr0 (fun v=>some v) fun _=>
 some true
def nt (a0:List dr) (a1:List dr) (a2:Bool):Nat->Int->Option (Ctl (Bool) (Unit))
 | 0,_=>none
 | n+1,x0=>
 if(decide (x0 < (a0.length:Int))) then
 ((idx a0 x0).bind fun y0=>
 (idx a1 x0).bind fun y1=>
 if(!(y0.ai==y1.ai)) then
 some true
 else
 (idx a0 x0).bind fun y2=>
 (idx a1 x0).bind fun y3=>
 if(!(lM y2.aJ y3.aJ)) then
 some true
 else
 if a2=true then
 (idx a0 x0).bind fun y4=>
 (idx a1 x0).bind fun y5=>
 some (y4.fAt != y5.fAt)
 else
 some false:Option (Bool)).bind fun x1=>
 if x1=true then
 some (.stop false)
 else
 nt a0 a1 a2 n (ah (x0+1))
 else
 some (.next ())
def pH (a0:List dr) (a1:List dr) (a2:Bool):Option Bool:=
 if((a0.length:Int) != (a1.length:Int)) then
 some false
 else
 (nt a0 a1 a2 ((a0.length - 0:Int).toNat+1) 0).bind fun lr0=>
 Ctl.elim lr0 (fun v=>some v) fun _=>
 some true
def nq (a0:au) (a1:au) (ref06_Same_rec:au->au->Option Bool):Nat->Int->Option (Ctl (Bool) (Unit))
 | 0,_=>none
 | n+1,x0=>
 if(decide (x0 < (a0.aY.length:Int))) then
 (idx a0.aY x0).bind fun y0=>
 (idx a1.aY x0).bind fun y1=>
 (ref06_Same_rec y0 y1).bind fun y2=>
 if(!y2) then
 some (.stop false)
 else
 nq a0 a1 ref06_Same_rec n (ah (x0+1))
 else
 some (.next ())
def kx : Nat->au->au->Option Bool
 | 0,_,_=>none
 | n+1,a0,a1=>
 (if(a0.aa != a1.aa) then
 some true
 else
 if(a0.dp != a1.dp) then
 some true
 else
 if(!(a0.ai==a1.ai)) then
 some true
 else
 some ((a0.aY.length:Int) != (a1.aY.length:Int)):Option (Bool)).bind fun x4=>
 if x4=true then
 some false
 else
 (nq a0 a1 (kx n) ((a0.aY.length - 0:Int).toNat+1) 0).bind fun lr0=>
 Ctl.elim lr0 (fun v=>some v) fun _=>
 some true
def nw (a0:List ap) (a1:List ap) (ref08_Same_rec:ap->ap->Option Bool):Nat->Int->Option (Ctl (Bool) (Unit))
 | 0,_=>none
 | n+1,x0=>
 if(decide (x0 < (a0.length:Int))) then
 (idx a0 x0).bind fun y0=>
 (idx a1 x0).bind fun y1=>
 (ref08_Same_rec y0 y1).bind fun y2=>
 if(!y2) then
 some (.stop false)
 else
 nw a0 a1 ref08_Same_rec n (ah (x0+1))
 else
 some (.next ())
def nn (a0:ap) (a1:ap):Nat->Int->Option (Ctl (Bool) (Unit))
 | 0,_=>none
 | n+1,x0=>
 if(decide (x0 < (a0.cO.length:Int))) then
 (idx a0.cO x0).bind fun y0=>
 (idx a1.cO x0).bind fun y1=>
 (kx (bR y0+bR y1+1) y0 y1).bind fun y2=>
 if(!y2) then
 some (.stop false)
 else
 nn a0 a1 n (ah (x0+1))
 else
 some (.next ())
mutual
def kC : Nat->(List ap)->(List ap)->Option Bool
 | 0,_,_=>none
 | n+1,a0,a1=>
 if((a0.length:Int) != (a1.length:Int)) then
 some false
 else
 (nw a0 a1 (lZ n) ((a0.length - 0:Int).toNat+1) 0).bind fun lr0=>
 Ctl.elim lr0 (fun v=>some v) fun _=>
 some true
def lZ : Nat->ap->ap->Option Bool
 | 0,_,_=>none
 | n+1,a0,a1=>
 (if(a0.aa != a1.aa) then
 some true
 else
 if(!(a0.fX==a1.fX)) then
 some true
 else
 if(!(a0.fY==a1.fY)) then
 some true
 else
 if(!(a0.ai==a1.ai)) then
 some true
 else
 if(!(lM a0.aJ a1.aJ)) then
 some true
 else
 (kx (bR a0.fE+bR a1.fE+1) a0.fE a1.fE).bind fun y6=>
 if(!y6) then
 some true
 else
 some ((a0.cO.length:Int) != (a1.cO.length:Int)):Option (Bool)).bind fun x9=>
 if x9=true then
 some false
 else
 (nn a0 a1 ((a0.cO.length - 0:Int).toNat+1) 0).bind fun lr0=>
 Ctl.elim lr0 (fun v=>some v) fun _=>
 ((kC n) a0.aC a1.aC).bind fun y0=>
 if y0=true then
 ((kC n) a0.bQ a1.bQ).bind fun y1=>
 some y1
 else
 some false
end

def tH (a0:bM) (a1:bM) (a2:Bool):Option Bool:=
 (if(!(a0.ai==a1.ai)) then
 some true
 else
 if(!(a0.co==a1.co)) then
 some true
 else
 if(!(lM a0.af a1.af)) then
 some true
 else
 if a2=true then
 if(a0.fAt != a1.fAt) then
 some true
 else
 (rb (cb a0.aC+cb a1.aC+1) a0.aC a1.aC).bind fun y6=>
 some (!y6)
 else
 some false:Option (Bool)).bind fun x8=>
 if x8=true then
 some false
 else
 (pH a0.ac a1.ac a2).bind fun y0=>
 if y0=true then
 (pH a0.aP a1.aP a2).bind fun y1=>
 if y1=true then
 (kC (cb a0.aC+cb a1.aC+1) a0.aC a1.aC).bind fun y2=>
 some y2
 else
 some false
 else
 some false
def oT (a0:bH) (a1:bH):Nat->Int->Option (Ctl (Bool) (Unit))
 | 0,_=>none
 | n+1,x0=>
 if(decide (x0 < (a0.ac.length:Int))) then
 (idx a0.ac x0).bind fun y0=>
 (idx a1.ac x0).bind fun y1=>
 if(!(y0==y1)) then
 some (.stop false)
 else
 oT a0 a1 n (ah (x0+1))
 else
 some (.next ())
def oY (a0:bH) (a1:bH):Nat->Int->Option (Ctl (Bool) (Unit))
 | 0,_=>none
 | n+1,x0=>
 if(decide (x0 < (a0.aH.length:Int))) then
 (idx a0.aH x0).bind fun y0=>
 (idx a1.aH x0).bind fun y1=>
 if(!(kO y0 y1)) then
 some (.stop false)
 else
 oY a0 a1 n (ah (x0+1))
 else
 some (.next ())
def oJ (a0:bH) (a1:bH) (a2:Bool):Nat->Int->Option (Ctl (Bool) (Unit))
 | 0,_=>none
 | n+1,x0=>
 if(decide (x0 < (a0.am.length:Int))) then
 (idx a0.am x0).bind fun y0=>
 (idx a1.am x0).bind fun y1=>
 (tH y0 y1 a2).bind fun y2=>
 if(!y2) then
 some (.stop false)
 else
 oJ a0 a1 a2 n (ah (x0+1))
 else
 some (.next ())
def vr (a0:bH) (a1:bH) (a2:Bool):Option Bool:=
 (if(!(a0.ai==a1.ai)) then
 some true
 else
 if(!(a0.aU==a1.aU)) then
 some true
 else
 if((a0.ac.length:Int) != (a1.ac.length:Int)) then
 some true
 else
 if((a0.aH.length:Int) != (a1.aH.length:Int)) then
 some true
 else
 if((a0.am.length:Int) != (a1.am.length:Int)) then
 some true
 else
 if a2=true then
 some (a0.fAt != a1.fAt)
 else
 some false:Option (Bool)).bind fun x7=>
 if x7=true then
 some false
 else
 (oT a0 a1 ((a0.ac.length - 0:Int).toNat+1) 0).bind fun lr0=>
 Ctl.elim lr0 (fun v=>some v) fun _=>
 (oY a0 a1 ((a0.aH.length - 0:Int).toNat+1) 0).bind fun lr1=>
 Ctl.elim lr1 (fun v=>some v) fun _=>
 (oJ a0 a1 a2 ((a0.am.length - 0:Int).toNat+1) 0).bind fun lr2=>
 Ctl.elim lr2 (fun v=>some v) fun _=>
 (pH a0.aZ a1.aZ a2).bind fun y0=>
 some y0
def nk (a0:List bH) (a1:List bH) (a2:Bool):Nat->Int->Option (Ctl (Bool) (Unit))
 | 0,_=>none
 | n+1,x0=>
 if(decide (x0 < (a0.length:Int))) then
 (idx a0 x0).bind fun y0=>
 (idx a1 x0).bind fun y1=>
 (vr y0 y1 a2).bind fun y2=>
 if(!y2) then
 some (.stop false)
 else
 nk a0 a1 a2 n (ah (x0+1))
 else
 some (.next ())
def ud (a0:List bH) (a1:List bH) (a2:Bool):Option Bool:=
 if((a0.length:Int) != (a1.length:Int)) then
 some false
 else
 (nk a0 a1 a2 ((a0.length - 0:Int).toNat+1) 0).bind fun lr0=>
 Ctl.elim lr0 (fun v=>some v) fun _=>
 some true
def pC (a0:List UInt8):Option Bool:=
 if(decide ((a0.length:Int) > 2000)) then
 Option.bind oi fun(y2:Bool)=>
 some y2
 else
 (qC a0).bind fun y6=>
 if(y6.2.bL != 0) then
 Option.bind oi fun(y9:Bool)=>
 some y9
 else
 (rk y6.1).bind fun y0=>
 (if(decide ((y0.length:Int) > 16384)) then
 some true
 else
 (sg y6.1).bind fun y1=>
 some y1:Option (Bool)).bind fun x0=>
 if x0=true then
 Option.bind oi fun(y3:Bool)=>
 some y3
 else
 (qC y0).bind fun y4=>
 if(y4.2.bL==0) then
 (ud y6.1 y4.1 false).bind fun y5=>
 if y5=true then
 (rk y4.1).bind fun y7=>
 if(y7==y0) then
 if(((y6.1.length:Int)==0)==(y0==[])) then
 Option.bind oi fun(y8:Bool)=>
 some y8
 else
 some false
 else
 some false
 else
 some false
 else
 some false
end
end Go.Proofs.YtjimbkljclfflaaGreatDoor
