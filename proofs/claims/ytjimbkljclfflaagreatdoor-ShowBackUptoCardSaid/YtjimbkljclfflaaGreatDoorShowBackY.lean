/- A part of the proof that the law ShowBack gives true for every input. -/
import Derived.Test.YtjimbkljclfflaaGreatDoorShowBackA5
import Derived.Test.YtjimbkljclfflaaGreatDoorShowBackT
/- Instances. -/
namespace Go.Proofs.YtjimbkljclfflaaGreatDoor
open Go.RowKit Go.Abs
abbrev pI (n:Int):AV:= .pv (.int .i64 n)
abbrev pS (s:List UInt8):AV:= .pv (.str s)
abbrev pB (b:Bool):AV:= .pv (.bool b)
instance : IntI 3:=⟨trivial⟩
instance : IntI 5:=⟨trivial⟩
instance : AgI Tryz.prog 39 7:=⟨nN⟩
instance : AgI Tryz.prog 48 17:=⟨yY⟩
instance : AgI Tryz.prog 55 23:=⟨ec⟩
instance : AgI Tryz.prog 53 4:=⟨dR⟩
instance : AgI Tryz.prog 70 3:=⟨jo⟩
instance : AgI Tryz.prog 28 2:=⟨PH⟩
instance : AgI Tryz.prog 74 29:=⟨zd⟩
instance : AgI Tryz.prog 42 2:=⟨qj⟩
instance : AgI Tryz.prog 126 28:=⟨Oe⟩
instance : AgI Tryz.prog 45 11:=⟨fH⟩
instance : AgI Tryz.prog 80 13:=⟨A8⟩
instance : AgI Tryz.prog 152 28:=⟨Vd⟩
instance : AgI Tryz.prog 175 7:=⟨rB⟩
instance : AgI Tryz.prog 84 7:=⟨TJ⟩
instance : AgI Tryz.prog 212 3:=⟨UX⟩
instance : AgI Tryz.prog 43 8:=⟨Tq⟩
instance : ZerI Tryz.prog 126 (bw dm):=⟨_,nT,by kernel_rfl⟩
instance : ZerI Tryz.prog 152 (bz cO):=⟨_,pt,by kernel_rfl⟩
instance : ZerI Tryz.prog 175 (aF cB):=⟨_,jw,by kernel_rfl⟩
instance : ZerI Tryz.prog 212 (js Sn):=⟨_,abj,by kernel_rfl⟩
instance : ZerI Tryz.prog 28 (lQ aM):=⟨_,Kx,by kernel_rfl⟩
instance : ZerI Tryz.prog 39 (aH zGClass):=⟨_,P8,by kernel_rfl⟩
instance : ZerI Tryz.prog 42 (aC aq):=⟨_,vZ,by kernel_rfl⟩
instance : ZerI Tryz.prog 45 (bt dY):=⟨_,uL,by kernel_rfl⟩
instance : ZerI Tryz.prog 48 (aY zGMethod):=⟨_,Qc,by kernel_rfl⟩
instance : ZerI Tryz.prog 53 (ap cA):=⟨_,iZ,by kernel_rfl⟩
instance : ZerI Tryz.prog 55 (ax iW):=⟨_,DR,by kernel_rfl⟩
instance : ZerI Tryz.prog 70 (aj je):=⟨_,rj,by kernel_rfl⟩
instance : ZerI Tryz.prog 74 (bc zGGot_ref09):=⟨_,nP,by kernel_rfl⟩
instance : ZerI Tryz.prog 80 (aI pM):=⟨_,yf,by kernel_rfl⟩
instance : ZerI Tryz.prog 84 (aV jj):=⟨_,ZU,by kernel_rfl⟩
instance (x:be):FulI (aH x) 7:=⟨rfl,rfl,rfl⟩
instance (x:aE):FulI (aV x) 7:=⟨rfl,rfl,rfl⟩
instance (x:ai):FulI (ap x) 4:=⟨rfl,rfl,rfl⟩
instance (x:bv):FulI (aF x) 7:=⟨rfl,rfl,rfl⟩
instance (x:br):FulI (aY x) 17:=⟨rfl,rfl,rfl⟩
instance (x:ay):FulI (aC x) 2:=⟨rfl,rfl,rfl⟩
instance (x:ah):FulI (ax x) 23:=⟨rfl,rfl,rfl⟩
instance (x:aK):FulI (aj x) 3:=⟨rfl,rfl,rfl⟩
instance (x:bZ):FulI (bt x) 11:=⟨rfl,rfl,rfl⟩
instance (x:cN):FulI (aI x) 13:=⟨rfl,rfl,rfl⟩
instance (x:Gbind_expr):FulI (js x) 3:=⟨rfl,rfl,rfl⟩
instance (l:List ai):IdxI (bR l) l ap:=⟨cr l⟩
instance (l:List ah):IdxI (bT l) l ax:=⟨eG l⟩
end Go.Proofs.YtjimbkljclfflaaGreatDoor
