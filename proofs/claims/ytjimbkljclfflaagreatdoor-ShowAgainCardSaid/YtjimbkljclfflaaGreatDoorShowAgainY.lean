/- A part of the proof that the law ShowAgain gives true for every input. -/
import Derived.Test.YtjimbkljclfflaaGreatDoorShowAgainA5
import Derived.Test.YtjimbkljclfflaaGreatDoorShowAgainT
/- Instances. -/
namespace Go.Proofs.YtjimbkljclfflaaGreatDoor
open Go.RowKit Go.Abs
abbrev pI (n:Int):AV:= .pv (.int .i64 n)
abbrev pS (s:List UInt8):AV:= .pv (.str s)
abbrev pB (b:Bool):AV:= .pv (.bool b)
instance : IntI 3:=⟨trivial⟩
instance : IntI 5:=⟨trivial⟩
instance : AgI Tryz.prog 28 2:=⟨jr⟩
instance : AgI Tryz.prog 70 3:=⟨jD⟩
instance : AgI Tryz.prog 39 7:=⟨nz⟩
instance : AgI Tryz.prog 74 29:=⟨fJ⟩
instance : AgI Tryz.prog 126 28:=⟨Ap⟩
instance : AgI Tryz.prog 42 2:=⟨uR⟩
instance : AgI Tryz.prog 55 23:=⟨gv⟩
instance : AgI Tryz.prog 48 17:=⟨zn⟩
instance : AgI Tryz.prog 45 11:=⟨iW⟩
instance : AgI Tryz.prog 80 13:=⟨zk⟩
instance : AgI Tryz.prog 152 28:=⟨yo⟩
instance : AgI Tryz.prog 175 7:=⟨ko⟩
instance : AgI Tryz.prog 53 4:=⟨eN⟩
instance : AgI Tryz.prog 84 7:=⟨QI⟩
instance : AgI Tryz.prog 212 3:=⟨Sg⟩
instance : ZerI Tryz.prog 126 (br dB):=⟨_,mP,by kernel_rfl⟩
instance : ZerI Tryz.prog 152 (aX cw):=⟨_,jU,by kernel_rfl⟩
instance : ZerI Tryz.prog 175 (ay cG):=⟨_,jg,by kernel_rfl⟩
instance : ZerI Tryz.prog 212 (jP NP):=⟨_,YV,by kernel_rfl⟩
instance : ZerI Tryz.prog 28 (cr aK):=⟨_,pb,by kernel_rfl⟩
instance : ZerI Tryz.prog 39 (bl zGClass):=⟨_,Mu,by kernel_rfl⟩
instance : ZerI Tryz.prog 42 (ax av):=⟨_,wh,by kernel_rfl⟩
instance : ZerI Tryz.prog 45 (bV cA):=⟨_,xj,by kernel_rfl⟩
instance : ZerI Tryz.prog 48 (bg zGMethod):=⟨_,LC,by kernel_rfl⟩
instance : ZerI Tryz.prog 53 (aE bT):=⟨_,jX,by kernel_rfl⟩
instance : ZerI Tryz.prog 55 (bm iM):=⟨_,Br,by kernel_rfl⟩
instance : ZerI Tryz.prog 70 (ak jz):=⟨_,qy,by kernel_rfl⟩
instance : ZerI Tryz.prog 74 (bN zGGot_ref09):=⟨_,kj,by kernel_rfl⟩
instance : ZerI Tryz.prog 80 (aj nF):=⟨_,wq,by kernel_rfl⟩
instance : ZerI Tryz.prog 84 (be jB):=⟨_,We,by kernel_rfl⟩
instance (x:bH):FulI (bl x) 7:=⟨rfl,rfl,rfl⟩
instance (x:aI):FulI (be x) 7:=⟨rfl,rfl,rfl⟩
instance (x:au):FulI (aE x) 4:=⟨rfl,rfl,rfl⟩
instance (x:dV):FulI (cr x) 2:=⟨rfl,rfl,rfl⟩
instance (x:aV):FulI (ay x) 7:=⟨rfl,rfl,rfl⟩
instance (x:ce):FulI (br x) 28:=⟨rfl,rfl,rfl⟩
instance (x:bn):FulI (aX x) 28:=⟨rfl,rfl,rfl⟩
instance (x:ba):FulI (bN x) 29:=⟨rfl,rfl,rfl⟩
instance (x:bM):FulI (bg x) 17:=⟨rfl,rfl,rfl⟩
instance (x:aF):FulI (ax x) 2:=⟨rfl,rfl,rfl⟩
instance (x:ap):FulI (bm x) 23:=⟨rfl,rfl,rfl⟩
instance (x:az):FulI (ak x) 3:=⟨rfl,rfl,rfl⟩
instance (x:cd):FulI (bV x) 11:=⟨rfl,rfl,rfl⟩
instance (x:dr):FulI (aj x) 13:=⟨rfl,rfl,rfl⟩
instance (x:Gbind_expr):FulI (jP x) 3:=⟨rfl,rfl,rfl⟩
instance (l:List au):IdxI (bU l) l aE:=⟨cT l⟩
instance (l:List ap):IdxI (bc l) l bm:=⟨iA l⟩
end Go.Proofs.YtjimbkljclfflaaGreatDoor
