/- A part of the proof that the law ShowBack gives true for every input. -/
import Derived.Test.YtjimbkljclfflaaGreatDoorShowBackT
import Derived.Test.YtjimbkljclfflaaGreatDoorShowBackY
import Derived.Test.YtjimbkljclfflaaGreatDoorShowBackB
import Derived.Test.YtjimbkljclfflaaGreatDoorShowBackS
import Derived.Test.YtjimbkljclfflaaGreatDoorShowBackX
import Derived.Test.YtjimbkljclfflaaGreatDoorShowBackI
import Derived.Test.YtjimbkljclfflaaGreatDoorShowBackW1
/- Each Go function computes its plain function. -/
namespace Go.Proofs.YtjimbkljclfflaaGreatDoor
open List
open Go.RowKit Go.Abs
set_option maxRecDepth 100000
set_option maxHeartbeats 4000000
theorem DA : ∀ n:Nat,(∀ (a0:List aK) (a1:Int) (a2:List (List UInt8)) (a3:Int) (r:ct),dP n a0 a1 a2 a3=some r->FZ 119 [.vs 3 (map aj a0),.int .i64 a1,.vs 1 (map eS a2),.int .i64 a3] [.p (.agg (bz r))])/\(∀ (a0:List aK) (a1:Int) (a2:ah) (a3:List (List UInt8)) (a4:Int) (r:ct),mQ n a0 a1 a2 a3 a4=some r->FZ 153 [.vs 3 (map aj a0),.int .i64 a1,.agg (ax a2),.vs 1 (map eS a3),.int .i64 a4] [.p (.agg (bz r))])/\(∀ (a0:List aK) (a1:Int) (a2:List (List UInt8)) (a3:Int) (r:ct),jM n a0 a1 a2 a3=some r->FZ 179 [.vs 3 (map aj a0),.int .i64 a1,.vs 1 (map eS a2),.int .i64 a3] [.p (.agg (bz r))]):=by
 intro n
 induction n with
 | zero=>exact⟨fun _ _ _ _ _ h=>by simp[dP] at h,fun _ _ _ _ _ _ h=>by simp[mQ] at h,fun _ _ _ _ _ h=>by simp[jM] at h⟩
 | succ n ih=>
  obtain⟨ref08_Parse_ih,ref08_asks_ih,ref08_Block_ih⟩:=ih;refine⟨?_,?_,?_⟩
  ·intro a0 a1 a2 a3 r F;unfold dP at F
   revert F ref08_Parse_ih ref08_asks_ih ref08_Block_ih
   generalize dP n=ref08_Parse_rec
   generalize mQ n=ref08_asks_rec
   generalize jM n=ref08_Block_rec
   intro ref08_Parse_ih ref08_asks_ih ref08_Block_ih F;refine fb 141 Tryz.func119 fun w O=> ?_;obtain⟨y3,h4,F⟩:=bs F;refine rgp (clA 1 (gi h4)) ?_;refine rgp (ek rfl rfl BV jP rfl rfl rfl) ?_;refine rq (bd ((ax iW)) (ax (⟨0,[],[],[],dY,cA,[],[],[],y3.fAt⟩:ah)) DR adU) ?_;refine cnd F (fun hb5 F=> ?_) fun hb5 F=> ?_
   ·cases F
   refine ga2 ?_;(iterate 2 refine aJ ?_);obtain⟨x0,F,hK0⟩:=bs F;refine ctq (sX 141 [pf 0 (.vs 3 (map aj a0)),pf 1 (.int .i64 a1),pf 2 (.vs 1 (map eS a2)),pf 3 (.int .i64 a3),(8,some (.lp 0 0)),(9,some (.lp 1 0)),pf 29 (.bool x0)] [bf 0 152 (bz cO),bf 1 55 (ax (⟨0,[],[],[],dY,cA,[],[],[],y3.fAt⟩:ah))] 2) ?_ ?_
   ·obtain⟨y8,h9,F⟩:=bs F;refine rq (clA 2 (zr h9)) ?_;refine iq F (fun hb0 F=> ?_) fun hb0 F=> ?_
    ·obtain⟨y0,h0,F⟩:=bs F;refine rgn hb0 (clA 2 (cF h0)) ?_;exact tl [0,1]
    exact tl [0,1]
   have F:=hK0;refine cq F (fun hb1 F=> ?_) fun hb1 F=> ?_
   ·refine rgp (la (ax (⟨0,[],[],[],dY,cA,[],[],[],y3.fAt⟩:ah)) ec) ?_;obtain⟨y1,h1,F⟩:=bs F;refine rgp (clA 2 (yZ h1)) ?_;exact tl []
   obtain⟨y2,h2,F⟩:=bs F;refine rgp (clA 2 (gi h2)) ?_;refine rq (ek rfl rfl rn jP rfl rfl rfl) ?_;refine cq F (fun hb2 F=> ?_) fun hb2 F=> ?_
   ·obtain⟨y4,h3,F⟩:=bs F;refine rq (clA 2 (cF h3)) ?_;refine cnd F (fun hb3 F=> ?_) fun hb3 F=> ?_
    ·cases F
    refine gg ?_;obtain⟨y5,h5,F⟩:=bs F;refine rgp (clA 2 (gi h5)) ?_;refine rq (ek rfl rfl tu yn rfl rfl rfl) ?_;refine rq (la (ax ({ ({ aa:=0,fX:=[],fY:=[],af:=[],av:=dY,fE:=cA,bN:=[],au:=[],aZ:=[],fAt:=y3.fAt }:ah) with fX:=y5.bV }:ah)) ec) ?_;obtain⟨y6,h6,F⟩:=bs F;refine rgp (clA 2 (LI h6)) ?_;exact tl []
   obtain⟨y7,h7,F⟩:=bs F;refine rq (clA 2 (cF h7)) ?_;refine cnd F (fun hb4 F=> ?_) fun hb4 F=> ?_
   ·cases F
   refine gg ?_;obtain⟨y9,h8,F⟩:=bs F;refine rq (clA 2 (cF h8)) ?_;refine cnd F (fun hb6 F=> ?_) fun hb6 F=> ?_
   ·refine gg ?_;obtain⟨y10,h10,F⟩:=bs F;refine rgp (clA 2 (gi h10)) ?_;refine rq (ek rfl rfl rn jP rfl rfl rfl) ?_;refine cnd F (fun hb7 F=> ?_) fun hb7 F=> ?_
    ·cases F
    refine gg ?_;obtain⟨y12,h11,F⟩:=bs F;refine rgp (clA 2 (gi h11)) ?_;refine rq (ek rfl rfl tu yn rfl rfl rfl) ?_;refine rgp (la (ax ({ ({ ({ aa:=0,fX:=[],fY:=[],af:=[],av:=dY,fE:=cA,bN:=[],au:=[],aZ:=[],fAt:=y3.fAt }:ah) with aa:=8 }:ah) with fY:=y12.bV }:ah)) ec) ?_;obtain⟨y13,h13,F⟩:=bs F;refine rgp (clA 2 (jd h13)) ?_;exact tl []
   refine ga2 ?_;(iterate 2 refine aJ ?_);obtain⟨x1,F,hK1⟩:=bs F;refine ctq (sX 141 [pf 0 (.vs 3 (map aj a0)),pf 1 (.int .i64 a1),pf 2 (.vs 1 (map eS a2)),pf 3 (.int .i64 a3),(8,some (.lp 0 0)),(9,some (.lp 1 0)),pf 98 (.bool x1)] [bf 0 152 (bz cO),bf 1 55 (ax (⟨0,[],[],[],dY,cA,[],[],[],y3.fAt⟩:ah))] 2) ?_ ?_
   ·obtain⟨y14,h14,F⟩:=bs F;refine rq (clA 2 (cF h14)) ?_;refine iq F (fun hb8 F=> ?_) fun hb8 F=> ?_
    ·exact tl [0,1]
    obtain⟨y15,h15,F⟩:=bs F;refine rgn hb8 (clA 2 (cF h15)) ?_;exact tl [0,1]
   have F:=hK1;refine cq F (fun hb9 F=> ?_) fun hb9 F=> ?_
   ·refine rq (la (ax (⟨0,[],[],[],dY,cA,[],[],[],y3.fAt⟩:ah)) ec) ?_;refine rgp (xZ rfl rfl rfl rfl rfl) ?_;obtain⟨y18,h16,F⟩:=bs F;refine rgp (clA 2 (ref08_asks_ih _ _ _ _ _ _ h16)) ?_;exact tl []
   obtain⟨y19,h19,F⟩:=bs F;refine rq (clA 2 (cF h19)) ?_;refine cnd F (fun hb11 F=> ?_) fun hb11 F=> ?_
   ·cases F
   refine gg ?_;obtain⟨y20,h20,F⟩:=bs F;refine rq (clA 2 (cF h20)) ?_;refine cq F (fun hb12 F=> ?_) fun hb12 F=> ?_
   ·refine rq (la (ax ({ ({ aa:=0,fX:=[],fY:=[],af:=[],av:=dY,fE:=cA,bN:=[],au:=[],aZ:=[],fAt:=y3.fAt }:ah) with aa:=11 }:ah)) ec) ?_;refine rgp (bd ((bz cO)) (bz ({ fS:=({ ({ aa:=0,fX:=[],fY:=[],af:=[],av:=dY,fE:=cA,bN:=[],au:=[],aZ:=[],fAt:=y3.fAt }:ah) with aa:=11 }:ah),fL:=[],fA:=[],aU:=ae (a1+2),fF:=aM }:ct)) pt xT) ?_;exact tl []
   obtain⟨y22,h21,F⟩:=bs F;refine rgp (cl 2 [.vs 3 (map aj a0),.int .i64 (ae (a1+1))] [.p (.agg (aF y22))] (oo h21)) ?_;refine rgp (al 2 (aF cB) jw) ?_;refine go9 ?_;refine cnd F (fun hb14 F=> ?_) fun hb14 F=> ?_
   ·cases F
   refine gg ?_;refine rq (la (ap y22.fE) dR) ?_;refine rgp (la (ax ({ ({ ({ aa:=0,fX:=[],fY:=[],af:=[],av:=dY,fE:=cA,bN:=[],au:=[],aZ:=[],fAt:=y3.fAt }:ah) with aa:=11 }:ah) with fE:=y22.fE }:ah)) ec) ?_;obtain⟨y23,h23,F⟩:=bs F;refine rgp (clA 3 (jd h23)) ?_;exact tl []
  ·intro a0 a1 a2 a3 a4 r F;unfold mQ at F
   revert F ref08_Parse_ih ref08_asks_ih ref08_Block_ih
   generalize dP n=ref08_Parse_rec
   generalize mQ n=ref08_asks_rec
   generalize jM n=ref08_Block_rec
   intro ref08_Parse_ih ref08_asks_ih ref08_Block_ih F;refine bM (n:=100) Tryz.func153 rfl rfl rfl fun w O=> ?_;refine ga8 ?_;refine aJ ?_;obtain⟨x6,F,hK8⟩:=bs F;refine ctq (sX 100 [pf 0 (.vs 3 (map aj a0)),pf 1 (.int .i64 a1),pf 3 (.vs 1 (map eS a3)),pf 4 (.int .i64 a4),(7,some (.lp 0 0)),(10,some (.lp 1 0))] [bf 0 55 (ax x6),bf 1 152 (bz cO)] 2) ?_ ?_
   ·obtain⟨y3,h4,F⟩:=bs F;refine rgp (clA 2 (cF h4)) ?_;refine go ?_;refine cnd F (fun hb5 F=> ?_) fun hb5 F=> ?_
    ·exact tl [0,1]
    exact tl [0,1]
   have F:=hK8;obtain⟨y0,h0,F⟩:=bs F;refine rq (clA 2 (cF h0)) ?_;refine cnd F (fun hb15 F=> ?_) fun hb15 F=> ?_
   ·cases F
   refine gg ?_;obtain⟨y24,h24,F⟩:=bs F;refine rgp (cl 2 [.vs 3 (map aj a0),.int .i64 (ae (a1+2))] [.p (.agg (aF y24))] (oo h24)) ?_;refine rgp (al 2 (aF cB) jw) ?_;refine go9 ?_;refine cnd F (fun hb17 F=> ?_) fun hb17 F=> ?_
   ·cases F
   refine gg ?_;refine rq (la (ap y24.fE) dR) ?_;obtain⟨y2,h2,F⟩:=bs F;refine rq (clA 3 (cF h2)) ?_;refine cnd F (fun hb2 F=> ?_) fun hb2 F=> ?_
   ·cases F
   refine gg ?_;obtain⟨y4,h3,F⟩:=bs F;refine rgp (cl 3 [.vs 3 (map aj a0),.int .i64 (ae (y24.aU+1)),.vs 1 (map eS a3),.int .i64 (ae (a4+1))] [.p (.agg (bz y4))] (ref08_Block_ih _ _ _ _ _ h3)) ?_;refine rgp (al 3 (bz cO) pt) ?_;refine go9 ?_;refine cnd F (fun hb3 F=> ?_) fun hb3 F=> ?_
   ·cases F
   refine ga8 ?_;(iterate 2 refine aJ ?_);obtain⟨x2,F,hK2⟩:=bs F;refine ctq (sX 100 [pf 0 (.vs 3 (map aj a0)),pf 3 (.vs 1 (map eS a3)),pf 4 (.int .i64 a4),(7,some (.lp 0 0)),(10,some (.lp 1 0)),(12,some (.lp 2 0)),pf 75 (.bool x2)] [bf 0 55 (ax ({ ({ x6 with fE:=y24.fE }:ah) with au:=y4.fL }:ah)),bf 1 152 (bz cO),bf 2 152 (bz y4)] 3) ?_ ?_
   ·refine iq F (fun hb19 F=> ?_) fun hb19 F=> ?_
    ·obtain⟨y25,h25,F⟩:=bs F;refine rgn hb19 (clA 4 (cF h25)) ?_;exact tl [0,1,3]
    exact tl [0,1,3]
   have F:=hK2;refine cq F (fun hb20 F=> ?_) fun hb20 F=> ?_
   ·obtain⟨y27,h26,F⟩:=bs F;refine rgp (cl 3 [.vs 3 (map aj a0),.int .i64 (ae (y4.aU+1)),.vs 1 (map eS a3),.int .i64 (ae (a4+1))] [.p (.agg (bz y27))] (ref08_Block_ih _ _ _ _ _ h26)) ?_;refine rgp (al 3 (bz cO) pt) ?_;refine go9 ?_;refine cnd F (fun hb21 F=> ?_) fun hb21 F=> ?_
    ·cases F
    refine gg ?_;refine rq (la (ax ({ ({ ({ x6 with fE:=y24.fE }:ah) with au:=y4.fL }:ah) with aZ:=y27.fL }:ah)) ec) ?_;refine rgp (bd ((bz cO)) (bz ({ fS:=({ ({ ({ x6 with fE:=y24.fE }:ah) with au:=y4.fL }:ah) with aZ:=y27.fL }:ah),fL:=[],fA:=[],aU:=y27.aU,fF:=aM }:ct)) pt xT) ?_;exact tl []
   refine rq (la (ax ({ ({ x6 with fE:=y24.fE }:ah) with au:=y4.fL }:ah)) ec) ?_;refine rgp (bd ((bz cO)) (bz ({ fS:=({ ({ x6 with fE:=y24.fE }:ah) with au:=y4.fL }:ah),fL:=[],fA:=[],aU:=y4.aU,fF:=aM }:ct)) pt xT) ?_;exact tl []
  ·intro a0 a1 a2 a3 r F;unfold jM at F
   revert F ref08_Parse_ih ref08_asks_ih ref08_Block_ih
   generalize dP n=ref08_Parse_rec
   generalize mQ n=ref08_asks_rec
   generalize jM n=ref08_Block_rec
   intro ref08_Parse_ih ref08_asks_ih ref08_Block_ih F;refine fb 45 Tryz.func179 fun w O=> ?_;obtain⟨y3,h4,F⟩:=bs F;refine rq (clA 1 (cF h4)) ?_;refine cnd F (fun hb5 F=> ?_) fun hb5 F=> ?_
   ·cases F
   refine ga9 ?_;refine cT (ib 9 55 23 1 rfl rfl) ?_;refine gg ?_;obtain⟨lr0,F,hK3⟩:=bs F;refine lpE (sX 45 [pf 1 (.int .i64 lr0.1),(8,some (.lp 0 0)),(9,some (.ls 1))] [bf 0 152 (bz cO),(1,some (.row 55 23 (bT lr0.2)))] 2) (fun(q:Int×(List ah))=>(sX 45 [pf 0 (.vs 3 (map aj a0)),pf 1 (.int .i64 q.1),pf 2 (.vs 1 (map eS a2)),pf 3 (.int .i64 a3),(8,some (.lp 0 0)),(9,some (.ls 1))] [bf 0 152 (bz cO),(1,some (.row 55 23 (bT q.2)))] 2)) (fun k q=>mr a0 a2 a3 ref08_Parse_rec k q.1 q.2) (ae (a1+1),[]) (bG [0,1]) F (fun k ⟨x3,x4⟩ F ih=> ?_) ?_
   ·refine gg ?_;obtain⟨y28,h28,F⟩:=bs F;refine rq (clA 2 (cF h28)) ?_;refine cq F (fun hb22 F=> ?_) fun hb22 F=> ?_
    ·obtain⟨y29,h29,F⟩:=bs F;refine rgp (cl 2 [.vs 3 (map aj a0),.int .i64 x3,.vs 1 (map eS a2),.int .i64 a3] [.p (.agg (bz y29))] (ref08_Parse_ih _ _ _ _ _ h29)) ?_;refine rgp (al 2 (bz cO) pt) ?_;refine go9 ?_;refine cnd F (fun hb24 F=> ?_) fun hb24 F=> ?_
     ·cases F
     refine gg ?_;refine rgp (la (ax y29.fS) ec) ?_;refine rgp (xQ (rows:=map ax ([y29.fS]:List ah)) (rows':=bT ([y29.fS]:List ah)) (zs:=(ax iW)) rfl rfl vd DR (by exact⟨rfl,rfl,rfl,rfl,rfl,rfl,rfl,rfl,rfl,rfl,rfl,rfl,rfl,rfl,rfl,rfl,rfl,rfl,trivial,trivial,trivial,trivial,rfl,trivial⟩) rfl rfl rfl rfl rfl rfl (eG _) rfl rfl) ?_;obtain⟨u0,h30,F⟩:=bs F;refine rgp (fJ 3 rfl rfl rfl rfl rfl vd Zo DR rfl rfl rfl (UI eG h30) (abT eG _ _) rfl rfl) ?_;refine ga6 ?_;refine ci ?_;refine piz (sX 45 [pf 0 (.vs 3 (map aj a0)),pf 1 (.int .i64 y29.aU),pf 2 (.vs 1 (map eS a2)),pf 3 (.int .i64 a3),(8,some (.lp 0 0)),(9,some (.ls 1))] [bf 0 152 (bz cO),(1,some (.row 55 23 (bT (x4++[y29.fS]))))] 2) [0,3] ?_;refine go ?_;refine fu ?_;exact aP (ih (y29.aU,(x4++[y29.fS])) F) (bG [0,1])
    exact tl [0,1]
   have F:=hK3;obtain⟨x5,x7⟩:=lr0;refine ga5 ?_;refine cT (gW [(1,some (.row 55 23 (bT x7)))] [(9,some (.pv (.vs 23 (bT x7)))),(41,some (.pv (.vs 23 (bT x7))))] (FzH.spec ⟨rfl,trivial⟩) ⟨⟨_,rfl,rfl⟩,⟨_,rfl,rfl⟩,trivial⟩) ?_;refine rgp (bd ((bz cO)) (bz (⟨iW,x7,[],ae (x5+1),aM⟩:ct)) pt xT) ?_;exact tl []
theorem KV {n:Nat} {a0:List aK} {a1:Int} {a2:List (List UInt8)} {a3:Int} {r:ct} (F:dP n a0 a1 a2 a3=some r):FZ 119 [.vs 3 (map aj a0),.int .i64 a1,.vs 1 (map eS a2),.int .i64 a3] [.p (.agg (bz r))]:=(DA n).1 _ _ _ _ _ F
theorem FX {a0:List aK} {a1:Int} {a2:List (List UInt8)} {a3_0:List UInt8} {a3_1:Bool} {a3_2:Int} {a3_3:List UInt8} {a3_4:Int} {a3_5:Int} {a3_6:Int} {a3_7:Int} {a3_8:Int} {a3_9:Int} {a3_10:Int} {a3_11:Int} {a3_12:Int} {a3_13:List cN} {a3_14:List cN} {a3_16:Int} {a4:Int} {b0:List ah} {r:cJ} (F:rz a0 a1 a2 a3_0 a3_1 a3_2 a3_3 a3_4 a3_5 a3_6 a3_7 a3_8 a3_9 a3_10 a3_11 a3_12 a3_13 a3_14 a3_16 a4 b0=some r):Abs.FnW eg Tryz.prog 89 [.pv (.vs 3 (map aj a0)),pI a1,.pv (.vs 1 (map eS a2)),.agg [pS a3_0,pB a3_1,pI a3_2,pS a3_3,pI a3_4,pI a3_5,pI a3_6,pI a3_7,pI a3_8,pI a3_9,pI a3_10,pI a3_11,pI a3_12,.pv (.vs 13 (map aI a3_13)),.pv (.vs 13 (map aI a3_14)),.ls 0,pI a3_16],pI a4] [(0,some (.row 55 23 (bT b0)))] 1 [] [.pv (.agg (bc r))] [(0,some (.box 74 (bxv (bc r))))] 1:=by
 unfold rz at F;refine iB (n:=89) (m:=1) [] Tryz.func89 rfl rfl rfl ?_;intro c w O θ hcx;refine gg ?_;obtain⟨y3,h4,F⟩:=bs F;refine rgp (cl 3 [.vs 3 (map aj a0),.int .i64 a1,.vs 1 (map eS a2)] [.p (.agg (bc y3))] (FC h4)) ?_;refine rgp (al 3 (bc zGGot_ref09) nP) ?_;refine go9 ?_;refine cnd F (fun hb5 F=> ?_) fun hb5 F=> ?_
 ·cases F
 refine gg ?_;obtain⟨y8,h9,F⟩:=bs F;refine rq (clA 4 (eC h9)) ?_;refine cnd F (fun hb0 F=> ?_) fun hb0 F=> ?_
 ·cases F
 refine gg ?_;obtain⟨y0,h0,F⟩:=bs F;refine rgp (cl 4 [.vs 3 (map aj a0),.int .i64 (ae (y3.aU+1)),.vs 1 (map eS a2)] [.p (.agg (bc y0))] (Ga h0)) ?_;refine rgp (al 4 (bc zGGot_ref09) nP) ?_;refine go9 ?_;refine cnd F (fun hb1 F=> ?_) fun hb1 F=> ?_
 ·cases F
 refine gg ?_;obtain⟨lr0,F,hK0⟩:=bs F;refine lpE (sX 89 [pf 1 (.int .i64 lr0.1),(8,some (.lp 0 0)),(10,some (.lp 2 0))] [(0,some (.box 48 [pS a3_0,pB a3_1,pI a3_2,pS a3_3,pI a3_4,pI a3_5,pI a3_6,pI a3_7,pI a3_8,pI a3_9,pI a3_10,pI a3_11,pI a3_12,.pv (.vs 13 (map aI y3.fV)),.pv (.vs 13 (map aI y0.fV)),.ls 1,pI a3_16])),(1,some (.row 55 23 (bT lr0.2))),bf 2 74 (bc zGGot_ref09)] 3) (fun(q:Int×Int×(List ah))=>(sX 89 [pf 0 (.vs 3 (map aj a0)),pf 1 (.int .i64 q.1),pf 2 (.vs 1 (map eS a2)),pf 4 (.int .i64 q.2.1),(8,some (.lp 0 0)),(10,some (.lp 2 0))] [(0,some (.box 48 [pS a3_0,pB a3_1,pI a3_2,pS a3_3,pI a3_4,pI a3_5,pI a3_6,pI a3_7,pI a3_8,pI a3_9,pI a3_10,pI a3_11,pI a3_12,.pv (.vs 13 (map aI y3.fV)),.pv (.vs 13 (map aI y0.fV)),.ls 1,pI a3_16])),(1,some (.row 55 23 (bT q.2.2))),bf 2 74 (bc zGGot_ref09)] 3)) (fun k q=>kz a0 a2 k q.1 q.2.1 q.2.2) (y0.aU,a4,b0) (bG [1,0,2]) F (fun k ⟨x0,x1,x2⟩ F ih=> ?_) ?_
 ·refine gg ?_;obtain⟨y1,h1,F⟩:=bs F;refine rq (clA 3 (eC h1)) ?_;refine cq F (fun hb2 F=> ?_) fun hb2 F=> ?_
  ·obtain⟨y2,h2,F⟩:=bs F;refine rgp (cl 3 [.vs 3 (map aj a0),.int .i64 x0,.vs 1 (map eS a2),.int .i64 0] [.p (.agg (bz y2))] (KV h2)) ?_;refine rgp (al 3 (bz cO) pt) ?_;refine go9 ?_;refine cnd F (fun hb3 F=> ?_) fun hb3 F=> ?_
   ·cases F
   refine gg ?_;refine rgp (la (ax y2.fS) ec) ?_;obtain⟨y4,h3,F⟩:=bs F;refine rq (clA 4 (wn h3)) ?_;refine cnd F (fun hb4 F=> ?_) fun hb4 F=> ?_
   ·cases F
   refine gg ?_;refine rgp (la (ax y2.fS) ec) ?_;refine rgp (xQ (rows:=map ax ([y2.fS]:List ah)) (rows':=bT ([y2.fS]:List ah)) (zs:=(ax iW)) rfl rfl vd DR (by exact⟨rfl,rfl,rfl,rfl,rfl,rfl,rfl,rfl,rfl,rfl,rfl,rfl,rfl,rfl,rfl,rfl,rfl,rfl,trivial,trivial,trivial,trivial,rfl,trivial⟩) rfl rfl rfl rfl rfl rfl (eG _) rfl rfl) ?_;obtain⟨u0,h5,F⟩:=bs F;refine rgp (fJ 4 rfl rfl rfl rfl rfl vd Zo DR rfl rfl rfl (UI eG h5) (abT eG _ _) rfl rfl) ?_;refine cT (vF 0 15 rfl) ?_;refine ga7 ?_;refine ci ?_;refine piz (sX 89 [pf 0 (.vs 3 (map aj a0)),pf 1 (.int .i64 y2.aU),pf 2 (.vs 1 (map eS a2)),pf 4 (.int .i64 (ae (x1+y4))),(8,some (.lp 0 0)),(10,some (.lp 2 0))] [(0,some (.box 48 [pS a3_0,pB a3_1,pI a3_2,pS a3_3,pI a3_4,pI a3_5,pI a3_6,pI a3_7,pI a3_8,pI a3_9,pI a3_10,pI a3_11,pI a3_12,.pv (.vs 13 (map aI y3.fV)),.pv (.vs 13 (map aI y0.fV)),.ls 1,pI a3_16])),(1,some (.row 55 23 (bT (x2++[y2.fS])))),bf 2 74 (bc zGGot_ref09)] 3) [0,4,2] ?_;refine go ?_;refine fu ?_;exact aP (ih (y2.aU,ae (x1+y4),(x2++[y2.fS])) F) (bG [0,1,2])
  exact tl [0,1,2]
 have F:=hK0;obtain⟨x3,x4⟩:=lr0;refine ga2 ?_;refine cT (wr [(1,some (.row 55 23 (bT x4)))] [] 0 15 1 (FzH.spec ⟨rfl,trivial⟩) trivial rfl rfl rfl) ?_;refine rq (la (aY (⟨a3_0,a3_1,(⟨a3_2,a3_3,a3_4,(⟨(⟨a3_5,a3_6⟩:ay),(⟨a3_7,a3_8⟩:ay),(⟨a3_9,a3_10⟩:ay),(⟨a3_11,a3_12⟩:ay)⟩:A4 ay)⟩:bZ),y3.fV,y0.fV,x4,a3_16⟩:br)) yY) ?_;refine rgp (bd ((bc zGGot_ref09)) (bc (⟨zGClass,(⟨a3_0,a3_1,(⟨a3_2,a3_3,a3_4,(⟨(⟨a3_5,a3_6⟩:ay),(⟨a3_7,a3_8⟩:ay),(⟨a3_9,a3_10⟩:ay),(⟨a3_11,a3_12⟩:ay)⟩:A4 ay)⟩:bZ),y3.fV,y0.fV,x4,a3_16⟩:br),[],[],ae (x3+1),aM⟩:cJ)) nP vQ) ?_;refine ga3 ?_;refine piz (sX 89 [(10,some (.lp 0 0))] [bf 0 74 (bc (⟨zGClass,(⟨a3_0,a3_1,(⟨a3_2,a3_3,a3_4,(⟨(⟨a3_5,a3_6⟩:ay),(⟨a3_7,a3_8⟩:ay),(⟨a3_9,a3_10⟩:ay),(⟨a3_11,a3_12⟩:ay)⟩:A4 ay)⟩:bZ),y3.fV,y0.fV,x4,a3_16⟩:br),[],[],ae (x3+1),aM⟩:cJ))] 1) [2] ?_;cases F;exact mc hcx rfl (.cons _ _ _ _ (.agg _ _ _ _ _ 29 _ _ rfl rfl zd rfl rfl rfl) .nil) rfl (.inl rfl)
theorem GD {a0:List aK} {a1:Int} {a2_0:List UInt8} {a2_1:List (List UInt8)} {a2_2:List UInt8} {a2_3:List ay} {a2_6:Int} {a3:Int} {b0:List cN} {b1:List br} {r:(List UInt8)×(List (List UInt8))×(List UInt8)×(List ay)×(List cN)×(List br)×Int×(List UInt8)×Bool×Int×(List UInt8)×Int×Int×Int×Int×Int×Int×Int×Int×Int×(List cN)×(List cN)×(List ah)×Int×(List cN)×(List (List UInt8))×Int×Int×Int} (F:mB a0 a1 a2_0 a2_1 a2_2 a2_3 a2_6 a3 b0 b1=some r):Abs.FnW eg Tryz.prog 56 [.pv (.vs 3 (map aj a0)),pI a1,.agg [pS a2_0,.pv (.vs 1 (map eS a2_1)),pS a2_2,.pv (.vs 2 (map aC a2_3)),.ls 0,.ls 1,pI a2_6],pI a3] [(0,some (.row 80 13 (map aI b0))),(1,some (.row 48 17 (map aY b1)))] 2 [] [.agg [pS r.1,.pv (.vs 1 (map eS r.2.1)),pS r.2.2.1,.pv (.vs 2 (map aC r.2.2.2.1)),.ls 1,.ls 2,pI r.2.2.2.2.2.2.1,pS r.2.2.2.2.2.2.2.1,pB r.2.2.2.2.2.2.2.2.1,pI r.2.2.2.2.2.2.2.2.2.1,pS r.2.2.2.2.2.2.2.2.2.2.1,pI r.2.2.2.2.2.2.2.2.2.2.2.1,pI r.2.2.2.2.2.2.2.2.2.2.2.2.1,pI r.2.2.2.2.2.2.2.2.2.2.2.2.2.1,pI r.2.2.2.2.2.2.2.2.2.2.2.2.2.2.1,pI r.2.2.2.2.2.2.2.2.2.2.2.2.2.2.2.1,pI r.2.2.2.2.2.2.2.2.2.2.2.2.2.2.2.2.1,pI r.2.2.2.2.2.2.2.2.2.2.2.2.2.2.2.2.2.1,pI r.2.2.2.2.2.2.2.2.2.2.2.2.2.2.2.2.2.2.1,pI r.2.2.2.2.2.2.2.2.2.2.2.2.2.2.2.2.2.2.2.1,.pv (.vs 13 (map aI r.2.2.2.2.2.2.2.2.2.2.2.2.2.2.2.2.2.2.2.2.1)),.pv (.vs 13 (map aI r.2.2.2.2.2.2.2.2.2.2.2.2.2.2.2.2.2.2.2.2.2.1)),.ls 3,pI r.2.2.2.2.2.2.2.2.2.2.2.2.2.2.2.2.2.2.2.2.2.2.2.1,.pv (.vs 13 (map aI r.2.2.2.2.2.2.2.2.2.2.2.2.2.2.2.2.2.2.2.2.2.2.2.2.1)),.pv (.vs 1 (map eS r.2.2.2.2.2.2.2.2.2.2.2.2.2.2.2.2.2.2.2.2.2.2.2.2.2.1)),pI r.2.2.2.2.2.2.2.2.2.2.2.2.2.2.2.2.2.2.2.2.2.2.2.2.2.2.1,pI r.2.2.2.2.2.2.2.2.2.2.2.2.2.2.2.2.2.2.2.2.2.2.2.2.2.2.2.1,pI r.2.2.2.2.2.2.2.2.2.2.2.2.2.2.2.2.2.2.2.2.2.2.2.2.2.2.2.2]] [(0,some (.box 74 [pS r.1,.pv (.vs 1 (map eS r.2.1)),pS r.2.2.1,.pv (.vs 2 (map aC r.2.2.2.1)),.ls 1,.ls 2,pI r.2.2.2.2.2.2.1,pS r.2.2.2.2.2.2.2.1,pB r.2.2.2.2.2.2.2.2.1,pI r.2.2.2.2.2.2.2.2.2.1,pS r.2.2.2.2.2.2.2.2.2.2.1,pI r.2.2.2.2.2.2.2.2.2.2.2.1,pI r.2.2.2.2.2.2.2.2.2.2.2.2.1,pI r.2.2.2.2.2.2.2.2.2.2.2.2.2.1,pI r.2.2.2.2.2.2.2.2.2.2.2.2.2.2.1,pI r.2.2.2.2.2.2.2.2.2.2.2.2.2.2.2.1,pI r.2.2.2.2.2.2.2.2.2.2.2.2.2.2.2.2.1,pI r.2.2.2.2.2.2.2.2.2.2.2.2.2.2.2.2.2.1,pI r.2.2.2.2.2.2.2.2.2.2.2.2.2.2.2.2.2.2.1,pI r.2.2.2.2.2.2.2.2.2.2.2.2.2.2.2.2.2.2.2.1,.pv (.vs 13 (map aI r.2.2.2.2.2.2.2.2.2.2.2.2.2.2.2.2.2.2.2.2.1)),.pv (.vs 13 (map aI r.2.2.2.2.2.2.2.2.2.2.2.2.2.2.2.2.2.2.2.2.2.1)),.ls 3,pI r.2.2.2.2.2.2.2.2.2.2.2.2.2.2.2.2.2.2.2.2.2.2.2.1,.pv (.vs 13 (map aI r.2.2.2.2.2.2.2.2.2.2.2.2.2.2.2.2.2.2.2.2.2.2.2.2.1)),.pv (.vs 1 (map eS r.2.2.2.2.2.2.2.2.2.2.2.2.2.2.2.2.2.2.2.2.2.2.2.2.2.1)),pI r.2.2.2.2.2.2.2.2.2.2.2.2.2.2.2.2.2.2.2.2.2.2.2.2.2.2.1,pI r.2.2.2.2.2.2.2.2.2.2.2.2.2.2.2.2.2.2.2.2.2.2.2.2.2.2.2.1,pI r.2.2.2.2.2.2.2.2.2.2.2.2.2.2.2.2.2.2.2.2.2.2.2.2.2.2.2.2])),(1,some (.row 80 13 (map aI r.2.2.2.2.1))),(2,some (.row 48 17 (map aY r.2.2.2.2.2.1))),(3,some (.row 55 23 (bT r.2.2.2.2.2.2.2.2.2.2.2.2.2.2.2.2.2.2.2.2.2.2.1)))] 4:=by
 unfold mB at F;refine iB (n:=131) (m:=2) [] Tryz.func56 rfl rfl rfl ?_;intro c w O θ hcx;refine gg ?_;obtain⟨y3,h4,F⟩:=bs F;refine rgp (clA 4 (jh h4)) ?_;refine rq (ek rfl rfl BV jP rfl rfl rfl) ?_;obtain⟨y7,h8,F⟩:=bs F;refine rgp (clA 4 (eC h8)) ?_;refine rgp (qJ (zs:=[.str zGMethod.af,.bool zGMethod.fm,.int .i64 zGMethod.aQ.aa,.str zGMethod.aQ.bu,.int .i64 zGMethod.aQ.fN,.int .i64 zGMethod.aQ.am.a0.aa,.int .i64 zGMethod.aQ.am.a0.fN,.int .i64 zGMethod.aQ.am.a1.aa,.int .i64 zGMethod.aQ.am.a1.fN,.int .i64 zGMethod.aQ.am.a2.aa,.int .i64 zGMethod.aQ.am.a2.fN,.int .i64 zGMethod.aQ.am.a3.aa,.int .i64 zGMethod.aQ.am.a3.fN,.vs 13 (map aI zGMethod.ac),.vs 13 (map aI zGMethod.bC),.nils,.int .i64 zGMethod.fAt]) (r:=[pS zGMethod.af,pB y7,pI zGMethod.aQ.aa,pS zGMethod.aQ.bu,pI zGMethod.aQ.fN,pI zGMethod.aQ.am.a0.aa,pI zGMethod.aQ.am.a0.fN,pI zGMethod.aQ.am.a1.aa,pI zGMethod.aQ.am.a1.fN,pI zGMethod.aQ.am.a2.aa,pI zGMethod.aQ.am.a2.fN,pI zGMethod.aQ.am.a3.aa,pI zGMethod.aQ.am.a3.fN,.pv (.vs 13 (map aI zGMethod.ac)),.pv (.vs 13 (map aI zGMethod.bC)),.pv .nils,pI y3.fAt]) rfl Qc (by exact⟨rfl,rfl,rfl,rfl,rfl,rfl,rfl,rfl,rfl,rfl,rfl,rfl,rfl,trivial,trivial,rfl,rfl,trivial⟩) adJ rfl rfl rfl rfl) ?_;refine ga2 ?_;refine cT (jR 4 15 48 55 23 5 rfl rfl rfl) ?_;refine go ?_;refine aJ ?_;obtain⟨x0,F,hK0⟩:=bs F;refine ctx (sX 131 [pf 0 (.vs 3 (map aj a0)),pf 1 (.int .i64 x0),pf 3 (.int .i64 a3),(6,some (.lp 0 0)),(8,some (.lp 3 0)),pf 9 (.int .i64 y3.fAt),(10,some (.lp 4 0))] [(0,some (.box 39 [pS a2_0,.pv (.vs 1 (map eS a2_1)),pS a2_2,.pv (.vs 2 (map aC a2_3)),.ls 1,.ls 2,pI a2_6])),(1,some (.row 80 13 (map aI b0))),(2,some (.row 48 17 (map aY b1))),bf 3 74 (bc zGGot_ref09),(4,some (.box 48 [pS zGMethod.af,pB y7,pI zGMethod.aQ.aa,pS zGMethod.aQ.bu,pI zGMethod.aQ.fN,pI zGMethod.aQ.am.a0.aa,pI zGMethod.aQ.am.a0.fN,pI zGMethod.aQ.am.a1.aa,pI zGMethod.aQ.am.a1.fN,pI zGMethod.aQ.am.a2.aa,pI zGMethod.aQ.am.a2.fN,pI zGMethod.aQ.am.a3.aa,pI zGMethod.aQ.am.a3.fN,.pv (.vs 13 (map aI zGMethod.ac)),.pv (.vs 13 (map aI zGMethod.bC)),.ls 5,pI y3.fAt])),(5,some (.row 55 23 (bT [])))] 6) ?_ ?_
 ·refine go4 ?_;refine cnd F (fun hb9 F=> ?_) fun hb9 F=> ?_
  ·exact tl [2,0,1,3,4,5]
  exact tl [2,0,1,3,4,5]
 have F:=hK0;refine gg ?_;obtain⟨y0,h0,F⟩:=bs F;refine rgp (cl 6 [.vs 3 (map aj a0),.int .i64 x0,.vs 1 (map eS a2_1),.bool true] [.p (.agg (bw y0))] (uG h0)) ?_;refine rgp (al 6 (bw dm) nT) ?_;refine go9 ?_;refine cnd F (fun hb0 F=> ?_) fun hb0 F=> ?_
 ·cases F
 refine gg ?_;obtain⟨y1,h1,F⟩:=bs F;refine rgp (cl 7 [.vs 3 (map aj a0),.int .i64 y0.aU] [.p (.agg (aj y1))] (jh h1)) ?_;refine rgp (al 7 (aj je) rj) ?_;refine go8 ?_;refine cnd F (fun hb1 F=> ?_) fun hb1 F=> ?_
 ·cases F
 refine gg ?_;refine rq (la (bt y0.fT) fH) ?_;obtain⟨y2,h2,F⟩:=bs F;refine rq (clA 8 (eC h2)) ?_;refine cnd F (fun hb2 F=> ?_) fun hb2 F=> ?_
 ·refine gg ?_;refine rq (jv rfl rfl rfl (length_map ..) Jy rfl rfl) ?_;refine cnd F (fun hb3 F=> ?_) fun hb3 F=> ?_
  ·cases F
  refine gg ?_;refine rq (gf (cs:=[pS y1.bV,pB y7,pI y0.fT.aa,pS y0.fT.bu,pI y0.fT.fN,pI y0.fT.am.a0.aa,pI y0.fT.am.a0.fN,pI y0.fT.am.a1.aa,pI y0.fT.am.a1.fN,pI y0.fT.am.a2.aa,pI y0.fT.am.a2.fN,pI y0.fT.am.a3.aa,pI y0.fT.am.a3.fN,.pv (.vs 13 (map aI zGMethod.ac)),.pv (.vs 13 (map aI zGMethod.bC)),.ls 5,pI y3.fAt]) rfl rfl rfl rfl rfl yY rfl rfl) ?_;obtain⟨y4,h3,F⟩:=bs F;refine rgp (dp (args:=[.pv (.vs 3 (map aj a0)),pI (ae (y0.aU+1)),.pv (.vs 1 (map eS a2_1)),.agg [pS y1.bV,pB y7,pI y0.fT.aa,pS y0.fT.bu,pI y0.fT.fN,pI y0.fT.am.a0.aa,pI y0.fT.am.a0.fN,pI y0.fT.am.a1.aa,pI y0.fT.am.a1.fN,pI y0.fT.am.a2.aa,pI y0.fT.am.a2.fN,pI y0.fT.am.a3.aa,pI y0.fT.am.a3.fN,.pv (.vs 13 (map aI zGMethod.ac)),.pv (.vs 13 (map aI zGMethod.bC)),.ls 0,pI y3.fAt],pI a3]) [5] [8] [5] 9 rfl rfl rfl rfl rfl acU (FX h3) rfl (by decide) ⟨rfl,trivial⟩ rfl (by decide) ⟨.inr rfl,trivial⟩ (by kernel_rfl) (by kernel_rfl) rfl rfl rfl rfl) ?_;refine cT (vF 4 15 rfl) ?_;refine rgp (al 9 (bc zGGot_ref09) nP) ?_;refine go ?_;refine ci ?_;refine piz (sX 131 [(6,some (.lp 0 0)),(8,some (.lp 3 0)),(13,some (.lp 4 0))] [(0,some (.box 39 [pS a2_0,.pv (.vs 1 (map eS a2_1)),pS a2_2,.pv (.vs 2 (map aC a2_3)),.ls 1,.ls 2,pI a2_6])),(1,some (.row 80 13 (map aI b0))),(2,some (.row 48 17 (map aY b1))),bf 3 74 (bc zGGot_ref09),bf 4 74 (bc y4)] 5) [0,1,2,3,9] ?_;refine go8 ?_;refine cnd F (fun hb4 F=> ?_) fun hb4 F=> ?_
  ·cases F
  refine gg ?_;refine rgp (la (aY y4.fM) yY) ?_;refine rgp (ez (rows:=map aY ([y4.fM]:List br)) (zs:=(aY zGMethod)) rfl rfl Jy Qc (by exact⟨rfl,rfl,rfl,rfl,rfl,rfl,rfl,rfl,rfl,rfl,rfl,rfl,rfl,trivial,trivial,trivial,rfl,trivial⟩) rfl rfl rfl rfl rfl rfl rfl rfl) ?_;obtain⟨u0,h5,F⟩:=bs F;refine rgp (fJ 5 rfl rfl rfl rfl rfl Jy acS Qc rfl rfl rfl (jr (f:=aY) (g:=aY) h5) (map_append (f:=aY) (l₁:=b1) (l₂:=[y4.fM])).symm rfl rfl) ?_;refine cT (vF 0 5 rfl) ?_;refine gg ?_;refine rq (gf (cs:=[pS a2_0,.pv (.vs 1 (map eS a2_1)),pS a2_2,.pv (.vs 2 (map aC a2_3)),.ls 1,.ls 5,pI a2_6]) rfl rfl rfl rfl rfl nN rfl rfl) ?_;refine rgp (qJ (zs:=[.str zGGot_ref09.fC.af,.vs 1 (map eS zGGot_ref09.fC.ac),.str zGGot_ref09.fC.cb,.vs 2 (map aC zGGot_ref09.fC.bl),.nils,.nils,.int .i64 zGGot_ref09.fC.fAt,.str zGGot_ref09.fM.af,.bool zGGot_ref09.fM.fm,.int .i64 zGGot_ref09.fM.aQ.aa,.str zGGot_ref09.fM.aQ.bu,.int .i64 zGGot_ref09.fM.aQ.fN,.int .i64 zGGot_ref09.fM.aQ.am.a0.aa,.int .i64 zGGot_ref09.fM.aQ.am.a0.fN,.int .i64 zGGot_ref09.fM.aQ.am.a1.aa,.int .i64 zGGot_ref09.fM.aQ.am.a1.fN,.int .i64 zGGot_ref09.fM.aQ.am.a2.aa,.int .i64 zGGot_ref09.fM.aQ.am.a2.fN,.int .i64 zGGot_ref09.fM.aQ.am.a3.aa,.int .i64 zGGot_ref09.fM.aQ.am.a3.fN,.vs 13 (map aI zGGot_ref09.fM.ac),.vs 13 (map aI zGGot_ref09.fM.bC),.nils,.int .i64 zGGot_ref09.fM.fAt,.vs 13 (map aI zGGot_ref09.fV),.vs 1 (map eS zGGot_ref09.fN),.int .i64 zGGot_ref09.aU,.int .i64 zGGot_ref09.fF.gY,.int .i64 zGGot_ref09.fF.fAt]) (r:=[pS a2_0,.pv (.vs 1 (map eS a2_1)),pS a2_2,.pv (.vs 2 (map aC a2_3)),.ls 1,.ls 5,pI a2_6,pS zGGot_ref09.fM.af,pB zGGot_ref09.fM.fm,pI zGGot_ref09.fM.aQ.aa,pS zGGot_ref09.fM.aQ.bu,pI zGGot_ref09.fM.aQ.fN,pI zGGot_ref09.fM.aQ.am.a0.aa,pI zGGot_ref09.fM.aQ.am.a0.fN,pI zGGot_ref09.fM.aQ.am.a1.aa,pI zGGot_ref09.fM.aQ.am.a1.fN,pI zGGot_ref09.fM.aQ.am.a2.aa,pI zGGot_ref09.fM.aQ.am.a2.fN,pI zGGot_ref09.fM.aQ.am.a3.aa,pI zGGot_ref09.fM.aQ.am.a3.fN,.pv (.vs 13 (map aI zGGot_ref09.fM.ac)),.pv (.vs 13 (map aI zGGot_ref09.fM.bC)),.pv .nils,pI zGGot_ref09.fM.fAt,.pv (.vs 13 (map aI zGGot_ref09.fV)),.pv (.vs 1 (map eS zGGot_ref09.fN)),pI y4.aU,pI zGGot_ref09.fF.gY,pI zGGot_ref09.fF.fAt]) rfl nP (by exact⟨rfl,trivial,rfl,trivial,rfl,rfl,rfl,rfl,rfl,rfl,rfl,rfl,rfl,rfl,rfl,rfl,rfl,rfl,rfl,rfl,trivial,trivial,rfl,rfl,trivial,trivial,rfl,rfl,rfl,trivial⟩) vQ rfl rfl rfl rfl) ?_;refine go ?_;refine cT (jR 3 22 74 55 23 6 rfl rfl rfl) ?_;refine ga3 ?_
  refine piz (sX 131 [(8,some (.lp 0 0))] [(0,some (.box 74 [pS a2_0,.pv (.vs 1 (map eS a2_1)),pS a2_2,.pv (.vs 2 (map aC a2_3)),.ls 1,.ls 2,pI a2_6,pS zGGot_ref09.fM.af,pB zGGot_ref09.fM.fm,pI zGGot_ref09.fM.aQ.aa,pS zGGot_ref09.fM.aQ.bu,pI zGGot_ref09.fM.aQ.fN,pI zGGot_ref09.fM.aQ.am.a0.aa,pI zGGot_ref09.fM.aQ.am.a0.fN,pI zGGot_ref09.fM.aQ.am.a1.aa,pI zGGot_ref09.fM.aQ.am.a1.fN,pI zGGot_ref09.fM.aQ.am.a2.aa,pI zGGot_ref09.fM.aQ.am.a2.fN,pI zGGot_ref09.fM.aQ.am.a3.aa,pI zGGot_ref09.fM.aQ.am.a3.fN,.pv (.vs 13 (map aI zGGot_ref09.fM.ac)),.pv (.vs 13 (map aI zGGot_ref09.fM.bC)),.ls 3,pI zGGot_ref09.fM.fAt,.pv (.vs 13 (map aI zGGot_ref09.fV)),.pv (.vs 1 (map eS zGGot_ref09.fN)),pI y4.aU,pI zGGot_ref09.fF.gY,pI zGGot_ref09.fF.fAt])),(1,some (.row 80 13 (map aI b0))),(2,some (.row 48 17 (map aY (b1++[y4.fM])))),(3,some (.row 55 23 (bT [])))] 4) [3,1,5,6] ?_;cases F;exact mc hcx rfl (.cons _ _ _ _ (.aggM _ _ _ _ _ 29 _ _ rfl rfl zd rfl rfl) .nil) rfl (.inl rfl)
 refine ga2 ?_;(iterate 2 refine aJ ?_);obtain⟨x1,F,hK1⟩:=bs F;refine ctq (sX 131 [pf 1 (.int .i64 (ae (y0.aU+1))),(6,some (.lp 0 0)),(8,some (.lp 3 0)),pf 9 (.int .i64 y3.fAt),(10,some (.lp 4 0)),pf 105 (.bool x1)] [(0,some (.box 39 [pS a2_0,.pv (.vs 1 (map eS a2_1)),pS a2_2,.pv (.vs 2 (map aC a2_3)),.ls 1,.ls 2,pI a2_6])),(1,some (.row 80 13 (map aI b0))),(2,some (.row 48 17 (map aY b1))),bf 3 74 (bc zGGot_ref09),(4,some (.box 48 [pS y1.bV,pB y7,pI y0.fT.aa,pS y0.fT.bu,pI y0.fT.fN,pI y0.fT.am.a0.aa,pI y0.fT.am.a0.fN,pI y0.fT.am.a1.aa,pI y0.fT.am.a1.fN,pI y0.fT.am.a2.aa,pI y0.fT.am.a2.fN,pI y0.fT.am.a3.aa,pI y0.fT.am.a3.fN,.pv (.vs 13 (map aI zGMethod.ac)),.pv (.vs 13 (map aI zGMethod.bC)),.ls 5,pI y3.fAt])),(5,some (.row 55 23 (bT [])))] 6) ?_ ?_
 ·obtain⟨y5,h6,F⟩:=bs F;refine rgp (clA 8 (eC h6)) ?_;exact tl [0,1,2,3,4,5]
 have F:=hK1;refine cnd F (fun hb5 F=> ?_) fun hb5 F=> ?_
 ·cases F
 refine gg ?_;refine rq (jv rfl rfl rfl (length_map ..) pA rfl rfl) ?_;refine cnd F (fun hb6 F=> ?_) fun hb6 F=> ?_
 ·cases F
 refine gg ?_;refine rq (la (bt y0.fT) fH) ?_;refine rgp (bd ((aI pM)) (aI (⟨y1.bV,y0.fT,y3.fAt⟩:cN)) yf Yn) ?_;refine rgp (ez (rows:=map aI ([(⟨y1.bV,y0.fT,y3.fAt⟩:cN)]:List cN)) (zs:=(aI pM)) rfl rfl pA yf (by exact⟨rfl,rfl,rfl,rfl,rfl,rfl,rfl,rfl,rfl,rfl,rfl,rfl,rfl,trivial⟩) rfl rfl rfl rfl rfl rfl rfl rfl) ?_;obtain⟨u1,h7,F⟩:=bs F;refine rgp (fJ 6 rfl rfl rfl rfl rfl pA UD yf rfl rfl rfl (jr (f:=aI) (g:=aI) h7) (map_append (f:=aI) (l₁:=b0) (l₂:=[(⟨y1.bV,y0.fT,y3.fAt⟩:cN)])).symm rfl rfl) ?_;refine cT (vF 0 4 rfl) ?_;refine gg ?_;refine rq (gf (cs:=[pS a2_0,.pv (.vs 1 (map eS a2_1)),pS a2_2,.pv (.vs 2 (map aC a2_3)),.ls 6,.ls 2,pI a2_6]) rfl rfl rfl rfl rfl nN rfl rfl) ?_
 refine rgp (qJ (zs:=[.str zGGot_ref09.fC.af,.vs 1 (map eS zGGot_ref09.fC.ac),.str zGGot_ref09.fC.cb,.vs 2 (map aC zGGot_ref09.fC.bl),.nils,.nils,.int .i64 zGGot_ref09.fC.fAt,.str zGGot_ref09.fM.af,.bool zGGot_ref09.fM.fm,.int .i64 zGGot_ref09.fM.aQ.aa,.str zGGot_ref09.fM.aQ.bu,.int .i64 zGGot_ref09.fM.aQ.fN,.int .i64 zGGot_ref09.fM.aQ.am.a0.aa,.int .i64 zGGot_ref09.fM.aQ.am.a0.fN,.int .i64 zGGot_ref09.fM.aQ.am.a1.aa,.int .i64 zGGot_ref09.fM.aQ.am.a1.fN,.int .i64 zGGot_ref09.fM.aQ.am.a2.aa,.int .i64 zGGot_ref09.fM.aQ.am.a2.fN,.int .i64 zGGot_ref09.fM.aQ.am.a3.aa,.int .i64 zGGot_ref09.fM.aQ.am.a3.fN,.vs 13 (map aI zGGot_ref09.fM.ac),.vs 13 (map aI zGGot_ref09.fM.bC),.nils,.int .i64 zGGot_ref09.fM.fAt,.vs 13 (map aI zGGot_ref09.fV),.vs 1 (map eS zGGot_ref09.fN),.int .i64 zGGot_ref09.aU,.int .i64 zGGot_ref09.fF.gY,.int .i64 zGGot_ref09.fF.fAt]) (r:=[pS a2_0,.pv (.vs 1 (map eS a2_1)),pS a2_2,.pv (.vs 2 (map aC a2_3)),.ls 6,.ls 2,pI a2_6,pS zGGot_ref09.fM.af,pB zGGot_ref09.fM.fm,pI zGGot_ref09.fM.aQ.aa,pS zGGot_ref09.fM.aQ.bu,pI zGGot_ref09.fM.aQ.fN,pI zGGot_ref09.fM.aQ.am.a0.aa,pI zGGot_ref09.fM.aQ.am.a0.fN,pI zGGot_ref09.fM.aQ.am.a1.aa,pI zGGot_ref09.fM.aQ.am.a1.fN,pI zGGot_ref09.fM.aQ.am.a2.aa,pI zGGot_ref09.fM.aQ.am.a2.fN,pI zGGot_ref09.fM.aQ.am.a3.aa,pI zGGot_ref09.fM.aQ.am.a3.fN,.pv (.vs 13 (map aI zGGot_ref09.fM.ac)),.pv (.vs 13 (map aI zGGot_ref09.fM.bC)),.pv .nils,pI zGGot_ref09.fM.fAt,.pv (.vs 13 (map aI zGGot_ref09.fV)),.pv (.vs 1 (map eS zGGot_ref09.fN)),pI (ae ((ae (y0.aU+1))+1)),pI zGGot_ref09.fF.gY,pI zGGot_ref09.fF.fAt]) rfl nP (by exact⟨rfl,trivial,rfl,trivial,rfl,rfl,rfl,rfl,rfl,rfl,rfl,rfl,rfl,rfl,rfl,rfl,rfl,rfl,rfl,rfl,trivial,trivial,rfl,rfl,trivial,trivial,rfl,rfl,rfl,trivial⟩) vQ rfl rfl rfl rfl) ?_;refine go ?_;refine cT (jR 3 22 74 55 23 7 rfl rfl rfl) ?_;refine ga2 ?_
 refine piz (sX 131 [(8,some (.lp 0 0))] [(0,some (.box 74 [pS a2_0,.pv (.vs 1 (map eS a2_1)),pS a2_2,.pv (.vs 2 (map aC a2_3)),.ls 1,.ls 2,pI a2_6,pS zGGot_ref09.fM.af,pB zGGot_ref09.fM.fm,pI zGGot_ref09.fM.aQ.aa,pS zGGot_ref09.fM.aQ.bu,pI zGGot_ref09.fM.aQ.fN,pI zGGot_ref09.fM.aQ.am.a0.aa,pI zGGot_ref09.fM.aQ.am.a0.fN,pI zGGot_ref09.fM.aQ.am.a1.aa,pI zGGot_ref09.fM.aQ.am.a1.fN,pI zGGot_ref09.fM.aQ.am.a2.aa,pI zGGot_ref09.fM.aQ.am.a2.fN,pI zGGot_ref09.fM.aQ.am.a3.aa,pI zGGot_ref09.fM.aQ.am.a3.fN,.pv (.vs 13 (map aI zGGot_ref09.fM.ac)),.pv (.vs 13 (map aI zGGot_ref09.fM.bC)),.ls 3,pI zGGot_ref09.fM.fAt,.pv (.vs 13 (map aI zGGot_ref09.fV)),.pv (.vs 1 (map eS zGGot_ref09.fN)),pI (ae ((ae (y0.aU+1))+1)),pI zGGot_ref09.fF.gY,pI zGGot_ref09.fF.fAt])),(1,some (.row 80 13 (map aI (b0++[(⟨y1.bV,y0.fT,y3.fAt⟩:cN)])))),(2,some (.row 48 17 (map aY b1))),(3,some (.row 55 23 (bT [])))] 4) [3,6,2,7] ?_;cases F;exact mc hcx rfl (.cons _ _ _ _ (.aggM _ _ _ _ _ 29 _ _ rfl rfl zd rfl rfl) .nil) rfl (.inl rfl)
theorem JF {a0:List aK} {a1:Int} {a2:Int} {r:cJ} (F:sO a0 a1 a2=some r):FZ 29 [.vs 3 (map aj a0),.int .i64 a1,.int .i64 a2] [.p (.agg (bc r))]:=by
 unfold sO at F;refine fb 100 Tryz.func29 fun w O=> ?_;obtain⟨y3,h4,F⟩:=bs F;refine rgp (clA 1 (jh h4)) ?_;refine rgp (ek rfl rfl BV jP rfl rfl rfl) ?_;refine rgp (qJ (zs:=[.str zGClass.af,.vs 1 (map eS zGClass.ac),.str zGClass.cb,.vs 2 (map aC zGClass.bl),.nils,.nils,.int .i64 zGClass.fAt]) (r:=[pS zGClass.af,.pv (.vs 1 (map eS zGClass.ac)),pS zGClass.cb,.pv (.vs 2 (map aC zGClass.bl)),.pv .nils,.pv .nils,pI y3.fAt]) rfl P8 (by exact⟨rfl,trivial,rfl,trivial,rfl,rfl,rfl,trivial⟩) adV rfl rfl rfl rfl) ?_;refine ga2 ?_;refine cT (jR 1 4 39 80 13 2 rfl rfl rfl) ?_;refine cT (jR 1 5 39 48 17 3 rfl rfl rfl) ?_;refine gg ?_;obtain⟨y7,h8,F⟩:=bs F;refine rgp (clA 4 (jh h8)) ?_;refine rq (ek rfl rfl rn jP rfl rfl rfl) ?_;refine cnd F (fun hb9 F=> ?_) fun hb9 F=> ?_
 ·cases F
 refine gg ?_;obtain⟨y0,h0,F⟩:=bs F;refine rgp (clA 4 (jh h0)) ?_;refine rgp (ek rfl rfl tu yn rfl rfl rfl) ?_;refine ga8 ?_;refine aJ ?_;obtain⟨p26,F,hK0⟩:=bs F;obtain⟨x0,x1⟩:=p26;refine ctx (sX 100 [pf 0 (.vs 3 (map aj a0)),pf 1 (.int .i64 x0),pf 2 (.int .i64 a2),(6,some (.lp 0 0)),(7,some (.lp 1 0))] [bf 0 74 (bc zGGot_ref09),(1,some (.box 39 [pS y0.bV,.pv (.vs 1 (map eS x1)),pS zGClass.cb,.pv (.vs 2 (map aC zGClass.bl)),.ls 2,.ls 3,pI y3.fAt])),(2,some (.row 80 13 (map aI []))),(3,some (.row 48 17 (map aY [])))] 4) ?_ ?_
 ·refine gg ?_;obtain⟨y1,h1,F⟩:=bs F;refine rq (clA 4 (eC h1)) ?_;refine cq F (fun hb0 F=> ?_) fun hb0 F=> ?_
  ·obtain⟨y2,h2,F⟩:=bs F;refine rgp (cl 4 [.vs 3 (map aj a0),.int .i64 (ae (a1+2))] [.p (.agg (bc y2))] (IA h2)) ?_;refine rgp (al 4 (bc zGGot_ref09) nP) ?_;refine go9 ?_;refine cnd F (fun hb1 F=> ?_) fun hb1 F=> ?_
   ·cases F
   exact tl [0,1,2,3]
  exact tl [0,1,2,3]
 have F:=hK0;refine go ?_;refine aJ ?_;obtain⟨p46,F,hK1⟩:=bs F;obtain⟨x2,x3,x4,x5,x6,x7,x8,x9⟩:=p46;refine ctq (sX 100 [pf 0 (.vs 3 (map aj a0)),pf 1 (.int .i64 x2),pf 2 (.int .i64 a2),(6,some (.lp 0 0)),(7,some (.lp 1 0))] [bf 0 74 (bc zGGot_ref09),(1,some (.box 39 [pS x3,.pv (.vs 1 (map eS x4)),pS x5,.pv (.vs 2 (map aC x6)),.ls 2,.ls 3,pI x9])),(2,some (.row 80 13 (map aI x7))),(3,some (.row 48 17 (map aY x8)))] 4) ?_ ?_
 ·obtain⟨y4,h3,F⟩:=bs F;refine rq (clA 4 (eC h3)) ?_;refine cq F (fun hb2 F=> ?_) fun hb2 F=> ?_
  ·refine rgp (gf (cs:=[pS y0.bV,.pv (.vs 1 (map eS x1)),pS zGClass.cb,.pv (.vs 2 (map aC zGClass.bl)),.ls 2,.ls 3,pI y3.fAt]) rfl rfl rfl rfl rfl nN rfl rfl) ?_;obtain⟨y5,h5,F⟩:=bs F;refine rgp (dp (args:=[.pv (.vs 3 (map aj a0)),pI x0,.agg [pS y0.bV,.pv (.vs 1 (map eS x1)),pS zGClass.cb,.pv (.vs 2 (map aC zGClass.bl)),.ls 0,.ls 1,pI y3.fAt]]) [2,3] [4,5,6,7] [2,3] 8 rfl rfl rfl rfl rfl ads (IL h5) rfl (by decide) ⟨rfl,rfl,trivial⟩ rfl (by decide) ⟨.inr rfl,.inr rfl,.inr rfl,.inr rfl,trivial⟩ (by kernel_rfl) (by kernel_rfl) rfl rfl rfl rfl) ?_;refine cT (vF 1 4 rfl) ?_;refine cT (vF 1 5 rfl) ?_;refine rgp (al 8 (bc zGGot_ref09) nP) ?_;refine go9 ?_;refine cnd F (fun hb3 F=> ?_) fun hb3 F=> ?_
   ·cases F
   refine gg ?_;refine rgp (gf (cs:=[pS y5.1,.pv (.vs 1 (map eS y5.2.1)),pS y5.2.2.1,.pv (.vs 2 (map aC y5.2.2.2.1)),.ls 5,.ls 6,pI y5.2.2.2.2.2.2.1]) rfl rfl rfl rfl rfl nN rfl rfl) ?_;exact tl [0,1,5,6]
  exact tl [0,1,2,3]
 have F:=hK1;obtain⟨y6,h6,F⟩:=bs F;refine rq (clA 4 (eC h6)) ?_;refine cnd F (fun hb4 F=> ?_) fun hb4 F=> ?_
 ·cases F
 refine gg ?_;obtain⟨lr0,F,hK2⟩:=bs F;refine lpE (sX 100 [pf 1 (.int .i64 lr0.1),(6,some (.lp 0 0)),(7,some (.lp 1 0))] [bf 0 74 (bc zGGot_ref09),(1,some (.box 39 [pS lr0.2.1,.pv (.vs 1 (map eS lr0.2.2.1)),pS lr0.2.2.2.1,.pv (.vs 2 (map aC lr0.2.2.2.2.1)),.ls 2,.ls 3,pI lr0.2.2.2.2.2.2.2])),(2,some (.row 80 13 (map aI lr0.2.2.2.2.2.1))),(3,some (.row 48 17 (map aY lr0.2.2.2.2.2.2.1)))] 4) (fun(q:Int×(List UInt8)×(List (List UInt8))×(List UInt8)×(List ay)×(List cN)×(List br)×Int)=>(sX 100 [pf 0 (.vs 3 (map aj a0)),pf 1 (.int .i64 q.1),pf 2 (.int .i64 a2),(6,some (.lp 0 0)),(7,some (.lp 1 0))] [bf 0 74 (bc zGGot_ref09),(1,some (.box 39 [pS q.2.1,.pv (.vs 1 (map eS q.2.2.1)),pS q.2.2.2.1,.pv (.vs 2 (map aC q.2.2.2.2.1)),.ls 2,.ls 3,pI q.2.2.2.2.2.2.2])),(2,some (.row 80 13 (map aI q.2.2.2.2.2.1))),(3,some (.row 48 17 (map aY q.2.2.2.2.2.2.1)))] 4)) (fun k q=>iw a0 a2 k q.1 q.2.1 q.2.2.1 q.2.2.2.1 q.2.2.2.2.1 q.2.2.2.2.2.1 q.2.2.2.2.2.2.1 q.2.2.2.2.2.2.2) (ae (x2+1),x3,x4,x5,x6,x7,x8,x9) (bG [0,1,2,3]) F (fun k ⟨x10,x11,x12,x13,x14,x15,x16,x17⟩ F ih=> ?_) ?_
 ·refine gg ?_;obtain⟨y8,h7,F⟩:=bs F;refine rq (clA 4 (eC h7)) ?_;refine cnd F (fun hb5 F=> ?_) fun hb5 F=> ?_
  ·refine ga2 ?_;refine cI ?_;refine aJ ?_;refine DJ (zH 5) ?_;refine dt ⟨_,_,_⟩ rfl ?_;refine dd ?_;refine bg { need:=[(7,.lp 1 0)],hneed:=[(1,.box 39 [pS x11,.pv (.vs 1 (map eS x12)),pS x13,.pv (.vs 2 (map aC x14)),.ls 2,.ls 3,pI x17])],dst:=some 81,val:=some (.agg [pS x11,.pv (.vs 1 (map eS x12)),pS x13,.pv (.vs 2 (map aC x14)),.ls 2,.ls 3,pI x17]) } (fun m h=>bq (bQ rfl) (gf (cs:=[pS x11,.pv (.vs 1 (map eS x12)),pS x13,.pv (.vs 2 (map aC x14)),.ls 2,.ls 3,pI x17]) rfl h.1.1 h.2.1.1 rfl rfl nN rfl rfl) rfl) ⟨⟨rfl,trivial⟩,⟨rfl,trivial⟩,trivial⟩ ?_;refine dgo ?_;refine bg { need:=[(7,.lp 1 0)],hneed:=[(1,.box 39 [pS x11,.pv (.vs 1 (map eS x12)),pS x13,.pv (.vs 2 (map aC x14)),.ls 2,.ls 3,pI x17])],dst:=some 83,val:=some (.agg [pS x11,.pv (.vs 1 (map eS x12)),pS x13,.pv (.vs 2 (map aC x14)),.ls 2,.ls 3,pI x17]) } (fun m h=>bq (bQ rfl) (gf (cs:=[pS x11,.pv (.vs 1 (map eS x12)),pS x13,.pv (.vs 2 (map aC x14)),.ls 2,.ls 3,pI x17]) rfl h.1.1 h.2.1.1 rfl rfl nN rfl rfl) rfl) ⟨⟨rfl,trivial⟩,⟨rfl,trivial⟩,trivial⟩ ?_;obtain⟨y9,h9,F⟩:=bs F;refine bg { need:=[(83,.agg [pS x11,.pv (.vs 1 (map eS x12)),pS x13,.pv (.vs 2 (map aC x14)),.ls 2,.ls 3,pI x17])],hneed:=[(2,.row 80 13 (map aI x15)),(3,.row 48 17 (map aY x16))],dst:=some 84,val:=some (pI y9) } (fun m h=>bq (bQ rfl) (oX 9 rfl (caps:=[]) (args:=[.agg (aH (⟨x11,x12,x13,x14,x15,x16,x17⟩:be))]) [(2,some (.row 80 13 (map aI x15))),(3,some (.row 48 17 (map aY x16)))] rfl rfl (bm h.1.1 dM) (FzH.spec ⟨h.2.1.1,h.2.1.2.1,trivial⟩) rfl rfl adl (vq h9) rfl rfl rfl) rfl) ⟨⟨rfl,trivial⟩,⟨rfl,rfl,trivial⟩,trivial⟩ ?_;refine dd ?_;obtain⟨y10,h10,F⟩:=bs F
   refine bg { need:=[(85,pI (ae (a2+y9))),(81,.agg [pS x11,.pv (.vs 1 (map eS x12)),pS x13,.pv (.vs 2 (map aC x14)),.ls 2,.ls 3,pI x17]),(80,pI x10),(79,.pv (.vs 3 (map aj a0)))],hneed:=[(2,.row 80 13 (map aI x15)),(3,.row 48 17 (map aY x16))],names:=[4,5,6,7],dst:=some 86,val:=some (.agg [pS y10.1,.pv (.vs 1 (map eS y10.2.1)),pS y10.2.2.1,.pv (.vs 2 (map aC y10.2.2.2.1)),.ls 5,.ls 6,pI y10.2.2.2.2.2.2.1,pS y10.2.2.2.2.2.2.2.1,pB y10.2.2.2.2.2.2.2.2.1,pI y10.2.2.2.2.2.2.2.2.2.1,pS y10.2.2.2.2.2.2.2.2.2.2.1,pI y10.2.2.2.2.2.2.2.2.2.2.2.1,pI y10.2.2.2.2.2.2.2.2.2.2.2.2.1,pI y10.2.2.2.2.2.2.2.2.2.2.2.2.2.1,pI y10.2.2.2.2.2.2.2.2.2.2.2.2.2.2.1,pI y10.2.2.2.2.2.2.2.2.2.2.2.2.2.2.2.1,pI y10.2.2.2.2.2.2.2.2.2.2.2.2.2.2.2.2.1,pI y10.2.2.2.2.2.2.2.2.2.2.2.2.2.2.2.2.2.1,pI y10.2.2.2.2.2.2.2.2.2.2.2.2.2.2.2.2.2.2.1,pI y10.2.2.2.2.2.2.2.2.2.2.2.2.2.2.2.2.2.2.2.1,.pv (.vs 13 (map aI y10.2.2.2.2.2.2.2.2.2.2.2.2.2.2.2.2.2.2.2.2.1)),.pv (.vs 13 (map aI y10.2.2.2.2.2.2.2.2.2.2.2.2.2.2.2.2.2.2.2.2.2.1)),.ls 7,pI y10.2.2.2.2.2.2.2.2.2.2.2.2.2.2.2.2.2.2.2.2.2.2.2.1,.pv (.vs 13 (map aI y10.2.2.2.2.2.2.2.2.2.2.2.2.2.2.2.2.2.2.2.2.2.2.2.2.1)),.pv (.vs 1 (map eS y10.2.2.2.2.2.2.2.2.2.2.2.2.2.2.2.2.2.2.2.2.2.2.2.2.2.1)),pI y10.2.2.2.2.2.2.2.2.2.2.2.2.2.2.2.2.2.2.2.2.2.2.2.2.2.2.1,pI y10.2.2.2.2.2.2.2.2.2.2.2.2.2.2.2.2.2.2.2.2.2.2.2.2.2.2.2.1,pI y10.2.2.2.2.2.2.2.2.2.2.2.2.2.2.2.2.2.2.2.2.2.2.2.2.2.2.2.2]),upd:=[(4,some (.box 74 [pS y10.1,.pv (.vs 1 (map eS y10.2.1)),pS y10.2.2.1,.pv (.vs 2 (map aC y10.2.2.2.1)),.ls 5,.ls 6,pI y10.2.2.2.2.2.2.1,pS y10.2.2.2.2.2.2.2.1,pB y10.2.2.2.2.2.2.2.2.1,pI y10.2.2.2.2.2.2.2.2.2.1,pS y10.2.2.2.2.2.2.2.2.2.2.1,pI y10.2.2.2.2.2.2.2.2.2.2.2.1,pI y10.2.2.2.2.2.2.2.2.2.2.2.2.1,pI y10.2.2.2.2.2.2.2.2.2.2.2.2.2.1,pI y10.2.2.2.2.2.2.2.2.2.2.2.2.2.2.1,pI y10.2.2.2.2.2.2.2.2.2.2.2.2.2.2.2.1,pI y10.2.2.2.2.2.2.2.2.2.2.2.2.2.2.2.2.1,pI y10.2.2.2.2.2.2.2.2.2.2.2.2.2.2.2.2.2.1,pI y10.2.2.2.2.2.2.2.2.2.2.2.2.2.2.2.2.2.2.1,pI y10.2.2.2.2.2.2.2.2.2.2.2.2.2.2.2.2.2.2.2.1,.pv (.vs 13 (map aI y10.2.2.2.2.2.2.2.2.2.2.2.2.2.2.2.2.2.2.2.2.1)),.pv (.vs 13 (map aI y10.2.2.2.2.2.2.2.2.2.2.2.2.2.2.2.2.2.2.2.2.2.1)),.ls 7,pI y10.2.2.2.2.2.2.2.2.2.2.2.2.2.2.2.2.2.2.2.2.2.2.2.1,.pv (.vs 13 (map aI y10.2.2.2.2.2.2.2.2.2.2.2.2.2.2.2.2.2.2.2.2.2.2.2.2.1)),.pv (.vs 1 (map eS y10.2.2.2.2.2.2.2.2.2.2.2.2.2.2.2.2.2.2.2.2.2.2.2.2.2.1)),pI y10.2.2.2.2.2.2.2.2.2.2.2.2.2.2.2.2.2.2.2.2.2.2.2.2.2.2.1,pI y10.2.2.2.2.2.2.2.2.2.2.2.2.2.2.2.2.2.2.2.2.2.2.2.2.2.2.2.1,pI y10.2.2.2.2.2.2.2.2.2.2.2.2.2.2.2.2.2.2.2.2.2.2.2.2.2.2.2.2])),(5,some (.row 80 13 (map aI y10.2.2.2.2.1))),(6,some (.row 48 17 (map aY y10.2.2.2.2.2.1))),(7,some (.row 55 23 (bT y10.2.2.2.2.2.2.2.2.2.2.2.2.2.2.2.2.2.2.2.2.2.2.1))),(2,none),(3,none)] } (fun m h=>bq (bQ rfl) (dp (args:=[.pv (.vs 3 (map aj a0)),pI x10,.agg [pS x11,.pv (.vs 1 (map eS x12)),pS x13,.pv (.vs 2 (map aC x14)),.ls 0,.ls 1,pI x17],pI (ae (a2+y9))]) [2,3] [4,5,6,7] [2,3] 9 rfl rfl (bm h.1.2.2.2.1 (bm h.1.2.2.1 (bm h.1.2.1 (bm h.1.1 dM)))) rfl rfl adP (GD h10) rfl (by decide) ⟨h.2.1.1,h.2.1.2.1,trivial⟩ rfl (by decide) ⟨.inr (tn h.2.2.1),.inr (tn h.2.2.2.1),.inr (tn h.2.2.2.2.1),.inr (tn h.2.2.2.2.2.1),trivial⟩ (by kernel_rfl) (by kernel_rfl) rfl rfl rfl rfl) rfl) ⟨⟨rfl,rfl,rfl,rfl,trivial⟩,⟨rfl,rfl,trivial⟩,⟨rfl,rfl,rfl,rfl,trivial⟩⟩ ?_
   refine bg { names:=[8],dst:=some 10,val:=some (.lp 8 0),upd:=[(8,some (.box 74 (bxv (bc zGGot_ref09))))] } (fun m h=>bq (bQ rfl) (KQ 8 (BE h.2.2.1) (ps:=(bc zGGot_ref09)) rfl nP (by exact⟨rfl,trivial,rfl,trivial,trivial,trivial,rfl,rfl,rfl,rfl,rfl,rfl,rfl,rfl,rfl,rfl,rfl,rfl,rfl,rfl,trivial,trivial,trivial,rfl,trivial,trivial,rfl,rfl,rfl,trivial⟩) rfl rfl) rfl) ⟨trivial,trivial,⟨rfl,trivial⟩⟩ ?_
   refine bg { need:=[(10,.lp 8 0),(86,.agg [pS y10.1,.pv (.vs 1 (map eS y10.2.1)),pS y10.2.2.1,.pv (.vs 2 (map aC y10.2.2.2.1)),.ls 5,.ls 6,pI y10.2.2.2.2.2.2.1,pS y10.2.2.2.2.2.2.2.1,pB y10.2.2.2.2.2.2.2.2.1,pI y10.2.2.2.2.2.2.2.2.2.1,pS y10.2.2.2.2.2.2.2.2.2.2.1,pI y10.2.2.2.2.2.2.2.2.2.2.2.1,pI y10.2.2.2.2.2.2.2.2.2.2.2.2.1,pI y10.2.2.2.2.2.2.2.2.2.2.2.2.2.1,pI y10.2.2.2.2.2.2.2.2.2.2.2.2.2.2.1,pI y10.2.2.2.2.2.2.2.2.2.2.2.2.2.2.2.1,pI y10.2.2.2.2.2.2.2.2.2.2.2.2.2.2.2.2.1,pI y10.2.2.2.2.2.2.2.2.2.2.2.2.2.2.2.2.2.1,pI y10.2.2.2.2.2.2.2.2.2.2.2.2.2.2.2.2.2.2.1,pI y10.2.2.2.2.2.2.2.2.2.2.2.2.2.2.2.2.2.2.2.1,.pv (.vs 13 (map aI y10.2.2.2.2.2.2.2.2.2.2.2.2.2.2.2.2.2.2.2.2.1)),.pv (.vs 13 (map aI y10.2.2.2.2.2.2.2.2.2.2.2.2.2.2.2.2.2.2.2.2.2.1)),.ls 7,pI y10.2.2.2.2.2.2.2.2.2.2.2.2.2.2.2.2.2.2.2.2.2.2.2.1,.pv (.vs 13 (map aI y10.2.2.2.2.2.2.2.2.2.2.2.2.2.2.2.2.2.2.2.2.2.2.2.2.1)),.pv (.vs 1 (map eS y10.2.2.2.2.2.2.2.2.2.2.2.2.2.2.2.2.2.2.2.2.2.2.2.2.2.1)),pI y10.2.2.2.2.2.2.2.2.2.2.2.2.2.2.2.2.2.2.2.2.2.2.2.2.2.2.1,pI y10.2.2.2.2.2.2.2.2.2.2.2.2.2.2.2.2.2.2.2.2.2.2.2.2.2.2.2.1,pI y10.2.2.2.2.2.2.2.2.2.2.2.2.2.2.2.2.2.2.2.2.2.2.2.2.2.2.2.2])],hneed:=[(8,.box 74 (bxv (bc zGGot_ref09)))],upd:=[(8,some (.box 74 [pS y10.1,.pv (.vs 1 (map eS y10.2.1)),pS y10.2.2.1,.pv (.vs 2 (map aC y10.2.2.2.1)),.ls 5,.ls 6,pI y10.2.2.2.2.2.2.1,pS y10.2.2.2.2.2.2.2.1,pB y10.2.2.2.2.2.2.2.2.1,pI y10.2.2.2.2.2.2.2.2.2.1,pS y10.2.2.2.2.2.2.2.2.2.2.1,pI y10.2.2.2.2.2.2.2.2.2.2.2.1,pI y10.2.2.2.2.2.2.2.2.2.2.2.2.1,pI y10.2.2.2.2.2.2.2.2.2.2.2.2.2.1,pI y10.2.2.2.2.2.2.2.2.2.2.2.2.2.2.1,pI y10.2.2.2.2.2.2.2.2.2.2.2.2.2.2.2.1,pI y10.2.2.2.2.2.2.2.2.2.2.2.2.2.2.2.2.1,pI y10.2.2.2.2.2.2.2.2.2.2.2.2.2.2.2.2.2.1,pI y10.2.2.2.2.2.2.2.2.2.2.2.2.2.2.2.2.2.2.1,pI y10.2.2.2.2.2.2.2.2.2.2.2.2.2.2.2.2.2.2.2.1,.pv (.vs 13 (map aI y10.2.2.2.2.2.2.2.2.2.2.2.2.2.2.2.2.2.2.2.2.1)),.pv (.vs 13 (map aI y10.2.2.2.2.2.2.2.2.2.2.2.2.2.2.2.2.2.2.2.2.2.1)),.ls 7,pI y10.2.2.2.2.2.2.2.2.2.2.2.2.2.2.2.2.2.2.2.2.2.2.2.1,.pv (.vs 13 (map aI y10.2.2.2.2.2.2.2.2.2.2.2.2.2.2.2.2.2.2.2.2.2.2.2.2.1)),.pv (.vs 1 (map eS y10.2.2.2.2.2.2.2.2.2.2.2.2.2.2.2.2.2.2.2.2.2.2.2.2.2.1)),pI y10.2.2.2.2.2.2.2.2.2.2.2.2.2.2.2.2.2.2.2.2.2.2.2.2.2.2.1,pI y10.2.2.2.2.2.2.2.2.2.2.2.2.2.2.2.2.2.2.2.2.2.2.2.2.2.2.2.1,pI y10.2.2.2.2.2.2.2.2.2.2.2.2.2.2.2.2.2.2.2.2.2.2.2.2.2.2.2.2]))] } (fun m h=>bq (bQ rfl) (kZ rfl h.1.1 h.1.2.1 rfl h.2.1.1 (Ef zd) (by rw[Xx];rfl) rfl rfl rfl) rfl) ⟨⟨rfl,rfl,trivial⟩,⟨rfl,trivial⟩,trivial⟩ ?_;refine drn ?_;refine vn (vF 1 4 rfl) ?_;refine vn (vF 1 5 rfl) ?_
   refine piz (sX 100 [pf 0 (.vs 3 (map aj a0)),pf 2 (.int .i64 a2),(6,some (.lp 0 0)),(7,some (.lp 1 0)),(10,some (.lp 2 0))] [bf 0 74 (bc zGGot_ref09),(1,some (.box 39 [pS x11,.pv (.vs 1 (map eS x12)),pS x13,.pv (.vs 2 (map aC x14)),.any,.any,pI x17])),(2,some (.box 74 [pS y10.1,.pv (.vs 1 (map eS y10.2.1)),pS y10.2.2.1,.pv (.vs 2 (map aC y10.2.2.2.1)),.ls 3,.ls 4,pI y10.2.2.2.2.2.2.1,pS y10.2.2.2.2.2.2.2.1,pB y10.2.2.2.2.2.2.2.2.1,pI y10.2.2.2.2.2.2.2.2.2.1,pS y10.2.2.2.2.2.2.2.2.2.2.1,pI y10.2.2.2.2.2.2.2.2.2.2.2.1,pI y10.2.2.2.2.2.2.2.2.2.2.2.2.1,pI y10.2.2.2.2.2.2.2.2.2.2.2.2.2.1,pI y10.2.2.2.2.2.2.2.2.2.2.2.2.2.2.1,pI y10.2.2.2.2.2.2.2.2.2.2.2.2.2.2.2.1,pI y10.2.2.2.2.2.2.2.2.2.2.2.2.2.2.2.2.1,pI y10.2.2.2.2.2.2.2.2.2.2.2.2.2.2.2.2.2.1,pI y10.2.2.2.2.2.2.2.2.2.2.2.2.2.2.2.2.2.2.1,pI y10.2.2.2.2.2.2.2.2.2.2.2.2.2.2.2.2.2.2.2.1,.pv (.vs 13 (map aI y10.2.2.2.2.2.2.2.2.2.2.2.2.2.2.2.2.2.2.2.2.1)),.pv (.vs 13 (map aI y10.2.2.2.2.2.2.2.2.2.2.2.2.2.2.2.2.2.2.2.2.2.1)),.ls 5,pI y10.2.2.2.2.2.2.2.2.2.2.2.2.2.2.2.2.2.2.2.2.2.2.2.1,.pv (.vs 13 (map aI y10.2.2.2.2.2.2.2.2.2.2.2.2.2.2.2.2.2.2.2.2.2.2.2.2.1)),.pv (.vs 1 (map eS y10.2.2.2.2.2.2.2.2.2.2.2.2.2.2.2.2.2.2.2.2.2.2.2.2.2.1)),pI y10.2.2.2.2.2.2.2.2.2.2.2.2.2.2.2.2.2.2.2.2.2.2.2.2.2.2.1,pI y10.2.2.2.2.2.2.2.2.2.2.2.2.2.2.2.2.2.2.2.2.2.2.2.2.2.2.2.1,pI y10.2.2.2.2.2.2.2.2.2.2.2.2.2.2.2.2.2.2.2.2.2.2.2.2.2.2.2.2])),(3,some (.row 80 13 (map aI y10.2.2.2.2.1))),(4,some (.row 48 17 (map aY y10.2.2.2.2.2.1))),(5,some (.row 55 23 (bT y10.2.2.2.2.2.2.2.2.2.2.2.2.2.2.2.2.2.2.2.2.2.2.1)))] 6) [0,1,8,5,6,7] ?_;refine go8 ?_;refine cnd F (fun hb6 F=> ?_) fun hb6 F=> ?_
   ·cases F
   refine gg ?_;refine rgp (gf (cs:=[pS y10.1,.pv (.vs 1 (map eS y10.2.1)),pS y10.2.2.1,.pv (.vs 2 (map aC y10.2.2.2.1)),.ls 3,.ls 4,pI y10.2.2.2.2.2.2.1]) rfl rfl rfl rfl rfl nN rfl rfl) ?_;refine ga6 ?_;refine ci ?_;refine piz (sX 100 [pf 0 (.vs 3 (map aj a0)),pf 1 (.int .i64 y10.2.2.2.2.2.2.2.2.2.2.2.2.2.2.2.2.2.2.2.2.2.2.2.2.2.2.1),pf 2 (.int .i64 a2),(6,some (.lp 0 0)),(7,some (.lp 1 0))] [bf 0 74 (bc zGGot_ref09),(1,some (.box 39 [pS y10.1,.pv (.vs 1 (map eS y10.2.1)),pS y10.2.2.1,.pv (.vs 2 (map aC y10.2.2.2.1)),.ls 2,.ls 3,pI y10.2.2.2.2.2.2.1])),(2,some (.row 80 13 (map aI y10.2.2.2.2.1))),(3,some (.row 48 17 (map aY y10.2.2.2.2.2.1)))] 4) [0,1,3,4] ?_;refine go ?_;refine fu ?_;exact aP (ih (y10.2.2.2.2.2.2.2.2.2.2.2.2.2.2.2.2.2.2.2.2.2.2.2.2.2.2.1,y10.1,y10.2.1,y10.2.2.1,y10.2.2.2.1,y10.2.2.2.2.1,y10.2.2.2.2.2.1,y10.2.2.2.2.2.2.1) F) (bG [0,1,2,3])
  exact tl [0,1,2,3]
 have F:=hK2;obtain⟨x18,x19,x20,x21,x22,x23,x26,x27⟩:=lr0;refine ga2 ?_;refine cT (wr [(2,some (.row 80 13 (map aI x23)))] [] 1 4 2 (FzH.spec ⟨rfl,trivial⟩) trivial rfl rfl rfl) ?_;refine cT (wr [(3,some (.row 48 17 (map aY x26)))] [] 1 5 3 (FzH.spec ⟨rfl,trivial⟩) trivial rfl rfl rfl) ?_;refine rq (la (aH (⟨x19,x20,x21,x22,x23,x26,x27⟩:be)) nN) ?_;refine rgp (bd ((bc zGGot_ref09)) (bc (⟨(⟨x19,x20,x21,x22,x23,x26,x27⟩:be),zGMethod,[],[],ae (x18+1),aM⟩:cJ)) nP vQ) ?_;exact tl []
theorem Fm {a0:List UInt8} {r:(List be)×nK} (F:xg a0=some r):FZ 11 [.str a0] [.own 39 7 (map aH r.1),.p (.agg (lQ r.2))]:=by
 unfold xg at F;refine fb 65 Tryz.func11 fun w O=> ?_;obtain⟨y3,h4,F⟩:=bs F;refine rgp (clA 1 (Fn.frozen (QI h4))) ?_;refine go ?_;(iterate 2 refine rgp (sh rfl rfl rfl rfl rfl) ?_);refine rgp (al 1 (lQ aM) Kx) ?_;refine go9 ?_;refine cnd F (fun hb5 F=> ?_) fun hb5 F=> ?_
 ·cases F
 refine ga4 ?_;refine cT (ib 6 39 7 2 rfl rfl) ?_;refine gg ?_;obtain⟨x0,F,hK0⟩:=bs F;refine lpE (sX 65 [(3,some (.lp 0 0)),(6,some (.ls 1))] [bf 0 28 (lQ aM),(1,some (.row 39 7 (map aH x0)))] 2) (fun(q:(List be)×Int×Int)=>(sX 65 [(3,some (.lp 0 0)),pf 4 (.vs 3 (map aj y3.1)),(6,some (.ls 1)),pf 7 (.int .i64 q.2.1),pf 8 (.int .i64 q.2.2)] [bf 0 28 (lQ aM),(1,some (.row 39 7 (map aH q.1)))] 2)) (fun k q=>qC y3 k q.1 q.2.1 q.2.2) ([],0,0) (bG [0,2]) F (fun k ⟨x1,x2,x3⟩ F ih=> ?_) ?_
 ·refine gg ?_;obtain⟨y0,h0,F⟩:=bs F;refine rgp (clA 2 (jh h0)) ?_;refine rq (ek rfl rfl rn jP rfl rfl rfl) ?_;refine cq F (fun hb0 F=> ?_) fun hb0 F=> ?_
  ·obtain⟨y1,h1,F⟩:=bs F;refine rq (clA 2 (eC h1)) ?_;refine cnd F (fun hb1 F=> ?_) fun hb1 F=> ?_
   ·cases F
   refine gg ?_;refine rq (jv rfl rfl rfl (length_map ..) OM rfl rfl) ?_;refine cnd F (fun hb2 F=> ?_) fun hb2 F=> ?_
   ·cases F
   refine gg ?_;obtain⟨y2,h2,F⟩:=bs F;refine rgp (cl 2 [.vs 3 (map aj y3.1),.int .i64 x2,.int .i64 x3] [.p (.agg (bc y2))] (JF h2)) ?_;refine rgp (al 2 (bc zGGot_ref09) nP) ?_;refine go9 ?_;refine cnd F (fun hb3 F=> ?_) fun hb3 F=> ?_
   ·cases F
   refine gg ?_;refine rgp (la (aH y2.fC) nN) ?_;refine rgp (ez (rows:=map aH ([y2.fC]:List be)) (zs:=(aH zGClass)) rfl rfl OM P8 (by exact⟨rfl,trivial,rfl,trivial,trivial,trivial,rfl,trivial⟩) rfl rfl rfl rfl rfl rfl rfl rfl) ?_;obtain⟨u0,h3,F⟩:=bs F;refine rq (fJ 3 rfl rfl rfl rfl rfl OM aei P8 rfl rfl rfl (jr (f:=aH) (g:=aH) h3) (map_append (f:=aH) (l₁:=x1) (l₂:=[y2.fC])).symm rfl rfl) ?_;refine rgp (la (aH y2.fC) nN) ?_;obtain⟨y4,h5,F⟩:=bs F;refine rgp (clA 4 (vq h5)) ?_;refine ga7 ?_;refine ci ?_;refine piz (sX 65 [(3,some (.lp 0 0)),pf 4 (.vs 3 (map aj y3.1)),(6,some (.ls 1)),pf 7 (.int .i64 y2.aU),pf 8 (.int .i64 (ae (x3+y4)))] [bf 0 28 (lQ aM),(1,some (.row 39 7 (map aH (x1++[y2.fC]))))] 2) [0,3] ?_;refine go ?_;refine fu ?_;exact aP (ih ((x1++[y2.fC]),y2.aU,ae (x3+y4)) F) (bG [0,1])
  exact tl [0,1]
 have F:=hK0;refine gg ?_;refine rq (bd ((lQ aM)) (lQ aM) Kx ZC) ?_;cases F;exact oE rfl rfl (.cons _ _ _ _ _ (.tmp _ _ rfl) (.own _ _ _ _ rfl Wo) (.cons _ _ _ _ _ (.agg _ _ _ _ _ 2 _ _ rfl rfl PH rfl rfl rfl) (.p _) .nil)) (.inl rfl)
theorem th {a0:List be} {q1:be->Option Bool} {r:Int} {q1_f:Nat} {q1_c:List PV} (q1_b:cY Tryz.prog q1_f=true) (q1_h:∀ (x0:be) (r:Bool),q1 x0=some r->FZ q1_f ([.agg (aH x0)]++q1_c) [.p (.bool r)]) (F:im a0 q1=some r):FZ 66 [.vs 7 (map aH a0),.fn q1_f q1_c] [.p (.int .i64 r)]:=by
 unfold im at F;refine fb 19 Tryz.func66 fun w O=> ?_;obtain⟨lr0,F,hK0⟩:=bs F;refine lpG (fun s1=>∃ q,lr0= .next q/\s1=(sX 19 [] [] 0)) (fun(q:Int)=>(sX 19 [pf 0 (.vs 7 (map aH a0)),pf 1 (.fn q1_f q1_c),pf 7 (.int .i64 (a0.length:Int)),pf 8 (.int .i64 q)] [] 0)) (fun k q=>eF a0 q1 k q) 0 (bG []) F (fun k x1 F ih=> ?_) ?_
 ·refine gg ?_;refine cq F (fun hb0 F=> ?_) fun hb0 F=> ?_
  ·obtain⟨y0,h0,F⟩:=bs F;refine gg ?_;obtain⟨y1,h1,F⟩:=bs F;refine rq (dx 0 rfl (caps:=q1_c) (args:=[.agg (aH y0)]) (rs:=[.p (.bool y1)]) rfl rfl rfl q1_b (q1_h y0 _ h1) rfl rfl rfl) ?_;refine cnd F (fun hb1 F=> ?_) fun hb1 F=> ?_
   ·refine ga8 ?_;refine ba ?_;cases F;have F:=bH hK0;exact tl []
   refine gg ?_;exact aP (ih (ae (x1+1)) F) (bG [])
  exact tl []
 rintro _ ⟨⟨⟩,rfl,rfl⟩;have F:=bW hK0;clear hK0;exact tl []
theorem rp {a0:List be} {q1:be->Option Bool} {r:Bool} {q1_f:Nat} {q1_c:List PV} (q1_b:cY Tryz.prog q1_f=true) (q1_h:∀ (x0:be) (r:Bool),q1 x0=some r->FZ q1_f ([.agg (aH x0)]++q1_c) [.p (.bool r)]) (F:eD a0 q1=some r):FZ 35 [.vs 7 (map aH a0),.fn q1_f q1_c] [.p (.bool r)]:=by
 unfold eD at F;refine fb 9 Tryz.func35 fun w O=> ?_;obtain⟨y1,h2,F⟩:=bs F;refine rgp (clA 0 (th (q1_b:=q1_b) (q1_h:=q1_h) h2)) ?_;exact tl []
theorem yT {a0:Int} {r:Bool} (F:jk a0=some r):FZ 123 [.int .u8 a0] [.p (.bool r)]:=by
 unfold jk at F;refine fb 12 Tryz.func123 fun w O=> ?_;refine rgp (kO rfl rfl rfl rfl rfl rfl) ?_;exact tl []
theorem Mw {a0:Int} {r:Bool} (F:uO a0=some r):FZ 124 [.int .u8 a0] [.p (.bool r)]:=by
 unfold uO at F;refine bM (n:=6) Tryz.func124 rfl rfl rfl fun w O=> ?_;exact tl []

theorem Un {a0:List UInt8} {r:(List UInt8)} (F:GJ a0=some r):FZ 161 [.str a0] [.p (.fn 183 [.vp (eS r)])]:=by
 unfold GJ at F;refine fb 4 Tryz.func161 fun w O=> ?_;refine rgp (kY rfl rfl rfl rfl) ?_;refine ga3 ?_;refine vn (gW [(0,some (.box 9 [pS a0]))] [(2,some (.pv (.fn 183 [.vp (eS a0)])))] (FzH.spec ⟨rfl,trivial⟩) ⟨⟨_,rfl,rfl⟩,trivial⟩) ?_;cases F;exact oE rfl rfl (.cons _ _ _ _ _ (.tmp _ _ rfl) (.p _) .nil) (.inl rfl)
theorem oH {a0:List (List UInt8)} {q1:(List UInt8)->Option Bool} {r:Int} {q1_f:Nat} {q1_c:List PV} (q1_b:cY Tryz.prog q1_f=true) (q1_h:∀ (x0:List UInt8) (r:Bool),q1 x0=some r->FZ q1_f ([.str x0]++q1_c) [.p (.bool r)]) (F:fK a0 q1=some r):FZ 126 [.vs 1 (map eS a0),.fn q1_f q1_c] [.p (.int .i64 r)]:=by
 unfold fK at F;refine fb 19 Tryz.func126 fun w O=> ?_;obtain⟨lr0,F,hK0⟩:=bs F;refine lpG (fun s1=>∃ q,lr0= .next q/\s1=(sX 19 [] [] 0)) (fun(q:Int)=>(sX 19 [pf 0 (.vs 1 (map eS a0)),pf 1 (.fn q1_f q1_c),pf 7 (.int .i64 (a0.length:Int)),pf 8 (.int .i64 q)] [] 0)) (fun k q=>dU a0 q1 k q) 0 (bG []) F (fun k x1 F ih=> ?_) ?_
 ·refine gg ?_;refine cq F (fun hb0 F=> ?_) fun hb0 F=> ?_
  ·obtain⟨y0,h0,F⟩:=bs F;refine gg ?_;obtain⟨y1,h1,F⟩:=bs F;refine rq (dx 0 rfl (caps:=q1_c) (args:=[.str y0]) (rs:=[.p (.bool y1)]) rfl rfl rfl q1_b (q1_h y0 _ h1) rfl rfl rfl) ?_;refine cnd F (fun hb1 F=> ?_) fun hb1 F=> ?_
   ·refine ga8 ?_;refine ba ?_;cases F;have F:=bH hK0;exact tl []
   refine gg ?_;exact aP (ih (ae (x1+1)) F) (bG [])
  exact tl []
 rintro _ ⟨⟨⟩,rfl,rfl⟩;have F:=bW hK0;clear hK0;exact tl []
theorem O5 {a0:List UInt8} {c0:List UInt8} {r:Bool} (F:wO a0 c0=some r):FZ 183 [.str a0,.vp (eS c0)] [.p (.bool r)]:=by
 unfold wO at F;refine fb 7 Tryz.func183 fun w O=> ?_;refine rgp (dQ rfl rfl rfl rfl rfl rfl) ?_;exact tl []
theorem OZ {a0:List UInt8} {r:Int} (F:wx a0=some r):FZ 125 [.str a0] [.p (.int .i64 r)]:=by
 unfold wx at F;refine bM (n:=8) Tryz.func125 rfl rfl rfl fun w O=> ?_;refine ga3 ?_;refine aJ ?_;refine dt ⟨_,_,_⟩ rfl ?_;refine dk 3 [] (.pv (.vs 1 (map eS glob_0))) (fun m h=>⟨_,AY rfl aaC aaM aaK (fun _=>rfl) rfl rfl rfl rfl,rfl⟩) ?_;refine dgo ?_;obtain⟨y1,h2,F⟩:=bs F;refine dk 5 [(4,pS a0)] (.pv (.fn 183 [.vp (eS y1)])) (fun m h=>⟨_,dx 0 rfl (caps:=[]) (args:=[.str a0]) (rs:=[.p (.fn 183 [.vp (eS y1)])]) rfl rfl (bm h.1.1 dM) aaE (Un h2) rfl rfl rfl,rfl⟩) ?_;obtain⟨y4,h5,F⟩:=bs F;refine dk 6 [(5,.pv (.fn 183 [.vp (eS y1)])),(3,.pv (.vs 1 (map eS glob_0)))] (pI y4) (fun m h=>⟨_,dx 0 rfl (caps:=[]) (args:=[.vs 1 (map eS glob_0),.fn 183 [.vp (eS y1)]]) (rs:=[.p (.int .i64 y4)]) rfl rfl (bm h.1.2.1 (bm h.1.1 dM)) aaL (oH (q1_f:=183) (q1_c:=[.vp (eS y1)]) (q1_b:=acf) (q1_h:=fun _ r h=>(O5 h)) h5) rfl rfl rfl,rfl⟩) ?_;exact tm []
theorem jf {a0:List UInt8} {r:Bool} (F:jz a0=some r):FZ 97 [.str a0] [.p (.bool r)]:=by
 unfold jz at F;refine bM (n:=37) Tryz.func97 rfl rfl rfl fun w O=> ?_;refine ga3 ?_;(iterate 2 refine aJ ?_);obtain⟨x7,F,hK9⟩:=bs F;refine ctq (sX 37 [pf 0 (.str a0),pf 17 (.bool x7)] [] 0) ?_ ?_
 ·refine rq (dQ rfl rfl rfl rfl rfl rfl) ?_;refine iq F (fun hb1 F=> ?_) fun hb1 F=> ?_
  ·exact tl []
  refine rqn hb1 (dJ rfl rfl eo rfl rfl) ?_;refine iq F (fun hb2 F=> ?_) fun hb2 F=> ?_
  ·exact tl []
  obtain⟨y3,h4,F⟩:=bs F;refine rgn hb2 (dV rfl rfl rfl h4 eo rfl rfl) ?_;obtain⟨y5,h6,F⟩:=bs F;refine rgn hb2 (clA 0 (yT h6)) ?_;exact tl []
 have F:=hK9;refine cq F (fun hb0 F=> ?_) fun hb0 F=> ?_
 ·exact tl []
 obtain⟨u0,h0,F⟩:=bs F;refine rq (Ru (E:=ce) rfl rfl eo aal Qx h0 rfl rfl rfl) ?_;obtain⟨lr0,F,hK0⟩:=bs F;refine lpG (fun s1=>∃ q,lr0= .next q/\s1=(sX 37 [pf 0 (.str a0)] [] 0)) (fun(q:Int)=>(sX 37 [pf 0 (.str a0),pf 19 (.vs 1 (map ce (bh a0))),pf 20 (.int .i64 ((bh a0).length:Int)),pf 21 (.int .i64 q)] [] 0)) (fun k q=>re a0 k q) 0 (bG []) F (fun k x0 F ih=> ?_) ?_
 ·refine gg ?_;refine cq F (fun hb3 F=> ?_) fun hb3 F=> ?_
  ·obtain⟨y0,h1,F⟩:=bs F;refine ga4 ?_;refine aJ ?_;obtain⟨x1,F,hK1⟩:=bs F;refine ctq (sX 37 [pf 0 (.str a0),pf 19 (.vs 1 (map ce (bh a0))),pf 20 (.int .i64 ((bh a0).length:Int)),pf 21 (.int .i64 x0),pf 32 (.bool x1)] [] 0) ?_ ?_
   ·obtain⟨y1,h2,F⟩:=bs F;refine rq (clA 0 (yT h2)) ?_;refine iq F (fun hb4 F=> ?_) fun hb4 F=> ?_
    ·obtain⟨y2,h3,F⟩:=bs F;refine rgn hb4 (clA 0 (Mw h3)) ?_;exact tl []
    exact tl []
   have F:=hK1;refine cnd F (fun hb5 F=> ?_) fun hb5 F=> ?_
   ·refine ga7 ?_;refine ba ?_;cases F;have F:=bH hK0;exact tl []
   refine gg ?_;exact aP (ih (ae (x0+1)) F) (bG [])
  exact tl []
 rintro _ ⟨⟨⟩,rfl,rfl⟩;have F:=bW hK0;clear hK0;refine gg ?_;obtain⟨y4,h5,F⟩:=bs F;refine rgp (clA 0 (OZ h5)) ?_;exact tl []
theorem sG {a0:List (List UInt8)} {q1:(List UInt8)->Option Bool} {r:Bool} {q1_f:Nat} {q1_c:List PV} (q1_b:cY Tryz.prog q1_f=true) (q1_h:∀ (x0:List UInt8) (r:Bool),q1 x0=some r->FZ q1_f ([.str x0]++q1_c) [.p (.bool r)]) (F:ew a0 q1=some r):FZ 98 [.vs 1 (map eS a0),.fn q1_f q1_c] [.p (.bool r)]:=by
 unfold ew at F;refine fb 9 Tryz.func98 fun w O=> ?_;obtain⟨y1,h2,F⟩:=bs F;refine rgp (clA 0 (oH (q1_b:=q1_b) (q1_h:=q1_h) h2)) ?_;exact tl []
theorem Jz {a0:List UInt8} {r:Bool} (F:sF a0=some r):FZ 99 [.str a0] [.p (.bool r)]:=by
 unfold sF at F;refine fb 6 Tryz.func99 fun w O=> ?_;obtain⟨y1,h2,F⟩:=bs F;refine rgp (clA 0 (jf h2)) ?_;exact tl []
theorem uM {a0:ay} {a1:Int} {r:Bool} (F:nZ a0 a1=some r):FZ 100 [.agg (aC a0),.int .i64 a1] [.p (.bool r)]:=by
 unfold nZ at F;refine bM (n:=34) Tryz.func100 rfl rfl rfl fun w O=> ?_;refine ga9 ?_;refine cI ?_;refine aJ ?_;refine Dl F (fun q=>(sX 34 [(2,some (.lp 0 0))] [bf 0 42 (aC a0)] 1)) ?_ ?_
 ·(iterate 3 refine cI ?_);refine aJ ?_;refine cI ?_;refine aJ ?_;refine cI ?_;refine ga6 ?_;rcases mR F with⟨hb1,F⟩ | ⟨hb1,F⟩
  ·refine gk rfl hb1 ?_;refine uv ?_;(iterate 2 refine di ?_);refine jF ?_;refine ga7 ?_;rcases mR F with⟨hb2,F⟩ | ⟨hb2,F⟩
   ·refine ga9 ?_;refine ga5 ?_;refine gK ?_
    replace F:=pu F
    exact tl []
   refine ga9 ?_;refine ga5 ?_;refine gK ?_
   replace F:=pu F
   exact tl []
  refine fg rfl hb1 ?_;refine ga7 ?_;rcases mR F with⟨hb3,F⟩ | ⟨hb3,F⟩
  ·refine gk rfl hb3 ?_;refine uv ?_;(iterate 2 refine di ?_);refine dZ rfl ?_;refine di ?_;refine jF ?_;refine ga9 ?_;refine ga4 ?_;refine gK ?_
   replace F:=pu F
   exact tl []
  refine fg rfl hb3 ?_;refine ga7 ?_;rcases mR F with⟨hb4,F⟩ | ⟨hb4,F⟩
  ·refine gk rfl hb4 ?_;refine uv ?_;(iterate 2 refine di ?_);refine dZ rfl ?_;refine di ?_;refine dZ rfl ?_;refine di ?_;refine jF ?_;refine ga2 ?_;exact kf _ ⟨(),rfl,F⟩ (bG [0])
  refine fg rfl hb4 ?_;refine ga7 ?_;rcases mR F with⟨hb5,F⟩ | ⟨hb5,F⟩
  ·refine gk rfl hb5 ?_;refine uv ?_;(iterate 2 refine di ?_);refine dZ rfl ?_;refine di ?_;refine dZ rfl ?_;refine di ?_;refine dZ rfl ?_;refine jF ?_;refine go ?_;exact kf _ ⟨(),rfl,F⟩ (bG [0])
  refine fg rfl hb5 ?_;refine ga2 ?_;refine aJ ?_;obtain⟨x8,F,hK0⟩:=qd F;refine ctx (sX 34 [(2,some (.lp 0 0)),pf 15 (.bool x8)] [bf 0 42 (aC a0)] 1) ?_ ?_
  ·refine go4 ?_;refine cnd F (fun hb6 F=> ?_) fun hb6 F=> ?_
   ·exact tl [0]
   refine go4 ?_;refine cnd F (fun hb7 F=> ?_) fun hb7 F=> ?_
   ·exact tl [0]
   exact tl [0]
  have F:=hK0;refine go ?_;rcases mR F with⟨hb0,F⟩ | ⟨hb0,F⟩
  ·refine gk rfl hb0 ?_;refine uv ?_;refine di ?_;refine dZ rfl ?_;refine di ?_;refine dZ rfl ?_;refine di ?_;(iterate 2 refine dZ rfl ?_);refine jF ?_;exact kf _ ⟨(),rfl,F⟩ (bG [0])
  refine fg rfl hb0 ?_;refine ga2 ?_;refine uv ?_;refine dZ rfl ?_;refine di ?_;refine dZ rfl ?_;refine di ?_;(iterate 3 refine dZ rfl ?_);refine L6 ?_
  replace F:=pu F
  refine di ?_;refine jF ?_;exact tl []
 rintro ⟨⟩ F;exact tl []
theorem Qg {a0:be} {r:Bool} (F:xi a0=some r):FZ 67 [.agg (aH a0)] [.p (.bool r)]:=by
 unfold xi at F;refine bM (n:=56) Tryz.func67 rfl rfl rfl fun w O=> ?_;refine ga9 ?_;refine gA ?_;(iterate 2 refine aJ ?_);obtain⟨x0,F,hK0⟩:=bs F;refine ctq (sX 56 [(1,some (.lp 0 0)),pf 3 (.int .i64 (a0.ac.length:Int)),pf 27 (.bool x0)] [bf 0 39 (aH a0)] 1) ?_ ?_
 ·obtain⟨y3,h4,F⟩:=bs F;refine rq (clA 1 (jf h4)) ?_;refine iq F (fun hb5 F=> ?_) fun hb5 F=> ?_
  ·exact tl [0]
  refine iq F (fun hb6 F=> ?_) fun hb6 F=> ?_
  ·exact tl [0]
  refine iq F (fun hb7 F=> ?_) fun hb7 F=> ?_
  ·exact tl [0]
  obtain⟨y9,h0,F⟩:=bs F;refine rgn hb7 (clA 1 (sG (q1_f:=99) (q1_c:=[]) (q1_b:=adO) (q1_h:=fun _ r h=>(Jz h)) h0)) ?_;exact tl [0]
 have F:=hK0;refine cq F (fun hb0 F=> ?_) fun hb0 F=> ?_
 ·exact tl []
 refine rq (dQ rfl rfl rfl rfl rfl rfl) ?_;refine cq F (fun hb1 F=> ?_) fun hb1 F=> ?_
 ·exact tl []
 obtain⟨lr0,F,hK1⟩:=bs F;refine lpG (fun s1=>∃ q,lr0= .next q/\s1=(sX 56 [(1,some (.lp 0 0))] [bf 0 39 (aH a0)] 1)) (fun(q:Int)=>(sX 56 [(1,some (.lp 0 0)),pf 3 (.int .i64 (a0.ac.length:Int)),pf 36 (.vs 2 (map aC a0.bl)),pf 37 (.int .i64 (a0.bl.length:Int)),pf 38 (.int .i64 q)] [bf 0 39 (aH a0)] 1)) (fun k q=>pw a0 k q) 0 (bG [0]) F (fun k x1 F ih=> ?_) ?_
 ·refine gg ?_;refine cq F (fun hb2 F=> ?_) fun hb2 F=> ?_
  ·obtain⟨y0,h1,F⟩:=bs F;refine ga9 ?_;refine cI ?_;refine aJ ?_;obtain⟨x2,F,hK2⟩:=bs F;refine ctx (sX 56 [(1,some (.lp 0 0)),pf 3 (.int .i64 (a0.ac.length:Int)),(5,some (.lp 1 0)),pf 36 (.vs 2 (map aC a0.bl)),pf 37 (.int .i64 (a0.bl.length:Int)),pf 38 (.int .i64 x1),pf 44 (.bool x2)] [bf 0 39 (aH a0),bf 1 42 (aC y0)] 2) ?_ ?_
   ·refine go4 ?_;refine cnd F (fun hb3 F=> ?_) fun hb3 F=> ?_
    ·exact tl [0,1]
    refine go4 ?_;refine cnd F (fun hb4 F=> ?_) fun hb4 F=> ?_
    ·exact tl [0,1]
    exact tl [0,1]
   have F:=hK2;refine gg ?_;refine cnd F (fun hb8 F=> ?_) fun hb8 F=> ?_
   ·refine gg ?_;refine rq (la (aC y0) qj) ?_;obtain⟨y1,h2,F⟩:=bs F;refine rq (clA 2 (uM h2)) ?_;refine cnd F (fun hb9 F=> ?_) fun hb9 F=> ?_
    ·refine ga8 ?_;refine ba ?_;cases F;have F:=bH hK1;exact tl []
    refine gg ?_;exact aP (ih (ae (x1+1)) F) (bG [0])
   refine ga8 ?_;refine ba ?_;cases F;have F:=bH hK1;exact tl []
  exact tl [0]
 rintro _ ⟨⟨⟩,rfl,rfl⟩;have F:=bW hK1;clear hK1;refine gg ?_;obtain⟨y2,h3,F⟩:=bs F;refine rgp (clA 1 (jf h3)) ?_;exact tl []
theorem uq {a0:List cN} {q1:cN->Option Bool} {r:Int} {q1_f:Nat} {q1_c:List PV} (q1_b:cY Tryz.prog q1_f=true) (q1_h:∀ (x0:cN) (r:Bool),q1 x0=some r->FZ q1_f ([.agg (aI x0)]++q1_c) [.p (.bool r)]) (F:jc a0 q1=some r):FZ 127 [.vs 13 (map aI a0),.fn q1_f q1_c] [.p (.int .i64 r)]:=by
 unfold jc at F;refine fb 19 Tryz.func127 fun w O=> ?_;obtain⟨lr0,F,hK0⟩:=bs F;refine lpG (fun s1=>∃ q,lr0= .next q/\s1=(sX 19 [] [] 0)) (fun(q:Int)=>(sX 19 [pf 0 (.vs 13 (map aI a0)),pf 1 (.fn q1_f q1_c),pf 7 (.int .i64 (a0.length:Int)),pf 8 (.int .i64 q)] [] 0)) (fun k q=>fy a0 q1 k q) 0 (bG []) F (fun k x1 F ih=> ?_) ?_
 ·refine gg ?_;refine cq F (fun hb0 F=> ?_) fun hb0 F=> ?_
  ·obtain⟨y0,h0,F⟩:=bs F;refine gg ?_;obtain⟨y1,h1,F⟩:=bs F;refine rq (dx 0 rfl (caps:=q1_c) (args:=[.agg (aI y0)]) (rs:=[.p (.bool y1)]) rfl rfl rfl q1_b (q1_h y0 _ h1) rfl rfl rfl) ?_;refine cnd F (fun hb1 F=> ?_) fun hb1 F=> ?_
   ·refine ga8 ?_;refine ba ?_;cases F;have F:=bH hK0;exact tl []
   refine gg ?_;exact aP (ih (ae (x1+1)) F) (bG [])
  exact tl []
 rintro _ ⟨⟨⟩,rfl,rfl⟩;have F:=bW hK0;clear hK0;exact tl []
theorem sg {a0:List cN} {q1:cN->Option Bool} {r:Bool} {q1_f:Nat} {q1_c:List PV} (q1_b:cY Tryz.prog q1_f=true) (q1_h:∀ (x0:cN) (r:Bool),q1 x0=some r->FZ q1_f ([.agg (aI x0)]++q1_c) [.p (.bool r)]) (F:fG a0 q1=some r):FZ 101 [.vs 13 (map aI a0),.fn q1_f q1_c] [.p (.bool r)]:=by
 unfold fG at F;refine fb 9 Tryz.func101 fun w O=> ?_;obtain⟨y1,h2,F⟩:=bs F;refine rgp (clA 0 (uq (q1_b:=q1_b) (q1_h:=q1_h) h2)) ?_;exact tl []
theorem tj {a0:List ay} {q1:ay->Option Bool} {r:Int} {q1_f:Nat} {q1_c:List PV} (q1_b:cY Tryz.prog q1_f=true) (q1_h:∀ (x0:ay) (r:Bool),q1 x0=some r->FZ q1_f ([.agg (aC x0)]++q1_c) [.p (.bool r)]) (F:ir a0 q1=some r):FZ 162 [.vs 2 (map aC a0),.fn q1_f q1_c] [.p (.int .i64 r)]:=by
 unfold ir at F;refine fb 19 Tryz.func162 fun w O=> ?_;obtain⟨lr0,F,hK0⟩:=bs F;refine lpG (fun s1=>∃ q,lr0= .next q/\s1=(sX 19 [] [] 0)) (fun(q:Int)=>(sX 19 [pf 0 (.vs 2 (map aC a0)),pf 1 (.fn q1_f q1_c),pf 7 (.int .i64 (a0.length:Int)),pf 8 (.int .i64 q)] [] 0)) (fun k q=>eH a0 q1 k q) 0 (bG []) F (fun k x1 F ih=> ?_) ?_
 ·refine gg ?_;refine cq F (fun hb0 F=> ?_) fun hb0 F=> ?_
  ·obtain⟨y0,h0,F⟩:=bs F;refine gg ?_;obtain⟨y1,h1,F⟩:=bs F;refine rq (dx 0 rfl (caps:=q1_c) (args:=[.agg (aC y0)]) (rs:=[.p (.bool y1)]) rfl rfl rfl q1_b (q1_h y0 _ h1) rfl rfl rfl) ?_;refine cnd F (fun hb1 F=> ?_) fun hb1 F=> ?_
   ·refine ga8 ?_;refine ba ?_;cases F;have F:=bH hK0;exact tl []
   refine gg ?_;exact aP (ih (ae (x1+1)) F) (bG [])
  exact tl []
 rintro _ ⟨⟨⟩,rfl,rfl⟩;have F:=bW hK0;clear hK0;exact tl []
theorem rU {a0:List ay} {q1:ay->Option Bool} {r:Bool} {q1_f:Nat} {q1_c:List PV} (q1_b:cY Tryz.prog q1_f=true) (q1_h:∀ (x0:ay) (r:Bool),q1 x0=some r->FZ q1_f ([.agg (aC x0)]++q1_c) [.p (.bool r)]) (F:eA a0 q1=some r):FZ 128 [.vs 2 (map aC a0),.fn q1_f q1_c] [.p (.bool r)]:=by
 unfold eA at F;refine fb 9 Tryz.func128 fun w O=> ?_;obtain⟨y1,h2,F⟩:=bs F;refine rgp (clA 0 (tj (q1_b:=q1_b) (q1_h:=q1_h) h2)) ?_;exact tl []
theorem Co {a0:ay} {r:Bool} (F:qV a0=some r):FZ 129 [.agg (aC a0)] [.p (.bool r)]:=by
 unfold qV at F;refine bM (n:=6) Tryz.func129 rfl rfl rfl fun w O=> ?_;exact tl []
theorem Fc {a0:bZ} {r:(List ay)} (F:wL a0=some r):FZ 95 [.vp (bt a0)] [.p (.vs 2 (map aC r))]:=by
 unfold wL at F;refine fb 17 Tryz.func95 fun w O=> ?_;refine rq (ia rfl rfl rfl rfl rfl) ?_;refine rgp (UM rfl rfl rfl rfl rfl) ?_;refine rq (xZ rfl rfl rfl rfl rfl) ?_;refine rq (ia rfl rfl rfl rfl rfl) ?_;obtain⟨y1,h2,F⟩:=bs F;refine rgp (yF (f:=aC) (l:=(a0.am).l) (nl:=none) (nh:=(some (ae ((if(if 3 < a0.fN then 3 else a0.fN) > 0 then(if 3 < a0.fN then 3 else a0.fN) else 0)+1)))) (nm:=(some (ae ((if(if 3 < a0.fN then 3 else a0.fN) > 0 then(if 3 < a0.fN then 3 else a0.fN) else 0)+1)))) rfl rfl rfl rfl rfl (.inr rfl) mP rfl (fun _=>rfl) rfl rfl h2 rfl rfl) ?_;exact tl []
theorem sy {a0:bZ} {a1:Int} {r:Bool} (F:oy a0 a1=some r):FZ 94 [.agg (bt a0),.int .i64 a1] [.p (.bool r)]:=by
 unfold oy at F;refine bM (n:=74) Tryz.func94 rfl rfl rfl fun w O=> ?_;refine ga9 ?_;refine cI ?_;refine aJ ?_;obtain⟨x2,F,hK4⟩:=bs F;refine ctx (sX 74 [pf 1 (.int .i64 a1),(2,some (.lp 0 0)),pf 13 (.int .i64 a0.aa),pf 14 (.bool x2)] [bf 0 45 (bt a0)] 1) ?_ ?_
 ·refine go4 ?_;refine cnd F (fun hb1 F=> ?_) fun hb1 F=> ?_
  ·exact tl [0]
  exact tl [0]
 have F:=hK4;refine gg ?_;refine cq F (fun hb5 F=> ?_) fun hb5 F=> ?_
 ·refine rq (la (bt a0) fH) ?_;refine rgp (bd ((bt dY)) (bt (⟨a0.aa,[],0,(⟨aq,aq,aq,aq⟩:A4 ay)⟩:bZ)) uL BR) ?_;refine rgp (xn (r:=jp a0 (⟨a0.aa,[],0,(⟨aq,aq,aq,aq⟩:A4 ay)⟩:bZ)) rfl rfl rfl Bh rfl rfl rfl rfl rfl) ?_;exact tl []
 refine cnd F (fun hb6 F=> ?_) fun hb6 F=> ?_
 ·refine aJ ?_;obtain⟨x0,F,hK0⟩:=bs F;refine ctq (sX 74 [pf 1 (.int .i64 a1),(2,some (.lp 0 0)),pf 37 (.bool x0)] [bf 0 45 (bt a0)] 1) ?_ ?_
  ·obtain⟨y9,h0,F⟩:=bs F;refine rgp (clA 1 (jf h0)) ?_;exact tl [0]
  have F:=hK0;refine cnd F (fun hb0 F=> ?_) fun hb0 F=> ?_
  ·exact tl []
  refine ga4 ?_;refine cT (gW [(0,some (.box 45 (bxv (bt a0))))] [(2,some (.pv (.vp (bt a0))))] (FzH.spec ⟨rfl,trivial⟩) ⟨⟨_,rfl,rfl⟩,trivial⟩) ?_;obtain⟨y0,h1,F⟩:=bs F;refine rq (clA 1 (Fc h1)) ?_;obtain⟨lr0,F,hK1⟩:=bs F;refine lpG (fun s1=>∃ q,lr0= .next q/\s1=(sX 74 [pf 2 (.vp (bt a0)),pf 5 (.vs 2 (map aC y0))] [] 0)) (fun(q:Int)=>(sX 74 [pf 1 (.int .i64 a1),pf 2 (.vp (bt a0)),pf 5 (.vs 2 (map aC y0)),pf 39 (.vs 2 (map aC y0)),pf 40 (.int .i64 (y0.length:Int)),pf 41 (.int .i64 q)] [] 0)) (fun k q=>nf a1 y0 k q) 0 (bG []) F (fun k x1 F ih=> ?_) ?_
  ·refine gg ?_;refine cq F (fun hb2 F=> ?_) fun hb2 F=> ?_
   ·obtain⟨y1,h2,F⟩:=bs F;refine gg ?_;refine rq (la (aC y1) qj) ?_;obtain⟨y2,h3,F⟩:=bs F;refine rq (clA 1 (uM h3)) ?_;refine cnd F (fun hb3 F=> ?_) fun hb3 F=> ?_
    ·refine ga7 ?_;refine ba ?_;cases F;have F:=bH hK1;exact tl []
    refine gg ?_;exact aP (ih (ae (x1+1)) F) (bG [])
   exact tl []
  rintro _ ⟨⟨⟩,rfl,rfl⟩;have F:=bW hK1;clear hK1;refine gg ?_;obtain⟨y3,h4,F⟩:=bs F;refine rq (EN (nl:=(some 1)) (nh:=none) (nm:=none) rfl rfl rfl rfl rfl (.inl rfl) Ea (Vo (nl:=(some 1)) (nh:=none) aC h4) rfl rfl) ?_;obtain⟨lr1,F,hK2⟩:=bs F;refine lpG (fun s1=>∃ q,lr1= .next q/\s1=(sX 74 [pf 2 (.vp (bt a0)),pf 5 (.vs 2 (map aC y0))] [] 0)) (fun(q:Int)=>(sX 74 [pf 2 (.vp (bt a0)),pf 5 (.vs 2 (map aC y0)),pf 51 (.vs 2 (map aC y3)),pf 52 (.int .i64 (y3.length:Int)),pf 53 (.int .i64 q)] [] 0)) (fun k q=>nj y3 k q) 0 (bG []) F (fun k x3 F ih=> ?_) ?_
  ·refine gg ?_;refine cq F (fun hb4 F=> ?_) fun hb4 F=> ?_
   ·obtain⟨y4,h5,F⟩:=bs F;refine gg ?_;refine cnd F (fun hb7 F=> ?_) fun hb7 F=> ?_
    ·refine ga7 ?_;refine ba ?_;cases F;have F:=bH hK2;exact tl []
    refine gg ?_;exact aP (ih (ae (x3+1)) F) (bG [])
   exact tl []
  rintro _ ⟨⟨⟩,rfl,rfl⟩;have F:=bW hK2;clear hK2;refine gg ?_;obtain⟨y5,h6,F⟩:=bs F;refine rq (yF (f:=aC) (l:=(a0.am).l) (nl:=(some (y0.length:Int))) (nh:=none) (nm:=none) rfl rfl rfl rfl rfl (.inl rfl) mP rfl (fun _=>rfl) rfl rfl h6 rfl rfl) ?_;obtain⟨lr2,F,hK3⟩:=bs F;refine lpG (fun s1=>∃ q,lr2= .next q/\s1=(sX 74 [] [] 0)) (fun(q:Int)=>(sX 74 [pf 64 (.vs 2 (map aC y5)),pf 65 (.int .i64 (y5.length:Int)),pf 66 (.int .i64 q)] [] 0)) (fun k q=>nu y5 k q) 0 (bG []) F (fun k x4 F ih=> ?_) ?_
  ·refine gg ?_;refine cq F (fun hb8 F=> ?_) fun hb8 F=> ?_
   ·obtain⟨y6,h7,F⟩:=bs F;refine gg ?_;refine rgp (la (aC y6) qj) ?_;refine rgp (bd ((aC aq)) (aC aq) vZ BN) ?_;refine rq (mJ (r:=jx y6 aq) rfl rfl rfl Um rfl rfl rfl rfl rfl) ?_;refine cnd F (fun hb9 F=> ?_) fun hb9 F=> ?_
    ·refine ga7 ?_;refine ba ?_;cases F;have F:=bH hK3;exact tl []
    refine gg ?_;exact aP (ih (ae (x4+1)) F) (bG [])
   exact tl []
  rintro _ ⟨⟨⟩,rfl,rfl⟩;have F:=bW hK3;clear hK3;exact tl []
 exact tl []
theorem ud {a0:bZ} {a1:Int} {r:Bool} (F:mN a0 a1=some r):FZ 103 [.agg (bt a0),.int .i64 a1] [.p (.bool r)]:=by
 unfold mN at F;refine bM (n:=30) Tryz.func103 rfl rfl rfl fun w O=> ?_;refine ga6 ?_;refine cT (gW [(0,some (.box 45 (bxv (bt a0))))] [(2,some (.pv (.vp (bt a0)))),(6,some (.pv (.vp (List.drop 3 (bt a0)))))] (FzH.spec ⟨rfl,trivial⟩) ⟨⟨_,rfl,rfl⟩,⟨_,rfl,rfl⟩,trivial⟩) ?_;obtain⟨y6,h7,F⟩:=bs F;refine rgp (yF (f:=aC) (l:=(a0.am).l) (nl:=(some 1)) (nh:=none) (nm:=none) rfl rfl rfl rfl rfl (.inl rfl) mP rfl (fun _=>rfl) rfl rfl h7 rfl rfl) ?_;obtain⟨y9,h0,F⟩:=bs F;refine rq (clA 1 (rU (q1_f:=129) (q1_c:=[]) (q1_b:=abL) (q1_h:=fun _ r h=>(Co h)) h0)) ?_;refine iq F (fun hb0 F=> ?_) fun hb0 F=> ?_
 ·obtain⟨y0,h1,F⟩:=bs F;refine rqn hb0 (clA 1 (sy h1)) ?_;refine iq F (fun hb1 F=> ?_) fun hb1 F=> ?_
  ·refine rqn hb1 (xc (k:= .i64) (m:=0) (n:=4) rfl rfl rfl mP rfl rfl rfl rfl) ?_;refine iq F (fun hb2 F=> ?_) fun hb2 F=> ?_
   ·exact tl []
   refine rgn hb2 (xc (k:= .i64) (m:=0) (n:=4) rfl rfl rfl mP rfl rfl rfl rfl) ?_;exact tl []
  exact tl []
 exact tl []
theorem KI {a0:cN} {c0:Int} {r:Bool} (F:vG a0 c0=some r):FZ 102 [.agg (aI a0),.vp (eI c0)] [.p (.bool r)]:=by
 unfold vG at F;refine fb 21 Tryz.func102 fun w O=> ?_;refine iq F (fun hb1 F=> ?_) fun hb1 F=> ?_
 ·exact tl []
 obtain⟨y2,h3,F⟩:=bs F;refine rqn hb1 (clA 1 (jf h3)) ?_;refine iq F (fun hb4 F=> ?_) fun hb4 F=> ?_
 ·exact tl []
 refine rqn hb4 (la (bt a0.av) fH) ?_;obtain⟨y5,h6,F⟩:=bs F;refine rgn hb4 (clA 1 (ud h6)) ?_;exact tl []
theorem xt {a0:List cN} {a1:Int} {a2:Int} {r:Bool} (F:np a0 a1 a2=some r):FZ 68 [.vs 13 (map aI a0),.int .i64 a1,.int .i64 a2] [.p (.bool r)]:=by
 unfold np at F;refine fb 17 Tryz.func68 fun w O=> ?_;refine iq F (fun hb1 F=> ?_) fun hb1 F=> ?_
 ·refine rgn hb1 (kY rfl rfl rfl rfl) ?_;obtain⟨y3,h4,F⟩:=bs F;refine rgn hb1 (oX 1 rfl (caps:=[]) (args:=[.vs 13 (map aI a0),.fn 102 [.vp (eI a2)]]) [(0,some (.box 3 [pI a2]))] rfl rfl rfl (FzH.spec ⟨rfl,trivial⟩) rfl rfl abc (sg (q1_f:=102) (q1_c:=[.vp (eI a2)]) (q1_b:=aaJ) (q1_h:=fun _ r h=>(KI h)) h4) rfl rfl rfl) ?_;exact tl []
 exact tl []
theorem sm {a0:List br} {q1:br->Option Bool} {r:Int} {q1_f:Nat} {q1_c:List PV} (q1_b:cY Tryz.prog q1_f=true) (q1_h:∀ (x0:br) (r:Bool),q1 x0=some r->FZ q1_f ([.agg (aY x0)]++q1_c) [.p (.bool r)]) (F:ig a0 q1=some r):FZ 104 [.vs 17 (map aY a0),.fn q1_f q1_c] [.p (.int .i64 r)]:=by
 unfold ig at F;refine fb 19 Tryz.func104 fun w O=> ?_;obtain⟨lr0,F,hK0⟩:=bs F;refine lpG (fun s1=>∃ q,lr0= .next q/\s1=(sX 19 [] [] 0)) (fun(q:Int)=>(sX 19 [pf 0 (.vs 17 (map aY a0)),pf 1 (.fn q1_f q1_c),pf 7 (.int .i64 (a0.length:Int)),pf 8 (.int .i64 q)] [] 0)) (fun k q=>et a0 q1 k q) 0 (bG []) F (fun k x1 F ih=> ?_) ?_
 ·refine gg ?_;refine cq F (fun hb0 F=> ?_) fun hb0 F=> ?_
  ·obtain⟨y0,h0,F⟩:=bs F;refine gg ?_;obtain⟨y1,h1,F⟩:=bs F;refine rq (dx 0 rfl (caps:=q1_c) (args:=[.agg (aY y0)]) (rs:=[.p (.bool y1)]) rfl rfl rfl q1_b (q1_h y0 _ h1) rfl rfl rfl) ?_;refine cnd F (fun hb1 F=> ?_) fun hb1 F=> ?_
   ·refine ga8 ?_;refine ba ?_;cases F;have F:=bH hK0;exact tl []
   refine gg ?_;exact aP (ih (ae (x1+1)) F) (bG [])
  exact tl []
 rintro _ ⟨⟨⟩,rfl,rfl⟩;have F:=bW hK0;clear hK0;exact tl []
theorem qU {a0:List br} {q1:br->Option Bool} {r:Bool} {q1_f:Nat} {q1_c:List PV} (q1_b:cY Tryz.prog q1_f=true) (q1_h:∀ (x0:br) (r:Bool),q1 x0=some r->FZ q1_f ([.agg (aY x0)]++q1_c) [.p (.bool r)]) (F:dT a0 q1=some r):FZ 69 [.vs 17 (map aY a0),.fn q1_f q1_c] [.p (.bool r)]:=by
 unfold dT at F;refine fb 9 Tryz.func69 fun w O=> ?_;obtain⟨y1,h2,F⟩:=bs F;refine rgp (clA 0 (sm (q1_b:=q1_b) (q1_h:=q1_h) h2)) ?_;exact tl []
end Go.Proofs.YtjimbkljclfflaaGreatDoor
