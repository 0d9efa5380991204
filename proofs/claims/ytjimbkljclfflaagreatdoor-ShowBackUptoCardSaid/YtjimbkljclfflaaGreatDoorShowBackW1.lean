/- A part of the proof that the law ShowBack gives true for every input. -/
import Derived.Test.YtjimbkljclfflaaGreatDoorShowBackT
import Derived.Test.YtjimbkljclfflaaGreatDoorShowBackY
import Derived.Test.YtjimbkljclfflaaGreatDoorShowBackB
import Derived.Test.YtjimbkljclfflaaGreatDoorShowBackS
import Derived.Test.YtjimbkljclfflaaGreatDoorShowBackX
import Derived.Test.YtjimbkljclfflaaGreatDoorShowBackI
import Derived.Test.YtjimbkljclfflaaGreatDoorShowBackW0
/- Each Go function computes its plain function. -/
namespace Go.Proofs.YtjimbkljclfflaaGreatDoor
open List
open Go.RowKit Go.Abs
set_option maxRecDepth 100000
set_option maxHeartbeats 4000000
theorem uG {a0:List aK} {a1:Int} {a2:List (List UInt8)} {a3:Bool} {r:dc} (F:lc a0 a1 a2 a3=some r):FZ 88 [.vs 3 (map aj a0),.int .i64 a1,.vs 1 (map eS a2),.bool a3] [.p (.agg (bw r))]:=by
 unfold lc at F;refine fb 121 Tryz.func88 fun w O=> ?_;obtain⟨y3,h4,F⟩:=bs F;refine rq (clA 1 (dl h4)) ?_;refine rgp (la (aj y3) jo) ?_;obtain⟨y7,h8,F⟩:=bs F;refine rq (clA 2 (cW h8)) ?_;refine cq F (fun hb9 F=> ?_) fun hb9 F=> ?_
 ·refine rgp (bd ((bw dm)) (bw (⟨[],dY,pM,ae (a1+1),aM⟩:dc)) nT Ai) ?_;exact tl []
 refine rgp (la (aj y3) jo) ?_;obtain⟨y0,h0,F⟩:=bs F;refine rq (clA 2 (cW h0)) ?_;refine cq F (fun hb0 F=> ?_) fun hb0 F=> ?_
 ·refine rq (bd ((bt dY)) (bt (⟨1,[],0,(⟨aq,aq,aq,aq⟩:A4 ay)⟩:bZ)) uL BR) ?_;refine rgp (bd ((bw dm)) (bw (⟨[],(⟨1,[],0,(⟨aq,aq,aq,aq⟩:A4 ay)⟩:bZ),pM,ae (a1+1),aM⟩:dc)) nT Ai) ?_;exact tl []
 refine rq (bd ((bt dY)) (bt (⟨2,[],0,(⟨aq,aq,aq,aq⟩:A4 ay)⟩:bZ)) uL BR) ?_;refine rq (bd ((aC aq)) (aC (⟨7,0⟩:ay)) vZ BN) ?_;refine rgp (po rfl rfl rfl mP rfl rfl rfl rfl) ?_;refine ga2 ?_;refine aJ ?_;obtain⟨p38,F,hK0⟩:=bs F;obtain⟨x0,x1⟩:=p38;refine ctq (sX 121 [pf 0 (.vs 3 (map aj a0)),pf 1 (.int .i64 x0),pf 2 (.vs 1 (map eS a2)),(8,some (.lp 0 0)),(10,some (.lp 1 0))] [bf 0 126 (bw dm),bf 1 45 (bt x1)] 2) ?_ ?_
 ·refine rgp (la (aj y3) jo) ?_;obtain⟨y1,h1,F⟩:=bs F;refine rgp (clA 3 (sr h1)) ?_;refine rq (ek rfl rfl QC jP rfl rfl rfl) ?_;refine cnd F (fun hb1 F=> ?_) fun hb1 F=> ?_
  ·refine gg ?_;refine rgp (la (aj y3) jo) ?_;obtain⟨y2,h2,F⟩:=bs F;refine rq (clA 3 (sr h2)) ?_;refine rgp (po rfl rfl rfl mP rfl rfl rfl rfl) ?_;exact tl [0,2]
  refine aJ ?_;obtain⟨x2,F,hK1⟩:=bs F;refine ctq (sX 121 [pf 0 (.vs 3 (map aj a0)),pf 1 (.int .i64 a1),pf 2 (.vs 1 (map eS a2)),(8,some (.lp 0 0)),(9,some (.lp 1 0)),(10,some (.lp 2 0)),pf 50 (.bool x2)] [bf 0 126 (bw dm),bf 1 70 (aj y3),bf 2 45 (bt ({ (⟨2,[],0,(⟨aq,aq,aq,aq⟩:A4 ay)⟩:bZ) with am:=({ (⟨2,[],0,(⟨aq,aq,aq,aq⟩:A4 ay)⟩:bZ).am with a0:=(⟨7,0⟩:ay) }:A4 ay) }:bZ))] 3) ?_ ?_
  ·refine iq F (fun hb2 F=> ?_) fun hb2 F=> ?_
   ·obtain⟨y4,h3,F⟩:=bs F;refine rgn hb2 (clA 3 (JC h3)) ?_;exact tl [0,1,2]
   exact tl [0,1,2]
  have F:=hK1;refine cq F (fun hb3 F=> ?_) fun hb3 F=> ?_
  ·refine rq (la (aj y3) jo) ?_;obtain⟨y5,h5,F⟩:=bs F;refine rq (clA 3 (yO h5)) ?_;(iterate 2 refine rq (po rfl rfl rfl mP rfl rfl rfl rfl) ?_);refine cnd F (fun hb4 F=> ?_) fun hb4 F=> ?_
   ·cases F
   exact tl [0,2]
  exact tl [0,2]
 have F:=hK0;obtain⟨y6,h6,F⟩:=bs F;refine rq (clA 2 (dl h6)) ?_;refine cnd F (fun hb5 F=> ?_) fun hb5 F=> ?_
 ·cases F
 refine gg ?_;obtain⟨y8,h7,F⟩:=bs F;refine rgp (clA 3 (dl h7)) ?_;obtain⟨y9,h9,F⟩:=bs F;refine rq (clA 3 (cW h9)) ?_;refine cq F (fun hb6 F=> ?_) fun hb6 F=> ?_
 ·refine rq (la (bt ({ x1 with bu:=y6.bV }:bZ)) fH) ?_;refine rgp (bd ((bw dm)) (bw (⟨[],({ x1 with bu:=y6.bV }:bZ),pM,ae (x0+1),aM⟩:dc)) nT Ai) ?_;exact tl []
 obtain⟨y10,h10,F⟩:=bs F;refine rgp (cl 3 [.vs 3 (map aj a0),.int .i64 (ae (x0+1)),.vs 1 (map eS a2)] [.p (.agg (bw y10))] (yp h10)) ?_;refine rgp (al 3 (bw dm) nT) ?_;refine go9 ?_;refine cnd F (fun hb7 F=> ?_) fun hb7 F=> ?_
 ·cases F
 refine gg ?_;obtain⟨x3,F,hK2⟩:=bs F;refine lpE (sX 121 [(8,some (.lp 0 0)),(10,some (.lp 1 0)),(12,some (.lp 2 0))] [bf 0 126 (bw dm),bf 1 45 (bt x3),bf 2 126 (bw y10)] 3) (fun(q:bZ×Int)=>(sX 121 [(8,some (.lp 0 0)),(10,some (.lp 1 0)),(12,some (.lp 2 0)),pf 13 (.int .i64 q.2)] [bf 0 126 (bw dm),bf 1 45 (bt q.1),bf 2 126 (bw y10)] 3)) (fun k q=>vf y10 k q.1 q.2) (({ ({ x1 with bu:=y6.bV }:bZ) with fN:=(y10.fL.length:Int) }:bZ),0) (bG [0,1,3]) F (fun k ⟨x4,x5⟩ F ih=> ?_) ?_
 ·refine gg ?_;refine cq F (fun hb8 F=> ?_) fun hb8 F=> ?_
  ·obtain⟨y11,h11,F⟩:=bs F;refine gg ?_;obtain⟨y13,h12,F⟩:=bs F;refine rgp (Kq rfl rfl rfl mP rfl h12 rfl rfl) ?_;refine rgp (NU (cells':=bxv (bt ({ x4 with am:=(A4.set x4.am (ae (x5+1):Int).toNat y11) }:bZ))) rfl rfl rfl rfl rfl (Ef qj) (by rw[ZX];rfl) (by rcases YC h12 with e | e | e | e<;>rw[e]<;>exact Nat.le_of_ble_eq_true rfl) (by rcases YC h12 with e | e | e | e<;>rw[e]<;>rfl) rfl rfl) ?_;refine ci ?_;refine piz (sX 121 [(8,some (.lp 0 0)),(10,some (.lp 1 0)),(12,some (.lp 2 0)),pf 13 (.int .i64 x5)] [bf 0 126 (bw dm),bf 1 45 (bt ({ x4 with am:=(A4.set x4.am (ae (x5+1):Int).toNat y11) }:bZ)),bf 2 126 (bw y10)] 3) [0,1,2] ?_;refine gg ?_;exact aP (ih (({ x4 with am:=(A4.set x4.am (ae (x5+1):Int).toNat y11) }:bZ),ae (x5+1)) F) (bG [0,1,2])
  exact tl [0,1,2]
 have F:=hK2;refine gg ?_;refine rq (la (bt x3) fH) ?_;refine rgp (bd ((bw dm)) (bw (⟨[],x3,pM,y10.aU,aM⟩:dc)) nT Ai) ?_;exact tl []
theorem CU {a0:List aK} {a1:Int} {a2:List (List UInt8)} {r:dc} (F:uE a0 a1 a2=some r):FZ 144 [.vs 3 (map aj a0),.int .i64 a1,.vs 1 (map eS a2)] [.p (.agg (bw r))]:=by
 unfold uE at F;refine fb 49 Tryz.func144 fun w O=> ?_;obtain⟨y3,h4,F⟩:=bs F;refine rgp (cl 1 [.vs 3 (map aj a0),.int .i64 a1,.vs 1 (map eS a2),.bool true] [.p (.agg (bw y3))] (uG h4)) ?_;refine rgp (al 1 (bw dm) nT) ?_;refine go9 ?_;refine cnd F (fun hb5 F=> ?_) fun hb5 F=> ?_
 ·cases F
 refine gg ?_;refine cnd F (fun hb6 F=> ?_) fun hb6 F=> ?_
 ·cases F
 refine gg ?_;obtain⟨y9,h0,F⟩:=bs F;refine rq (clA 2 (dl h0)) ?_;refine cnd F (fun hb0 F=> ?_) fun hb0 F=> ?_
 ·cases F
 refine ga2 ?_;refine aJ ?_;refine dt ⟨_,_,_⟩ rfl ?_;refine dd ?_;refine bg { need:=[(38,.lp 1 1)],hneed:=[(1,.box 126 (bxv (bw y3)))],dst:=some 39,val:=some (.pv (.agg (bt y3.fT))) } (fun m h=>bq (bQ rfl) (eZ (ps:=bt y3.fT) rfl h.1.1 h.2.1.1 rfl rfl rfl fH rfl rfl) rfl) ⟨⟨rfl,trivial⟩,⟨rfl,trivial⟩,trivial⟩ ?_;refine dd ?_;obtain⟨y0,h1,F⟩:=bs F;refine dk 42 [(41,pI a1),(40,.pv (.vs 3 (map aj a0)))] (.pv (.agg (aj y0))) (fun m h=>⟨_,dx 3 rfl (caps:=[]) (args:=[.vs 3 (map aj a0),.int .i64 a1]) (rs:=[.p (.agg (aj y0))]) rfl rfl (bm h.1.2.1 (bm h.1.1 dM)) YZ (dl h1) rfl rfl rfl,rfl⟩) ?_;refine dk 43 [(42,.pv (.agg (aj y0)))] (pI y0.fAt) (fun m h=>⟨_,ek rfl h.1.1 BV jP rfl rfl rfl,rfl⟩) ?_;refine dk 44 [(43,pI y0.fAt),(39,.pv (.agg (bt y3.fT))),(37,pS y9.bV)] (.pv (.agg (aI (⟨y9.bV,y3.fT,y0.fAt⟩:cN)))) (fun m h=>⟨_,Cb (zs:=(aI pM)) (r:=aI (⟨y9.bV,y3.fT,y0.fAt⟩:cN)) rfl yf (by exact⟨rfl,rfl,rfl,rfl,rfl,rfl,rfl,rfl,rfl,rfl,rfl,rfl,rfl,trivial⟩) Yn (jI h.1.2.2.1 (jI h.1.2.1 (jI h.1.1 zP))) rfl rfl rfl,rfl⟩) ?_;refine dd ?_;refine dk 48 [(47,pI (ae (y3.aU+1))),(44,.pv (.agg (aI (⟨y9.bV,y3.fT,y0.fAt⟩:cN))))] (.pv (.agg (bw (⟨[],dY,(⟨y9.bV,y3.fT,y0.fAt⟩:cN),ae (y3.aU+1),aM⟩:dc)))) (fun m h=>⟨_,Cb (zs:=(bw dm)) (r:=bw (⟨[],dY,(⟨y9.bV,y3.fT,y0.fAt⟩:cN),ae (y3.aU+1),aM⟩:dc)) rfl nT (by exact⟨trivial,rfl,rfl,rfl,rfl,rfl,rfl,rfl,rfl,rfl,rfl,rfl,rfl,rfl,rfl,rfl,rfl,rfl,rfl,rfl,rfl,rfl,rfl,rfl,rfl,rfl,rfl,rfl,trivial⟩) Ai (jI h.1.2.1 (jI h.1.1 zP)) rfl rfl rfl,rfl⟩) ?_;refine bg { need:=[(6,.lp 0 0),(48,.pv (.agg (bw (⟨[],dY,(⟨y9.bV,y3.fT,y0.fAt⟩:cN),ae (y3.aU+1),aM⟩:dc))))],hneed:=[(0,.box 126 (bxv (bw dm)))],upd:=[(0,some (.box 126 (bxv (bw (⟨[],dY,(⟨y9.bV,y3.fT,y0.fAt⟩:cN),ae (y3.aU+1),aM⟩:dc)))))] } (fun m h=>bq (bQ rfl) (kZ rfl h.1.1 h.1.2.1 rfl h.2.1.1 (Ef Oe) (by rw[Vt];rfl) rfl rfl rfl) rfl) ⟨⟨rfl,rfl,trivial⟩,⟨rfl,trivial⟩,trivial⟩ ?_;exact tm []
theorem FC {a0:List aK} {a1:Int} {a2:List (List UInt8)} {r:cJ} (F:rI a0 a1 a2=some r):FZ 117 [.vs 3 (map aj a0),.int .i64 a1,.vs 1 (map eS a2)] [.p (.agg (bc r))]:=by
 unfold rI at F;refine bM (n:=60) Tryz.func117 rfl rfl rfl fun w O=> ?_;refine ga5 ?_;refine cT (ib 7 80 13 1 rfl rfl) ?_;refine gg ?_;obtain⟨y3,h4,F⟩:=bs F;refine rq (clA 2 (eC h4)) ?_;refine cq F (fun hb5 F=> ?_) fun hb5 F=> ?_
 ·refine rgp (bd ((bc zGGot_ref09)) (bc (⟨zGClass,zGMethod,[],[],ae ((ae (a1+1))+1),aM⟩:cJ)) nP vQ) ?_;exact tl []
 obtain⟨lr0,F,hK0⟩:=bs F;refine lpG (fun _=>False) (fun(q:Int×(List cN))=>(sX 60 [pf 0 (.vs 3 (map aj a0)),pf 1 (.int .i64 q.1),pf 2 (.vs 1 (map eS a2)),(6,some (.lp 0 0)),(7,some (.ls 1))] [bf 0 74 (bc zGGot_ref09),(1,some (.row 80 13 (map aI q.2)))] 2)) (fun k q=>mU a0 a2 k q.1 q.2) (ae (a1+1),[]) (bG [0,1]) F (fun k ⟨x0,x1⟩ F ih=> ?_) ?_
 ·refine gg ?_;refine rq (jv rfl rfl rfl (length_map ..) pA rfl rfl) ?_;refine cnd F (fun hb0 F=> ?_) fun hb0 F=> ?_
  ·cases F
  refine gg ?_;obtain⟨y0,h0,F⟩:=bs F;refine rgp (cl 2 [.vs 3 (map aj a0),.int .i64 x0,.vs 1 (map eS a2)] [.p (.agg (bw y0))] (CU h0)) ?_;refine rgp (al 2 (bw dm) nT) ?_;refine go9 ?_;refine cnd F (fun hb1 F=> ?_) fun hb1 F=> ?_
  ·cases F
  refine gg ?_;refine rgp (la (aI y0.fV) A8) ?_;refine rgp (ez (rows:=map aI ([y0.fV]:List cN)) (zs:=(aI pM)) rfl rfl pA yf (by exact⟨rfl,rfl,rfl,rfl,rfl,rfl,rfl,rfl,rfl,rfl,rfl,rfl,rfl,trivial⟩) rfl rfl rfl rfl rfl rfl rfl rfl) ?_;obtain⟨u0,h1,F⟩:=bs F;refine rq (fJ 3 rfl rfl rfl rfl rfl pA UD yf rfl rfl rfl (jr (f:=aI) (g:=aI) h1) (map_append (f:=aI) (l₁:=x1) (l₂:=[y0.fV])).symm rfl rfl) ?_;obtain⟨y1,h2,F⟩:=bs F;refine rq (clA 4 (eC h2)) ?_;refine cnd F (fun hb2 F=> ?_) fun hb2 F=> ?_
  ·refine ga5 ?_;refine cT (gW [(3,some (.row 80 13 (map aI (x1++[y0.fV]))))] [(7,some (.pv (.vs 13 (map aI (x1++[y0.fV]))))),(43,some (.pv (.vs 13 (map aI (x1++[y0.fV])))))] (FzH.spec ⟨rfl,trivial⟩) ⟨⟨_,rfl,rfl⟩,⟨_,rfl,rfl⟩,trivial⟩) ?_;refine rgp (bd ((bc zGGot_ref09)) (bc (⟨zGClass,zGMethod,(x1++[y0.fV]),[],ae (y0.aU+1),aM⟩:cJ)) nP vQ) ?_;refine ga6 ?_;refine ba ?_;cases F;have F:=bH hK0;exact tl []
  refine gg ?_;obtain⟨y2,h3,F⟩:=bs F;refine rq (clA 4 (eC h3)) ?_;refine cnd F (fun hb3 F=> ?_) fun hb3 F=> ?_
  ·cases F
  refine ga7 ?_;refine ci ?_;refine piz (sX 60 [pf 0 (.vs 3 (map aj a0)),pf 1 (.int .i64 (ae (y0.aU+1))),pf 2 (.vs 1 (map eS a2)),(6,some (.lp 0 0)),(7,some (.ls 1))] [bf 0 74 (bc zGGot_ref09),(1,some (.row 80 13 (map aI (x1++[y0.fV]))))] 2) [0,3] ?_;refine go ?_;refine fu ?_;exact aP (ih (ae (y0.aU+1),(x1++[y0.fV])) F) (bG [0,1])
 intro _ h;exact h.elim
theorem Gw {a0:List aK} {a1:Int} {r:Bool} (F:rJ a0 a1=some r):FZ 145 [.vs 3 (map aj a0),.int .i64 a1] [.p (.bool r)]:=by
 unfold rJ at F;refine fb 32 Tryz.func145 fun w O=> ?_;obtain⟨y3,h4,F⟩:=bs F;refine rgp (clA 0 (dl h4)) ?_;refine ga3 ?_;(iterate 2 refine aJ ?_);obtain⟨x0,F,hK0⟩:=bs F;refine ctq (sX 32 [pf 0 (.vs 3 (map aj a0)),pf 1 (.int .i64 a1),(5,some (.lp 0 0)),pf 17 (.bool x0)] [bf 0 70 (aj y3)] 1) ?_ ?_
 ·refine rgp (la (aj y3) jo) ?_;obtain⟨y7,h8,F⟩:=bs F;refine rq (clA 1 (cW h8)) ?_;rcases ie F with⟨hb9,F⟩ | ⟨hb9,F⟩
  ·exact tl [0]
  refine rgn hb9 (la (aj y3) jo) ?_;obtain⟨y0,h0,F⟩:=bs F;refine rgn hb9 (clA 1 (sr h0)) ?_;refine rgn hb9 (ek rfl rfl QC jP rfl rfl rfl) ?_;exact tl [0]
 have F:=hK0;refine cq F (fun hb0 F=> ?_) fun hb0 F=> ?_
 ·exact tl []
 refine cq F (fun hb1 F=> ?_) fun hb1 F=> ?_
 ·exact tl []
 obtain⟨y1,h1,F⟩:=bs F;refine rq (clA 1 (dl h1)) ?_;rcases ie F with⟨hb2,F⟩ | ⟨hb2,F⟩
 ·exact tl []
 refine rgn hb2 (la (aj y1) jo) ?_;obtain⟨y2,h2,F⟩:=bs F;refine rgn hb2 (clA 2 (cW h2)) ?_;exact tl []
theorem Ga {a0:List aK} {a1:Int} {a2:List (List UInt8)} {r:cJ} (F:rC a0 a1 a2=some r):FZ 118 [.vs 3 (map aj a0),.int .i64 a1,.vs 1 (map eS a2)] [.p (.agg (bc r))]:=by
 unfold rC at F;refine bM (n:=49) Tryz.func118 rfl rfl rfl fun w O=> ?_;refine ga5 ?_;refine cT (ib 7 80 13 1 rfl rfl) ?_;refine gg ?_;obtain⟨lr0,F,hK0⟩:=bs F;refine lpE (sX 49 [pf 1 (.int .i64 lr0.1),(6,some (.lp 0 0)),(7,some (.ls 1))] [bf 0 74 (bc zGGot_ref09),(1,some (.row 80 13 (map aI lr0.2)))] 2) (fun(q:Int×(List cN))=>(sX 49 [pf 0 (.vs 3 (map aj a0)),pf 1 (.int .i64 q.1),pf 2 (.vs 1 (map eS a2)),(6,some (.lp 0 0)),(7,some (.ls 1))] [bf 0 74 (bc zGGot_ref09),(1,some (.row 80 13 (map aI q.2)))] 2)) (fun k q=>ky a0 a2 k q.1 q.2) (a1,[]) (bG [0,1]) F (fun k ⟨x0,x1⟩ F ih=> ?_) ?_
 ·refine gg ?_;obtain⟨y0,h0,F⟩:=bs F;refine rq (clA 2 (Gw h0)) ?_;refine cq F (fun hb0 F=> ?_) fun hb0 F=> ?_
  ·refine rq (jv rfl rfl rfl (length_map ..) pA rfl rfl) ?_;refine cnd F (fun hb1 F=> ?_) fun hb1 F=> ?_
   ·cases F
   refine gg ?_;obtain⟨y1,h1,F⟩:=bs F;refine rgp (cl 2 [.vs 3 (map aj a0),.int .i64 x0,.vs 1 (map eS a2)] [.p (.agg (bw y1))] (CU h1)) ?_;refine rgp (al 2 (bw dm) nT) ?_;refine go9 ?_;refine cnd F (fun hb2 F=> ?_) fun hb2 F=> ?_
   ·cases F
   refine gg ?_;obtain⟨y2,h2,F⟩:=bs F;refine rq (clA 3 (eC h2)) ?_;refine cnd F (fun hb3 F=> ?_) fun hb3 F=> ?_
   ·cases F
   refine gg ?_;refine rgp (la (aI y1.fV) A8) ?_;refine rgp (ez (rows:=map aI ([y1.fV]:List cN)) (zs:=(aI pM)) rfl rfl pA yf (by exact⟨rfl,rfl,rfl,rfl,rfl,rfl,rfl,rfl,rfl,rfl,rfl,rfl,rfl,trivial⟩) rfl rfl rfl rfl rfl rfl rfl rfl) ?_;obtain⟨u0,h3,F⟩:=bs F;refine rgp (fJ 3 rfl rfl rfl rfl rfl pA UD yf rfl rfl rfl (jr (f:=aI) (g:=aI) h3) (map_append (f:=aI) (l₁:=x1) (l₂:=[y1.fV])).symm rfl rfl) ?_;refine ga7 ?_;refine ci ?_;refine piz (sX 49 [pf 0 (.vs 3 (map aj a0)),pf 1 (.int .i64 (ae (y1.aU+1))),pf 2 (.vs 1 (map eS a2)),(6,some (.lp 0 0)),(7,some (.ls 1))] [bf 0 74 (bc zGGot_ref09),(1,some (.row 80 13 (map aI (x1++[y1.fV]))))] 2) [0,3] ?_;refine go ?_;refine fu ?_;exact aP (ih (ae (y1.aU+1),(x1++[y1.fV])) F) (bG [0,1])
  exact tl [0,1]
 have F:=hK0;obtain⟨x2,x3⟩:=lr0;refine ga4 ?_;refine cT (gW [(1,some (.row 80 13 (map aI x3)))] [(7,some (.pv (.vs 13 (map aI x3)))),(46,some (.pv (.vs 13 (map aI x3))))] (FzH.spec ⟨rfl,trivial⟩) ⟨⟨_,rfl,rfl⟩,⟨_,rfl,rfl⟩,trivial⟩) ?_;refine rgp (bd ((bc zGGot_ref09)) (bc (⟨zGClass,zGMethod,x3,[],x2,aM⟩:cJ)) nP vQ) ?_;exact tl []
theorem gi {a0:List aK} {a1:Int} {r:aK} (F:eK a0 a1=some r):FZ 146 [.vs 3 (map aj a0),.int .i64 a1] [.p (.agg (aj r))]:=by
 unfold eK at F;refine fb 8 Tryz.func146 fun w O=> ?_;obtain⟨y1,h2,F⟩:=bs F;refine rgp (clA 1 (dl h2)) ?_;exact tl []
theorem cF {a0:List aK} {a1:Int} {a2:List UInt8} {r:Bool} (F:dj a0 a1 a2=some r):FZ 149 [.vs 3 (map aj a0),.int .i64 a1,.str a2] [.p (.bool r)]:=by
 unfold dj at F;refine fb 12 Tryz.func149 fun w O=> ?_;obtain⟨y1,h2,F⟩:=bs F;refine rq (clA 0 (gi h2)) ?_;obtain⟨y3,h4,F⟩:=bs F;refine rgp (clA 0 (cW h4)) ?_;exact tl []
theorem zr {a0:List aK} {a1:Int} {r:Bool} (F:qy a0 a1=some r):FZ 148 [.vs 3 (map aj a0),.int .i64 a1] [.p (.bool r)]:=by
 unfold qy at F;refine fb 15 Tryz.func148 fun w O=> ?_;obtain⟨y1,h2,F⟩:=bs F;refine rgp (clA 0 (gi h2)) ?_;refine rq (ek rfl rfl rn jP rfl rfl rfl) ?_;refine iq F (fun hb3 F=> ?_) fun hb3 F=> ?_
 ·exact tl []
 obtain⟨y4,h5,F⟩:=bs F;refine rgn hb3 (clA 0 (cF h5)) ?_;exact tl []
theorem KU {a0:Int} {r:(List (List UInt8))} (F:oO a0=some r):FZ 213 [.int .i64 a0] [.p (.vs 1 (map eS r))]:=by
 unfold oO at F;refine fb 13 Tryz.func213 fun w O=> ?_;refine rgp (ez (rows:=map eS ([[38,38]]:List (List UInt8))) (zs:=[.str []]) rfl rfl ga kQ (by exact⟨rfl,trivial⟩) rfl rfl rfl rfl rfl rfl rfl rfl) ?_;refine rgp (ez (rows:=map eS ([[60],[61,61]]:List (List UInt8))) (zs:=[.str []]) rfl rfl ga kQ (by exact⟨rfl,trivial⟩) rfl rfl rfl rfl rfl rfl rfl rfl) ?_;refine rgp (ez (rows:=map eS ([[43],[45]]:List (List UInt8))) (zs:=[.str []]) rfl rfl ga kQ (by exact⟨rfl,trivial⟩) rfl rfl rfl rfl rfl rfl rfl rfl) ?_;refine rgp (ez (rows:=map eS ([[42]]:List (List UInt8))) (zs:=[.str []]) rfl rfl ga kQ (by exact⟨rfl,trivial⟩) rfl rfl rfl rfl rfl rfl rfl rfl) ?_;refine rgp (ez (rows:=map (eL 1 eS) ([[[38,38]],[[60],[61,61]],[[43],[45]],[[42]]]:List (List (List UInt8)))) (zs:=[.vs 1 (map eS [])]) rfl rfl VR adX (by exact⟨trivial,trivial⟩) rfl rfl rfl rfl rfl rfl rfl rfl) ?_;refine ga5 ?_;obtain⟨y1,h2,F⟩:=bs F;exact tl []
theorem xb {a0:List aK} {a1:Int} {a2:Int} {r:(List UInt8)} (F:nn a0 a1 a2=some r):FZ 201 [.vs 3 (map aj a0),.int .i64 a1,.int .i64 a2] [.p (.str r)]:=by
 unfold nn at F;refine fb 29 Tryz.func201 fun w O=> ?_;obtain⟨y3,h4,F⟩:=bs F;refine rq (clA 0 (KU h4)) ?_;obtain⟨lr0,F,hK0⟩:=bs F;refine lpG (fun s1=>∃ q,lr0= .next q/\s1=(sX 29 [] [] 0)) (fun(q:Int)=>(sX 29 [pf 0 (.vs 3 (map aj a0)),pf 1 (.int .i64 a1),pf 7 (.vs 1 (map eS y3)),pf 8 (.int .i64 q)] [] 0)) (fun k q=>ff a0 a1 y3 k q) 0 (bG []) F (fun k x0 F ih=> ?_) ?_
 ·refine gg ?_;refine cnd F (fun hb0 F=> ?_) fun hb0 F=> ?_
  ·refine ga2 ?_;refine aJ ?_;refine cI ?_;refine aJ ?_;refine dt ⟨_,_,_⟩ rfl ?_;refine dd ?_;obtain⟨y0,h0,F⟩:=bs F;refine dk 19 [(18,pI a1),(17,.pv (.vs 3 (map aj a0)))] (.pv (.agg (aj y0))) (fun m h=>⟨_,dx 0 rfl (caps:=[]) (args:=[.vs 3 (map aj a0),.int .i64 a1]) (rs:=[.p (.agg (aj y0))]) rfl rfl (bm h.1.2.1 (bm h.1.1 dM)) YZ (dl h0) rfl rfl rfl,rfl⟩) ?_;refine dd ?_;obtain⟨y1,h1,F⟩:=bs F;refine dd ?_;obtain⟨y2,h2,F⟩:=bs F;refine dk 24 [(23,pS y1),(19,.pv (.agg (aj y0)))] (pB y2) (fun m h=>⟨_,dx 0 rfl (caps:=[]) (args:=[.agg (aj y0),.str y1]) (rs:=[.p (.bool y2)]) rfl rfl (bm h.1.2.1 (bm h.1.1 dM)) ZZ (cW h2) rfl rfl rfl,rfl⟩) ?_;refine drn ?_;refine piz (sX 29 [pf 0 (.vs 3 (map aj a0)),pf 1 (.int .i64 a1),pf 7 (.vs 1 (map eS y3)),pf 8 (.int .i64 x0),pf 24 (.bool y2)] [] 0) [] ?_;refine gg ?_;refine cnd F (fun hb1 F=> ?_) fun hb1 F=> ?_
   ·refine go3 ?_;obtain⟨y4,h3,F⟩:=bs F;refine rgp (ix (kR eS h3) ga) ?_;refine go7 ?_;refine ba ?_;cases F;have F:=bH hK0;exact tl []
   refine go7 ?_;refine rnr ?_;exact aP (ih (ae (x0+1)) F) (bG [])
  exact tl []
 rintro _ ⟨⟨⟩,rfl,rfl⟩;have F:=bW hK0;clear hK0;exact tl []
theorem LH {a0:List UInt8} {r:Int} (F:xz a0=some r):FZ 202 [.str a0] [.p (.int .i64 r)]:=by
 unfold xz at F;refine fb 20 Tryz.func202 fun w O=> ?_;refine rq (ez (rows:=map eS ([[43],[45],[42],[60],[61,61],[38,38]]:List (List UInt8))) (zs:=[.str []]) rfl rfl ga kQ (by exact⟨rfl,trivial⟩) rfl rfl rfl rfl rfl rfl rfl rfl) ?_;obtain⟨lr0,F,hK0⟩:=bs F;refine lpG (fun s1=>∃ q,lr0= .next q/\s1=(sX 20 [] [] 0)) (fun(q:Int)=>(sX 20 [pf 0 (.str a0),pf 3 (.vs 1 (map eS [[43],[45],[42],[60],[61,61],[38,38]])),pf 4 (.int .i64 q)] [] 0)) (fun k q=>vW a0 k q) 0 (bG []) F (fun k x7 F ih=> ?_) ?_
 ·refine gg ?_;refine cq F (fun hb0 F=> ?_) fun hb0 F=> ?_
  ·obtain⟨y0,h0,F⟩:=bs F;refine gg ?_;refine rq (dQ rfl rfl rfl rfl rfl rfl) ?_;refine cnd F (fun hb1 F=> ?_) fun hb1 F=> ?_
   ·refine ga9 ?_;refine ba ?_;cases F;have F:=bH hK0;exact tl []
   refine gg ?_;exact aP (ih (ae (x7+1)) F) (bG [])
  exact tl []
 rintro _ ⟨⟨⟩,rfl,rfl⟩;have F:=bW hK0;clear hK0;exact tl []
theorem Fx : ∀ n:Nat,(∀ (a0:ai) (r:Int),ik n a0=some r->FZ 199 [.agg (ap a0)] [.p (.int .i64 r)]):=by
 intro n
 induction n with
 | zero=>exact(fun _ _ h=>by simp[ik] at h)
 | succ n ih=>
  have ref06_Deep_ih:=ih;clear ih;intro a0 r F;unfold ik at F
  revert F ref06_Deep_ih
  generalize ik n=ref06_Deep_rec
  intro ref06_Deep_ih F;refine fb 22 Tryz.func199 fun w O=> ?_;obtain⟨x0,F,hK0⟩:=bs F;refine lpE (sX 22 [pf 3 (.int .i64 x0)] [] 0) (fun(q:Int×Int)=>(sX 22 [(1,some (.lp 0 0)),pf 3 (.int .i64 q.1),pf 4 (.int .i64 q.2)] [bf 0 53 (ap a0)] 1)) (fun k q=>ny a0 ref06_Deep_rec k q.1 q.2) (0,0) (bG [0]) F (fun k ⟨x1,x2⟩ F ih=> ?_) ?_
  ·refine gg ?_;refine cq F (fun hb0 F=> ?_) fun hb0 F=> ?_
   ·obtain⟨y0,h0,F⟩:=bs F;refine gg ?_;obtain⟨y1,h1,F⟩:=bs F;refine rgp (clA 1 (ref06_Deep_ih _ _ h1)) ?_;refine rgp (xZ rfl rfl rfl rfl rfl) ?_;refine go ?_;refine ci ?_;refine piz (sX 22 [(1,some (.lp 0 0)),pf 3 (.int .i64 (if y1 > x1 then y1 else x1)),pf 4 (.int .i64 x2)] [bf 0 53 (ap a0)] 1) [0] ?_;refine gg ?_;exact aP (ih ((if y1 > x1 then y1 else x1),ae (x2+1)) F) (bG [0])
   exact tl []
  have F:=hK0;exact tl []
theorem vN {n:Nat} {a0:ai} {r:Int} (F:ik n a0=some r):FZ 199 [.agg (ap a0)] [.p (.int .i64 r)]:=(Fx n) _ _ F

theorem sq {a0:List aK} {a1:bv} {a2:List UInt8} {r:bv} (F:oW a0 a1 a2=some r):FZ 210 [.vs 3 (map aj a0),.agg (aF a1),.str a2] [.p (.agg (aF r))]:=by
 unfold oW at F;refine bM (n:=28) Tryz.func210 rfl rfl rfl fun w O=> ?_;refine go ?_;refine rgp (bo 0) ?_;refine rgp (al 1 (aF cB) jw) ?_;refine go8 ?_;refine cnd F (fun hb1 F=> ?_) fun hb1 F=> ?_
 ·cases F
 refine gg ?_;obtain⟨y6,h7,F⟩:=bs F;refine rq (clA 2 (dl h7)) ?_;obtain⟨y8,h9,F⟩:=bs F;refine rq (clA 2 (cW h9)) ?_;refine cnd F (fun hb0 F=> ?_) fun hb0 F=> ?_
 ·cases F
 refine gg ?_;refine rgp (la (aF ({ a1 with aU:=ae (a1.aU+1) }:bv)) rB) ?_;exact tl []
theorem wk {a0:List aK} {a1:Int} {a2:Bool} {r:bv} (F:jH a0 a1 a2=some r):FZ 212 [.vs 3 (map aj a0),.int .i64 a1,.bool a2] [.p (.agg (aF r))]:=by
 unfold jH at F;refine fb 38 Tryz.func212 fun w O=> ?_;obtain⟨y3,h4,F⟩:=bs F;refine rq (clA 1 (dl h4)) ?_;refine cq F (fun hb5 F=> ?_) fun hb5 F=> ?_
 ·refine rq (bd ((ap cA)) (ap (⟨2,0,y3.bV,[]⟩:ai)) iZ pz) ?_;refine rgp (bd ((aF cB)) (aF (⟨(⟨2,0,y3.bV,[]⟩:ai),ae (a1+1),aM⟩:bv)) jw yb) ?_;exact tl []
 refine rgp (la (aj y3) jo) ?_;obtain⟨y8,h9,F⟩:=bs F;refine rq (clA 2 (cW h9)) ?_;refine cnd F (fun hb0 F=> ?_) fun hb0 F=> ?_
 ·refine gg ?_;refine rq (bd ((ap cA)) (ap (⟨3,0,[],[]⟩:ai)) iZ pz) ?_;refine rgp (bd ((aF cB)) (aF (⟨(⟨3,0,[],[]⟩:ai),ae (a1+1),aM⟩:bv)) jw yb) ?_;exact tl []
 refine ga2 ?_;(iterate 2 refine aJ ?_);obtain⟨x0,F,hK0⟩:=bs F;refine ctq (sX 38 [pf 1 (.int .i64 a1),(6,some (.lp 0 0)),pf 30 (.bool x0)] [bf 0 175 (aF cB)] 1) ?_ ?_
 ·rcases ie F with⟨hb1,F⟩ | ⟨hb1,F⟩
  ·refine rgn hb1 (la (aj y3) jo) ?_;obtain⟨y0,h0,F⟩:=bs F;refine rgn hb1 (clA 2 (cW h0)) ?_;exact tl [0]
  exact tl [0]
 have F:=hK0;refine cnd F (fun hb2 F=> ?_) fun hb2 F=> ?_
 ·refine gg ?_;refine rq (bd ((ap cA)) (ap (⟨4,0,[],[]⟩:ai)) iZ pz) ?_;refine rgp (bd ((aF cB)) (aF (⟨(⟨4,0,[],[]⟩:ai),ae (a1+1),aM⟩:bv)) jw yb) ?_;exact tl []
 cases F
theorem Jt {a0:List aK} {a1:Int} {r:bv} (F:oU a0 a1=some r):FZ 211 [.vs 3 (map aj a0),.int .i64 a1] [.p (.agg (aF r))]:=by
 unfold oU at F;refine fb 77 Tryz.func211 fun w O=> ?_;obtain⟨y5,h6,F⟩:=bs F;refine rgp (clA 1 (dl h6)) ?_;obtain⟨y7,h8,F⟩:=bs F;refine rq (clA 1 (cW h8)) ?_;refine rgp (bd ((aF cB)) (aF (⟨cA,ae (a1+1),aM⟩:bv)) jw yb) ?_;obtain⟨y0,h0,F⟩:=bs F;refine rgp (cl 1 [.vs 3 (map aj a0),.agg (aF (⟨cA,ae (a1+1),aM⟩:bv)),.str [40]] [.p (.agg (aF y0))] (sq h0)) ?_;refine rgp (al 1 (aF cB) jw) ?_;refine go9 ?_;refine cnd F (fun hb0 F=> ?_) fun hb0 F=> ?_
 ·cases F
 refine gg ?_;obtain⟨y1,h1,F⟩:=bs F;refine rgp (cl 2 [.vs 3 (map aj a0),.int .i64 y0.aU,.bool y7] [.p (.agg (aF y1))] (wk h1)) ?_;refine rgp (al 2 (aF cB) jw) ?_;refine go9 ?_;refine cnd F (fun hb1 F=> ?_) fun hb1 F=> ?_
 ·cases F
 refine gg ?_;refine rgp (la (ap y1.fE) dR) ?_;refine rgp (xQ (rows:=map ap ([y1.fE]:List ai)) (rows':=bR ([y1.fE]:List ai)) (zs:=(ap cA)) rfl rfl jG iZ (by exact⟨rfl,rfl,rfl,trivial,trivial⟩) rfl rfl rfl rfl rfl rfl (cr _) rfl rfl) ?_;refine rgp (bd ((ap cA)) (ap (⟨13,0,[],[y1.fE]⟩:ai)) iZ pz) ?_;refine ga3 ?_;refine aJ ?_;obtain⟨p32,F,hK0⟩:=bs F;obtain⟨x0,x1⟩:=p32;refine ctq (sX 77 [pf 0 (.vs 3 (map aj a0)),(4,some (.lp 0 0)),(7,some (.lp 1 0)),(8,some (.lp 2 0))] [bf 0 175 (aF cB),bf 1 175 (aF x0),bf 2 53 (ap x1)] 3) ?_ ?_
 ·refine cq F (fun hb2 F=> ?_) fun hb2 F=> ?_
  ·refine rgp (la (aF y1) rB) ?_;obtain⟨y2,h2,F⟩:=bs F;refine rgp (cl 4 [.vs 3 (map aj a0),.agg (aF y1),.str [44]] [.p (.agg (aF y2))] (sq h2)) ?_;refine rgp (al 4 (aF cB) jw) ?_;refine go9 ?_;refine cnd F (fun hb3 F=> ?_) fun hb3 F=> ?_
   ·cases F
   refine gg ?_;obtain⟨y3,h3,F⟩:=bs F;refine rgp (clA 5 (wk h3)) ?_;refine ga2 ?_;refine ci ?_;refine piz (sX 77 [pf 0 (.vs 3 (map aj a0)),(4,some (.lp 0 0)),(7,some (.lp 1 0)),(8,some (.lp 2 0)),(10,some (.lp 3 0))] [bf 0 175 (aF cB),bf 1 175 (aF y1),bf 2 53 (ap (⟨13,0,[],[y1.fE]⟩:ai)),bf 3 175 (aF y3)] 4) [0,2,3,5] ?_;refine go8 ?_;refine cnd F (fun hb4 F=> ?_) fun hb4 F=> ?_
   ·cases F
   refine gg ?_;refine rq (la (ap y1.fE) dR) ?_;refine rgp (la (ap y3.fE) dR) ?_;refine rgp (xQ (rows:=map ap ([y1.fE,y3.fE]:List ai)) (rows':=bR ([y1.fE,y3.fE]:List ai)) (zs:=(ap cA)) rfl rfl jG iZ (by exact⟨rfl,rfl,rfl,trivial,trivial⟩) rfl rfl rfl rfl rfl rfl (cr _) rfl rfl) ?_;refine rq (bd ((ap cA)) (ap (⟨14,0,[],[y1.fE,y3.fE]⟩:ai)) iZ pz) ?_;refine rgp (la (aF y3) rB) ?_;exact tl [0,1,2]
  exact tl [0,2,3]
 have F:=hK0;refine rgp (la (aF x0) rB) ?_;obtain⟨y4,h4,F⟩:=bs F;refine rq (clA 3 (sq h4)) ?_;refine rgp (la (ap x1) dR) ?_;(iterate 10 refine go ?_);refine cnd F (fun hb5 F=> ?_) fun hb5 F=> ?_
 ·cases F
 refine gg ?_;refine rgp (la (aF ({ y4 with fE:=x1 }:bv)) rB) ?_;exact tl []
theorem DH : ∀ n:Nat,(∀ (a0:List aK) (a1:Int) (a2:Int) (a3:Int) (r:bv),dq n a0 a1 a2 a3=some r->FZ 180 [.vs 3 (map aj a0),.int .i64 a1,.int .i64 a2,.int .i64 a3] [.p (.agg (aF r))])/\(∀ (a0:List aK) (a1:Int) (a2:Int) (r:bv),iC n a0 a1 a2=some r->FZ 200 [.vs 3 (map aj a0),.int .i64 a1,.int .i64 a2] [.p (.agg (aF r))]):=by
 intro n
 induction n with
 | zero=>exact⟨fun _ _ _ _ _ h=>by simp[dq] at h,fun _ _ _ _ h=>by simp[iC] at h⟩
 | succ n ih=>
  obtain⟨ref06_chain_ih,ref06_tight_ih⟩:=ih;refine⟨?_,?_⟩
  ·intro a0 a1 a2 a3 r F;unfold dq at F
   revert F ref06_chain_ih ref06_tight_ih
   generalize dq n=ref06_chain_rec
   generalize iC n=ref06_tight_rec
   intro ref06_chain_ih ref06_tight_ih F;refine fb 76 Tryz.func180 fun w O=> ?_;refine cq F (fun hb1 F=> ?_) fun hb1 F=> ?_
   ·obtain⟨y2,h3,F⟩:=bs F;refine rgp (clA 1 (ref06_tight_ih _ _ _ _ h3)) ?_;exact tl []
   obtain⟨y6,h7,F⟩:=bs F;refine rq (clA 1 (ref06_chain_ih _ _ _ _ _ h7)) ?_;obtain⟨lr0,F,hK0⟩:=bs F;refine lpG (fun s1=>∃ q,lr0= .next q/\s1=(sX 76 [(8,some (.lp 0 0)),(9,some (.lp 1 0))] [bf 0 175 (aF cB),bf 1 175 (aF q)] 2)) (fun(q:bv)=>(sX 76 [pf 0 (.vs 3 (map aj a0)),pf 2 (.int .i64 a2),pf 3 (.int .i64 a3),(8,some (.lp 0 0)),(9,some (.lp 1 0))] [bf 0 175 (aF cB),bf 1 175 (aF q)] 2)) (fun k q=>eW a0 a2 a3 ref06_chain_rec k q) y6 (bG [0,1]) F (fun k x0 F ih=> ?_) ?_
   ·refine tp ?_;(iterate 2 refine aJ ?_);obtain⟨x1,F,hK1⟩:=bs F;refine ctx (sX 76 [pf 0 (.vs 3 (map aj a0)),pf 2 (.int .i64 a2),pf 3 (.int .i64 a3),(8,some (.lp 0 0)),(9,some (.lp 1 0)),pf 36 (.bool x1)] [bf 0 175 (aF cB),bf 1 175 (aF x0)] 2) ?_ ?_
    ·refine go6 ?_;rcases ie F with⟨hb0,F⟩ | ⟨hb0,F⟩
     ·(iterate 4 refine gn hb0 ?_);obtain⟨y0,h0,F⟩:=bs F;refine rgn hb0 (cl 2 [.vs 3 (map aj a0),.int .i64 x0.aU,.int .i64 a2] [.p (.str y0)] (xb h0)) ?_;refine rgn hb0 (dQ rfl rfl rfl rfl rfl rfl) ?_;refine rpt hb0 ?_;cases F;exact rcz [0,1]
     (iterate 6 refine JQ hb0 ?_);exact tl [0,1]
    have F:=hK1;refine go ?_;refine cq F (fun hb2 F=> ?_) fun hb2 F=> ?_
    ·obtain⟨y1,h1,F⟩:=bs F;refine rgp (cl 2 [.vs 3 (map aj a0),.int .i64 (ae (x0.aU+1)),.int .i64 (ae (a2+1)),.int .i64 a3] [.p (.agg (aF y1))] (ref06_chain_ih _ _ _ _ _ h1)) ?_;refine rgp (al 2 (aF cB) jw) ?_;refine go9 ?_;refine cnd F (fun hb3 F=> ?_) fun hb3 F=> ?_
     ·cases F
     refine ga2 ?_;refine aJ ?_;refine DJ (zH 1) ?_;refine dt ⟨_,_,_⟩ rfl ?_;refine dd ?_;obtain⟨y4,h2,F⟩:=bs F;refine dk 54 [(53,pI a2),(52,pI x0.aU),(51,.pv (.vs 3 (map aj a0)))] (pS y4) (fun m h=>⟨_,dx 4 rfl (caps:=[]) (args:=[.vs 3 (map aj a0),.int .i64 x0.aU,.int .i64 a2]) (rs:=[.p (.str y4)]) rfl rfl (bm h.1.2.2.1 (bm h.1.2.1 (bm h.1.1 dM))) aaZ (xb h2) rfl rfl rfl,rfl⟩) ?_;obtain⟨y5,h5,F⟩:=bs F;refine dk 55 [(54,pS y4)] (pI y5) (fun m h=>⟨_,dx 4 rfl (caps:=[]) (args:=[.str y4]) (rs:=[.p (.int .i64 y5)]) rfl rfl (bm h.1.1 dM) acb (LH h5) rfl rfl rfl,rfl⟩) ?_;refine dgo ?_;refine bg { need:=[(56,.lp 1 0)],hneed:=[(1,.box 175 (bxv (aF x0)))],dst:=some 57,val:=some (.pv (.agg (ap x0.fE))) } (fun m h=>bq (bQ rfl) (eZ (ps:=ap x0.fE) rfl h.1.1 h.2.1.1 rfl rfl rfl dR rfl rfl) rfl) ⟨⟨rfl,trivial⟩,⟨rfl,trivial⟩,trivial⟩ ?_;refine dgo ?_;refine bg { need:=[(58,.lp 2 0)],hneed:=[(2,.box 175 (bxv (aF y1)))],dst:=some 59,val:=some (.pv (.agg (ap y1.fE))) } (fun m h=>bq (bQ rfl) (eZ (ps:=ap y1.fE) rfl h.1.1 h.2.1.1 rfl rfl rfl dR rfl rfl) rfl) ⟨⟨rfl,trivial⟩,⟨rfl,trivial⟩,trivial⟩ ?_;refine dk 60 [(59,.pv (.agg (ap y1.fE))),(57,.pv (.agg (ap x0.fE)))] (.pv (.vs 4 (bR [x0.fE,y1.fE]))) (fun m h=>⟨_,xQ (rows:=map ap ([x0.fE,y1.fE]:List ai)) (rows':=bR ([x0.fE,y1.fE]:List ai)) (zs:=(ap cA)) rfl rfl jG iZ (by exact⟨rfl,rfl,rfl,trivial,trivial⟩) rfl rfl rfl (jI h.1.2.1 (jI h.1.1 zP)) rfl rfl (cr _) rfl rfl,rfl⟩) ?_;refine dk 61 [(60,.pv (.vs 4 (bR [x0.fE,y1.fE]))),(55,pI y5)] (.pv (.agg (ap (⟨y5,0,[],[x0.fE,y1.fE]⟩:ai)))) (fun m h=>⟨_,Cb (zs:=(ap cA)) (r:=ap (⟨y5,0,[],[x0.fE,y1.fE]⟩:ai)) rfl iZ (by exact⟨rfl,rfl,rfl,trivial,trivial⟩) pz (jI h.1.2.1 (jI h.1.1 zP)) rfl rfl rfl,rfl⟩) ?_;refine bg { names:=[3],dst:=some 12,val:=some (.lp 3 0),upd:=[(3,some (.box 53 (bxv (ap cA))))] } (fun m h=>bq (bQ rfl) (KQ 3 (BE h.2.2.1) (ps:=(ap cA)) rfl iZ (by exact⟨rfl,rfl,rfl,trivial,trivial⟩) rfl rfl) rfl) ⟨trivial,trivial,⟨rfl,trivial⟩⟩ ?_
     refine bg { need:=[(12,.lp 3 0),(61,.pv (.agg (ap (⟨y5,0,[],[x0.fE,y1.fE]⟩:ai))))],hneed:=[(3,.box 53 (bxv (ap cA)))],upd:=[(3,some (.box 53 (bxv (ap (⟨y5,0,[],[x0.fE,y1.fE]⟩:ai)))))] } (fun m h=>bq (bQ rfl) (kZ rfl h.1.1 h.1.2.1 rfl h.2.1.1 (Ef dR) (by rw[Ul];rfl) rfl rfl rfl) rfl) ⟨⟨rfl,rfl,trivial⟩,⟨rfl,trivial⟩,trivial⟩ ?_;refine drn ?_;refine piz (sX 76 [pf 0 (.vs 3 (map aj a0)),pf 2 (.int .i64 a2),pf 3 (.int .i64 a3),(8,some (.lp 0 0)),(9,some (.lp 1 0)),(11,some (.lp 2 0)),(12,some (.lp 3 0))] [bf 0 175 (aF cB),bf 1 175 (aF x0),bf 2 175 (aF y1),bf 3 53 (ap (⟨y5,0,[],[x0.fE,y1.fE]⟩:ai))] 4) [0,1,2,3] ?_;refine gg ?_;refine rgp (la (ap (⟨y5,0,[],[x0.fE,y1.fE]⟩:ai)) dR) ?_;obtain⟨y8,h6,F⟩:=bs F;refine rq (clA 4 (vN h6)) ?_;refine cnd F (fun hb4 F=> ?_) fun hb4 F=> ?_
     ·cases F
     refine gg ?_;refine rq (la (ap (⟨y5,0,[],[x0.fE,y1.fE]⟩:ai)) dR) ?_;refine rq (bd ((aF cB)) (aF (⟨(⟨y5,0,[],[x0.fE,y1.fE]⟩:ai),y1.aU,aM⟩:bv)) jw yb) ?_;refine cnd F (fun hb5 F=> ?_) fun hb5 F=> ?_
     ·refine gg ?_;refine rgp (la (aF (⟨(⟨y5,0,[],[x0.fE,y1.fE]⟩:ai),y1.aU,aM⟩:bv)) rB) ?_;refine ga5 ?_;refine ba ?_;cases F;have F:=bH hK0;exact tl []
     refine ga2 ?_;refine fu ?_;exact aP (ih (⟨(⟨y5,0,[],[x0.fE,y1.fE]⟩:ai),y1.aU,aM⟩:bv) F) (bG [0,1])
    exact tl [0,1]
   rintro _ ⟨x2,rfl,rfl⟩;have F:=bW hK0;clear hK0;refine gg ?_;refine rgp (la (aF x2) rB) ?_;exact tl []
  ·intro a0 a1 a2 r F;unfold iC at F
   revert F ref06_chain_ih ref06_tight_ih
   generalize dq n=ref06_chain_rec
   generalize iC n=ref06_tight_rec
   intro ref06_chain_ih ref06_tight_ih F;refine fb 98 Tryz.func200 fun w O=> ?_;obtain⟨y3,h4,F⟩:=bs F;refine rgp (clA 1 (dl h4)) ?_;refine ga3 ?_;(iterate 2 refine aJ ?_);obtain⟨x3,F,hK2⟩:=bs F;refine ctq (sX 98 [pf 0 (.vs 3 (map aj a0)),pf 1 (.int .i64 a1),pf 2 (.int .i64 a2),(6,some (.lp 0 0)),(7,some (.lp 1 0)),pf 23 (.bool x3)] [bf 0 175 (aF cB),bf 1 70 (aj y3)] 2) ?_ ?_
   ·refine rgp (la (aj y3) jo) ?_;obtain⟨y7,h8,F⟩:=bs F;refine rq (clA 2 (cW h8)) ?_;rcases ie F with⟨hb9,F⟩ | ⟨hb9,F⟩
    ·exact tl [0,1]
    refine rgn hb9 (la (aj y3) jo) ?_;obtain⟨y9,h9,F⟩:=bs F;refine rgn hb9 (clA 2 (cW h9)) ?_;exact tl [0,1]
   have F:=hK2;refine cnd F (fun hb6 F=> ?_) fun hb6 F=> ?_
   ·cases F
   refine gg ?_;refine rgp (la (aj y3) jo) ?_;obtain⟨y11,h10,F⟩:=bs F;refine rq (clA 2 (cW h10)) ?_;refine cq F (fun hb7 F=> ?_) fun hb7 F=> ?_
   ·obtain⟨y12,h12,F⟩:=bs F;refine rgp (clA 2 (ref06_chain_ih _ _ _ _ _ h12)) ?_;obtain⟨y13,h13,F⟩:=bs F;refine rgp (clA 2 (sq h13)) ?_;exact tl []
   refine rgp (la (aj y3) jo) ?_;obtain⟨y14,h14,F⟩:=bs F;refine rq (clA 2 (cW h14)) ?_;refine cnd F (fun hb8 F=> ?_) fun hb8 F=> ?_
   ·refine gg ?_;obtain⟨y15,h15,F⟩:=bs F;refine rgp (cl 2 [.vs 3 (map aj a0),.int .i64 (ae (a1+1)),.int .i64 (ae (a2+1))] [.p (.agg (aF y15))] (ref06_tight_ih _ _ _ _ h15)) ?_;refine rgp (al 2 (aF cB) jw) ?_;refine go9 ?_;refine cnd F (fun hb10 F=> ?_) fun hb10 F=> ?_
    ·cases F
    refine gg ?_;refine rgp (la (ap y15.fE) dR) ?_;refine rgp (xQ (rows:=map ap ([y15.fE]:List ai)) (rows':=bR ([y15.fE]:List ai)) (zs:=(ap cA)) rfl rfl jG iZ (by exact⟨rfl,rfl,rfl,trivial,trivial⟩) rfl rfl rfl rfl rfl rfl (cr _) rfl rfl) ?_;refine rq (bd ((ap cA)) (ap (⟨12,0,[],[y15.fE]⟩:ai)) iZ pz) ?_;refine rgp (la (ap (({ y15 with fE:=({ aa:=12,cj:=0,af:=[],az:=[y15.fE] }:ai) }:bv).fE)) dR) ?_;obtain⟨y16,h16,F⟩:=bs F;refine rq (clA 3 (vN h16)) ?_;refine cnd F (fun hb11 F=> ?_) fun hb11 F=> ?_
    ·cases F
    refine gg ?_;refine rgp (la (aF ({ y15 with fE:=({ aa:=12,cj:=0,af:=[],az:=[y15.fE] }:ai) }:bv)) rB) ?_;exact tl []
   refine ga2 ?_;(iterate 2 refine aJ ?_);obtain⟨x4,F,hK3⟩:=bs F;refine ctq (sX 98 [pf 0 (.vs 3 (map aj a0)),pf 1 (.int .i64 a1),(6,some (.lp 0 0)),(7,some (.lp 1 0)),pf 68 (.bool x4)] [bf 0 175 (aF cB),bf 1 70 (aj y3)] 2) ?_ ?_
   ·refine rgp (la (aj y3) jo) ?_;obtain⟨y17,h17,F⟩:=bs F;refine rq (clA 2 (cW h17)) ?_;rcases ie F with⟨hb12,F⟩ | ⟨hb12,F⟩
    ·exact tl [0,1]
    refine rgn hb12 (la (aj y3) jo) ?_;obtain⟨y18,h18,F⟩:=bs F;refine rgn hb12 (clA 2 (cW h18)) ?_;exact tl [0,1]
   have F:=hK3;refine cq F (fun hb13 F=> ?_) fun hb13 F=> ?_
   ·obtain⟨y20,h19,F⟩:=bs F;refine rgp (clA 2 (Jt h19)) ?_;exact tl []
   refine rgp (la (aj y3) jo) ?_;obtain⟨y21,h21,F⟩:=bs F;refine rq (clA 2 (cW h21)) ?_;refine cq F (fun hb14 F=> ?_) fun hb14 F=> ?_
   ·refine rq (bd ((ap cA)) (ap (⟨5,0,[],[]⟩:ai)) iZ pz) ?_;refine rgp (bd ((aF cB)) (aF (⟨(⟨5,0,[],[]⟩:ai),ae (a1+1),aM⟩:bv)) jw yb) ?_;exact tl []
   obtain⟨y23,h22,F⟩:=bs F;refine rgp (clA 2 (yi h22)) ?_;refine go ?_;(iterate 2 refine rgp (sh rfl rfl rfl rfl rfl) ?_);refine ga3 ?_;(iterate 2 refine aJ ?_);obtain⟨x5,F,hK4⟩:=bs F;refine ctq (sX 98 [pf 0 (.vs 3 (map aj a0)),pf 1 (.int .i64 a1),(6,some (.lp 0 0)),pf 9 (.int .i64 y23.1),pf 89 (.bool x5)] [bf 0 175 (aF cB)] 1) ?_ ?_
   ·exact tl [0]
   have F:=hK4;refine cq F (fun hb15 F=> ?_) fun hb15 F=> ?_
   ·refine rq (bd ((ap cA)) (ap (⟨1,y23.1,[],[]⟩:ai)) iZ pz) ?_;refine rgp (bd ((aF cB)) (aF (⟨(⟨1,y23.1,[],[]⟩:ai),ae (a1+1),aM⟩:bv)) jw yb) ?_;exact tl []
   obtain⟨y25,h24,F⟩:=bs F;refine rgp (clA 1 (wk h24)) ?_;exact tl []
theorem Jp {n:Nat} {a0:List aK} {a1:Int} {a2:Int} {a3:Int} {r:bv} (F:dq n a0 a1 a2 a3=some r):FZ 180 [.vs 3 (map aj a0),.int .i64 a1,.int .i64 a2,.int .i64 a3] [.p (.agg (aF r))]:=(DH n).1 _ _ _ _ _ F
theorem oo {a0:List aK} {a1:Int} {r:bv} (F:kI a0 a1=some r):FZ 154 [.vs 3 (map aj a0),.int .i64 a1] [.p (.agg (aF r))]:=by
 unfold kI at F;refine fb 17 Tryz.func154 fun w O=> ?_;obtain⟨y3,h4,F⟩:=bs F;refine rgp (cl 1 [.vs 3 (map aj a0),.int .i64 a1,.int .i64 0,.int .i64 0] [.p (.agg (aF y3))] (Jp h4)) ?_;refine rgp (al 1 (aF cB) jw) ?_;refine go9 ?_;refine cnd F (fun hb5 F=> ?_) fun hb5 F=> ?_
 ·cases F
 refine gg ?_;refine rgp (la (aF y3) rB) ?_;exact tl []
theorem Mz {a0:List aK} {a1:Int} {r:ct} (F:uK a0 a1=some r):FZ 177 [.vs 3 (map aj a0),.int .i64 a1] [.p (.agg (bz r))]:=by
 unfold uK at F;refine bM (n:=57) Tryz.func177 rfl rfl rfl fun w O=> ?_;refine ga5 ?_;refine cT (ib 5 53 4 1 rfl rfl) ?_;refine gg ?_;obtain⟨y3,h4,F⟩:=bs F;refine rq (clA 2 (cF h4)) ?_;refine cq F (fun hb5 F=> ?_) fun hb5 F=> ?_
 ·refine rgp (bd ((bz cO)) (bz (⟨iW,[],[],ae ((ae (a1+1))+1),aM⟩:ct)) pt xT) ?_;exact tl []
 obtain⟨lr0,F,hK0⟩:=bs F;refine lpG (fun _=>False) (fun(q:Int×(List ai))=>(sX 57 [pf 0 (.vs 3 (map aj a0)),pf 1 (.int .i64 q.1),(4,some (.lp 0 0)),(5,some (.ls 1))] [bf 0 152 (bz cO),(1,some (.row 53 4 (bR q.2)))] 2)) (fun k q=>pO a0 k q.1 q.2) (ae (a1+1),[]) (bG [0,1]) F (fun k ⟨x0,x1⟩ F ih=> ?_) ?_
 ·refine gg ?_;refine rq (jv rfl rfl rfl (Tc cr) jG rfl rfl) ?_;refine cnd F (fun hb0 F=> ?_) fun hb0 F=> ?_
  ·cases F
  refine gg ?_;obtain⟨y0,h0,F⟩:=bs F;refine rgp (cl 2 [.vs 3 (map aj a0),.int .i64 x0] [.p (.agg (aF y0))] (oo h0)) ?_;refine rgp (al 2 (aF cB) jw) ?_;refine go9 ?_;refine cnd F (fun hb1 F=> ?_) fun hb1 F=> ?_
  ·cases F
  refine gg ?_;refine rgp (la (ap y0.fE) dR) ?_;refine rgp (xQ (rows:=map ap ([y0.fE]:List ai)) (rows':=bR ([y0.fE]:List ai)) (zs:=(ap cA)) rfl rfl jG iZ (by exact⟨rfl,rfl,rfl,trivial,trivial⟩) rfl rfl rfl rfl rfl rfl (cr _) rfl rfl) ?_;obtain⟨u0,h1,F⟩:=bs F;refine rq (fJ 3 rfl rfl rfl rfl rfl jG Zh iZ rfl rfl rfl (UI cr h1) (abT cr _ _) rfl rfl) ?_;obtain⟨y1,h2,F⟩:=bs F;refine rq (clA 4 (cF h2)) ?_;refine cnd F (fun hb2 F=> ?_) fun hb2 F=> ?_
  ·refine ga5 ?_;refine cT (gW [(3,some (.row 53 4 (bR (x1++[y0.fE]))))] [(5,some (.pv (.vs 4 (bR (x1++[y0.fE]))))),(40,some (.pv (.vs 4 (bR (x1++[y0.fE])))))] (FzH.spec ⟨rfl,trivial⟩) ⟨⟨_,rfl,rfl⟩,⟨_,rfl,rfl⟩,trivial⟩) ?_;refine rgp (bd ((bz cO)) (bz (⟨iW,[],(x1++[y0.fE]),ae (y0.aU+1),aM⟩:ct)) pt xT) ?_;refine ga6 ?_;refine ba ?_;cases F;have F:=bH hK0;exact tl []
  refine gg ?_;obtain⟨y2,h3,F⟩:=bs F;refine rq (clA 4 (cF h3)) ?_;refine cnd F (fun hb3 F=> ?_) fun hb3 F=> ?_
  ·cases F
  refine ga7 ?_;refine ci ?_;refine piz (sX 57 [pf 0 (.vs 3 (map aj a0)),pf 1 (.int .i64 (ae (y0.aU+1))),(4,some (.lp 0 0)),(5,some (.ls 1))] [bf 0 152 (bz cO),(1,some (.row 53 4 (bR (x1++[y0.fE]))))] 2) [0,3] ?_;refine go ?_;refine fu ?_;exact aP (ih (ae (y0.aU+1),(x1++[y0.fE])) F) (bG [0,1])
 intro _ h;exact h.elim
theorem jd {a0:List aK} {a1:Int} {a2:ah} {r:ct} (F:ja a0 a1 a2=some r):FZ 152 [.vs 3 (map aj a0),.int .i64 a1,.agg (ax a2)] [.p (.agg (bz r))]:=by
 unfold ja at F;refine fb 18 Tryz.func152 fun w O=> ?_;obtain⟨y3,h4,F⟩:=bs F;refine rq (clA 2 (cF h4)) ?_;refine cnd F (fun hb5 F=> ?_) fun hb5 F=> ?_
 ·cases F
 refine gg ?_;refine rq (la (ax a2) ec) ?_;refine rgp (bd ((bz cO)) (bz (⟨a2,[],[],ae (a1+1),aM⟩:ct)) pt xT) ?_;exact tl []
theorem yZ {a0:List aK} {a1:Int} {a2:ah} {r:ct} (F:iG a0 a1 a2=some r):FZ 150 [.vs 3 (map aj a0),.int .i64 a1,.agg (ax a2)] [.p (.agg (bz r))]:=by
 unfold iG at F;refine fb 90 Tryz.func150 fun w O=> ?_;obtain⟨y3,h4,F⟩:=bs F;refine rgp (clA 2 (gi h4)) ?_;refine rq (ek rfl rfl tu yn rfl rfl rfl) ?_;obtain⟨y7,h8,F⟩:=bs F;refine rgp (clA 2 (gi h8)) ?_;refine rq (ek rfl rfl rn jP rfl rfl rfl) ?_;refine cnd F (fun hb9 F=> ?_) fun hb9 F=> ?_
 ·cases F
 refine gg ?_;obtain⟨y0,h0,F⟩:=bs F;refine rgp (clA 2 (gi h0)) ?_;refine rq (ek rfl rfl tu yn rfl rfl rfl) ?_;obtain⟨y1,h1,F⟩:=bs F;refine rq (clA 2 (cF h1)) ?_;refine cq F (fun hb0 F=> ?_) fun hb0 F=> ?_
 ·obtain⟨y2,h2,F⟩:=bs F;refine rgp (cl 2 [.vs 3 (map aj a0),.int .i64 (ae (a1+3))] [.p (.agg (bz y2))] (Mz h2)) ?_;refine rgp (al 2 (bz cO) pt) ?_;refine go9 ?_;refine cnd F (fun hb1 F=> ?_) fun hb1 F=> ?_
  ·cases F
  refine gg ?_;refine rgp (la (ax ({ ({ ({ ({ a2 with fY:=y3.bV }:ah) with af:=y0.bV }:ah) with aa:=4 }:ah) with bN:=y2.fA }:ah)) ec) ?_;obtain⟨y4,h3,F⟩:=bs F;refine rgp (clA 3 (jd h3)) ?_;exact tl []
 refine rq (dQ rfl rfl rfl rfl rfl rfl) ?_;refine cq F (fun hb2 F=> ?_) fun hb2 F=> ?_
 ·refine rgp (la (ax ({ ({ ({ a2 with fY:=y3.bV }:ah) with af:=y0.bV }:ah) with aa:=2 }:ah)) ec) ?_;obtain⟨y5,h5,F⟩:=bs F;refine rgp (clA 2 (jd h5)) ?_;exact tl []
 obtain⟨y6,h6,F⟩:=bs F;refine rq (clA 2 (cF h6)) ?_;refine cnd F (fun hb3 F=> ?_) fun hb3 F=> ?_
 ·cases F
 refine gg ?_;obtain⟨y8,h7,F⟩:=bs F;refine rgp (cl 2 [.vs 3 (map aj a0),.int .i64 (ae (a1+4))] [.p (.agg (aF y8))] (oo h7)) ?_;refine rgp (al 2 (aF cB) jw) ?_;refine go9 ?_;refine cnd F (fun hb4 F=> ?_) fun hb4 F=> ?_
 ·cases F
 refine gg ?_;refine rgp (la (ap y8.fE) dR) ?_;refine ga2 ?_;refine ci ?_;refine piz (sX 90 [pf 0 (.vs 3 (map aj a0)),(5,some (.lp 0 0)),(6,some (.lp 1 0)),(8,some (.lp 2 0))] [bf 0 55 (ax ({ ({ ({ ({ a2 with fY:=y3.bV }:ah) with af:=y0.bV }:ah) with aa:=3 }:ah) with fE:=y8.fE }:ah)),bf 1 152 (bz cO),bf 2 175 (aF y8)] 3) [0,1,2] ?_;refine gg ?_;refine rgp (la (ax ({ ({ ({ ({ a2 with fY:=y3.bV }:ah) with af:=y0.bV }:ah) with aa:=3 }:ah) with fE:=y8.fE }:ah)) ec) ?_;obtain⟨y9,h9,F⟩:=bs F;refine rgp (clA 3 (jd h9)) ?_;exact tl []
theorem KG {a0:List aK} {a1:Int} {a2:ah} {a3:List (List UInt8)} {r:ct} (F:mw a0 a1 a2 a3=some r):FZ 178 [.vs 3 (map aj a0),.int .i64 a1,.agg (ax a2),.vs 1 (map eS a3)] [.p (.agg (bz r))]:=by
 unfold mw at F;refine bM (n:=83) Tryz.func178 rfl rfl rfl fun w O=> ?_;refine ga8 ?_;refine aJ ?_;obtain⟨x6,F,hK8⟩:=bs F;refine ctq (sX 83 [pf 0 (.vs 3 (map aj a0)),pf 1 (.int .i64 a1),pf 3 (.vs 1 (map eS a3)),(6,some (.lp 0 0)),(8,some (.lp 1 0))] [bf 0 55 (ax x6),bf 1 152 (bz cO)] 2) ?_ ?_
 ·obtain⟨y3,h4,F⟩:=bs F;refine rgp (clA 2 (cF h4)) ?_;refine go ?_;refine cnd F (fun hb5 F=> ?_) fun hb5 F=> ?_
  ·exact tl [0,1]
  exact tl [0,1]
 have F:=hK8;obtain⟨y0,h0,F⟩:=bs F;refine rgp (cl 2 [.vs 3 (map aj a0),.int .i64 (ae (a1+1)),.vs 1 (map eS a3),.bool (x6.aa==6)] [.p (.agg (bw y0))] (uG h0)) ?_;refine rgp (al 2 (bw dm) nT) ?_;refine go9 ?_;refine cnd F (fun hb0 F=> ?_) fun hb0 F=> ?_
 ·cases F
 refine gg ?_;refine cnd F (fun hb1 F=> ?_) fun hb1 F=> ?_
 ·cases F
 refine gg ?_;refine rq (la (bt y0.fT) fH) ?_;refine cq F (fun hb2 F=> ?_) fun hb2 F=> ?_
 ·refine rgp (la (ax ({ x6 with av:=y0.fT }:ah)) ec) ?_;obtain⟨y1,h1,F⟩:=bs F;refine rgp (clA 3 (jd h1)) ?_;exact tl []
 obtain⟨y2,h2,F⟩:=bs F;refine rgp (clA 3 (gi h2)) ?_;refine ga3 ?_;refine aJ ?_;obtain⟨x0,F,hK0⟩:=bs F;refine ctq (sX 83 [pf 0 (.vs 3 (map aj a0)),(6,some (.lp 0 0)),(8,some (.lp 1 0)),(9,some (.lp 2 0))] [bf 0 55 (ax x0),bf 1 152 (bz cO),bf 2 126 (bw y0)] 3) ?_ ?_
 ·refine cq F (fun hb3 F=> ?_) fun hb3 F=> ?_
  ·refine rgp (bd ((ap cA)) (ap (⟨2,0,y2.bV,[]⟩:ai)) iZ pz) ?_;exact tl [0,1,2]
  obtain⟨y4,h3,F⟩:=bs F;refine rq (clA 4 (cF h3)) ?_;refine cq F (fun hb4 F=> ?_) fun hb4 F=> ?_
  ·refine rgp (bd ((ap cA)) (ap (⟨3,0,[],[]⟩:ai)) iZ pz) ?_;exact tl [0,1,2]
  obtain⟨y5,h5,F⟩:=bs F;refine rq (clA 4 (cF h5)) ?_;refine cnd F (fun hb6 F=> ?_) fun hb6 F=> ?_
  ·refine gg ?_;refine rgp (bd ((ap cA)) (ap (⟨4,0,[],[]⟩:ai)) iZ pz) ?_;exact tl [0,1,2]
  cases F
 have F:=hK0;refine rgp (la (ax x0) ec) ?_;obtain⟨y6,h6,F⟩:=bs F;refine rgp (clA 3 (jd h6)) ?_;exact tl []
theorem LI {a0:List aK} {a1:Int} {a2:ah} {a3:List (List UInt8)} {r:ct} (F:jE a0 a1 a2 a3=some r):FZ 151 [.vs 3 (map aj a0),.int .i64 a1,.agg (ax a2),.vs 1 (map eS a3)] [.p (.agg (bz r))]:=by
 unfold jE at F;refine bM (n:=80) Tryz.func151 rfl rfl rfl fun w O=> ?_;refine ga4 ?_;(iterate 2 refine aJ ?_);obtain⟨x8,F,hK0⟩:=bs F;refine ctq (sX 80 [pf 0 (.vs 3 (map aj a0)),pf 1 (.int .i64 a1),pf 3 (.vs 1 (map eS a3)),(6,some (.lp 0 0)),(8,some (.lp 1 0)),pf 17 (.bool x8)] [bf 0 55 (ax a2),bf 1 152 (bz cO)] 2) ?_ ?_
 ·obtain⟨y3,h4,F⟩:=bs F;refine rq (clA 2 (cF h4)) ?_;refine iq F (fun hb5 F=> ?_) fun hb5 F=> ?_
  ·exact tl [0,1]
  obtain⟨y6,h7,F⟩:=bs F;refine rgn hb5 (clA 2 (cF h7)) ?_;exact tl [0,1]
 have F:=hK0;refine cq F (fun hb0 F=> ?_) fun hb0 F=> ?_
 ·refine rq (la (ax a2) ec) ?_;obtain⟨y0,h0,F⟩:=bs F;refine rgp (clA 2 (KG h0)) ?_;exact tl []
 obtain⟨y1,h1,F⟩:=bs F;refine rq (clA 2 (cF h1)) ?_;refine cnd F (fun hb1 F=> ?_) fun hb1 F=> ?_
 ·refine gg ?_;obtain⟨y2,h2,F⟩:=bs F;refine rgp (clA 2 (gi h2)) ?_;refine rq (ek rfl rfl rn jP rfl rfl rfl) ?_;refine cnd F (fun hb2 F=> ?_) fun hb2 F=> ?_
  ·cases F
  refine gg ?_;obtain⟨y4,h3,F⟩:=bs F;refine rgp (clA 2 (gi h3)) ?_;refine rq (ek rfl rfl tu yn rfl rfl rfl) ?_;refine rgp (la (ax ({ ({ a2 with aa:=7 }:ah) with fY:=y4.bV }:ah)) ec) ?_;obtain⟨y5,h5,F⟩:=bs F;refine rgp (clA 2 (jd h5)) ?_;exact tl []
 refine ga2 ?_;(iterate 2 refine aJ ?_);obtain⟨x0,F,hK1⟩:=bs F;refine ctq (sX 80 [pf 0 (.vs 3 (map aj a0)),pf 1 (.int .i64 a1),(6,some (.lp 0 0)),(8,some (.lp 1 0)),pf 56 (.bool x0)] [bf 0 55 (ax a2),bf 1 152 (bz cO)] 2) ?_ ?_
 ·obtain⟨y7,h6,F⟩:=bs F;refine rq (clA 2 (zr h6)) ?_;refine iq F (fun hb3 F=> ?_) fun hb3 F=> ?_
  ·obtain⟨y8,h8,F⟩:=bs F;refine rgn hb3 (clA 2 (cF h8)) ?_;exact tl [0,1]
  exact tl [0,1]
 have F:=hK1;refine cq F (fun hb4 F=> ?_) fun hb4 F=> ?_
 ·refine rgp (la (ax a2) ec) ?_;obtain⟨y9,h9,F⟩:=bs F;refine rgp (clA 2 (yZ h9)) ?_;exact tl []
 obtain⟨y10,h10,F⟩:=bs F;refine rgp (cl 2 [.vs 3 (map aj a0),.int .i64 a1] [.p (.agg (aF y10))] (oo h10)) ?_;refine rgp (al 2 (aF cB) jw) ?_;refine go9 ?_;refine cnd F (fun hb6 F=> ?_) fun hb6 F=> ?_
 ·cases F
 refine gg ?_;refine rq (la (ap y10.fE) dR) ?_;refine rgp (la (ax ({ ({ a2 with aa:=1 }:ah) with fE:=y10.fE }:ah)) ec) ?_;obtain⟨y11,h11,F⟩:=bs F;refine rgp (clA 3 (jd h11)) ?_;exact tl []
end Go.Proofs.YtjimbkljclfflaaGreatDoor
