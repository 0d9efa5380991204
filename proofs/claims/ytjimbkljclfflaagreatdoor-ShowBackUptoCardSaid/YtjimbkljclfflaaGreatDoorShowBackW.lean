/- A part of the proof that the law ShowBack gives true for every input. -/
import Derived.Test.YtjimbkljclfflaaGreatDoorShowBackT
import Derived.Test.YtjimbkljclfflaaGreatDoorShowBackY
import Derived.Test.YtjimbkljclfflaaGreatDoorShowBackB
import Derived.Test.YtjimbkljclfflaaGreatDoorShowBackS
import Derived.Test.YtjimbkljclfflaaGreatDoorShowBackX
import Derived.Test.YtjimbkljclfflaaGreatDoorShowBackI
import Derived.Test.YtjimbkljclfflaaGreatDoorShowBackW7
/- Each Go function computes its plain function. -/
namespace Go.Proofs.YtjimbkljclfflaaGreatDoor
open List
open Go.RowKit Go.Abs
set_option maxRecDepth 100000
set_option maxHeartbeats 4000000
theorem JR {a0:be} {r:Bool} (F:sE a0=some r):FZ 24 [.agg (aH a0)] [.p (.bool r)]:=by
 unfold sE at F;refine fb 112 Tryz.func24 fun w O=> ?_;obtain⟨lr0,F,hK0⟩:=bs F;refine lpG (fun s1=>∃ q,lr0= .next q/\s1=(sX 112 [(1,some (.lp 0 0)),pf 3 (.int .i64 (a0.ac.length:Int))] [bf 0 39 (aH a0)] 1)) (fun(q:Int)=>(sX 112 [(1,some (.lp 0 0)),pf 3 (.int .i64 (a0.ac.length:Int)),pf 4 (.int .i64 q)] [bf 0 39 (aH a0)] 1)) (fun k q=>mo a0 k q) 0 (bG [0]) F (fun k x0 F ih=> ?_) ?_
 ·refine gg ?_;refine cq F (fun hb0 F=> ?_) fun hb0 F=> ?_
  ·obtain⟨y0,h0,F⟩:=bs F;refine gg ?_;obtain⟨y1,h1,F⟩:=bs F;refine rq (clA 1 (ey h1)) ?_;refine cnd F (fun hb1 F=> ?_) fun hb1 F=> ?_
   ·refine ga7 ?_;refine ba ?_;cases F;have F:=bH hK0;exact tl []
   refine gg ?_;exact aP (ih (ae (x0+1)) F) (bG [0])
  exact tl [0]
 rintro _ ⟨⟨⟩,rfl,rfl⟩;have F:=bW hK0;clear hK0;refine gg ?_;obtain⟨lr1,F,hK1⟩:=bs F;refine lpG (fun s1=>∃ q,lr1= .next q/\s1=(sX 112 [(1,some (.lp 0 0)),pf 3 (.int .i64 (a0.ac.length:Int))] [bf 0 39 (aH a0)] 1)) (fun(q:Int)=>(sX 112 [(1,some (.lp 0 0)),pf 3 (.int .i64 (a0.ac.length:Int)),pf 5 (.int .i64 q)] [bf 0 39 (aH a0)] 1)) (fun k q=>mf a0 k q) 0 (bG [0]) F (fun k x1 F ih=> ?_) ?_
 ·refine gg ?_;refine cq F (fun hb2 F=> ?_) fun hb2 F=> ?_
  ·obtain⟨y2,h2,F⟩:=bs F;refine ga5 ?_;refine aJ ?_;obtain⟨x2,F,hK2⟩:=bs F;refine ctx (sX 112 [(1,some (.lp 0 0)),pf 3 (.int .i64 (a0.ac.length:Int)),pf 5 (.int .i64 x1),pf 55 (.bool x2)] [bf 0 39 (aH a0)] 1) ?_ ?_
   ·refine go4 ?_;obtain⟨y3,h3,F⟩:=bs F;refine rgp (ix (kR aC h3) Ea) ?_;refine rgp (lw (aC y3) qj) ?_;refine go ?_;obtain⟨y4,h4,F⟩:=bs F;refine rgp (cl 1 [.agg (aC y3),.int .i64 (a0.ac.length:Int)] [.p (.bool y4)] (vu h4)) ?_;exact tl [0]
   have F:=hK2;refine go ?_;refine cnd F (fun hb3 F=> ?_) fun hb3 F=> ?_
   ·refine ga7 ?_;refine ba ?_;cases F;have F:=bH hK1;exact tl []
   refine gg ?_;exact aP (ih (ae (x1+1)) F) (bG [0])
  exact tl [0]
 rintro _ ⟨⟨⟩,rfl,rfl⟩;have F:=bW hK1;clear hK1;refine gg ?_;obtain⟨lr2,F,hK3⟩:=bs F;refine lpG (fun s1=>∃ q,lr2= .next q/\s1=(sX 112 [(1,some (.lp 0 0)),pf 3 (.int .i64 (a0.ac.length:Int))] [bf 0 39 (aH a0)] 1)) (fun(q:Int)=>(sX 112 [(1,some (.lp 0 0)),pf 3 (.int .i64 (a0.ac.length:Int)),pf 7 (.int .i64 q)] [bf 0 39 (aH a0)] 1)) (fun k q=>mi a0 k q) 0 (bG [0]) F (fun k x3 F ih=> ?_) ?_
 ·refine gg ?_;refine cq F (fun hb4 F=> ?_) fun hb4 F=> ?_
  ·obtain⟨y5,h5,F⟩:=bs F;refine gg ?_;obtain⟨y6,h6,F⟩:=bs F;refine rq (clA 1 (GF h6)) ?_;refine cnd F (fun hb5 F=> ?_) fun hb5 F=> ?_
   ·refine ga7 ?_;refine ba ?_;cases F;have F:=bH hK3;exact tl []
   refine gg ?_;exact aP (ih (ae (x3+1)) F) (bG [0])
  exact tl [0]
 rintro _ ⟨⟨⟩,rfl,rfl⟩;have F:=bW hK3;clear hK3;refine gg ?_;obtain⟨y7,h7,F⟩:=bs F;refine rq (clA 1 (ey h7)) ?_;refine iq F (fun hb6 F=> ?_) fun hb6 F=> ?_
 ·refine iq F (fun hb7 F=> ?_) fun hb7 F=> ?_
  ·refine rqn hb7 (dQ rfl rfl rfl rfl rfl rfl) ?_;refine iq F (fun hb8 F=> ?_) fun hb8 F=> ?_
   ·refine iq F (fun hb9 F=> ?_) fun hb9 F=> ?_
    ·obtain⟨y8,h8,F⟩:=bs F;refine rgn rfl (clA 1 (pQ h8)) ?_;exact tl []
    obtain⟨y9,h9,F⟩:=bs F;refine rqn hb9 (clA 1 (ey h9)) ?_;refine iq F (fun hb10 F=> ?_) fun hb10 F=> ?_
    ·refine iq F (fun hb11 F=> ?_) fun hb11 F=> ?_
     ·obtain⟨y10,h10,F⟩:=bs F;refine rgn hb11 (clA 1 (pQ h10)) ?_;exact tl []
     exact tl []
    exact tl []
   obtain⟨y11,h11,F⟩:=bs F;refine rqn rfl (clA 1 (ey h11)) ?_;refine iq F (fun hb12 F=> ?_) fun hb12 F=> ?_
   ·refine iq F (fun hb13 F=> ?_) fun hb13 F=> ?_
    ·obtain⟨y12,h12,F⟩:=bs F;refine rgn hb13 (clA 1 (pQ h12)) ?_;exact tl []
    exact tl []
   exact tl []
  exact tl []
 exact tl []
theorem JW {a0:List be} {r:Bool} (F:tq a0=some r):FZ 9 [.vs 7 (map aH a0)] [.p (.bool r)]:=by
 unfold tq at F;refine fb 31 Tryz.func9 fun w O=> ?_;obtain⟨lr0,F,hK0⟩:=bs F;refine lpG (fun s1=>∃ q,lr0= .next q/\s1=(sX 31 [pf 3 (.int .i64 q)] [] 0)) (fun(q:Int×Int)=>(sX 31 [pf 0 (.vs 7 (map aH a0)),pf 3 (.int .i64 q.1),pf 4 (.int .i64 q.2)] [] 0)) (fun k q=>oq a0 k q.1 q.2) (0,0) (bG []) F (fun k ⟨x0,x1⟩ F ih=> ?_) ?_
 ·refine gg ?_;refine cnd F (fun hb0 F=> ?_) fun hb0 F=> ?_
  ·refine ga2 ?_;refine aJ ?_;refine cI ?_;(iterate 2 refine aJ ?_);obtain⟨x2,F,hK1⟩:=bs F;refine ctq (sX 31 [pf 0 (.vs 7 (map aH a0)),pf 3 (.int .i64 x0),pf 4 (.int .i64 x1),pf 21 (.bool x2)] [] 0) ?_ ?_
   ·refine iq F (fun hb1 F=> ?_) fun hb1 F=> ?_
    ·exact tl []
    obtain⟨y0,h0,F⟩:=bs F;refine gg ?_;obtain⟨y1,h1,F⟩:=bs F;refine rgn hb1 (clA 0 (JR h1)) ?_;exact tl []
   have F:=hK1;refine cnd F (fun hb2 F=> ?_) fun hb2 F=> ?_
   ·refine ga8 ?_;refine ba ?_;cases F;have F:=bH hK0;exact tl []
   refine gg ?_;obtain⟨y2,h2,F⟩:=bs F;refine gg ?_;obtain⟨y3,h3,F⟩:=bs F;refine rgp (clA 0 (vq h3)) ?_;refine ga2 ?_;refine ci ?_;refine piz (sX 31 [pf 0 (.vs 7 (map aH a0)),pf 3 (.int .i64 (ae (x0+y3))),pf 4 (.int .i64 x1)] [] 0) [] ?_;refine gg ?_;exact aP (ih (ae (x0+y3),ae (x1+1)) F) (bG [])
  exact tl []
 rintro _ ⟨x3,rfl,rfl⟩;have F:=bW hK0;clear hK0;exact tl []
theorem Jl {a0:List be} {r:Bool} (F:sV a0=some r):FZ 10 [.vs 7 (map aH a0)] [.p (.bool r)]:=by
 unfold sV at F;refine fb 38 Tryz.func10 fun w O=> ?_;obtain⟨lr0,F,hK0⟩:=bs F;refine lpG (fun s1=>∃ q,lr0= .next q/\s1=(sX 38 [] [] 0)) (fun(q:Int)=>(sX 38 [pf 0 (.vs 7 (map aH a0)),pf 3 (.int .i64 q)] [] 0)) (fun k q=>me a0 k q) 0 (bG []) F (fun k x0 F ih=> ?_) ?_
 ·refine gg ?_;refine cq F (fun hb0 F=> ?_) fun hb0 F=> ?_
  ·obtain⟨y0,h0,F⟩:=bs F;refine gg ?_;obtain⟨lr1,F,hK1⟩:=bs F;refine lpG (fun s1=>∃ q,lr1= .next q/\s1=(sX 38 [pf 0 (.vs 7 (map aH a0)),pf 3 (.int .i64 x0)] [] 0)) (fun(q:Int)=>(sX 38 [pf 0 (.vs 7 (map aH a0)),pf 3 (.int .i64 x0),pf 4 (.vs 1 (map eS y0.ac)),pf 5 (.int .i64 q)] [] 0)) (fun k q=>mb y0 k q) 0 (bG []) F (fun k x1 F ih=> ?_) ?_
   ·refine gg ?_;refine cq F (fun hb1 F=> ?_) fun hb1 F=> ?_
    ·obtain⟨lr2,F,hK2⟩:=bs F;refine lpG (fun s1=>∃ q,lr2= .next q/\s1=(sX 38 [pf 0 (.vs 7 (map aH a0)),pf 3 (.int .i64 x0),pf 4 (.vs 1 (map eS y0.ac)),pf 5 (.int .i64 x1)] [] 0)) (fun(q:Int)=>(sX 38 [pf 0 (.vs 7 (map aH a0)),pf 3 (.int .i64 x0),pf 4 (.vs 1 (map eS y0.ac)),pf 5 (.int .i64 x1),pf 6 (.int .i64 q)] [] 0)) (fun k q=>mg x1 y0 k q) 0 (bG []) F (fun k x2 F ih=> ?_) ?_
     ·refine gg ?_;refine cnd F (fun hb2 F=> ?_) fun hb2 F=> ?_
      ·refine ga2 ?_;refine aJ ?_;refine cI ?_;refine aJ ?_;refine dt ⟨_,_,_⟩ rfl ?_;refine dd ?_;obtain⟨y1,h1,F⟩:=bs F;refine dd ?_;obtain⟨y2,h2,F⟩:=bs F;refine dd ?_;refine dk 37 [(32,pS y1),(36,pS y2)] (pB (y1==y2)) (fun m h=>⟨_,dQ rfl h.1.1 h.1.2.1 rfl rfl rfl,rfl⟩) ?_;refine drn ?_;refine piz (sX 38 [pf 0 (.vs 7 (map aH a0)),pf 3 (.int .i64 x0),pf 4 (.vs 1 (map eS y0.ac)),pf 5 (.int .i64 x1),pf 6 (.int .i64 x2),pf 37 (.bool (y1==y2))] [] 0) [] ?_;refine gg ?_;refine cnd F (fun hb3 F=> ?_) fun hb3 F=> ?_
       ·refine ga7 ?_;refine ba ?_;cases F;have F:=bH hK2;refine ga3 ?_;refine ba ?_;cases F;have F:=bH hK1;refine ga3 ?_;refine ba ?_;cases F;have F:=bH hK0;exact tl []
       refine gg ?_;exact aP (ih (ae (x2+1)) F) (bG [])
      exact tl []
     rintro _ ⟨⟨⟩,rfl,rfl⟩;have F:=bW hK2;clear hK2;refine gg ?_;exact aP (ih (ae (x1+1)) F) (bG [])
    exact tl []
   rintro _ ⟨⟨⟩,rfl,rfl⟩;have F:=bW hK1;clear hK1;refine gg ?_;exact aP (ih (ae (x0+1)) F) (bG [])
  exact tl []
 rintro _ ⟨⟨⟩,rfl,rfl⟩;have F:=bW hK0;clear hK0;exact tl []
theorem vT {a0:List cN} {a1:List cN} {a2:Bool} {r:Bool} (F:qk a0 a1 a2=some r):FZ 58 [.vs 13 (map aI a0),.vs 13 (map aI a1),.bool a2] [.p (.bool r)]:=by
 unfold qk at F;refine fb 59 Tryz.func58 fun w O=> ?_;refine cnd F (fun hb1 F=> ?_) fun hb1 F=> ?_
 ·cases F
 refine gg ?_;obtain⟨lr0,F,hK0⟩:=bs F;refine lpE (sX 59 [] [] 0) (fun(q:Int)=>(sX 59 [pf 0 (.vs 13 (map aI a0)),pf 1 (.vs 13 (map aI a1)),pf 2 (.bool a2),pf 7 (.int .i64 q)] [] 0)) (fun k q=>nz a0 a1 a2 k q) 0 (bG []) F (fun k x0 F ih=> ?_) ?_
 ·refine gg ?_;refine cnd F (fun hb0 F=> ?_) fun hb0 F=> ?_
  ·refine ga2 ?_;refine aJ ?_;refine cI ?_;refine aJ ?_;obtain⟨x1,F,hK1⟩:=bs F;refine ctx (sX 59 [pf 0 (.vs 13 (map aI a0)),pf 1 (.vs 13 (map aI a1)),pf 2 (.bool a2),pf 7 (.int .i64 x0),pf 58 (.bool x1)] [] 0) ?_ ?_
   ·refine dt ⟨_,_,_⟩ rfl ?_;refine dd ?_;obtain⟨y0,h0,F⟩:=bs F;refine dd ?_;obtain⟨y1,h1,F⟩:=bs F;refine dd ?_;refine dk 29 [(23,pS y0.af),(28,pS y1.af)] (pB (!(y0.af==y1.af))) (fun m h=>⟨_,dQ rfl h.1.1 h.1.2.1 rfl rfl rfl,rfl⟩) ?_;refine dgo ?_;rcases ie F with⟨hb2,F⟩ | ⟨hb2,F⟩
    ·exact tm []
    refine dkg hb2 31 [(0,.pv (.vs 13 (map aI a0)))] (.pv (.vs 13 (map aI a0))) (fun m h=>⟨_,ic rfl h.1.2.1 rfl rfl,rfl⟩) ?_;refine dkg hb2 32 [(7,pI x0)] (pI x0) (fun m h=>⟨_,ic rfl h.1.2.1 rfl rfl,rfl⟩) ?_;obtain⟨y2,h2,F⟩:=bs F;refine dkg hb2 33 [(31,.pv (.vs 13 (map aI a0))),(32,pI x0)] (.pv (.vp (aI y2))) (fun m h=>⟨_,iI (k:= .i64) rfl h.1.2.1 h.1.2.2.1 (kR aI h2) pA rfl rfl,rfl⟩) ?_;refine dkg hb2 34 [(33,.pv (.vp (aI y2)))] (.pv (.vp (List.drop 1 (aI y2)))) (fun m h=>⟨_,qL rfl h.1.2.1 Kz rfl rfl,rfl⟩) ?_;refine dkg hb2 35 [(34,.pv (.vp (List.drop 1 (aI y2))))] (.pv (.agg (bt y2.av))) (fun m h=>⟨_,ru (ps:=bt y2.av) rfl h.1.2.1 rfl rfl fH rfl rfl,rfl⟩) ?_;refine dkg hb2 36 [(1,.pv (.vs 13 (map aI a1)))] (.pv (.vs 13 (map aI a1))) (fun m h=>⟨_,ic rfl h.1.2.1 rfl rfl,rfl⟩) ?_;refine dkg hb2 37 [(7,pI x0)] (pI x0) (fun m h=>⟨_,ic rfl h.1.2.1 rfl rfl,rfl⟩) ?_;obtain⟨y3,h3,F⟩:=bs F;refine dkg hb2 38 [(36,.pv (.vs 13 (map aI a1))),(37,pI x0)] (.pv (.vp (aI y3))) (fun m h=>⟨_,iI (k:= .i64) rfl h.1.2.1 h.1.2.2.1 (kR aI h3) pA rfl rfl,rfl⟩) ?_;refine dkg hb2 39 [(38,.pv (.vp (aI y3)))] (.pv (.vp (List.drop 1 (aI y3)))) (fun m h=>⟨_,qL rfl h.1.2.1 Kz rfl rfl,rfl⟩) ?_;refine dkg hb2 40 [(39,.pv (.vp (List.drop 1 (aI y3))))] (.pv (.agg (bt y3.av))) (fun m h=>⟨_,ru (ps:=bt y3.av) rfl h.1.2.1 rfl rfl fH rfl rfl,rfl⟩) ?_;refine dkg hb2 41 [(35,.pv (.agg (bt y2.av))),(40,.pv (.agg (bt y3.av)))] (pB (!(jp y2.av y3.av))) (fun m h=>⟨_,mJ (r:=jp y2.av y3.av) rfl h.1.2.1 h.1.2.2.1 Bh rfl rfl rfl rfl rfl,rfl⟩) ?_;refine dd ?_;rcases ie F with⟨hb3,F⟩ | ⟨hb3,F⟩
    ·exact tm []
    refine dd ?_;rcases ie F with⟨hb4,F⟩ | ⟨hb4,F⟩
    ·refine dkg hb4 46 [(0,.pv (.vs 13 (map aI a0)))] (.pv (.vs 13 (map aI a0))) (fun m h=>⟨_,ic rfl h.1.2.1 rfl rfl,rfl⟩) ?_;refine dkg hb4 47 [(7,pI x0)] (pI x0) (fun m h=>⟨_,ic rfl h.1.2.1 rfl rfl,rfl⟩) ?_;obtain⟨y4,h4,F⟩:=bs F;refine dkg hb4 48 [(46,.pv (.vs 13 (map aI a0))),(47,pI x0)] (.pv (.vp (aI y4))) (fun m h=>⟨_,iI (k:= .i64) rfl h.1.2.1 h.1.2.2.1 (kR aI h4) pA rfl rfl,rfl⟩) ?_;refine dkg hb4 49 [(48,.pv (.vp (aI y4)))] (.pv (.vp (List.drop 12 (aI y4)))) (fun m h=>⟨_,qL rfl h.1.2.1 Jk rfl rfl,rfl⟩) ?_;refine dkg hb4 50 [(49,.pv (.vp (List.drop 12 (aI y4))))] (pI y4.fAt) (fun m h=>⟨_,yd rfl h.1.2.1 rfl jP rfl rfl,rfl⟩) ?_;refine dkg hb4 51 [(1,.pv (.vs 13 (map aI a1)))] (.pv (.vs 13 (map aI a1))) (fun m h=>⟨_,ic rfl h.1.2.1 rfl rfl,rfl⟩) ?_;refine dkg hb4 52 [(7,pI x0)] (pI x0) (fun m h=>⟨_,ic rfl h.1.2.1 rfl rfl,rfl⟩) ?_;obtain⟨y5,h5,F⟩:=bs F;refine dkg hb4 53 [(51,.pv (.vs 13 (map aI a1))),(52,pI x0)] (.pv (.vp (aI y5))) (fun m h=>⟨_,iI rfl h.1.2.1 h.1.2.2.1 (kR aI h5) pA rfl rfl,rfl⟩) ?_;refine dkg hb4 54 [(53,.pv (.vp (aI y5)))] (.pv (.vp (List.drop 12 (aI y5)))) (fun m h=>⟨_,qL rfl h.1.2.1 Jk rfl rfl,rfl⟩) ?_;refine dkg hb4 55 [(54,.pv (.vp (List.drop 12 (aI y5))))] (pI y5.fAt) (fun m h=>⟨_,yd rfl h.1.2.1 rfl jP rfl rfl,rfl⟩) ?_;refine dkg hb4 56 [(50,pI y4.fAt),(55,pI y5.fAt)] (pB (y4.fAt != y5.fAt)) (fun m h=>⟨_,sf rfl h.1.2.1 h.1.2.2.1 rfl rfl rfl,rfl⟩) ?_;refine dkg hb3 57 [(45,pB a2),(56,pB (y4.fAt != y5.fAt))] (pB (y4.fAt != y5.fAt)) (fun m h=>⟨_,qt rfl h.1.2.1 hb4 h.1.2.2.1 rfl rfl,rfl⟩) ?_;refine dk 58 [(43,pB (!(jp y2.av y3.av))),(57,pB (y4.fAt != y5.fAt))] (pB (y4.fAt != y5.fAt)) (fun m h=>⟨_,dI rfl h.1.1 hb3 h.1.2.1 rfl rfl,rfl⟩) ?_;refine drn ?_;refine piz (sX 59 [pf 0 (.vs 13 (map aI a0)),pf 1 (.vs 13 (map aI a1)),pf 2 (.bool a2),pf 7 (.int .i64 x0),pf 58 (.bool (y4.fAt != y5.fAt))] [] 0) [] ?_;cases F;exact pcz []
    (iterate 11 refine zB hb4 ?_);refine dkg hb3 57 [(45,pB a2)] (pB false) (fun m h=>⟨_,dI rfl h.1.2.1 hb4 rfl rfl rfl,rfl⟩) ?_;refine dk 58 [(43,pB (!(jp y2.av y3.av))),(57,pB false)] (pB false) (fun m h=>⟨_,dI rfl h.1.1 hb3 h.1.2.1 rfl rfl,rfl⟩) ?_;refine drn ?_;refine piz (sX 59 [pf 0 (.vs 13 (map aI a0)),pf 1 (.vs 13 (map aI a1)),pf 2 (.bool a2),pf 7 (.int .i64 x0),pf 58 (.bool false)] [] 0) [] ?_;cases F;exact pcz []
   have F:=hK1;refine go ?_;refine cnd F (fun hb5 F=> ?_) fun hb5 F=> ?_
   ·cases F
   refine go7 ?_;refine rnr ?_;exact aP (ih (ae (x0+1)) F) (bG [])
  refine uv ?_;(iterate 2 refine di ?_);cases F;exact pR _ rfl (bG [])
 have F:=hK0;refine go5 ?_;cases F;exact prt
theorem Gk : ∀ n:Nat,(∀ (a0:List ah) (a1:List ah) (r:Bool),kg n a0 a1=some r->FZ 91 [.vs 23 (bT a0),.vs 23 (bT a1)] [.p (.bool r)])/\(∀ (a0:ah) (a1:ah) (r:Bool),lk n a0 a1=some r->FZ 120 [.agg (ax a0),.agg (ax a1)] [.p (.bool r)]):=by
 intro n
 induction n with
 | zero=>exact⟨fun _ _ _ h=>by simp[kg] at h,fun _ _ _ h=>by simp[lk] at h⟩
 | succ n ih=>
  obtain⟨ref08_List_ih,ref08_Same_ih⟩:=ih;refine⟨?_,?_⟩
  ·intro a0 a1 r F;unfold kg at F
   revert F ref08_List_ih ref08_Same_ih
   generalize kg n=ref08_List_rec
   generalize lk n=ref08_Same_rec
   intro ref08_List_ih ref08_Same_ih F;refine fb 27 Tryz.func91 fun w O=> ?_;refine cnd F (fun hb1 F=> ?_) fun hb1 F=> ?_
   ·cases F
   refine gg ?_;obtain⟨lr0,F,hK0⟩:=bs F;refine lpE (sX 27 [] [] 0) (fun(q:Int)=>(sX 27 [pf 0 (.vs 23 (bT a0)),pf 1 (.vs 23 (bT a1)),pf 5 (.int .i64 q)] [] 0)) (fun k q=>nr a0 a1 ref08_Same_rec k q) 0 (bG []) F (fun k x0 F ih=> ?_) ?_
   ·refine gg ?_;refine cnd F (fun hb0 F=> ?_) fun hb0 F=> ?_
    ·refine ga2 ?_;refine aJ ?_;refine cI ?_;refine aJ ?_;refine dt ⟨_,_,_⟩ rfl ?_;refine dd ?_;obtain⟨y0,h0,F⟩:=bs F;refine dd ?_;obtain⟨y1,h1,F⟩:=bs F;refine dd ?_;obtain⟨y2,h2,F⟩:=bs F;refine dk 25 [(24,.pv (.agg (ax y1))),(20,.pv (.agg (ax y0)))] (pB y2) (fun m h=>⟨_,dx 0 rfl (caps:=[]) (args:=[.agg (ax y0),.agg (ax y1)]) (rs:=[.p (.bool y2)]) rfl rfl (bm h.1.2.1 (bm h.1.1 dM)) abx (ref08_Same_ih _ _ _ h2) rfl rfl rfl,rfl⟩) ?_;refine dd ?_;refine drn ?_;refine piz (sX 27 [pf 0 (.vs 23 (bT a0)),pf 1 (.vs 23 (bT a1)),pf 5 (.int .i64 x0),pf 26 (.bool (!y2))] [] 0) [] ?_;refine gg ?_;refine cnd F (fun hb6 F=> ?_) fun hb6 F=> ?_
     ·cases F
     refine gg ?_;exact aP (ih (ae (x0+1)) F) (bG [])
    exact tl []
   have F:=hK0;exact tl []
  ·intro a0 a1 r F;unfold lk at F
   revert F ref08_List_ih ref08_Same_ih
   generalize kg n=ref08_List_rec
   generalize lk n=ref08_Same_rec
   intro ref08_List_ih ref08_Same_ih F;refine bM (n:=87) Tryz.func120 rfl rfl rfl fun w O=> ?_;refine ga5 ?_;(iterate 2 refine aJ ?_);obtain⟨p9,F,hK1⟩:=bs F;refine ctq (sX 87 [(2,some (.lp 0 0)),(3,some (.lp 1 0)),pf 55 (.bool ((a0.bN.length:Int) != (a1.bN.length:Int)))] [bf 0 55 (ax a0),bf 1 55 (ax a1)] 2) ?_ ?_
   ·rcases ie F with⟨hb1,F⟩ | ⟨hb1,F⟩
    ·cases F
    refine gg ?_;refine rqn hb1 (dQ rfl rfl rfl rfl rfl rfl) ?_;rcases ie F with⟨hb2,F⟩ | ⟨hb2,F⟩
    ·cases F
    refine gg ?_;refine rqn hb2 (dQ rfl rfl rfl rfl rfl rfl) ?_;rcases ie F with⟨hb3,F⟩ | ⟨hb3,F⟩
    ·cases F
    refine gg ?_;refine rqn hb3 (dQ rfl rfl rfl rfl rfl rfl) ?_;rcases ie F with⟨hb4,F⟩ | ⟨hb4,F⟩
    ·cases F
    refine gg ?_;refine rqn hb4 (la (bt a0.av) fH) ?_;refine rgn hb4 (la (bt a1.av) fH) ?_;refine rqn hb4 (mJ (r:=jp a0.av a1.av) rfl rfl rfl Bh rfl rfl rfl rfl rfl) ?_;rcases ie F with⟨hb5,F⟩ | ⟨hb5,F⟩
    ·cases F
    refine gg ?_;refine rqn hb5 (la (ap a0.fE) dR) ?_;refine rgn hb5 (la (ap a1.fE) dR) ?_;obtain⟨y6,h7,F⟩:=bs F;refine rqn hb5 (clA 2 (sx h7)) ?_;rcases ie F with⟨hb8,F⟩ | ⟨hb8,F⟩
    ·cases F
    exact tl [0,1]
   have F:=hK1;refine cnd F (fun hb7 F=> ?_) fun hb7 F=> ?_
   ·cases F
   refine gg ?_;obtain⟨lr1,F,hK2⟩:=bs F;refine lpE (sX 87 [(2,some (.lp 0 0)),(3,some (.lp 1 0))] [bf 0 55 (ax a0),bf 1 55 (ax a1)] 2) (fun(q:Int)=>(sX 87 [(2,some (.lp 0 0)),(3,some (.lp 1 0)),pf 5 (.int .i64 q)] [bf 0 55 (ax a0),bf 1 55 (ax a1)] 2)) (fun k q=>nG a0 a1 k q) 0 (bG [0,1]) F (fun k x1 F ih=> ?_) ?_
   ·refine gg ?_;refine cnd F (fun hb9 F=> ?_) fun hb9 F=> ?_
    ·refine ga2 ?_;refine aJ ?_;refine cI ?_;refine aJ ?_;refine dt ⟨_,_,_⟩ rfl ?_;refine dd ?_;obtain⟨y3,h3,F⟩:=bs F;refine dd ?_;obtain⟨y4,h4,F⟩:=bs F;refine dd ?_;obtain⟨y5,h5,F⟩:=bs F;refine dk 73 [(72,.pv (.agg (ap y4))),(67,.pv (.agg (ap y3)))] (pB y5) (fun m h=>⟨_,dx 2 rfl (caps:=[]) (args:=[.agg (ap y3),.agg (ap y4)]) (rs:=[.p (.bool y5)]) rfl rfl (bm h.1.2.1 (bm h.1.1 dM)) Wg (sx h5) rfl rfl rfl,rfl⟩) ?_;refine dd ?_;refine drn ?_;refine piz (sX 87 [(2,some (.lp 0 0)),(3,some (.lp 1 0)),pf 5 (.int .i64 x1),pf 74 (.bool (!y5))] [bf 0 55 (ax a0),bf 1 55 (ax a1)] 2) [0,1] ?_;refine gg ?_;refine cnd F (fun hb10 F=> ?_) fun hb10 F=> ?_
     ·cases F
     refine gg ?_;exact aP (ih (ae (x1+1)) F) (bG [0,1])
    exact tl [0,1]
   have F:=hK2;refine gg ?_;obtain⟨y7,h6,F⟩:=bs F;refine rq (clA 2 (ref08_List_ih _ _ _ h6)) ?_;rcases ie F with⟨hb12,F⟩ | ⟨hb12,F⟩
   ·refine gg ?_;obtain⟨y8,h8,F⟩:=bs F;refine rgn hb12 (clA 2 (ref08_List_ih _ _ _ h8)) ?_;exact tl []
   cases F
theorem Mi {n:Nat} {a0:List ah} {a1:List ah} {r:Bool} (F:kg n a0 a1=some r):FZ 91 [.vs 23 (bT a0),.vs 23 (bT a1)] [.p (.bool r)]:=(Gk n).1 _ _ _ F
theorem Mc {a0:br} {a1:br} {a2:Bool} {r:Bool} (F:uU a0 a1 a2=some r):FZ 57 [.agg (aY a0),.agg (aY a1),.bool a2] [.p (.bool r)]:=by
 unfold uU at F;refine bM (n:=65) Tryz.func57 rfl rfl rfl fun w O=> ?_;refine ga5 ?_;(iterate 2 refine aJ ?_);obtain⟨p5,F,hK6⟩:=bs F;refine ctx (sX 65 [pf 2 (.bool a2),(3,some (.lp 0 0)),(4,some (.lp 1 0)),pf 43 (.bool false)] [bf 0 48 (aY a0),bf 1 48 (aY a1)] 2) ?_ ?_
 ·refine gg ?_;refine rq (dQ rfl rfl rfl rfl rfl rfl) ?_;rcases ie F with⟨hb1,F⟩ | ⟨hb1,F⟩
  ·cases F
  refine gg ?_;refine rqn hb1 (Me rfl rfl rfl aeY rfl rfl) ?_;rcases ie F with⟨hb2,F⟩ | ⟨hb2,F⟩
  ·cases F
  refine gg ?_;refine rqn hb2 (la (bt a0.aQ) fH) ?_;refine rgn hb2 (la (bt a1.aQ) fH) ?_;refine rqn hb2 (mJ (r:=jp a0.aQ a1.aQ) rfl rfl rfl Bh rfl rfl rfl rfl rfl) ?_;rcases ie F with⟨hb3,F⟩ | ⟨hb3,F⟩
  ·cases F
  refine gg ?_;rcases ie F with⟨hb4,F⟩ | ⟨hb4,F⟩
  ·cases F
  exact tl [0,1]
 have F:=hK6;refine go ?_;refine fg rfl rfl ?_;refine gg ?_;obtain⟨y7,h8,F⟩:=bs F;refine rq (clA 2 (vT h8)) ?_;rcases ie F with⟨hb9,F⟩ | ⟨hb9,F⟩
 ·refine gg ?_;obtain⟨y0,h0,F⟩:=bs F;refine rqn hb9 (clA 2 (vT h0)) ?_;rcases ie F with⟨hb0,F⟩ | ⟨hb0,F⟩
  ·refine gg ?_;obtain⟨y1,h1,F⟩:=bs F;refine rgn hb0 (clA 2 (Mi h1)) ?_;exact tl []
  cases F
 cases F
theorem Od {a0:be} {a1:be} {a2:Bool} {r:Bool} (F:wG a0 a1 a2=some r):FZ 30 [.agg (aH a0),.agg (aH a1),.bool a2] [.p (.bool r)]:=by
 unfold wG at F;refine bM (n:=121) Tryz.func30 rfl rfl rfl fun w O=> ?_;refine ga5 ?_;(iterate 2 refine aJ ?_);obtain⟨p7,F,hK8⟩:=bs F;refine ctx (sX 121 [pf 2 (.bool a2),(3,some (.lp 0 0)),(4,some (.lp 1 0)),pf 58 (.bool false)] [bf 0 39 (aH a0),bf 1 39 (aH a1)] 2) ?_ ?_
 ·refine gg ?_;refine rq (dQ rfl rfl rfl rfl rfl rfl) ?_;rcases ie F with⟨hb1,F⟩ | ⟨hb1,F⟩
  ·cases F
  refine gg ?_;refine rqn hb1 (dQ rfl rfl rfl rfl rfl rfl) ?_;rcases ie F with⟨hb2,F⟩ | ⟨hb2,F⟩
  ·cases F
  refine gg ?_;rcases ie F with⟨hb3,F⟩ | ⟨hb3,F⟩
  ·cases F
  refine gg ?_;rcases ie F with⟨hb4,F⟩ | ⟨hb4,F⟩
  ·cases F
  refine gg ?_;rcases ie F with⟨hb5,F⟩ | ⟨hb5,F⟩
  ·cases F
  refine gg ?_;rcases ie F with⟨hb6,F⟩ | ⟨hb6,F⟩
  ·cases F
  exact tl [0,1]
 have F:=hK8;refine go ?_;refine fg rfl rfl ?_;refine gg ?_;obtain⟨lr0,F,hK0⟩:=bs F;refine lpE (sX 121 [pf 2 (.bool a2),(3,some (.lp 0 0)),(4,some (.lp 1 0))] [bf 0 39 (aH a0),bf 1 39 (aH a1)] 2) (fun(q:Int)=>(sX 121 [pf 2 (.bool a2),(3,some (.lp 0 0)),(4,some (.lp 1 0)),pf 7 (.int .i64 q)] [bf 0 39 (aH a0),bf 1 39 (aH a1)] 2)) (fun k q=>pd a0 a1 k q) 0 (bG [0,1]) F (fun k x0 F ih=> ?_) ?_
 ·refine gg ?_;refine cnd F (fun hb0 F=> ?_) fun hb0 F=> ?_
  ·refine ga2 ?_;refine aJ ?_;refine cI ?_;refine aJ ?_;refine dt ⟨_,_,_⟩ rfl ?_;refine dd ?_;obtain⟨y0,h0,F⟩:=bs F;refine dd ?_;obtain⟨y1,h1,F⟩:=bs F;refine dd ?_;refine dk 76 [(70,pS y0),(75,pS y1)] (pB (!(y0==y1))) (fun m h=>⟨_,dQ rfl h.1.1 h.1.2.1 rfl rfl rfl,rfl⟩) ?_;refine drn ?_;refine piz (sX 121 [pf 2 (.bool a2),(3,some (.lp 0 0)),(4,some (.lp 1 0)),pf 7 (.int .i64 x0),pf 76 (.bool (!(y0==y1)))] [bf 0 39 (aH a0),bf 1 39 (aH a1)] 2) [0,1] ?_;refine gg ?_;refine cnd F (fun hb7 F=> ?_) fun hb7 F=> ?_
   ·cases F
   refine gg ?_;exact aP (ih (ae (x0+1)) F) (bG [0,1])
  exact tl [0,1]
 have F:=hK0;refine gg ?_;obtain⟨lr1,F,hK1⟩:=bs F;refine lpE (sX 121 [pf 2 (.bool a2),(3,some (.lp 0 0)),(4,some (.lp 1 0))] [bf 0 39 (aH a0),bf 1 39 (aH a1)] 2) (fun(q:Int)=>(sX 121 [pf 2 (.bool a2),(3,some (.lp 0 0)),(4,some (.lp 1 0)),pf 8 (.int .i64 q)] [bf 0 39 (aH a0),bf 1 39 (aH a1)] 2)) (fun k q=>pg a0 a1 k q) 0 (bG [0,1]) F (fun k x1 F ih=> ?_) ?_
 ·refine gg ?_;refine cnd F (fun hb8 F=> ?_) fun hb8 F=> ?_
  ·refine ga2 ?_;refine aJ ?_;refine cI ?_;refine aJ ?_;refine dt ⟨_,_,_⟩ rfl ?_;refine dd ?_;obtain⟨y2,h2,F⟩:=bs F;refine dd ?_;obtain⟨y3,h3,F⟩:=bs F;refine dd ?_;refine dk 94 [(88,.pv (.agg (aC y2))),(93,.pv (.agg (aC y3)))] (pB (!(jx y2 y3))) (fun m h=>⟨_,mJ (r:=jx y2 y3) rfl h.1.1 h.1.2.1 Um rfl rfl rfl rfl rfl,rfl⟩) ?_;refine drn ?_;refine piz (sX 121 [pf 2 (.bool a2),(3,some (.lp 0 0)),(4,some (.lp 1 0)),pf 8 (.int .i64 x1),pf 94 (.bool (!(jx y2 y3)))] [bf 0 39 (aH a0),bf 1 39 (aH a1)] 2) [0,1] ?_;refine gg ?_;refine cnd F (fun hb9 F=> ?_) fun hb9 F=> ?_
   ·cases F
   refine gg ?_;exact aP (ih (ae (x1+1)) F) (bG [0,1])
  exact tl [0,1]
 have F:=hK1;refine gg ?_;obtain⟨lr2,F,hK2⟩:=bs F;refine lpE (sX 121 [pf 2 (.bool a2),(3,some (.lp 0 0)),(4,some (.lp 1 0))] [bf 0 39 (aH a0),bf 1 39 (aH a1)] 2) (fun(q:Int)=>(sX 121 [pf 2 (.bool a2),(3,some (.lp 0 0)),(4,some (.lp 1 0)),pf 9 (.int .i64 q)] [bf 0 39 (aH a0),bf 1 39 (aH a1)] 2)) (fun k q=>pk a0 a1 a2 k q) 0 (bG [0,1]) F (fun k x2 F ih=> ?_) ?_
 ·refine gg ?_;refine cnd F (fun hb10 F=> ?_) fun hb10 F=> ?_
  ·refine ga2 ?_;refine aJ ?_;refine cI ?_;refine aJ ?_;refine dt ⟨_,_,_⟩ rfl ?_;refine dd ?_;obtain⟨y4,h4,F⟩:=bs F;refine dd ?_;obtain⟨y5,h5,F⟩:=bs F;refine dd ?_;obtain⟨y6,h6,F⟩:=bs F;refine dk 113 [(112,pB a2),(111,.pv (.agg (aY y5))),(106,.pv (.agg (aY y4)))] (pB y6) (fun m h=>⟨_,dx 2 rfl (caps:=[]) (args:=[.agg (aY y4),.agg (aY y5),.bool a2]) (rs:=[.p (.bool y6)]) rfl rfl (bm h.1.2.2.1 (bm h.1.2.1 (bm h.1.1 dM))) acY (Mc h6) rfl rfl rfl,rfl⟩) ?_;refine dd ?_;refine drn ?_;refine piz (sX 121 [pf 2 (.bool a2),(3,some (.lp 0 0)),(4,some (.lp 1 0)),pf 9 (.int .i64 x2),pf 114 (.bool (!y6))] [bf 0 39 (aH a0),bf 1 39 (aH a1)] 2) [0,1] ?_;refine gg ?_;refine cnd F (fun hb11 F=> ?_) fun hb11 F=> ?_
   ·cases F
   refine gg ?_;exact aP (ih (ae (x2+1)) F) (bG [0,1])
  exact tl [0,1]
 have F:=hK2;refine gg ?_;obtain⟨y7,h7,F⟩:=bs F;refine rgp (clA 2 (vT h7)) ?_;exact tl []
theorem Lk {a0:List be} {a1:List be} {a2:Bool} {r:Bool} (F:uQ a0 a1 a2=some r):FZ 12 [.vs 7 (map aH a0),.vs 7 (map aH a1),.bool a2] [.p (.bool r)]:=by
 unfold uQ at F;refine fb 30 Tryz.func12 fun w O=> ?_;refine cnd F (fun hb1 F=> ?_) fun hb1 F=> ?_
 ·cases F
 refine gg ?_;obtain⟨lr0,F,hK0⟩:=bs F;refine lpE (sX 30 [] [] 0) (fun(q:Int)=>(sX 30 [pf 0 (.vs 7 (map aH a0)),pf 1 (.vs 7 (map aH a1)),pf 2 (.bool a2),pf 7 (.int .i64 q)] [] 0)) (fun k q=>nF a0 a1 a2 k q) 0 (bG []) F (fun k x0 F ih=> ?_) ?_
 ·refine gg ?_;refine cnd F (fun hb0 F=> ?_) fun hb0 F=> ?_
  ·refine ga2 ?_;refine aJ ?_;refine cI ?_;refine aJ ?_;refine dt ⟨_,_,_⟩ rfl ?_;refine dd ?_;obtain⟨y0,h0,F⟩:=bs F;refine dd ?_;obtain⟨y1,h1,F⟩:=bs F;refine dd ?_;obtain⟨y2,h2,F⟩:=bs F;refine dk 28 [(27,pB a2),(26,.pv (.agg (aH y1))),(22,.pv (.agg (aH y0)))] (pB y2) (fun m h=>⟨_,dx 0 rfl (caps:=[]) (args:=[.agg (aH y0),.agg (aH y1),.bool a2]) (rs:=[.p (.bool y2)]) rfl rfl (bm h.1.2.2.1 (bm h.1.2.1 (bm h.1.1 dM))) aee (Od h2) rfl rfl rfl,rfl⟩) ?_;refine dd ?_;refine drn ?_;refine piz (sX 30 [pf 0 (.vs 7 (map aH a0)),pf 1 (.vs 7 (map aH a1)),pf 2 (.bool a2),pf 7 (.int .i64 x0),pf 29 (.bool (!y2))] [] 0) [] ?_;refine gg ?_;refine cnd F (fun hb2 F=> ?_) fun hb2 F=> ?_
   ·cases F
   refine gg ?_;exact aP (ih (ae (x0+1)) F) (bG [])
  exact tl []
 have F:=hK0;exact tl []
theorem Du {a0:List be} {r:Bool} (F:rm a0=some r):FZ 3 [.vs 7 (map aH a0)] [.p (.bool r)]:=by
 unfold rm at F;refine fb 43 Tryz.func3 fun w O=> ?_;obtain⟨y3,h4,F⟩:=bs F;refine rq (clA 0 (Lc h4)) ?_;refine cq F (fun hb5 F=> ?_) fun hb5 F=> ?_
 ·obtain⟨y6,h7,F⟩:=bs F;refine rgp (clA 0 (qX h7)) ?_;exact tl []
 obtain⟨y0,h0,F⟩:=bs F;refine rq (clA 0 (Cg h0)) ?_;obtain⟨y1,h1,F⟩:=bs F;refine rq (clA 0 (JW h1)) ?_;refine cnd F (fun hb0 F=> ?_) fun hb0 F=> ?_
 ·refine gg ?_;refine rq (dQ rfl rfl rfl rfl rfl rfl) ?_;rcases ie F with⟨hb1,F⟩ | ⟨hb1,F⟩
  ·obtain⟨y2,h2,F⟩:=bs F;refine rgn hb1 (clA 0 (qX h2)) ?_;exact tl []
  exact tl []
 refine ga2 ?_;(iterate 2 refine aJ ?_);obtain⟨x0,F,hK0⟩:=bs F;refine ctq (sX 43 [pf 0 (.vs 7 (map aH a0)),pf 3 (.str y0),pf 25 (.bool x0)] [] 0) ?_ ?_
 ·refine rq (dJ rfl rfl eo rfl rfl) ?_;refine iq F (fun hb2 F=> ?_) fun hb2 F=> ?_
  ·exact tl []
  obtain⟨y4,h3,F⟩:=bs F;refine rgn hb2 (clA 0 (Jl h3)) ?_;exact tl []
 have F:=hK0;refine cq F (fun hb3 F=> ?_) fun hb3 F=> ?_
 ·obtain⟨y5,h5,F⟩:=bs F;refine rgp (clA 0 (qX h5)) ?_;exact tl []
 obtain⟨y7,h6,F⟩:=bs F;refine rgp (clA 0 (Fn.frozen (Fm h6))) ?_;refine go ?_;(iterate 2 refine rgp (sh rfl rfl rfl rfl rfl) ?_);refine rgp (al 0 (lQ aM) Kx) ?_;refine go8 ?_;rcases ie F with⟨hb4,F⟩ | ⟨hb4,F⟩
 ·(iterate 2 refine gn hb4 ?_);obtain⟨y8,h8,F⟩:=bs F;refine rgn hb4 (cl 1 [.vs 7 (map aH a0),.vs 7 (map aH y7.1),.bool false] [.p (.bool y8)] (Lk h8)) ?_;refine rpt hb4 ?_;refine go ?_;rcases ie F with⟨hb6,F⟩ | ⟨hb6,F⟩
  ·obtain⟨y9,h9,F⟩:=bs F;refine rgn hb6 (clA 1 (qX h9)) ?_;exact tl []
  refine JQ hb6 ?_;refine rpf hb6 ?_;refine go3 ?_;exact tl []
 (iterate 3 refine JQ hb4 ?_);exact tl []
end Go.Proofs.YtjimbkljclfflaaGreatDoor
