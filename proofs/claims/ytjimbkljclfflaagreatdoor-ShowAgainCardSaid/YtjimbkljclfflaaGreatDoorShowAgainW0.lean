/- A part of the proof that the law ShowAgain gives true for every input. -/
import Derived.Test.YtjimbkljclfflaaGreatDoorShowAgainT
import Derived.Test.YtjimbkljclfflaaGreatDoorShowAgainY
import Derived.Test.YtjimbkljclfflaaGreatDoorShowAgainB
import Derived.Test.YtjimbkljclfflaaGreatDoorShowAgainS
import Derived.Test.YtjimbkljclfflaaGreatDoorShowAgainX
import Derived.Test.YtjimbkljclfflaaGreatDoorShowAgainI
/- Each Go function computes its plain function. -/
namespace Go.Proofs.YtjimbkljclfflaaGreatDoor
open List
open Go.RowKit Go.Abs
set_option maxRecDepth 100000
set_option maxHeartbeats 4000000
theorem Gf {a0:Int} {r:Bool} (F:rU a0=some r):FZ 85 [.int .u8 a0] [.p (.bool r)]:=by
 unfold rU at F;refine cy (n:=17) Tryz.func85 rfl rfl rfl fun w O=> ?_;exact tl []
theorem zb {a0:List UInt8} {r:Int} (F:lJ a0=some r):FZ 48 [.str a0] [.p (.int .i64 r)]:=by
 unfold lJ at F;refine fb 46 Tryz.func48 fun w O=> ?_;obtain⟨lr0,F,hK0⟩:=bs F;refine lpG (fun s1=>∃ q,lr0= .next q/\s1=(sX 46 [pf 3 (.int .i64 q)] [] 0)) (fun(q:Int)=>(sX 46 [pf 0 (.str a0),pf 3 (.int .i64 q)] [] 0)) (fun k q=>iC a0 k q) 0 (bW []) F (fun k x0 F ih=> ?_) ?_
 ·refine gg ?_;refine rq (et rfl rfl fK rfl rfl) ?_;refine cq F (fun hb0 F=> ?_) fun hb0 F=> ?_
  ·obtain⟨y0,h0,F⟩:=bs F;refine rgp (fw rfl rfl rfl h0 fK rfl rfl) ?_;obtain⟨y1,h1,F⟩:=bs F;refine rq (clA 0 (Gf h1)) ?_;refine cnd F (fun hb1 F=> ?_) fun hb1 F=> ?_
   ·refine ga5 ?_;refine sV ?_;refine dy ?_;refine jY ?_;refine gh ?_;exact bv (ih (ah (x0+1)) F) (bW [])
   refine ga2 ?_;(iterate 2 refine bt ?_);obtain⟨x1,F,hK1⟩:=bs F;refine ctq (sX 46 [pf 0 (.str a0),pf 3 (.int .i64 x0),pf 31 (.bool x1)] [] 0) ?_ ?_
   ·refine rq (et rfl rfl fK rfl rfl) ?_;refine iq F (fun hb2 F=> ?_) fun hb2 F=> ?_
    ·exact tl []
    obtain⟨y2,h2,F⟩:=bs F;refine rqn hb2 (fw rfl rfl rfl h2 fK rfl rfl) ?_;refine iq F (fun hb3 F=> ?_) fun hb3 F=> ?_
    ·exact tl []
    obtain⟨y3,h3,F⟩:=bs F;refine rgn hb3 (fw rfl rfl rfl h3 fK rfl rfl) ?_;exact tl []
   have F:=hK1;refine cnd F (fun hb4 F=> ?_) fun hb4 F=> ?_
   ·refine ga8 ?_;refine aQ ?_;cases F;have F:=bq hK0;exact tl []
   refine gg ?_;obtain⟨x2,F,hK2⟩:=bs F;refine lpE (sX 46 [pf 0 (.str a0),pf 3 (.int .i64 x2)] [] 0) (fun(q:Int)=>(sX 46 [pf 0 (.str a0),pf 3 (.int .i64 q)] [] 0)) (fun k q=>ph a0 k q) x0 (bW []) F (fun k x3 F ih=> ?_) ?_
   ·refine sh ?_;(iterate 2 refine bt ?_);obtain⟨x4,F,hK3⟩:=bs F;refine ctq (sX 46 [pf 0 (.str a0),pf 3 (.int .i64 x3),pf 42 (.bool x4)] [] 0) ?_ ?_
    ·refine rq (et rfl rfl fK rfl rfl) ?_;refine iq F (fun hb5 F=> ?_) fun hb5 F=> ?_
     ·obtain⟨y4,h4,F⟩:=bs F;refine rgn hb5 (fw rfl rfl rfl h4 fK rfl rfl) ?_;exact tl []
     exact tl []
    have F:=hK3;refine cnd F (fun hb6 F=> ?_) fun hb6 F=> ?_
    ·refine ga2 ?_;refine dt ?_;refine ga4 ?_;refine cg ?_;refine piz (sX 46 [pf 0 (.str a0),pf 3 (.int .i64 (ah (x3+1)))] [] 0) [] ?_;refine go ?_;refine gh ?_;exact bv (ih (ah (x3+1)) F) (bW [])
    exact tl []
   have F:=hK2;refine go ?_;refine gh ?_;exact bv (ih x2 F) (bW [])
  exact tl []
 rintro _ ⟨x5,rfl,rfl⟩;have F:=cj hK0;clear hK0;exact tl []
theorem wV {a0:Int} {r:Bool} (F:mU a0=some r):FZ 79 [.int .u8 a0] [.p (.bool r)]:=by
 unfold mU at F;refine cy (n:=17) Tryz.func79 rfl rfl rfl fun w O=> ?_;exact tl []
theorem qP {a0:Int} {r:Bool} (F:mz a0=some r):FZ 81 [.int .u8 a0] [.p (.bool r)]:=by
 unfold mz at F;refine cy (n:=9) Tryz.func81 rfl rfl rfl fun w O=> ?_;exact tl []
theorem Ii  {r:(List (List UInt8))} (F:uG=some r):FZ 110 [] [.p (.vs 1 (map eS r))]:=by
 unfold uG at F;refine fb 2 Tryz.func110 fun w O=> ?_;refine rgp (fe (rows:=map eS ([[99,108,97,115,115],[101,120,116,101,110,100,115],[114,101,112],[112,101,101,114],[119,111,114,108,100],[97,110,121],[117,110,105,113,117,101],[112,117,114,101],[118,111,105,100],[105,110,116],[105,102],[101,108,115,101],[119,104,105,108,101],[114,101,116,117,114,110],[110,101,119],[109,111,118,101],[100,101,108,101,116,101],[116,104,105,115],[110,117,108,108],[105,110,112,117,116],[110,105,108],[115,97,109,101],[99,97,115,116]]:List (List UInt8))) (zs:=[.str []]) rfl rfl gF lg (by exact⟨rfl,trivial⟩) rfl rfl rfl rfl rfl rfl rfl rfl) ?_;exact tl []
theorem Jg {a0:List UInt8} {r:Int} (F:uq a0=some r):FZ 80 [.str a0] [.p (.int .i64 r)]:=by
 unfold uq at F;refine fb 20 Tryz.func80 fun w O=> ?_;obtain⟨y3,h4,F⟩:=bs F;refine rq (clA 0 (Ii h4)) ?_;obtain⟨lr0,F,hK0⟩:=bs F;refine lpG (fun s1=>∃ q,lr0= .next q/\s1=(sX 20 [] [] 0)) (fun(q:Int)=>(sX 20 [pf 0 (.str a0),pf 3 (.vs 1 (map eS y3)),pf 4 (.int .i64 q)] [] 0)) (fun k q=>np a0 y3 k q) 0 (bW []) F (fun k x0 F ih=> ?_) ?_
 ·refine gg ?_;refine cq F (fun hb0 F=> ?_) fun hb0 F=> ?_
  ·obtain⟨y0,h0,F⟩:=bs F;refine gg ?_;refine rq (fu rfl rfl rfl rfl rfl rfl) ?_;refine cnd F (fun hb1 F=> ?_) fun hb1 F=> ?_
   ·refine ga9 ?_;refine aQ ?_;cases F;have F:=bq hK0;exact tl []
   refine gg ?_;exact bv (ih (ah (x0+1)) F) (bW [])
  exact tl []
 rintro _ ⟨⟨⟩,rfl,rfl⟩;have F:=cj hK0;clear hK0;exact tl []
theorem yO {a0:List UInt8} {r:(List UInt8)} (F:rn a0=some r):FZ 86 [.str a0] [.p (.str r)]:=by
 unfold rn at F;refine cy (n:=38) Tryz.func86 rfl rfl rfl fun w O=> ?_;refine ga3 ?_;(iterate 2 refine bt ?_);obtain⟨x7,F,hK9⟩:=bs F;refine ctq (sX 38 [pf 0 (.str a0),pf 17 (.bool x7)] [] 0) ?_ ?_
 ·refine rq (et rfl rfl fK rfl rfl) ?_;refine iq F (fun hb1 F=> ?_) fun hb1 F=> ?_
  ·obtain⟨y2,h3,F⟩:=bs F;refine rgn hb1 (ir (nl:=none) (nh:=(some 2)) rfl rfl rfl rfl fK h3 rfl rfl) ?_;refine rqn hb1 (fu rfl rfl rfl rfl rfl rfl) ?_;refine iq F (fun hb4 F=> ?_) fun hb4 F=> ?_
   ·exact tl []
   obtain⟨y5,h6,F⟩:=bs F;refine rgn hb4 (ir (nl:=none) (nh:=(some 2)) rfl rfl rfl rfl fK h6 rfl rfl) ?_;refine rgn hb4 (fu rfl rfl rfl rfl rfl rfl) ?_;exact tl []
  exact tl []
 have F:=hK9;refine cq F (fun hb0 F=> ?_) fun hb0 F=> ?_
 ·obtain⟨y0,h0,F⟩:=bs F;refine rgp (ir (nl:=none) (nh:=(some 2)) rfl rfl rfl rfl fK h0 rfl rfl) ?_;exact tl []
 obtain⟨lr0,F,hK0⟩:=bs F;refine lpG (fun s1=>∃ q,lr0= .next q/\s1=(sX 38 [] [] 0)) (fun(q:Int)=>(sX 38 [pf 0 (.str a0),pf 3 (.str [123,125,40,41,60,62,44,59,46,61,43,45,42,33]),pf 4 (.int .i64 q)] [] 0)) (fun k q=>pj a0 k q) 0 (bW []) F (fun k x0 F ih=> ?_) ?_
 ·refine sh ?_;(iterate 2 refine bt ?_);obtain⟨x1,F,hK1⟩:=bs F;refine ctq (sX 38 [pf 0 (.str a0),pf 3 (.str [123,125,40,41,60,62,44,59,46,61,43,45,42,33]),pf 4 (.int .i64 x0),pf 27 (.bool x1)] [] 0) ?_ ?_
  ·refine rq (et rfl rfl fK rfl rfl) ?_;refine iq F (fun hb2 F=> ?_) fun hb2 F=> ?_
   ·refine rgn hb2 (fu rfl rfl rfl rfl rfl rfl) ?_;exact tl []
   exact tl []
  have F:=hK1;refine cnd F (fun hb3 F=> ?_) fun hb3 F=> ?_
  ·refine ga2 ?_;refine bt ?_;refine dt ?_;refine bt ?_;refine dH ⟨_,_,_⟩ rfl ?_;refine dd ?_;obtain⟨y1,h1,F⟩:=bs F;refine dk 32 [(30,pS [123,125,40,41,60,62,44,59,46,61,43,45,42,33]),(31,pI x0)] (.pv (.int .u8 (y1.toNat:Int))) (fun m h=>⟨_,fw rfl h.1.1 h.1.2.1 h1 fK rfl rfl,rfl⟩) ?_;refine dgo ?_;obtain⟨y3,h2,F⟩:=bs F;refine dk 34 [(33,pS a0)] (.pv (.int .u8 (y3.toNat:Int))) (fun m h=>⟨_,fw rfl h.1.1 rfl h2 fK rfl rfl,rfl⟩) ?_;refine dd ?_;refine drn ?_;refine piz (sX 38 [pf 0 (.str a0),pf 3 (.str [123,125,40,41,60,62,44,59,46,61,43,45,42,33]),pf 4 (.int .i64 x0),pf 35 (.bool ((y1.toNat:Int)==(y3.toNat:Int)))] [] 0) [] ?_;refine gg ?_;refine cq F (fun hb5 F=> ?_) fun hb5 F=> ?_
   ·obtain⟨y4,h4,F⟩:=bs F;refine rgp (ir (nl:=none) (nh:=(some 1)) rfl rfl rfl rfl fK h4 rfl rfl) ?_;refine ga6 ?_;refine aQ ?_;cases F;have F:=bq hK0;exact tl []
   exact bv (ih (ah (x0+1)) F) (bW [])
  exact tl []
 rintro _ ⟨⟨⟩,rfl,rfl⟩;have F:=cj hK0;clear hK0;exact tl []
theorem Na {a0:List UInt8} {r:az} (F:vC a0=some r):FZ 49 [.str a0] [.p (.agg (ak r))]:=by
 unfold vC at F;refine fb 64 Tryz.func49 fun w O=> ?_;obtain⟨y5,h6,F⟩:=bs F;refine rgp (fw rfl rfl rfl h6 fK rfl rfl) ?_;obtain⟨y7,h8,F⟩:=bs F;refine rq (clA 1 (wV h8)) ?_;refine cq F (fun hb9 F=> ?_) fun hb9 F=> ?_
 ·obtain⟨x0,F,hK0⟩:=bs F;refine lpE (sX 64 [pf 0 (.str a0),(2,some (.lp 0 0)),pf 3 (.int .i64 x0)] [bf 0 70 (ak jz)] 1) (fun(q:Int)=>(sX 64 [pf 0 (.str a0),(2,some (.lp 0 0)),pf 3 (.int .i64 q)] [bf 0 70 (ak jz)] 1)) (fun k q=>qI a0 k q) 0 (bW [0]) F (fun k x1 F ih=> ?_) ?_
  ·refine sh ?_;(iterate 2 refine bt ?_);obtain⟨x2,F,hK1⟩:=bs F;refine ctq (sX 64 [pf 0 (.str a0),(2,some (.lp 0 0)),pf 3 (.int .i64 x1),pf 22 (.bool x2)] [bf 0 70 (ak jz)] 1) ?_ ?_
   ·refine rq (et rfl rfl fK rfl rfl) ?_;refine iq F (fun hb0 F=> ?_) fun hb0 F=> ?_
    ·obtain⟨y0,h0,F⟩:=bs F;refine rgn hb0 (fw rfl rfl rfl h0 fK rfl rfl) ?_;obtain⟨y1,h1,F⟩:=bs F;refine rqn hb0 (clA 1 (wV h1)) ?_;refine iq F (fun hb1 F=> ?_) fun hb1 F=> ?_
     ·exact tl [0]
     obtain⟨y2,h2,F⟩:=bs F;refine rgn hb1 (fw rfl rfl rfl h2 fK rfl rfl) ?_;obtain⟨y3,h3,F⟩:=bs F;refine rgn hb1 (clA 1 (qP h3)) ?_;exact tl [0]
    exact tl [0]
   have F:=hK1;refine cnd F (fun hb2 F=> ?_) fun hb2 F=> ?_
   ·refine ga2 ?_;refine dt ?_;refine ga4 ?_;refine cg ?_;refine piz (sX 64 [pf 0 (.str a0),(2,some (.lp 0 0)),pf 3 (.int .i64 (ah (x1+1)))] [bf 0 70 (ak jz)] 1) [0] ?_;refine go ?_;refine gh ?_;exact bv (ih (ah (x1+1)) F) (bW [0])
   exact tl [0]
  have F:=hK0;refine gg ?_;obtain⟨y4,h4,F⟩:=bs F;refine rgp (ir (nl:=none) (nh:=(some x0)) rfl rfl rfl rfl fK h4 rfl rfl) ?_;obtain⟨y6,h5,F⟩:=bs F;refine rq (clA 1 (Jg h5)) ?_;refine cq F (fun hb3 F=> ?_) fun hb3 F=> ?_
  ·obtain⟨y8,h7,F⟩:=bs F;refine rgp (ir (nl:=none) (nh:=(some x0)) rfl rfl rfl rfl fK h7 rfl rfl) ?_;refine rgp (bd ((ak jz)) (ak (⟨3,y8,0⟩:az)) qy xX) ?_;exact tl []
  obtain⟨y9,h9,F⟩:=bs F;refine rgp (ir (nl:=none) (nh:=(some x0)) rfl rfl rfl rfl fK h9 rfl rfl) ?_;refine rgp (bd ((ak jz)) (ak (⟨1,y9,0⟩:az)) qy xX) ?_;exact tl []
 obtain⟨y10,h10,F⟩:=bs F;refine rgp (fw rfl rfl rfl h10 fK rfl rfl) ?_;obtain⟨y11,h11,F⟩:=bs F;refine rq (clA 1 (qP h11)) ?_;refine cq F (fun hb4 F=> ?_) fun hb4 F=> ?_
 ·obtain⟨x3,F,hK2⟩:=bs F;refine lpE (sX 64 [pf 0 (.str a0),(2,some (.lp 0 0)),pf 3 (.int .i64 x3)] [bf 0 70 (ak jz)] 1) (fun(q:Int)=>(sX 64 [pf 0 (.str a0),(2,some (.lp 0 0)),pf 3 (.int .i64 q)] [bf 0 70 (ak jz)] 1)) (fun k q=>qx a0 k q) 0 (bW [0]) F (fun k x4 F ih=> ?_) ?_
  ·refine sh ?_;(iterate 2 refine bt ?_);obtain⟨x5,F,hK3⟩:=bs F;refine ctq (sX 64 [pf 0 (.str a0),(2,some (.lp 0 0)),pf 3 (.int .i64 x4),pf 50 (.bool x5)] [bf 0 70 (ak jz)] 1) ?_ ?_
   ·refine rq (et rfl rfl fK rfl rfl) ?_;refine iq F (fun hb5 F=> ?_) fun hb5 F=> ?_
    ·obtain⟨y12,h12,F⟩:=bs F;refine rgn hb5 (fw rfl rfl rfl h12 fK rfl rfl) ?_;obtain⟨y13,h13,F⟩:=bs F;refine rgn hb5 (clA 1 (qP h13)) ?_;exact tl [0]
    exact tl [0]
   have F:=hK3;refine cnd F (fun hb6 F=> ?_) fun hb6 F=> ?_
   ·refine ga2 ?_;refine dt ?_;refine ga4 ?_;refine cg ?_;refine piz (sX 64 [pf 0 (.str a0),(2,some (.lp 0 0)),pf 3 (.int .i64 (ah (x4+1)))] [bf 0 70 (ak jz)] 1) [0] ?_;refine go ?_;refine gh ?_;exact bv (ih (ah (x4+1)) F) (bW [0])
   exact tl [0]
  have F:=hK2;refine gg ?_;obtain⟨y14,h14,F⟩:=bs F;refine rgp (ir (nl:=none) (nh:=(some x3)) rfl rfl rfl rfl fK h14 rfl rfl) ?_;refine rgp (bd ((ak jz)) (ak (⟨2,y14,0⟩:az)) qy xX) ?_;exact tl []
 obtain⟨y15,h15,F⟩:=bs F;refine rgp (clA 1 (yO h15)) ?_;refine rq (fu rfl rfl rfl rfl rfl rfl) ?_;refine cq F (fun hb7 F=> ?_) fun hb7 F=> ?_
 ·obtain⟨y16,h16,F⟩:=bs F;refine rgp (clA 1 (yO h16)) ?_;refine rgp (bd ((ak jz)) (ak (⟨4,y16,0⟩:az)) qy xX) ?_;exact tl []
 refine rgp (bd ((ak jz)) (ak jz) qy xX) ?_;exact tl []
theorem wR {a0:List UInt8} {r:Int×Bool} (F:oW a0=some r):FZ 50 [.str a0] [.p (.int .i64 r.1),.p (.bool r.2)]:=by
 unfold oW at F;refine cy (n:=44) Tryz.func50 rfl rfl rfl fun w O=> ?_;refine ga4 ?_;(iterate 2 refine bt ?_);obtain⟨x6,F,hK8⟩:=bs F;refine ctq (sX 44 [pf 0 (.str a0),pf 23 (.bool x6)] [] 0) ?_ ?_
 ·refine rq (et rfl rfl fK rfl rfl) ?_;refine iq F (fun hb1 F=> ?_) fun hb1 F=> ?_
  ·exact tl []
  refine rqn hb1 (et rfl rfl fK rfl rfl) ?_;refine iq F (fun hb2 F=> ?_) fun hb2 F=> ?_
  ·exact tl []
  obtain⟨y3,h4,F⟩:=bs F;refine rqn hb2 (fw rfl rfl rfl h4 fK rfl rfl) ?_;refine iq F (fun hb5 F=> ?_) fun hb5 F=> ?_
  ·refine rgn hb5 (et rfl rfl fK rfl rfl) ?_;exact tl []
  exact tl []
 have F:=hK8;refine cq F (fun hb9 F=> ?_) fun hb9 F=> ?_
 ·exact tl []
 obtain⟨lr0,F,hK0⟩:=bs F;refine lpG (fun s1=>∃ q,lr0= .next q/\s1=(sX 44 [pf 4 (.int .i64 q)] [] 0)) (fun(q:Int×Int)=>(sX 44 [pf 0 (.str a0),pf 4 (.int .i64 q.1),pf 5 (.int .i64 q.2)] [] 0)) (fun k q=>nb a0 k q.1 q.2) (0,0) (bW []) F (fun k ⟨x0,x1⟩ F ih=> ?_) ?_
 ·refine gg ?_;refine rq (et rfl rfl fK rfl rfl) ?_;refine cq F (fun hb0 F=> ?_) fun hb0 F=> ?_
  ·obtain⟨y0,h0,F⟩:=bs F;refine rgp (fw rfl rfl rfl h0 fK rfl rfl) ?_;obtain⟨y1,h1,F⟩:=bs F;refine rq (clA 0 (qP h1)) ?_;refine cnd F (fun hb3 F=> ?_) fun hb3 F=> ?_
   ·refine ga9 ?_;refine aQ ?_;cases F;have F:=bq hK0;exact tl []
   refine gg ?_;obtain⟨y2,h2,F⟩:=bs F;refine rq (fw rfl rfl rfl h2 fK rfl rfl) ?_;refine rgp (wb rfl rfl Nr aaF rfl rfl) ?_;refine ga2 ?_;refine cg ?_;refine piz (sX 44 [pf 0 (.str a0),pf 4 (.int .i64 (ah ((ah (10 * x0))+(ah (yx ((y2.toNat:Int) - 48)))))),pf 5 (.int .i64 x1)] [] 0) [] ?_;refine gg ?_;exact bv (ih (ah ((ah (10 * x0))+(ah (yx ((y2.toNat:Int) - 48)))),ah (x1+1)) F) (bW [])
  exact tl []
 rintro _ ⟨x2,rfl,rfl⟩;have F:=cj hK0;clear hK0;exact tl []
theorem PH {a0:List UInt8} {r:(List az)×dV} (F:tI a0=some r):FZ 26 [.str a0] [.own 70 3 (map ak r.1),.p (.agg (cr r.2))]:=by
 unfold tI at F;refine fb 78 Tryz.func26 fun w O=> ?_;refine rq (et rfl rfl fK rfl rfl) ?_;refine cnd F (fun hb1 F=> ?_) fun hb1 F=> ?_
 ·refine gg ?_;refine rgp (bd ((cr aK)) (cr (⟨6,0⟩:dV)) pb sB) ?_;refine ga5 ?_;refine lk (eh 2 70 3 1 rfl rfl) ?_;cases F;exact jo rfl rfl (.cons _ _ _ _ _ (.tmp _ _ rfl) (.own _ _ _ _ rfl sO) (.cons _ _ _ _ _ (.agg _ _ _ _ _ 2 _ _ rfl rfl jr rfl rfl rfl) (.p _) .nil)) (.inl rfl)
 refine ga4 ?_;refine bG (eh 4 70 3 1 rfl rfl) ?_;refine gg ?_;obtain⟨y4,h5,F⟩:=bs F;refine rq (clA 2 (zb h5)) ?_;obtain⟨lr0,F,hK0⟩:=bs F;refine lpG (fun s1=>∃ q,lr0= .next q/\s1=(sX 78 [pf 0 (.str a0),(3,some (.lp 0 0)),(4,some (.ls 1))] [bf 0 28 (cr aK),(1,some (.row 70 3 (map ak q)))] 2)) (fun(q:(List az)×Int)=>(sX 78 [pf 0 (.str a0),(3,some (.lp 0 0)),(4,some (.ls 1)),pf 5 (.int .i64 q.2)] [bf 0 28 (cr aK),(1,some (.row 70 3 (map ak q.1)))] 2)) (fun k q=>lF a0 k q.1 q.2) ([],y4) (bW [0,1]) F (fun k ⟨x0,x1⟩ F ih=> ?_) ?_
 ·refine gg ?_;refine rq (et rfl rfl fK rfl rfl) ?_;refine cq F (fun hb0 F=> ?_) fun hb0 F=> ?_
  ·obtain⟨y0,h0,F⟩:=bs F;refine rgp (ir (nl:=(some x1)) (nh:=none) rfl rfl rfl rfl fK h0 rfl rfl) ?_;obtain⟨y1,h1,F⟩:=bs F;refine rq (clA 2 (Na h1)) ?_;refine cq F (fun hb2 F=> ?_) fun hb2 F=> ?_
   ·refine rgp (bd ((cr aK)) (cr (⟨1,x1⟩:dV)) pb sB) ?_;refine ga7 ?_;refine aQ ?_;cases F;have F:=bq hK0;refine go ?_;refine lk (eh 2 70 3 3 rfl rfl) ?_;cases F;exact jo rfl rfl (.cons _ _ _ _ _ (.tmp _ _ rfl) (.own _ _ _ _ rfl sO) (.cons _ _ _ _ _ (.agg _ _ _ _ _ 2 _ _ rfl rfl jr rfl rfl rfl) (.p _) .nil)) (.inl rfl)
   obtain⟨y2,h2,F⟩:=bs F;refine rgp (clA 3 (wR h2)) ?_;refine go ?_;(iterate 2 refine rgp (pG rfl rfl rfl rfl rfl) ?_);refine ga3 ?_;(iterate 2 refine bt ?_);obtain⟨x2,F,hK1⟩:=bs F;refine ctq (sX 78 [pf 0 (.str a0),(3,some (.lp 0 0)),(4,some (.ls 1)),pf 5 (.int .i64 x1),(6,some (.lp 2 0)),pf 53 (.bool x2)] [bf 0 28 (cr aK),(1,some (.row 70 3 (map ak x0))),bf 2 70 (ak ({ y1 with fAt:=x1 }:az))] 3) ?_ ?_
   ·refine iq F (fun hb3 F=> ?_) fun hb3 F=> ?_
    ·refine rgn hb3 (et rfl rfl fK rfl rfl) ?_;exact tl [0,1,2]
    exact tl [0,1,2]
   have F:=hK1;refine cq F (fun hb4 F=> ?_) fun hb4 F=> ?_
   ·refine rgp (bd ((cr aK)) (cr (⟨2,x1⟩:dV)) pb sB) ?_;refine ga7 ?_;refine aQ ?_;cases F;have F:=bq hK0;refine go ?_;refine lk (eh 2 70 3 3 rfl rfl) ?_;cases F;exact jo rfl rfl (.cons _ _ _ _ _ (.tmp _ _ rfl) (.own _ _ _ _ rfl sO) (.cons _ _ _ _ _ (.agg _ _ _ _ _ 2 _ _ rfl rfl jr rfl rfl rfl) (.p _) .nil)) (.inl rfl)
   refine rgp (la (ak ({ y1 with fAt:=x1 }:az)) jD) ?_;refine rgp (fe (rows:=map ak ([({ y1 with fAt:=x1 }:az)]:List az)) (zs:=(ak jz)) rfl rfl EA qy (by exact⟨rfl,rfl,rfl,trivial⟩) rfl rfl rfl rfl rfl rfl rfl rfl) ?_;obtain⟨u0,h3,F⟩:=bs F;refine rq (gw 3 rfl rfl rfl rfl rfl EA WX qy rfl rfl rfl (jJ (f:=ak) (g:=ak) h3) (map_append (f:=ak) (l₁:=x0) (l₂:=[({ y1 with fAt:=x1 }:az)])).symm rfl rfl) ?_;refine rq (et rfl rfl fK rfl rfl) ?_;obtain⟨y3,h4,F⟩:=bs F;refine rgp (ir (nl:=(some (ah (x1+((({ y1 with fAt:=x1 }:az).bz).length:Int))))) (nh:=none) rfl rfl rfl rfl fK h4 rfl rfl) ?_;obtain⟨y5,h6,F⟩:=bs F;refine rgp (clA 4 (zb h6)) ?_;refine ga2 ?_;refine cg ?_;refine piz (sX 78 [pf 0 (.str a0),(3,some (.lp 0 0)),(4,some (.ls 1)),pf 5 (.int .i64 (ah ((ah (x1+((({ y1 with fAt:=x1 }:az).bz).length:Int)))+y5)))] [bf 0 28 (cr aK),(1,some (.row 70 3 (map ak (x0++[({ y1 with fAt:=x1 }:az)]))))] 2) [0,3] ?_;refine go ?_;refine gh ?_;exact bv (ih ((x0++[({ y1 with fAt:=x1 }:az)]),ah ((ah (x1+((({ y1 with fAt:=x1 }:az).bz).length:Int)))+y5)) F) (bW [0,1])
  exact tl [0,1]
 rintro _ ⟨x3,rfl,rfl⟩;have F:=cj hK0;clear hK0;refine gg ?_;refine rgp (et rfl rfl fK rfl rfl) ?_;refine rgp (bd ((ak jz)) (ak (⟨0,[],(a0.length:Int)⟩:az)) qy xX) ?_;refine rgp (fe (rows:=map ak ([(⟨0,[],(a0.length:Int)⟩:az)]:List az)) (zs:=(ak jz)) rfl rfl EA qy (by exact⟨rfl,rfl,rfl,trivial⟩) rfl rfl rfl rfl rfl rfl rfl rfl) ?_;obtain⟨u1,h7,F⟩:=bs F;refine rgp (gw 2 rfl rfl rfl rfl rfl EA WX qy rfl rfl rfl (jJ (f:=ak) (g:=ak) h7) (map_append (f:=ak) (l₁:=x3) (l₂:=[(⟨0,[],(a0.length:Int)⟩:az)])).symm rfl rfl) ?_;refine rq (bd ((cr aK)) (cr aK) pb sB) ?_;cases F;exact jo rfl rfl (.cons _ _ _ _ _ (.tmp _ _ rfl) (.own _ _ _ _ rfl sO) (.cons _ _ _ _ _ (.agg _ _ _ _ _ 2 _ _ rfl rfl jr rfl rfl rfl) (.p _) .nil)) (.inl rfl)
theorem dj {a0:List az} {a1:Int} {r:az} (F:dl a0 a1=some r):FZ 51 [.vs 3 (map ak a0),.int .i64 a1] [.p (.agg (ak r))]:=by
 unfold dl at F;refine cy (n:=29) Tryz.func51 rfl rfl rfl fun w O=> ?_;refine ga3 ?_;(iterate 2 refine bt ?_);obtain⟨x2,F,hK4⟩:=bs F;refine ctq (sX 29 [pf 0 (.vs 3 (map ak a0)),pf 1 (.int .i64 a1),(4,some (.lp 0 0)),pf 12 (.bool x2)] [bf 0 70 (ak jz)] 1) ?_ ?_
 ·exact tl [0]
 have F:=hK4;refine cnd F (fun hb5 F=> ?_) fun hb5 F=> ?_
 ·refine ga3 ?_;obtain⟨y6,h7,F⟩:=bs F;exact tl []
 refine gg ?_;refine cq F (fun hb8 F=> ?_) fun hb8 F=> ?_
 ·refine rgp (bd ((ak jz)) (ak jz) qy xX) ?_;exact tl []
 obtain⟨y9,h0,F⟩:=bs F;refine gg ?_;refine rgp (bd ((ak jz)) (ak (⟨0,[],y9.fAt⟩:az)) qy xX) ?_;exact tl []
theorem gk {a0:List az} {a1:Int} {r:az} (F:gQ a0 a1=some r):FZ 27 [.vs 3 (map ak a0),.int .i64 a1] [.p (.agg (ak r))]:=by
 unfold gQ at F;refine fb 8 Tryz.func27 fun w O=> ?_;obtain⟨y1,h2,F⟩:=bs F;refine rgp (clA 1 (dj h2)) ?_;exact tl []
theorem di {a0:az} {a1:List UInt8} {r:Bool} (F:dJ a0 a1=some r):FZ 52 [.agg (ak a0),.str a1] [.p (.bool r)]:=by
 unfold dJ at F;refine fb 19 Tryz.func52 fun w O=> ?_;refine iq F (fun hb1 F=> ?_) fun hb1 F=> ?_
 ·refine rgn rfl (fu rfl rfl rfl rfl rfl rfl) ?_;exact tl []
 refine iq F (fun hb2 F=> ?_) fun hb2 F=> ?_
 ·refine rgn hb2 (fu rfl rfl rfl rfl rfl rfl) ?_;exact tl []
 exact tl []
theorem ff {a0:List az} {a1:Int} {a2:List UInt8} {r:Bool} (F:fG a0 a1 a2=some r):FZ 28 [.vs 3 (map ak a0),.int .i64 a1,.str a2] [.p (.bool r)]:=by
 unfold fG at F;refine fb 12 Tryz.func28 fun w O=> ?_;obtain⟨y1,h2,F⟩:=bs F;refine rq (clA 0 (dj h2)) ?_;obtain⟨y3,h4,F⟩:=bs F;refine rgp (clA 0 (di h4)) ?_;exact tl []
theorem nK {a0:Int} {a1:List az} {a2:Int} {r:ba} (F:dv a0 a1 a2=some r):FZ 53 [.int .i64 a0,.vs 3 (map ak a1),.int .i64 a2] [.p (.agg (bN r))]:=by
 unfold dv at F;refine fb 14 Tryz.func53 fun w O=> ?_;obtain⟨y1,h2,F⟩:=bs F;refine rgp (clA 1 (gk h2)) ?_;refine rgp (dC rfl rfl nP kf rfl rfl rfl) ?_;refine rgp (bd ((cr aK)) (cr (⟨a0,y1.fAt⟩:dV)) pb sB) ?_;refine rgp (bd ((bN zGGot_ref09)) (bN (⟨zGClass,zGMethod,[],[],0,(⟨a0,y1.fAt⟩:dV)⟩:ba)) kj nY) ?_;exact tl []
theorem Gx {a0:List az} {a1:Int} {r:ba} (F:mE a0 a1=some r):FZ 54 [.vs 3 (map ak a0),.int .i64 a1] [.p (.agg (bN r))]:=by
 unfold mE at F;refine cy (n:=45) Tryz.func54 rfl rfl rfl fun w O=> ?_;refine ga5 ?_;refine bG (eh 5 9 1 1 rfl rfl) ?_;refine gg ?_;obtain⟨lr0,F,hK0⟩:=bs F;refine lpG (fun _=>False) (fun(q:Int×(List (List UInt8)))=>(sX 45 [pf 0 (.vs 3 (map ak a0)),pf 1 (.int .i64 q.1),(4,some (.lp 0 0)),(5,some (.ls 1))] [bf 0 74 (bN zGGot_ref09),(1,some (.row 9 1 (map eS q.2)))] 2)) (fun k q=>jE a0 k q.1 q.2) (a1,[]) (bW [0,1]) F (fun k ⟨x0,x1⟩ F ih=> ?_) ?_
 ·refine gg ?_;obtain⟨y0,h0,F⟩:=bs F;refine rgp (clA 2 (gk h0)) ?_;refine rq (dC rfl rfl qQ kf rfl rfl rfl) ?_;refine cq F (fun hb0 F=> ?_) fun hb0 F=> ?_
  ·obtain⟨y1,h1,F⟩:=bs F;refine rgp (clA 2 (nK h1)) ?_;refine ga6 ?_;refine aQ ?_;cases F;have F:=bq hK0;exact tl []
  refine rq (jR rfl rfl rfl (length_map ..) gF rfl rfl) ?_;refine cq F (fun hb1 F=> ?_) fun hb1 F=> ?_
  ·obtain⟨y2,h2,F⟩:=bs F;refine rgp (clA 2 (nK h2)) ?_;refine ga6 ?_;refine aQ ?_;cases F;have F:=bq hK0;exact tl []
  obtain⟨y3,h3,F⟩:=bs F;refine rgp (clA 2 (gk h3)) ?_;refine rgp (dC rfl rfl se AP rfl rfl rfl) ?_;refine rgp (fe (rows:=map eS ([y3.bz]:List (List UInt8))) (zs:=[.str []]) rfl rfl gF lg (by exact⟨rfl,trivial⟩) rfl rfl rfl rfl rfl rfl rfl rfl) ?_;obtain⟨u0,h4,F⟩:=bs F;refine rq (gw 2 rfl rfl rfl rfl rfl gF OO lg rfl rfl rfl (jJ (f:=eS) (g:=eS) h4) (map_append (f:=eS) (l₁:=x1) (l₂:=[y3.bz])).symm rfl rfl) ?_;obtain⟨y4,h5,F⟩:=bs F;refine rq (clA 3 (ff h5)) ?_;refine cnd F (fun hb2 F=> ?_) fun hb2 F=> ?_
  ·refine ga4 ?_;refine bG (iu [(2,some (.row 9 1 (map eS (x1++[y3.bz]))))] [(5,some (.pv (.vs 1 (map eS (x1++[y3.bz]))))),(34,some (.pv (.vs 1 (map eS (x1++[y3.bz])))))] (FzH.spec ⟨rfl,trivial⟩) ⟨⟨_,rfl,rfl⟩,⟨_,rfl,rfl⟩,trivial⟩) ?_;refine rgp (bd ((bN zGGot_ref09)) (bN (⟨zGClass,zGMethod,[],(x1++[y3.bz]),ah ((ah ((ah (x0+1))+1))+1),aK⟩:ba)) kj nY) ?_;refine ga6 ?_;refine aQ ?_;cases F;have F:=bq hK0;exact tl []
  refine gg ?_;obtain⟨y5,h6,F⟩:=bs F;refine rq (clA 3 (ff h6)) ?_;refine cnd F (fun hb3 F=> ?_) fun hb3 F=> ?_
  ·refine gg ?_;obtain⟨y6,h7,F⟩:=bs F;refine rgp (clA 3 (nK h7)) ?_;refine ga5 ?_;refine aQ ?_;cases F;have F:=bq hK0;exact tl []
  refine ga2 ?_;refine gh ?_;exact bv (ih (ah ((ah (x0+1))+1),(x1++[y3.bz])) F) (bW [0,2])
 intro _ h;exact h.elim
theorem eK {a0:Int} {a1:List az} {a2:Int} {r:ba} (F:dv a0 a1 a2=some r):Abs.FnW dY Tryz.prog 53 [pI a0,.pv (.vs 3 (map ak a1)),pI a2] [] 0 [] [.agg [pS zGGot_ref09.fC.ai,.pv (.vs 1 (map eS zGGot_ref09.fC.ac)),pS zGGot_ref09.fC.aU,.pv (.vs 2 (map ax zGGot_ref09.fC.aH)),.pv .nils,.pv .nils,pI zGGot_ref09.fC.fAt,pS zGGot_ref09.fM.ai,pB zGGot_ref09.fM.co,pI zGGot_ref09.fM.af.aa,pS zGGot_ref09.fM.af.aM,pI zGGot_ref09.fM.af.fN,pI zGGot_ref09.fM.af.ae.a0.aa,pI zGGot_ref09.fM.af.ae.a0.fN,pI zGGot_ref09.fM.af.ae.a1.aa,pI zGGot_ref09.fM.af.ae.a1.fN,pI zGGot_ref09.fM.af.ae.a2.aa,pI zGGot_ref09.fM.af.ae.a2.fN,pI zGGot_ref09.fM.af.ae.a3.aa,pI zGGot_ref09.fM.af.ae.a3.fN,.pv (.vs 13 (map aj zGGot_ref09.fM.ac)),.pv (.vs 13 (map aj zGGot_ref09.fM.aP)),.pv .nils,pI zGGot_ref09.fM.fAt,.pv (.vs 13 (map aj zGGot_ref09.fV)),.pv (.vs 1 (map eS zGGot_ref09.fN)),pI zGGot_ref09.aq,pI r.fF.bL,pI r.fF.fAt]] [(0,some (.box 74 [pS zGGot_ref09.fC.ai,.pv (.vs 1 (map eS zGGot_ref09.fC.ac)),pS zGGot_ref09.fC.aU,.pv (.vs 2 (map ax zGGot_ref09.fC.aH)),.pv .nils,.pv .nils,pI zGGot_ref09.fC.fAt,pS zGGot_ref09.fM.ai,pB zGGot_ref09.fM.co,pI zGGot_ref09.fM.af.aa,pS zGGot_ref09.fM.af.aM,pI zGGot_ref09.fM.af.fN,pI zGGot_ref09.fM.af.ae.a0.aa,pI zGGot_ref09.fM.af.ae.a0.fN,pI zGGot_ref09.fM.af.ae.a1.aa,pI zGGot_ref09.fM.af.ae.a1.fN,pI zGGot_ref09.fM.af.ae.a2.aa,pI zGGot_ref09.fM.af.ae.a2.fN,pI zGGot_ref09.fM.af.ae.a3.aa,pI zGGot_ref09.fM.af.ae.a3.fN,.pv (.vs 13 (map aj zGGot_ref09.fM.ac)),.pv (.vs 13 (map aj zGGot_ref09.fM.aP)),.pv .nils,pI zGGot_ref09.fM.fAt,.pv (.vs 13 (map aj zGGot_ref09.fV)),.pv (.vs 1 (map eS zGGot_ref09.fN)),pI zGGot_ref09.aq,pI r.fF.bL,pI r.fF.fAt]))] 1:=by
 unfold dv at F;refine gH (n:=14) (m:=0) [] Tryz.func53 rfl rfl rfl ?_;intro c w O θ hcx;refine gg ?_;obtain⟨y1,h2,F⟩:=bs F;refine rgp (clA 1 (gk h2)) ?_;refine rgp (dC rfl rfl nP kf rfl rfl rfl) ?_;refine rgp (bd ((cr aK)) (cr (⟨a0,y1.fAt⟩:dV)) pb sB) ?_;refine rgp (ic (zs:=[.str zGGot_ref09.fC.ai,.vs 1 (map eS zGGot_ref09.fC.ac),.str zGGot_ref09.fC.aU,.vs 2 (map ax zGGot_ref09.fC.aH),.nils,.nils,.int .i64 zGGot_ref09.fC.fAt,.str zGGot_ref09.fM.ai,.bool zGGot_ref09.fM.co,.int .i64 zGGot_ref09.fM.af.aa,.str zGGot_ref09.fM.af.aM,.int .i64 zGGot_ref09.fM.af.fN,.int .i64 zGGot_ref09.fM.af.ae.a0.aa,.int .i64 zGGot_ref09.fM.af.ae.a0.fN,.int .i64 zGGot_ref09.fM.af.ae.a1.aa,.int .i64 zGGot_ref09.fM.af.ae.a1.fN,.int .i64 zGGot_ref09.fM.af.ae.a2.aa,.int .i64 zGGot_ref09.fM.af.ae.a2.fN,.int .i64 zGGot_ref09.fM.af.ae.a3.aa,.int .i64 zGGot_ref09.fM.af.ae.a3.fN,.vs 13 (map aj zGGot_ref09.fM.ac),.vs 13 (map aj zGGot_ref09.fM.aP),.nils,.int .i64 zGGot_ref09.fM.fAt,.vs 13 (map aj zGGot_ref09.fV),.vs 1 (map eS zGGot_ref09.fN),.int .i64 zGGot_ref09.aq,.int .i64 zGGot_ref09.fF.bL,.int .i64 zGGot_ref09.fF.fAt]) (r:=[pS zGGot_ref09.fC.ai,.pv (.vs 1 (map eS zGGot_ref09.fC.ac)),pS zGGot_ref09.fC.aU,.pv (.vs 2 (map ax zGGot_ref09.fC.aH)),.pv .nils,.pv .nils,pI zGGot_ref09.fC.fAt,pS zGGot_ref09.fM.ai,pB zGGot_ref09.fM.co,pI zGGot_ref09.fM.af.aa,pS zGGot_ref09.fM.af.aM,pI zGGot_ref09.fM.af.fN,pI zGGot_ref09.fM.af.ae.a0.aa,pI zGGot_ref09.fM.af.ae.a0.fN,pI zGGot_ref09.fM.af.ae.a1.aa,pI zGGot_ref09.fM.af.ae.a1.fN,pI zGGot_ref09.fM.af.ae.a2.aa,pI zGGot_ref09.fM.af.ae.a2.fN,pI zGGot_ref09.fM.af.ae.a3.aa,pI zGGot_ref09.fM.af.ae.a3.fN,.pv (.vs 13 (map aj zGGot_ref09.fM.ac)),.pv (.vs 13 (map aj zGGot_ref09.fM.aP)),.pv .nils,pI zGGot_ref09.fM.fAt,.pv (.vs 13 (map aj zGGot_ref09.fV)),.pv (.vs 1 (map eS zGGot_ref09.fN)),pI zGGot_ref09.aq,pI ((⟨a0,y1.fAt⟩:dV).bL),pI ((⟨a0,y1.fAt⟩:dV).fAt)]) rfl kj (by exact⟨rfl,trivial,rfl,trivial,rfl,rfl,rfl,rfl,rfl,rfl,rfl,rfl,rfl,rfl,rfl,rfl,rfl,rfl,rfl,rfl,trivial,trivial,rfl,rfl,trivial,trivial,rfl,rfl,rfl,trivial⟩) nY rfl rfl rfl rfl) ?_;refine ga3 ?_
 refine piz (sX 14 [(6,some (.lp 0 0))] [(0,some (.box 74 [pS zGGot_ref09.fC.ai,.pv (.vs 1 (map eS zGGot_ref09.fC.ac)),pS zGGot_ref09.fC.aU,.pv (.vs 2 (map ax zGGot_ref09.fC.aH)),.pv .nils,.pv .nils,pI zGGot_ref09.fC.fAt,pS zGGot_ref09.fM.ai,pB zGGot_ref09.fM.co,pI zGGot_ref09.fM.af.aa,pS zGGot_ref09.fM.af.aM,pI zGGot_ref09.fM.af.fN,pI zGGot_ref09.fM.af.ae.a0.aa,pI zGGot_ref09.fM.af.ae.a0.fN,pI zGGot_ref09.fM.af.ae.a1.aa,pI zGGot_ref09.fM.af.ae.a1.fN,pI zGGot_ref09.fM.af.ae.a2.aa,pI zGGot_ref09.fM.af.ae.a2.fN,pI zGGot_ref09.fM.af.ae.a3.aa,pI zGGot_ref09.fM.af.ae.a3.fN,.pv (.vs 13 (map aj zGGot_ref09.fM.ac)),.pv (.vs 13 (map aj zGGot_ref09.fM.aP)),.pv .nils,pI zGGot_ref09.fM.fAt,.pv (.vs 13 (map aj zGGot_ref09.fV)),.pv (.vs 1 (map eS zGGot_ref09.fN)),pI zGGot_ref09.aq,pI ((⟨a0,y1.fAt⟩:dV).bL),pI ((⟨a0,y1.fAt⟩:dV).fAt)]))] 1) [0] ?_;cases F;exact cY hcx rfl (.cons _ _ _ _ (.aggM _ _ _ _ _ 29 _ _ rfl rfl fJ rfl rfl) .nil) rfl (.inl rfl)
theorem iV {a0:Int} {a1:List az} {a2:Int} {r:ce} (F:gD a0 a1 a2=some r):FZ 113 [.int .i64 a0,.vs 3 (map ak a1),.int .i64 a2] [.p (.agg (br r))]:=by
 unfold gD at F;refine fb 14 Tryz.func113 fun w O=> ?_;obtain⟨y1,h2,F⟩:=bs F;refine rgp (clA 1 (dj h2)) ?_;refine rgp (dC rfl rfl nP kf rfl rfl rfl) ?_;refine rgp (bd ((cr aK)) (cr (⟨a0,y1.fAt⟩:dV)) pb sB) ?_;refine rgp (bd ((br dB)) (br (⟨[],cA,nF,0,(⟨a0,y1.fAt⟩:dV)⟩:ce)) mP wi) ?_;exact tl []
theorem ry {a0:az} {r:aF} (F:iv a0=some r):FZ 114 [.agg (ak a0)] [.p (.agg (ax r))]:=by
 unfold iv at F;refine fb 29 Tryz.func114 fun w O=> ?_;refine rq (fe (rows:=map eS ([[114,101,112],[112,101,101,114],[],[119,111,114,108,100],[97,110,121],[117,110,105,113,117,101]]:List (List UInt8))) (zs:=[.str []]) rfl rfl gF lg (by exact⟨rfl,trivial⟩) rfl rfl rfl rfl rfl rfl rfl rfl) ?_;obtain⟨lr0,F,hK0⟩:=bs F;refine lpG (fun s1=>∃ q,lr0= .next q/\s1=(sX 29 [(2,some (.lp 0 0))] [bf 0 42 (ax av)] 1)) (fun(q:Int)=>(sX 29 [(1,some (.lp 0 0)),(2,some (.lp 1 0)),pf 3 (.vs 1 (map eS [[114,101,112],[112,101,101,114],[],[119,111,114,108,100],[97,110,121],[117,110,105,113,117,101]])),pf 4 (.int .i64 q)] [bf 0 70 (ak a0),bf 1 42 (ax av)] 2)) (fun k q=>ku a0 k q) 0 (bW [0,1]) F (fun k x0 F ih=> ?_) ?_
 ·refine gg ?_;refine cnd F (fun hb0 F=> ?_) fun hb0 F=> ?_
  ·refine ga2 ?_;refine bt ?_;refine dt ?_;refine bt ?_;obtain⟨x1,F,hK1⟩:=bs F;refine ctx (sX 29 [(1,some (.lp 0 0)),(2,some (.lp 1 0)),pf 3 (.vs 1 (map eS [[114,101,112],[112,101,101,114],[],[119,111,114,108,100],[97,110,121],[117,110,105,113,117,101]])),pf 4 (.int .i64 x0),pf 24 (.bool x1)] [bf 0 70 (ak a0),bf 1 42 (ax av)] 2) ?_ ?_
   ·refine dH ⟨_,_,_⟩ rfl ?_;refine cB { need:=[(1,.lp 0 0)],hneed:=[(0,.box 70 (bxv (ak a0)))],dst:=some 12,val:=some (.pv (.agg (ak a0))) } (fun m h=>cC (ca rfl) (eW (ps:=ak a0) rfl h.1.1 h.2.1.1 rfl rfl rfl jD rfl rfl) rfl) ⟨⟨rfl,trivial⟩,⟨rfl,trivial⟩,trivial⟩ ?_;refine dd ?_;obtain⟨y0,h0,F⟩:=bs F;refine dd ?_;obtain⟨y1,h1,F⟩:=bs F;refine dk 17 [(16,pS y0),(12,.pv (.agg (ak a0)))] (pB y1) (fun m h=>⟨_,eg 2 rfl (caps:=[]) (args:=[.agg (ak a0),.str y0]) (rs:=[.p (.bool y1)]) rfl rfl (bw h.1.2.1 (bw h.1.1 en)) Vn (di h1) rfl rfl rfl,rfl⟩) ?_;refine dgo ?_;rcases ie F with⟨hb1,F⟩ | ⟨hb1,F⟩
    ·refine dkg hb1 19 [(3,.pv (.vs 1 (map eS [[114,101,112],[112,101,101,114],[],[119,111,114,108,100],[97,110,121],[117,110,105,113,117,101]])))] (.pv (.vs 1 (map eS [[114,101,112],[112,101,101,114],[],[119,111,114,108,100],[97,110,121],[117,110,105,113,117,101]]))) (fun m h=>⟨_,iU rfl h.1.2.1 rfl rfl,rfl⟩) ?_;refine dkg hb1 20 [(4,pI x0)] (pI x0) (fun m h=>⟨_,iU rfl h.1.2.1 rfl rfl,rfl⟩) ?_;obtain⟨y2,h2,F⟩:=bs F;refine dkg hb1 21 [(19,.pv (.vs 1 (map eS [[114,101,112],[112,101,101,114],[],[119,111,114,108,100],[97,110,121],[117,110,105,113,117,101]]))),(20,pI x0)] (.pv (.vp (eS y2))) (fun m h=>⟨_,gd (k:= .i64) rfl h.1.2.1 h.1.2.2.1 (nB eS h2) gF rfl rfl,rfl⟩) ?_;refine dd ?_;refine dkg hb1 23 [(22,pS y2)] (pB (!(y2==[]))) (fun m h=>⟨_,fu rfl h.1.2.1 rfl rfl rfl rfl,rfl⟩) ?_;exact tm [0,1]
    exact tm [0,1]
   have F:=hK1;refine gg ?_;refine cq F (fun hb2 F=> ?_) fun hb2 F=> ?_
   ·refine rgp (bd ((ax av)) (ax (⟨ah (x0+1),0⟩:aF)) wh Bt) ?_;refine ga6 ?_;refine aQ ?_;cases F;have F:=bq hK0;exact tl []
   exact bv (ih (ah (x0+1)) F) (bW [0,1])
  exact tl [1]
 rintro _ ⟨⟨⟩,rfl,rfl⟩;have F:=cj hK0;clear hK0;refine gg ?_;refine rgp (bd ((ax av)) (ax av) wh Bt) ?_;exact tl []
theorem Iw {a0:List UInt8} {a1:List (List UInt8)} {r:Int} (F:uv a0 a1=some r):FZ 143 [.str a0,.vs 1 (map eS a1)] [.p (.int .i64 r)]:=by
 unfold uv at F;refine fb 20 Tryz.func143 fun w O=> ?_;obtain⟨lr0,F,hK0⟩:=bs F;refine lpG (fun s1=>∃ q,lr0= .next q/\s1=(sX 20 [] [] 0)) (fun(q:Int)=>(sX 20 [pf 0 (.str a0),pf 1 (.vs 1 (map eS a1)),pf 5 (.int .i64 q)] [] 0)) (fun k q=>lU a0 a1 k q) 0 (bW []) F (fun k x7 F ih=> ?_) ?_
 ·refine gg ?_;refine cq F (fun hb0 F=> ?_) fun hb0 F=> ?_
  ·obtain⟨y0,h0,F⟩:=bs F;refine gg ?_;refine rq (fu rfl rfl rfl rfl rfl rfl) ?_;refine cnd F (fun hb1 F=> ?_) fun hb1 F=> ?_
   ·refine ga9 ?_;refine aQ ?_;cases F;have F:=bq hK0;exact tl []
   refine gg ?_;exact bv (ih (ah (x7+1)) F) (bW [])
  exact tl []
 rintro _ ⟨⟨⟩,rfl,rfl⟩;have F:=cj hK0;clear hK0;exact tl []
theorem xF {a0:az} {a1:List (List UInt8)} {r:aF} (F:jG a0 a1=some r):FZ 115 [.agg (ak a0),.vs 1 (map eS a1)] [.p (.agg (ax r))]:=by
 unfold jG at F;refine fb 15 Tryz.func115 fun w O=> ?_;obtain⟨y3,h4,F⟩:=bs F;refine rq (clA 2 (Iw h4)) ?_;refine cq F (fun hb5 F=> ?_) fun hb5 F=> ?_
 ·refine rgp (bd ((ax av)) (ax av) wh Bt) ?_;exact tl []
 refine rgp (bd ((ax av)) (ax (⟨3,y3⟩:aF)) wh Bt) ?_;exact tl []
theorem wU {a0:List az} {a1:Int} {a2:List (List UInt8)} {r:ce} (F:lm a0 a1 a2=some r):FZ 87 [.vs 3 (map ak a0),.int .i64 a1,.vs 1 (map eS a2)] [.p (.agg (br r))]:=by
 unfold lm at F;refine fb 76 Tryz.func87 fun w O=> ?_;obtain⟨y5,h6,F⟩:=bs F;refine rgp (clA 1 (dj h6)) ?_;obtain⟨y7,h8,F⟩:=bs F;refine rq (clA 1 (di h8)) ?_;refine cnd F (fun hb9 F=> ?_) fun hb9 F=> ?_
 ·refine gg ?_;obtain⟨y0,h0,F⟩:=bs F;refine rgp (clA 1 (iV h0)) ?_;exact tl []
 refine ga4 ?_;refine bG (eh 7 42 2 1 rfl rfl) ?_;refine gg ?_;obtain⟨lr0,F,hK0⟩:=bs F;refine lpG (fun _=>False) (fun(q:Int×(List aF))=>(sX 76 [pf 0 (.vs 3 (map ak a0)),pf 1 (.int .i64 q.1),pf 2 (.vs 1 (map eS a2)),(6,some (.lp 0 0)),(7,some (.ls 1))] [bf 0 126 (br dB),(1,some (.row 42 2 (map ax q.2)))] 2)) (fun k q=>kc a0 a2 k q.1 q.2) (a1,[]) (bW [0,1]) F (fun k ⟨x0,x1⟩ F ih=> ?_) ?_
 ·refine gg ?_;obtain⟨y1,h1,F⟩:=bs F;refine rq (clA 2 (dj h1)) ?_;refine rgp (la (ak y1) jD) ?_;obtain⟨y2,h2,F⟩:=bs F;refine rgp (clA 3 (ry h2)) ?_;refine ga3 ?_;refine bt ?_;refine qj F (fun q=>(sX 76 [pf 0 (.vs 3 (map ak a0)),pf 1 (.int .i64 (ah (x0+1))),pf 2 (.vs 1 (map eS a2)),(6,some (.lp 0 0)),(7,some (.ls 1)),(9,some (.lp 2 0))] [bf 0 126 (br dB),(1,some (.row 42 2 (map ax x1))),bf 2 42 (ax q)] 3)) ?_ ?_
  ·refine ga5 ?_;rcases gU F with⟨hb0,F⟩ | ⟨hb0,F⟩
   ·refine de rfl hb0 ?_;refine gg ?_;refine rgp (la (ak y1) jD) ?_;refine go ?_;obtain⟨y3,h3,F⟩:=gz F;refine rgp (clA 4 (xF h3)) ?_;refine ga7 ?_;rcases gU F with⟨hb1,F⟩ | ⟨hb1,F⟩
    ·refine de rfl hb1 ?_;refine ga3 ?_;obtain⟨y4,h4,F⟩:=gz F;refine rgp (clA 4 (iV h4)) ?_;refine ga3 ?_;refine dZ ?_
     replace F:=jS F
     refine ga3 ?_;refine aQ ?_;cases F;have F:=bq hK0;exact tl []
    refine dc rfl hb1 ?_;refine go ?_;exact eA _ ⟨y3,rfl,F⟩ (bW [0,1,3])
   refine dc rfl hb0 ?_;refine go ?_;exact eA _ ⟨y2,rfl,F⟩ (bW [0,1,3])
  rintro x2 F;refine go ?_;(iterate 2 refine bt ?_);obtain⟨x3,F,hK1⟩:=bs F;refine ctq (sX 76 [pf 0 (.vs 3 (map ak a0)),pf 1 (.int .i64 (ah (x0+1))),pf 2 (.vs 1 (map eS a2)),(6,some (.lp 0 0)),(7,some (.ls 1)),(9,some (.lp 2 0)),pf 44 (.bool x3)] [bf 0 126 (br dB),(1,some (.row 42 2 (map ax x1))),bf 2 42 (ax x2)] 3) ?_ ?_
  ·exact tl [0,1,2]
  have F:=hK1;refine cq F (fun hb2 F=> ?_) fun hb2 F=> ?_
  ·obtain⟨y6,h5,F⟩:=bs F;refine rgp (clA 3 (iV h5)) ?_;refine ga6 ?_;refine aQ ?_;cases F;have F:=bq hK0;exact tl []
  refine rq (jR rfl rfl rfl (length_map ..) GW rfl rfl) ?_;refine cq F (fun hb3 F=> ?_) fun hb3 F=> ?_
  ·obtain⟨y8,h7,F⟩:=bs F;refine rgp (clA 3 (iV h7)) ?_;refine ga6 ?_;refine aQ ?_;cases F;have F:=bq hK0;exact tl []
  refine rgp (la (ax x2) uR) ?_;refine rgp (fe (rows:=map ax ([x2]:List aF)) (zs:=(ax av)) rfl rfl GW wh (by exact⟨rfl,rfl,trivial⟩) rfl rfl rfl rfl rfl rfl rfl rfl) ?_;obtain⟨u0,h9,F⟩:=bs F;refine rq (gw 3 rfl rfl rfl rfl rfl GW acl wh rfl rfl rfl (jJ (f:=ax) (g:=ax) h9) (map_append (f:=ax) (l₁:=x1) (l₂:=[x2])).symm rfl rfl) ?_;obtain⟨y9,h10,F⟩:=bs F;refine rgp (clA 4 (dj h10)) ?_;obtain⟨y11,h12,F⟩:=bs F;refine rq (clA 4 (di h12)) ?_;refine cnd F (fun hb4 F=> ?_) fun hb4 F=> ?_
  ·refine ga4 ?_;refine bG (iu [(3,some (.row 42 2 (map ax (x1++[x2]))))] [(7,some (.pv (.vs 2 (map ax (x1++[x2]))))),(64,some (.pv (.vs 2 (map ax (x1++[x2])))))] (FzH.spec ⟨rfl,trivial⟩) ⟨⟨_,rfl,rfl⟩,⟨_,rfl,rfl⟩,trivial⟩) ?_;refine rgp (bd ((br dB)) (br (⟨(x1++[x2]),cA,nF,ah ((ah ((ah (x0+1))+1))+1),aK⟩:ce)) mP wi) ?_;refine ga6 ?_;refine aQ ?_;cases F;have F:=bq hK0;exact tl []
  refine gg ?_;obtain⟨y12,h13,F⟩:=bs F;refine rgp (clA 4 (dj h13)) ?_;obtain⟨y13,h14,F⟩:=bs F;refine rq (clA 4 (di h14)) ?_;refine cnd F (fun hb5 F=> ?_) fun hb5 F=> ?_
  ·refine gg ?_;obtain⟨y14,h15,F⟩:=bs F;refine rgp (clA 4 (iV h15)) ?_;refine ga5 ?_;refine aQ ?_;cases F;have F:=bq hK0;exact tl []
  refine ga2 ?_;refine gh ?_;exact bv (ih (ah ((ah (x0+1))+1),(x1++[x2])) F) (bW [0,3])
 intro _ h;exact h.elim
theorem EH {a0:List az} {a1:Int} {a2_0:List UInt8} {a2_1:List (List UInt8)} {a2_2:List UInt8} {a2_3:List aF} {a2_6:Int} {b0:List dr} {b1:List bM} {r:ba} (F:oq a0 a1 a2_0 a2_1 a2_2 a2_3 a2_6 b0 b1=some r):Abs.FnW dY Tryz.prog 55 [.pv (.vs 3 (map ak a0)),pI a1,.agg [pS a2_0,.pv (.vs 1 (map eS a2_1)),pS a2_2,.pv (.vs 2 (map ax a2_3)),.ls 0,.ls 1,pI a2_6]] [(0,some (.row 80 13 (map aj b0))),(1,some (.row 48 17 (map bg b1)))] 2 [] [.agg [pS r.fC.ai,.pv (.vs 1 (map eS r.fC.ac)),pS r.fC.aU,.pv (.vs 2 (map ax r.fC.aH)),.ls 1,.ls 2,pI r.fC.fAt,pS r.fM.ai,pB r.fM.co,pI r.fM.af.aa,pS r.fM.af.aM,pI r.fM.af.fN,pI r.fM.af.ae.a0.aa,pI r.fM.af.ae.a0.fN,pI r.fM.af.ae.a1.aa,pI r.fM.af.ae.a1.fN,pI r.fM.af.ae.a2.aa,pI r.fM.af.ae.a2.fN,pI r.fM.af.ae.a3.aa,pI r.fM.af.ae.a3.fN,.pv (.vs 13 (map aj r.fM.ac)),.pv (.vs 13 (map aj r.fM.aP)),.ls 3,pI r.fM.fAt,.pv (.vs 13 (map aj r.fV)),.pv (.vs 1 (map eS r.fN)),pI r.aq,pI r.fF.bL,pI r.fF.fAt]] [(0,some (.box 74 [pS r.fC.ai,.pv (.vs 1 (map eS r.fC.ac)),pS r.fC.aU,.pv (.vs 2 (map ax r.fC.aH)),.ls 1,.ls 2,pI r.fC.fAt,pS r.fM.ai,pB r.fM.co,pI r.fM.af.aa,pS r.fM.af.aM,pI r.fM.af.fN,pI r.fM.af.ae.a0.aa,pI r.fM.af.ae.a0.fN,pI r.fM.af.ae.a1.aa,pI r.fM.af.ae.a1.fN,pI r.fM.af.ae.a2.aa,pI r.fM.af.ae.a2.fN,pI r.fM.af.ae.a3.aa,pI r.fM.af.ae.a3.fN,.pv (.vs 13 (map aj r.fM.ac)),.pv (.vs 13 (map aj r.fM.aP)),.ls 3,pI r.fM.fAt,.pv (.vs 13 (map aj r.fV)),.pv (.vs 1 (map eS r.fN)),pI r.aq,pI r.fF.bL,pI r.fF.fAt])),(1,some (.row 80 13 (map aj r.fC.aZ))),(2,some (.row 48 17 (map bg r.fC.am))),(3,some (.row 55 23 (bc r.fM.aC)))] 4:=by
 unfold oq at F;refine gH (n:=84) (m:=2) [] Tryz.func55 rfl rfl rfl ?_;intro c w O θ hcx;refine gg ?_;obtain⟨y3,h4,F⟩:=bs F;refine rgp (clA 4 (gk h4)) ?_;refine rq (dC rfl rfl qQ kf rfl rfl rfl) ?_;refine cq F (fun hb5 F=> ?_) fun hb5 F=> ?_
 ·obtain⟨y6,h7,F⟩:=bs F;refine rgp (cD (args:=[pI 3,.pv (.vs 3 (map ak a0)),pI (ah (a1+1))]) [] [4] [] 5 rfl rfl rfl rfl rfl sw (eK h7) rfl (by decide) trivial rfl (by decide) ⟨.inr rfl,trivial⟩ (by kernel_rfl) (by kernel_rfl) rfl rfl rfl rfl) ?_;refine go ?_;refine bG (bC 3 4 74 80 13 5 rfl rfl rfl) ?_;refine bG (bC 3 5 74 48 17 6 rfl rfl rfl) ?_;refine bG (bC 3 22 74 55 23 7 rfl rfl rfl) ?_;refine ga3 ?_;refine piz (sX 84 [(6,some (.lp 0 0))] [(0,some (.box 74 [pS zGGot_ref09.fC.ai,.pv (.vs 1 (map eS zGGot_ref09.fC.ac)),pS zGGot_ref09.fC.aU,.pv (.vs 2 (map ax zGGot_ref09.fC.aH)),.ls 1,.ls 2,pI zGGot_ref09.fC.fAt,pS zGGot_ref09.fM.ai,pB zGGot_ref09.fM.co,pI zGGot_ref09.fM.af.aa,pS zGGot_ref09.fM.af.aM,pI zGGot_ref09.fM.af.fN,pI zGGot_ref09.fM.af.ae.a0.aa,pI zGGot_ref09.fM.af.ae.a0.fN,pI zGGot_ref09.fM.af.ae.a1.aa,pI zGGot_ref09.fM.af.ae.a1.fN,pI zGGot_ref09.fM.af.ae.a2.aa,pI zGGot_ref09.fM.af.ae.a2.fN,pI zGGot_ref09.fM.af.ae.a3.aa,pI zGGot_ref09.fM.af.ae.a3.fN,.pv (.vs 13 (map aj zGGot_ref09.fM.ac)),.pv (.vs 13 (map aj zGGot_ref09.fM.aP)),.ls 3,pI zGGot_ref09.fM.fAt,.pv (.vs 13 (map aj zGGot_ref09.fV)),.pv (.vs 1 (map eS zGGot_ref09.fN)),pI zGGot_ref09.aq,pI y6.fF.bL,pI y6.fF.fAt])),(1,some (.row 80 13 (map aj zGGot_ref09.fC.aZ))),(2,some (.row 48 17 (map bg zGGot_ref09.fC.am))),(3,some (.row 55 23 (bc zGGot_ref09.fM.aC)))] 4) [3,5,6,7] ?_;cases F;exact cY hcx rfl (.cons _ _ _ _ (.aggM _ _ _ _ _ 29 _ _ rfl rfl fJ rfl rfl) .nil) rfl (.inl rfl)
 obtain⟨y0,h0,F⟩:=bs F;refine rgp (clA 4 (gk h0)) ?_;refine rq (dC rfl rfl se AP rfl rfl rfl) ?_;obtain⟨y1,h1,F⟩:=bs F;refine rq (clA 4 (ff h1)) ?_;refine cq F (fun hb0 F=> ?_) fun hb0 F=> ?_
 ·refine rq (ec (cs:=[pS a2_0,.pv (.vs 1 (map eS a2_1)),pS y0.bz,.pv (.vs 2 (map ax a2_3)),.ls 0,.ls 1,pI a2_6]) rfl rfl rfl rfl rfl nz rfl rfl) ?_;refine rgp (ic (zs:=[.str zGGot_ref09.fC.ai,.vs 1 (map eS zGGot_ref09.fC.ac),.str zGGot_ref09.fC.aU,.vs 2 (map ax zGGot_ref09.fC.aH),.nils,.nils,.int .i64 zGGot_ref09.fC.fAt,.str zGGot_ref09.fM.ai,.bool zGGot_ref09.fM.co,.int .i64 zGGot_ref09.fM.af.aa,.str zGGot_ref09.fM.af.aM,.int .i64 zGGot_ref09.fM.af.fN,.int .i64 zGGot_ref09.fM.af.ae.a0.aa,.int .i64 zGGot_ref09.fM.af.ae.a0.fN,.int .i64 zGGot_ref09.fM.af.ae.a1.aa,.int .i64 zGGot_ref09.fM.af.ae.a1.fN,.int .i64 zGGot_ref09.fM.af.ae.a2.aa,.int .i64 zGGot_ref09.fM.af.ae.a2.fN,.int .i64 zGGot_ref09.fM.af.ae.a3.aa,.int .i64 zGGot_ref09.fM.af.ae.a3.fN,.vs 13 (map aj zGGot_ref09.fM.ac),.vs 13 (map aj zGGot_ref09.fM.aP),.nils,.int .i64 zGGot_ref09.fM.fAt,.vs 13 (map aj zGGot_ref09.fV),.vs 1 (map eS zGGot_ref09.fN),.int .i64 zGGot_ref09.aq,.int .i64 zGGot_ref09.fF.bL,.int .i64 zGGot_ref09.fF.fAt]) (r:=[pS a2_0,.pv (.vs 1 (map eS a2_1)),pS y0.bz,.pv (.vs 2 (map ax a2_3)),.ls 0,.ls 1,pI a2_6,pS zGGot_ref09.fM.ai,pB zGGot_ref09.fM.co,pI zGGot_ref09.fM.af.aa,pS zGGot_ref09.fM.af.aM,pI zGGot_ref09.fM.af.fN,pI zGGot_ref09.fM.af.ae.a0.aa,pI zGGot_ref09.fM.af.ae.a0.fN,pI zGGot_ref09.fM.af.ae.a1.aa,pI zGGot_ref09.fM.af.ae.a1.fN,pI zGGot_ref09.fM.af.ae.a2.aa,pI zGGot_ref09.fM.af.ae.a2.fN,pI zGGot_ref09.fM.af.ae.a3.aa,pI zGGot_ref09.fM.af.ae.a3.fN,.pv (.vs 13 (map aj zGGot_ref09.fM.ac)),.pv (.vs 13 (map aj zGGot_ref09.fM.aP)),.pv .nils,pI zGGot_ref09.fM.fAt,.pv (.vs 13 (map aj zGGot_ref09.fV)),.pv (.vs 1 (map eS zGGot_ref09.fN)),pI (ah (a1+2)),pI zGGot_ref09.fF.bL,pI zGGot_ref09.fF.fAt]) rfl kj (by exact⟨rfl,trivial,rfl,trivial,rfl,rfl,rfl,rfl,rfl,rfl,rfl,rfl,rfl,rfl,rfl,rfl,rfl,rfl,rfl,rfl,trivial,trivial,rfl,rfl,trivial,trivial,rfl,rfl,rfl,trivial⟩) nY rfl rfl rfl rfl) ?_;refine go ?_;refine bG (bC 3 22 74 55 23 4 rfl rfl rfl) ?_;refine ga3 ?_
  refine piz (sX 84 [(6,some (.lp 0 0))] [(0,some (.box 74 [pS a2_0,.pv (.vs 1 (map eS a2_1)),pS y0.bz,.pv (.vs 2 (map ax a2_3)),.ls 1,.ls 2,pI a2_6,pS zGGot_ref09.fM.ai,pB zGGot_ref09.fM.co,pI zGGot_ref09.fM.af.aa,pS zGGot_ref09.fM.af.aM,pI zGGot_ref09.fM.af.fN,pI zGGot_ref09.fM.af.ae.a0.aa,pI zGGot_ref09.fM.af.ae.a0.fN,pI zGGot_ref09.fM.af.ae.a1.aa,pI zGGot_ref09.fM.af.ae.a1.fN,pI zGGot_ref09.fM.af.ae.a2.aa,pI zGGot_ref09.fM.af.ae.a2.fN,pI zGGot_ref09.fM.af.ae.a3.aa,pI zGGot_ref09.fM.af.ae.a3.fN,.pv (.vs 13 (map aj zGGot_ref09.fM.ac)),.pv (.vs 13 (map aj zGGot_ref09.fM.aP)),.ls 3,pI zGGot_ref09.fM.fAt,.pv (.vs 13 (map aj zGGot_ref09.fV)),.pv (.vs 1 (map eS zGGot_ref09.fN)),pI (ah (a1+2)),pI zGGot_ref09.fF.bL,pI zGGot_ref09.fF.fAt])),(1,some (.row 80 13 (map aj b0))),(2,some (.row 48 17 (map bg b1))),(3,some (.row 55 23 (bc zGGot_ref09.fM.aC)))] 4) [3,0,1,4] ?_;cases F;exact cY hcx rfl (.cons _ _ _ _ (.aggM _ _ _ _ _ 29 _ _ rfl rfl fJ rfl rfl) .nil) rfl (.inl rfl)
 obtain⟨y2,h2,F⟩:=bs F;refine rgp (cl 4 [.vs 3 (map ak a0),.int .i64 (ah (a1+2)),.vs 1 (map eS a2_1)] [.p (.agg (br y2))] (wU h2)) ?_;refine rgp (al 4 (br dB) mP) ?_;refine go9 ?_;refine cnd F (fun hb1 F=> ?_) fun hb1 F=> ?_
 ·refine go2 ?_;refine rgp (la (cr y2.fF) jr) ?_;refine rgp (ic (zs:=[.str zGGot_ref09.fC.ai,.vs 1 (map eS zGGot_ref09.fC.ac),.str zGGot_ref09.fC.aU,.vs 2 (map ax zGGot_ref09.fC.aH),.nils,.nils,.int .i64 zGGot_ref09.fC.fAt,.str zGGot_ref09.fM.ai,.bool zGGot_ref09.fM.co,.int .i64 zGGot_ref09.fM.af.aa,.str zGGot_ref09.fM.af.aM,.int .i64 zGGot_ref09.fM.af.fN,.int .i64 zGGot_ref09.fM.af.ae.a0.aa,.int .i64 zGGot_ref09.fM.af.ae.a0.fN,.int .i64 zGGot_ref09.fM.af.ae.a1.aa,.int .i64 zGGot_ref09.fM.af.ae.a1.fN,.int .i64 zGGot_ref09.fM.af.ae.a2.aa,.int .i64 zGGot_ref09.fM.af.ae.a2.fN,.int .i64 zGGot_ref09.fM.af.ae.a3.aa,.int .i64 zGGot_ref09.fM.af.ae.a3.fN,.vs 13 (map aj zGGot_ref09.fM.ac),.vs 13 (map aj zGGot_ref09.fM.aP),.nils,.int .i64 zGGot_ref09.fM.fAt,.vs 13 (map aj zGGot_ref09.fV),.vs 1 (map eS zGGot_ref09.fN),.int .i64 zGGot_ref09.aq,.int .i64 zGGot_ref09.fF.bL,.int .i64 zGGot_ref09.fF.fAt]) (r:=[pS zGGot_ref09.fC.ai,.pv (.vs 1 (map eS zGGot_ref09.fC.ac)),pS zGGot_ref09.fC.aU,.pv (.vs 2 (map ax zGGot_ref09.fC.aH)),.pv .nils,.pv .nils,pI zGGot_ref09.fC.fAt,pS zGGot_ref09.fM.ai,pB zGGot_ref09.fM.co,pI zGGot_ref09.fM.af.aa,pS zGGot_ref09.fM.af.aM,pI zGGot_ref09.fM.af.fN,pI zGGot_ref09.fM.af.ae.a0.aa,pI zGGot_ref09.fM.af.ae.a0.fN,pI zGGot_ref09.fM.af.ae.a1.aa,pI zGGot_ref09.fM.af.ae.a1.fN,pI zGGot_ref09.fM.af.ae.a2.aa,pI zGGot_ref09.fM.af.ae.a2.fN,pI zGGot_ref09.fM.af.ae.a3.aa,pI zGGot_ref09.fM.af.ae.a3.fN,.pv (.vs 13 (map aj zGGot_ref09.fM.ac)),.pv (.vs 13 (map aj zGGot_ref09.fM.aP)),.pv .nils,pI zGGot_ref09.fM.fAt,.pv (.vs 13 (map aj zGGot_ref09.fV)),.pv (.vs 1 (map eS zGGot_ref09.fN)),pI zGGot_ref09.aq,pI y2.fF.bL,pI y2.fF.fAt]) rfl kj (by exact⟨rfl,trivial,rfl,trivial,rfl,rfl,rfl,rfl,rfl,rfl,rfl,rfl,rfl,rfl,rfl,rfl,rfl,rfl,rfl,rfl,trivial,trivial,rfl,rfl,trivial,trivial,rfl,rfl,rfl,trivial⟩) nY rfl rfl rfl rfl) ?_;refine go ?_;refine bG (bC 3 4 74 80 13 5 rfl rfl rfl) ?_;refine bG (bC 3 5 74 48 17 6 rfl rfl rfl) ?_;refine bG (bC 3 22 74 55 23 7 rfl rfl rfl) ?_;refine ga3 ?_
  refine piz (sX 84 [(6,some (.lp 0 0))] [(0,some (.box 74 [pS zGGot_ref09.fC.ai,.pv (.vs 1 (map eS zGGot_ref09.fC.ac)),pS zGGot_ref09.fC.aU,.pv (.vs 2 (map ax zGGot_ref09.fC.aH)),.ls 1,.ls 2,pI zGGot_ref09.fC.fAt,pS zGGot_ref09.fM.ai,pB zGGot_ref09.fM.co,pI zGGot_ref09.fM.af.aa,pS zGGot_ref09.fM.af.aM,pI zGGot_ref09.fM.af.fN,pI zGGot_ref09.fM.af.ae.a0.aa,pI zGGot_ref09.fM.af.ae.a0.fN,pI zGGot_ref09.fM.af.ae.a1.aa,pI zGGot_ref09.fM.af.ae.a1.fN,pI zGGot_ref09.fM.af.ae.a2.aa,pI zGGot_ref09.fM.af.ae.a2.fN,pI zGGot_ref09.fM.af.ae.a3.aa,pI zGGot_ref09.fM.af.ae.a3.fN,.pv (.vs 13 (map aj zGGot_ref09.fM.ac)),.pv (.vs 13 (map aj zGGot_ref09.fM.aP)),.ls 3,pI zGGot_ref09.fM.fAt,.pv (.vs 13 (map aj zGGot_ref09.fV)),.pv (.vs 1 (map eS zGGot_ref09.fN)),pI zGGot_ref09.aq,pI y2.fF.bL,pI y2.fF.fAt])),(1,some (.row 80 13 (map aj zGGot_ref09.fC.aZ))),(2,some (.row 48 17 (map bg zGGot_ref09.fC.am))),(3,some (.row 55 23 (bc zGGot_ref09.fM.aC)))] 4) [3,5,6,7] ?_;cases F;exact cY hcx rfl (.cons _ _ _ _ (.aggM _ _ _ _ _ 29 _ _ rfl rfl fJ rfl rfl) .nil) rfl (.inl rfl)
 refine go6 ?_;obtain⟨lr0,F,hK0⟩:=bs F;refine lpG (fun s1=>∃ q,lr0= .next q/\s1=(sX 84 [(5,some (.lp 0 0)),(6,some (.lp 3 0)),(7,some (.lp 4 0))] [(0,some (.box 39 [pS a2_0,.pv (.vs 1 (map eS a2_1)),pS y0.bz,.pv (.vs 2 (map ax a2_3)),.ls 1,.ls 2,pI a2_6])),(1,some (.row 80 13 (map aj b0))),(2,some (.row 48 17 (map bg b1))),bf 3 74 (bN zGGot_ref09),bf 4 126 (br y2)] 5)) (fun(q:Int)=>(sX 84 [pf 0 (.vs 3 (map ak a0)),pf 1 (.int .i64 a1),(5,some (.lp 0 0)),(6,some (.lp 3 0)),(7,some (.lp 4 0)),pf 8 (.int .i64 q)] [(0,some (.box 39 [pS a2_0,.pv (.vs 1 (map eS a2_1)),pS y0.bz,.pv (.vs 2 (map ax a2_3)),.ls 1,.ls 2,pI a2_6])),(1,some (.row 80 13 (map aj b0))),(2,some (.row 48 17 (map bg b1))),bf 3 74 (bN zGGot_ref09),bf 4 126 (br y2)] 5)) (fun k q=>kG a0 a1 y2 k q) 0 (bW [2,0,1,3,4]) F (fun k x0 F ih=> ?_) ?_
 ·refine gg ?_;refine cnd F (fun hb2 F=> ?_) fun hb2 F=> ?_
  ·refine ga2 ?_;refine bt ?_;refine dt ?_;refine bt ?_;obtain⟨x1,F,hK1⟩:=bs F;refine ctq (sX 84 [pf 0 (.vs 3 (map ak a0)),pf 1 (.int .i64 a1),(5,some (.lp 0 0)),(6,some (.lp 3 0)),(7,some (.lp 4 0)),pf 8 (.int .i64 x0),pf 69 (.bool x1)] [(0,some (.box 39 [pS a2_0,.pv (.vs 1 (map eS a2_1)),pS y0.bz,.pv (.vs 2 (map ax a2_3)),.ls 1,.ls 2,pI a2_6])),(1,some (.row 80 13 (map aj b0))),(2,some (.row 48 17 (map bg b1))),bf 3 74 (bN zGGot_ref09),bf 4 126 (br y2)] 5) ?_ ?_
   ·obtain⟨y4,h3,F⟩:=bs F;refine gg ?_;rcases ie F with⟨hb3,F⟩ | ⟨hb3,F⟩
    ·exact tl [0,1,2,3,4]
    refine ga3 ?_;obtain⟨y5,h5,F⟩:=bs F;exact tl [0,1,2,3,4]
   have F:=hK1;refine cq F (fun hb4 F=> ?_) fun hb4 F=> ?_
   ·obtain⟨y7,h6,F⟩:=bs F;refine rgp (cD (args:=[pI 4,.pv (.vs 3 (map ak a0)),pI (ah ((ah (a1+3))+(ah (2 * x0))))]) [] [5] [] 6 rfl rfl rfl rfl rfl sw (eK h6) rfl (by decide) trivial rfl (by decide) ⟨.inr rfl,trivial⟩ (by kernel_rfl) (by kernel_rfl) rfl rfl rfl rfl) ?_;refine go ?_;refine bG (bC 3 4 74 80 13 6 rfl rfl rfl) ?_;refine bG (bC 3 5 74 48 17 7 rfl rfl rfl) ?_;refine bG (bC 3 22 74 55 23 8 rfl rfl rfl) ?_;refine ga5 ?_;refine aQ ?_;cases F;have F:=bq hK0;refine go ?_;refine piz (sX 84 [(6,some (.lp 0 0))] [(0,some (.box 74 [pS zGGot_ref09.fC.ai,.pv (.vs 1 (map eS zGGot_ref09.fC.ac)),pS zGGot_ref09.fC.aU,.pv (.vs 2 (map ax zGGot_ref09.fC.aH)),.ls 1,.ls 2,pI zGGot_ref09.fC.fAt,pS zGGot_ref09.fM.ai,pB zGGot_ref09.fM.co,pI zGGot_ref09.fM.af.aa,pS zGGot_ref09.fM.af.aM,pI zGGot_ref09.fM.af.fN,pI zGGot_ref09.fM.af.ae.a0.aa,pI zGGot_ref09.fM.af.ae.a0.fN,pI zGGot_ref09.fM.af.ae.a1.aa,pI zGGot_ref09.fM.af.ae.a1.fN,pI zGGot_ref09.fM.af.ae.a2.aa,pI zGGot_ref09.fM.af.ae.a2.fN,pI zGGot_ref09.fM.af.ae.a3.aa,pI zGGot_ref09.fM.af.ae.a3.fN,.pv (.vs 13 (map aj zGGot_ref09.fM.ac)),.pv (.vs 13 (map aj zGGot_ref09.fM.aP)),.ls 3,pI zGGot_ref09.fM.fAt,.pv (.vs 13 (map aj zGGot_ref09.fV)),.pv (.vs 1 (map eS zGGot_ref09.fN)),pI zGGot_ref09.aq,pI y7.fF.bL,pI y7.fF.fAt])),(1,some (.row 80 13 (map aj zGGot_ref09.fC.aZ))),(2,some (.row 48 17 (map bg zGGot_ref09.fC.am))),(3,some (.row 55 23 (bc zGGot_ref09.fM.aC)))] 4) [3,6,7,8] ?_;cases F;exact cY hcx rfl (.cons _ _ _ _ (.aggM _ _ _ _ _ 29 _ _ rfl rfl fJ rfl rfl) .nil) rfl (.inl rfl)
   exact bv (ih (ah (x0+1)) F) (bW [0,1,2,3,4])
  exact tl [0,1,2,3,4]
 rintro _ ⟨⟨⟩,rfl,rfl⟩;have F:=cj hK0;clear hK0;refine gg ?_;refine rq (ec (cs:=[pS a2_0,.pv (.vs 1 (map eS a2_1)),pS y0.bz,.pv (.vs 2 (map ax y2.fL)),.ls 1,.ls 2,pI a2_6]) rfl rfl rfl rfl rfl nz rfl rfl) ?_;refine rgp (ic (zs:=[.str zGGot_ref09.fC.ai,.vs 1 (map eS zGGot_ref09.fC.ac),.str zGGot_ref09.fC.aU,.vs 2 (map ax zGGot_ref09.fC.aH),.nils,.nils,.int .i64 zGGot_ref09.fC.fAt,.str zGGot_ref09.fM.ai,.bool zGGot_ref09.fM.co,.int .i64 zGGot_ref09.fM.af.aa,.str zGGot_ref09.fM.af.aM,.int .i64 zGGot_ref09.fM.af.fN,.int .i64 zGGot_ref09.fM.af.ae.a0.aa,.int .i64 zGGot_ref09.fM.af.ae.a0.fN,.int .i64 zGGot_ref09.fM.af.ae.a1.aa,.int .i64 zGGot_ref09.fM.af.ae.a1.fN,.int .i64 zGGot_ref09.fM.af.ae.a2.aa,.int .i64 zGGot_ref09.fM.af.ae.a2.fN,.int .i64 zGGot_ref09.fM.af.ae.a3.aa,.int .i64 zGGot_ref09.fM.af.ae.a3.fN,.vs 13 (map aj zGGot_ref09.fM.ac),.vs 13 (map aj zGGot_ref09.fM.aP),.nils,.int .i64 zGGot_ref09.fM.fAt,.vs 13 (map aj zGGot_ref09.fV),.vs 1 (map eS zGGot_ref09.fN),.int .i64 zGGot_ref09.aq,.int .i64 zGGot_ref09.fF.bL,.int .i64 zGGot_ref09.fF.fAt]) (r:=[pS a2_0,.pv (.vs 1 (map eS a2_1)),pS y0.bz,.pv (.vs 2 (map ax y2.fL)),.ls 1,.ls 2,pI a2_6,pS zGGot_ref09.fM.ai,pB zGGot_ref09.fM.co,pI zGGot_ref09.fM.af.aa,pS zGGot_ref09.fM.af.aM,pI zGGot_ref09.fM.af.fN,pI zGGot_ref09.fM.af.ae.a0.aa,pI zGGot_ref09.fM.af.ae.a0.fN,pI zGGot_ref09.fM.af.ae.a1.aa,pI zGGot_ref09.fM.af.ae.a1.fN,pI zGGot_ref09.fM.af.ae.a2.aa,pI zGGot_ref09.fM.af.ae.a2.fN,pI zGGot_ref09.fM.af.ae.a3.aa,pI zGGot_ref09.fM.af.ae.a3.fN,.pv (.vs 13 (map aj zGGot_ref09.fM.ac)),.pv (.vs 13 (map aj zGGot_ref09.fM.aP)),.pv .nils,pI zGGot_ref09.fM.fAt,.pv (.vs 13 (map aj zGGot_ref09.fV)),.pv (.vs 1 (map eS zGGot_ref09.fN)),pI y2.aq,pI zGGot_ref09.fF.bL,pI zGGot_ref09.fF.fAt]) rfl kj (by exact⟨rfl,trivial,rfl,trivial,rfl,rfl,rfl,rfl,rfl,rfl,rfl,rfl,rfl,rfl,rfl,rfl,rfl,rfl,rfl,rfl,trivial,trivial,rfl,rfl,trivial,trivial,rfl,rfl,rfl,trivial⟩) nY rfl rfl rfl rfl) ?_;refine go ?_;refine bG (bC 3 22 74 55 23 5 rfl rfl rfl) ?_;refine ga2 ?_
 refine piz (sX 84 [(6,some (.lp 0 0))] [(0,some (.box 74 [pS a2_0,.pv (.vs 1 (map eS a2_1)),pS y0.bz,.pv (.vs 2 (map ax y2.fL)),.ls 1,.ls 2,pI a2_6,pS zGGot_ref09.fM.ai,pB zGGot_ref09.fM.co,pI zGGot_ref09.fM.af.aa,pS zGGot_ref09.fM.af.aM,pI zGGot_ref09.fM.af.fN,pI zGGot_ref09.fM.af.ae.a0.aa,pI zGGot_ref09.fM.af.ae.a0.fN,pI zGGot_ref09.fM.af.ae.a1.aa,pI zGGot_ref09.fM.af.ae.a1.fN,pI zGGot_ref09.fM.af.ae.a2.aa,pI zGGot_ref09.fM.af.ae.a2.fN,pI zGGot_ref09.fM.af.ae.a3.aa,pI zGGot_ref09.fM.af.ae.a3.fN,.pv (.vs 13 (map aj zGGot_ref09.fM.ac)),.pv (.vs 13 (map aj zGGot_ref09.fM.aP)),.ls 3,pI zGGot_ref09.fM.fAt,.pv (.vs 13 (map aj zGGot_ref09.fV)),.pv (.vs 1 (map eS zGGot_ref09.fN)),pI y2.aq,pI zGGot_ref09.fF.bL,pI zGGot_ref09.fF.fAt])),(1,some (.row 80 13 (map aj b0))),(2,some (.row 48 17 (map bg b1))),(3,some (.row 55 23 (bc zGGot_ref09.fM.aC)))] 4) [3,1,2,5] ?_;cases F;exact cY hcx rfl (.cons _ _ _ _ (.aggM _ _ _ _ _ 29 _ _ rfl rfl fJ rfl rfl) .nil) rfl (.inl rfl)
theorem CY : ∀ n:Nat,(∀ (a0:ap) (r:Int),jq n a0=some r->FZ 19 [.agg (bm a0)] [.p (.int .i64 r)]):=by
 intro n
 induction n with
 | zero=>exact(fun _ _ h=>by simp[jq] at h)
 | succ n ih=>
  have ref08_Size_ih:=ih;clear ih;intro a0 r F;unfold jq at F
  revert F ref08_Size_ih
  generalize jq n=ref08_Size_rec
  intro ref08_Size_ih F;refine fb 37 Tryz.func19 fun w O=> ?_;obtain⟨x0,F,hK0⟩:=bs F;refine lpE (sX 37 [(1,some (.lp 0 0)),pf 3 (.int .i64 x0)] [bf 0 55 (bm a0)] 1) (fun(q:Int×Int)=>(sX 37 [(1,some (.lp 0 0)),pf 3 (.int .i64 q.1),pf 4 (.int .i64 q.2)] [bf 0 55 (bm a0)] 1)) (fun k q=>pt a0 ref08_Size_rec k q.1 q.2) (1,0) (bW [0]) F (fun k ⟨x1,x2⟩ F ih=> ?_) ?_
  ·refine gg ?_;refine cq F (fun hb0 F=> ?_) fun hb0 F=> ?_
   ·obtain⟨y0,h0,F⟩:=bs F;refine gg ?_;obtain⟨y1,h1,F⟩:=bs F;refine rgp (clA 1 (ref08_Size_ih _ _ h1)) ?_;refine ga2 ?_;refine cg ?_;refine piz (sX 37 [(1,some (.lp 0 0)),pf 3 (.int .i64 (ah (x1+y1))),pf 4 (.int .i64 x2)] [bf 0 55 (bm a0)] 1) [0] ?_;refine gg ?_;exact bv (ih (ah (x1+y1),ah (x2+1)) F) (bW [0])
   exact tl [0]
  have F:=hK0;refine gg ?_;obtain⟨x3,F,hK1⟩:=bs F;refine lpE (sX 37 [pf 3 (.int .i64 x3)] [] 0) (fun(q:Int×Int)=>(sX 37 [(1,some (.lp 0 0)),pf 3 (.int .i64 q.1),pf 5 (.int .i64 q.2)] [bf 0 55 (bm a0)] 1)) (fun k q=>pr a0 ref08_Size_rec k q.1 q.2) (x0,0) (bW [0]) F (fun k ⟨x4,x5⟩ F ih=> ?_) ?_
  ·refine gg ?_;refine cq F (fun hb1 F=> ?_) fun hb1 F=> ?_
   ·obtain⟨y2,h2,F⟩:=bs F;refine gg ?_;obtain⟨y3,h3,F⟩:=bs F;refine rgp (clA 1 (ref08_Size_ih _ _ h3)) ?_;refine ga2 ?_;refine cg ?_;refine piz (sX 37 [(1,some (.lp 0 0)),pf 3 (.int .i64 (ah (x4+y3))),pf 5 (.int .i64 x5)] [bf 0 55 (bm a0)] 1) [0] ?_;refine gg ?_;exact bv (ih (ah (x4+y3),ah (x5+1)) F) (bW [0])
   exact tl []
  have F:=hK1;exact tl []
theorem yQ {n:Nat} {a0:ap} {r:Int} (F:jq n a0=some r):FZ 19 [.agg (bm a0)] [.p (.int .i64 r)]:=(CY n) _ _ F

theorem xR {a0:bH} {r:Int} (F:lj a0=some r):FZ 25 [.agg (bl a0)] [.p (.int .i64 r)]:=by
 unfold lj at F;refine fb 37 Tryz.func25 fun w O=> ?_;obtain⟨x0,F,hK0⟩:=bs F;refine lpE (sX 37 [pf 3 (.int .i64 x0)] [] 0) (fun(q:Int×Int)=>(sX 37 [(1,some (.lp 0 0)),pf 3 (.int .i64 q.1),pf 4 (.int .i64 q.2)] [bf 0 39 (bl a0)] 1)) (fun k q=>nI a0 k q.1 q.2) (0,0) (bW [0]) F (fun k ⟨x1,x2⟩ F ih=> ?_) ?_
 ·refine gg ?_;refine cq F (fun hb0 F=> ?_) fun hb0 F=> ?_
  ·obtain⟨x3,F,hK1⟩:=bs F;refine lpE (sX 37 [(1,some (.lp 0 0)),pf 3 (.int .i64 x3),pf 4 (.int .i64 x2)] [bf 0 39 (bl a0)] 1) (fun(q:Int×Int)=>(sX 37 [(1,some (.lp 0 0)),pf 3 (.int .i64 q.1),pf 4 (.int .i64 x2),pf 5 (.int .i64 q.2)] [bf 0 39 (bl a0)] 1)) (fun k q=>nZ a0 x2 k q.1 q.2) (x1,0) (bW [0]) F (fun k ⟨x4,x5⟩ F ih=> ?_) ?_
   ·refine gg ?_;obtain⟨y0,h0,F⟩:=bs F;refine gg ?_;refine cnd F (fun hb1 F=> ?_) fun hb1 F=> ?_
    ·refine go2 ?_;refine bt ?_;refine dt ?_;refine go5 ?_;obtain⟨y1,h1,F⟩:=bs F;refine rgp (ix (nB bg h1) Gq) ?_;refine go3 ?_;obtain⟨y2,h2,F⟩:=bs F;refine rgp (ix (Fk iA h2) uV) ?_;refine rgp (lw (bm y2) gv) ?_;obtain⟨y3,h3,F⟩:=bs F;refine rgp (cl 1 [.agg (bm y2)] [.p (.int .i64 y3)] (yQ h3)) ?_;refine ga2 ?_;refine cg ?_;refine piz (sX 37 [(1,some (.lp 0 0)),pf 3 (.int .i64 (ah (x4+y3))),pf 4 (.int .i64 x2),pf 5 (.int .i64 x5)] [bf 0 39 (bl a0)] 1) [0] ?_;refine gg ?_;exact bv (ih (ah (x4+y3),ah (x5+1)) F) (bW [0])
    exact tl [0]
   have F:=hK1;refine gg ?_;exact bv (ih (x3,ah (x2+1)) F) (bW [0])
  exact tl []
 have F:=hK0;exact tl []
theorem Im {a0:List az} {a1:Int} {a2:Bool} {r:Bool} (F:li a0 a1 a2=some r):FZ 116 [.vs 3 (map ak a0),.int .i64 a1,.bool a2] [.p (.bool r)]:=by
 unfold li at F;refine fb 41 Tryz.func116 fun w O=> ?_;obtain⟨y5,h6,F⟩:=bs F;refine rq (clA 0 (dj h6)) ?_;obtain⟨y7,h8,F⟩:=bs F;refine rq (clA 0 (dj h8)) ?_;refine iq F (fun hb9 F=> ?_) fun hb9 F=> ?_
 ·refine iq F (fun hb0 F=> ?_) fun hb0 F=> ?_
  ·exact tl []
  rcases ie F with⟨hb1,F⟩ | ⟨hb1,F⟩
  ·exact tl []
  refine rgn hb1 (la (ak y7) jD) ?_;obtain⟨y0,h0,F⟩:=bs F;refine rqn hb1 (clA 2 (di h0)) ?_;rcases ie F with⟨hb2,F⟩ | ⟨hb2,F⟩
  ·exact tl []
  refine rgn hb2 (la (ak y7) jD) ?_;obtain⟨y1,h1,F⟩:=bs F;refine rqn hb2 (clA 2 (di h1)) ?_;rcases ie F with⟨hb3,F⟩ | ⟨hb3,F⟩
  ·exact tl []
  refine rgn hb3 (la (ak y7) jD) ?_;obtain⟨y2,h2,F⟩:=bs F;refine rgn hb3 (clA 2 (di h2)) ?_;exact tl []
 exact tl []
theorem ui {a0:List az} {a1:Int} {a2:List (List UInt8)} {a3:Bool} {r:ce} (F:jM a0 a1 a2 a3=some r):FZ 88 [.vs 3 (map ak a0),.int .i64 a1,.vs 1 (map eS a2),.bool a3] [.p (.agg (br r))]:=by
 unfold jM at F;refine fb 121 Tryz.func88 fun w O=> ?_;obtain⟨y3,h4,F⟩:=bs F;refine rq (clA 1 (dj h4)) ?_;refine rgp (la (ak y3) jD) ?_;obtain⟨y7,h8,F⟩:=bs F;refine rq (clA 2 (di h8)) ?_;refine cq F (fun hb9 F=> ?_) fun hb9 F=> ?_
 ·refine rgp (bd ((br dB)) (br (⟨[],cA,nF,ah (a1+1),aK⟩:ce)) mP wi) ?_;exact tl []
 refine rgp (la (ak y3) jD) ?_;obtain⟨y0,h0,F⟩:=bs F;refine rq (clA 2 (di h0)) ?_;refine cq F (fun hb0 F=> ?_) fun hb0 F=> ?_
 ·refine rq (bd ((bV cA)) (bV (⟨1,[],0,(⟨av,av,av,av⟩:A4 aF)⟩:cd)) xj Ks) ?_;refine rgp (bd ((br dB)) (br (⟨[],(⟨1,[],0,(⟨av,av,av,av⟩:A4 aF)⟩:cd),nF,ah (a1+1),aK⟩:ce)) mP wi) ?_;exact tl []
 refine rq (bd ((bV cA)) (bV (⟨2,[],0,(⟨av,av,av,av⟩:A4 aF)⟩:cd)) xj Ks) ?_;refine rq (bd ((ax av)) (ax (⟨7,0⟩:aF)) wh Bt) ?_;refine rgp (vW rfl rfl rfl sC rfl rfl rfl rfl) ?_;refine ga2 ?_;refine bt ?_;refine qj F (fun q=>(sX 121 [pf 0 (.vs 3 (map ak a0)),pf 1 (.int .i64 q.1),pf 2 (.vs 1 (map eS a2)),(8,some (.lp 0 0)),(10,some (.lp 1 0))] [bf 0 126 (br dB),bf 1 45 (bV q.2)] 2)) ?_ ?_
 ·refine gg ?_;refine rgp (la (ak y3) jD) ?_;obtain⟨y1,h1,F⟩:=gz F;refine rgp (clA 3 (ry h1)) ?_;refine rgp (dC rfl rfl O8 kf rfl rfl rfl) ?_;refine ga2 ?_;rcases gU F with⟨hb1,F⟩ | ⟨hb1,F⟩
  ·refine de rfl hb1 ?_;refine gg ?_;refine rgp (la (ak y3) jD) ?_;obtain⟨y2,h2,F⟩:=gz F;refine rq (clA 3 (ry h2)) ?_;refine rgp (vW rfl rfl rfl sC rfl rfl rfl rfl) ?_;refine ga6 ?_;refine cg ?_;exact eA _ ⟨(ah (a1+1),({ ({ (⟨2,[],0,(⟨av,av,av,av⟩:A4 aF)⟩:cd) with ae:=({ (⟨2,[],0,(⟨av,av,av,av⟩:A4 aF)⟩:cd).ae with a0:=(⟨7,0⟩:aF) }:A4 aF) }:cd) with ae:=({ ({ (⟨2,[],0,(⟨av,av,av,av⟩:A4 aF)⟩:cd) with ae:=({ (⟨2,[],0,(⟨av,av,av,av⟩:A4 aF)⟩:cd).ae with a0:=(⟨7,0⟩:aF) }:A4 aF) }:cd).ae with a0:=y2 }:A4 aF) }:cd)),rfl,F⟩ (bW [0,2])
  refine dc rfl hb1 ?_;refine bt ?_;obtain⟨x0,F,hK0⟩:=gz F;refine ctx (sX 121 [pf 0 (.vs 3 (map ak a0)),pf 1 (.int .i64 a1),pf 2 (.vs 1 (map eS a2)),(8,some (.lp 0 0)),(9,some (.lp 1 0)),(10,some (.lp 2 0)),pf 50 (.bool x0)] [bf 0 126 (br dB),bf 1 70 (ak y3),bf 2 45 (bV ({ (⟨2,[],0,(⟨av,av,av,av⟩:A4 aF)⟩:cd) with ae:=({ (⟨2,[],0,(⟨av,av,av,av⟩:A4 aF)⟩:cd).ae with a0:=(⟨7,0⟩:aF) }:A4 aF) }:cd))] 3) ?_ ?_
  ·refine gg ?_;refine iq F (fun hb2 F=> ?_) fun hb2 F=> ?_
   ·obtain⟨y4,h3,F⟩:=bs F;refine rgn hb2 (clA 3 (Im h3)) ?_;exact tl [0,1,2]
   exact tl [0,1,2]
  have F:=hK0;refine go ?_;rcases gU F with⟨hb3,F⟩ | ⟨hb3,F⟩
  ·refine de rfl hb3 ?_;refine gg ?_;refine rgp (la (ak y3) jD) ?_;refine go ?_;obtain⟨y5,h5,F⟩:=gz F;refine rq (clA 3 (xF h5)) ?_;refine rq (vW rfl rfl rfl sC rfl rfl rfl rfl) ?_;refine rgp (vW rfl rfl rfl sC rfl rfl rfl rfl) ?_;refine ga4 ?_;rcases gU F with⟨hb4,F⟩ | ⟨hb4,F⟩
   ·refine de rfl hb4 ?_;refine ga3 ?_;obtain⟨y6,h6,F⟩:=gz F;refine rgp (clA 3 (iV h6)) ?_;refine ga4 ?_;refine dZ ?_
    replace F:=jS F
    exact tl []
   refine dc rfl hb4 ?_;refine ga6 ?_;refine cg ?_;exact eA _ ⟨(ah (a1+1),({ ({ (⟨2,[],0,(⟨av,av,av,av⟩:A4 aF)⟩:cd) with ae:=({ (⟨2,[],0,(⟨av,av,av,av⟩:A4 aF)⟩:cd).ae with a0:=(⟨7,0⟩:aF) }:A4 aF) }:cd) with ae:=({ ({ (⟨2,[],0,(⟨av,av,av,av⟩:A4 aF)⟩:cd) with ae:=({ (⟨2,[],0,(⟨av,av,av,av⟩:A4 aF)⟩:cd).ae with a0:=(⟨7,0⟩:aF) }:A4 aF) }:cd).ae with a0:=y5 }:A4 aF) }:cd)),rfl,F⟩ (bW [0,2])
  refine dc rfl hb3 ?_;refine go ?_;exact eA _ ⟨(a1,({ (⟨2,[],0,(⟨av,av,av,av⟩:A4 aF)⟩:cd) with ae:=({ (⟨2,[],0,(⟨av,av,av,av⟩:A4 aF)⟩:cd).ae with a0:=(⟨7,0⟩:aF) }:A4 aF) }:cd)),rfl,F⟩ (bW [0,2])
 rintro ⟨x1,x2⟩ F;refine gg ?_;obtain⟨y8,h7,F⟩:=bs F;refine rq (clA 2 (dj h7)) ?_;refine cq F (fun hb5 F=> ?_) fun hb5 F=> ?_
 ·obtain⟨y9,h9,F⟩:=bs F;refine rgp (clA 3 (iV h9)) ?_;exact tl []
 obtain⟨y10,h10,F⟩:=bs F;refine rgp (clA 3 (dj h10)) ?_;obtain⟨y11,h11,F⟩:=bs F;refine rq (clA 3 (di h11)) ?_;refine cq F (fun hb6 F=> ?_) fun hb6 F=> ?_
 ·refine rq (la (bV ({ x2 with aM:=y8.bz }:cd)) iW) ?_;refine rgp (bd ((br dB)) (br (⟨[],({ x2 with aM:=y8.bz }:cd),nF,ah (x1+1),aK⟩:ce)) mP wi) ?_;exact tl []
 obtain⟨y13,h12,F⟩:=bs F;refine rgp (cl 3 [.vs 3 (map ak a0),.int .i64 (ah (x1+1)),.vs 1 (map eS a2)] [.p (.agg (br y13))] (wU h12)) ?_;refine rgp (al 3 (br dB) mP) ?_;refine go9 ?_;refine cnd F (fun hb7 F=> ?_) fun hb7 F=> ?_
 ·refine go ?_;refine rgp (la (br y13) Ap) ?_;exact tl []
 (iterate 13 refine go ?_);obtain⟨x3,F,hK1⟩:=bs F;refine lpE (sX 121 [(8,some (.lp 0 0)),(10,some (.lp 1 0)),(12,some (.lp 2 0))] [bf 0 126 (br dB),bf 1 45 (bV x3),bf 2 126 (br y13)] 3) (fun(q:cd×Int)=>(sX 121 [(8,some (.lp 0 0)),(10,some (.lp 1 0)),(12,some (.lp 2 0)),pf 13 (.int .i64 q.2)] [bf 0 126 (br dB),bf 1 45 (bV q.1),bf 2 126 (br y13)] 3)) (fun k q=>qD y13 k q.1 q.2) (({ ({ x2 with aM:=y8.bz }:cd) with fN:=(y13.fL.length:Int) }:cd),0) (bW [0,1,3]) F (fun k ⟨x4,x5⟩ F ih=> ?_) ?_
 ·refine gg ?_;refine cq F (fun hb8 F=> ?_) fun hb8 F=> ?_
  ·obtain⟨y14,h14,F⟩:=bs F;refine gg ?_;obtain⟨y15,h15,F⟩:=bs F;refine rgp (Qf rfl rfl rfl sC rfl h15 rfl rfl) ?_;refine rgp (Mo (cells':=bxv (bV ({ x4 with ae:=(A4.set x4.ae (ah (x5+1):Int).toNat y14) }:cd))) rfl rfl rfl rfl rfl (xh uR) (by rw[Xt];rfl) (by rcases XF h15 with e | e | e | e<;>rw[e]<;>exact Nat.le_of_ble_eq_true rfl) (by rcases XF h15 with e | e | e | e<;>rw[e]<;>rfl) rfl rfl) ?_;refine cg ?_;refine piz (sX 121 [(8,some (.lp 0 0)),(10,some (.lp 1 0)),(12,some (.lp 2 0)),pf 13 (.int .i64 x5)] [bf 0 126 (br dB),bf 1 45 (bV ({ x4 with ae:=(A4.set x4.ae (ah (x5+1):Int).toNat y14) }:cd)),bf 2 126 (br y13)] 3) [0,1,2] ?_;refine gg ?_;exact bv (ih (({ x4 with ae:=(A4.set x4.ae (ah (x5+1):Int).toNat y14) }:cd),ah (x5+1)) F) (bW [0,1,2])
  exact tl [0,1,2]
 have F:=hK1;refine gg ?_;refine rq (la (bV x3) iW) ?_;refine rgp (bd ((br dB)) (br (⟨[],x3,nF,y13.aq,aK⟩:ce)) mP wi) ?_;exact tl []
theorem AF {a0:List az} {a1:Int} {a2:List (List UInt8)} {r:ce} (F:pW a0 a1 a2=some r):FZ 144 [.vs 3 (map ak a0),.int .i64 a1,.vs 1 (map eS a2)] [.p (.agg (br r))]:=by
 unfold pW at F;refine fb 49 Tryz.func144 fun w O=> ?_;obtain⟨y3,h4,F⟩:=bs F;refine rgp (cl 1 [.vs 3 (map ak a0),.int .i64 a1,.vs 1 (map eS a2),.bool true] [.p (.agg (br y3))] (ui h4)) ?_;refine rgp (al 1 (br dB) mP) ?_;refine go9 ?_;refine cnd F (fun hb5 F=> ?_) fun hb5 F=> ?_
 ·refine go ?_;refine rgp (la (br y3) Ap) ?_;exact tl []
 refine go9 ?_;refine cq F (fun hb6 F=> ?_) fun hb6 F=> ?_
 ·obtain⟨y7,h8,F⟩:=bs F;refine rgp (clA 2 (iV h8)) ?_;exact tl []
 obtain⟨y0,h0,F⟩:=bs F;refine rq (clA 2 (dj h0)) ?_;refine cnd F (fun hb0 F=> ?_) fun hb0 F=> ?_
 ·refine gg ?_;obtain⟨y1,h1,F⟩:=bs F;refine rgp (clA 3 (iV h1)) ?_;exact tl []
 refine ga2 ?_;refine bt ?_;refine dH ⟨_,_,_⟩ rfl ?_;refine dd ?_;refine cB { need:=[(38,.lp 1 1)],hneed:=[(1,.box 126 (bxv (br y3)))],dst:=some 39,val:=some (.pv (.agg (bV y3.fT))) } (fun m h=>cC (ca rfl) (eW (ps:=bV y3.fT) rfl h.1.1 h.2.1.1 rfl rfl rfl iW rfl rfl) rfl) ⟨⟨rfl,trivial⟩,⟨rfl,trivial⟩,trivial⟩ ?_;refine dd ?_;obtain⟨y2,h2,F⟩:=bs F;refine dk 42 [(41,pI a1),(40,.pv (.vs 3 (map ak a0)))] (.pv (.agg (ak y2))) (fun m h=>⟨_,eg 3 rfl (caps:=[]) (args:=[.vs 3 (map ak a0),.int .i64 a1]) (rs:=[.p (.agg (ak y2))]) rfl rfl (bw h.1.2.1 (bw h.1.1 en)) WO (dj h2) rfl rfl rfl,rfl⟩) ?_;refine dk 43 [(42,.pv (.agg (ak y2)))] (pI y2.fAt) (fun m h=>⟨_,dC rfl h.1.1 nP kf rfl rfl rfl,rfl⟩) ?_;refine dk 44 [(43,pI y2.fAt),(39,.pv (.agg (bV y3.fT))),(37,pS y0.bz)] (.pv (.agg (aj (⟨y0.bz,y3.fT,y2.fAt⟩:dr)))) (fun m h=>⟨_,A6 (zs:=(aj nF)) (r:=aj (⟨y0.bz,y3.fT,y2.fAt⟩:dr)) rfl wq (by exact⟨rfl,rfl,rfl,rfl,rfl,rfl,rfl,rfl,rfl,rfl,rfl,rfl,rfl,trivial⟩) XT (kg h.1.2.2.1 (kg h.1.2.1 (kg h.1.1 yw))) rfl rfl rfl,rfl⟩) ?_;refine dd ?_;refine dk 48 [(47,pI (ah (y3.aq+1))),(44,.pv (.agg (aj (⟨y0.bz,y3.fT,y2.fAt⟩:dr))))] (.pv (.agg (br (⟨[],cA,(⟨y0.bz,y3.fT,y2.fAt⟩:dr),ah (y3.aq+1),aK⟩:ce)))) (fun m h=>⟨_,A6 (zs:=(br dB)) (r:=br (⟨[],cA,(⟨y0.bz,y3.fT,y2.fAt⟩:dr),ah (y3.aq+1),aK⟩:ce)) rfl mP (by exact⟨trivial,rfl,rfl,rfl,rfl,rfl,rfl,rfl,rfl,rfl,rfl,rfl,rfl,rfl,rfl,rfl,rfl,rfl,rfl,rfl,rfl,rfl,rfl,rfl,rfl,rfl,rfl,rfl,trivial⟩) wi (kg h.1.2.1 (kg h.1.1 yw)) rfl rfl rfl,rfl⟩) ?_;refine cB { need:=[(6,.lp 0 0),(48,.pv (.agg (br (⟨[],cA,(⟨y0.bz,y3.fT,y2.fAt⟩:dr),ah (y3.aq+1),aK⟩:ce))))],hneed:=[(0,.box 126 (bxv (br dB)))],upd:=[(0,some (.box 126 (bxv (br (⟨[],cA,(⟨y0.bz,y3.fT,y2.fAt⟩:dr),ah (y3.aq+1),aK⟩:ce)))))] } (fun m h=>cC (ca rfl) (jC rfl h.1.1 h.1.2.1 rfl h.2.1.1 (xh Ap) (by rw[SK];rfl) rfl rfl rfl) rfl) ⟨⟨rfl,rfl,trivial⟩,⟨rfl,trivial⟩,trivial⟩ ?_;exact tm []
end Go.Proofs.YtjimbkljclfflaaGreatDoor
