/- A part of the proof that the law ShowAgain gives true for every input. -/
import Derived.Test.YtjimbkljclfflaaGreatDoorShowAgainT
import Derived.Test.YtjimbkljclfflaaGreatDoorShowAgainY
import Derived.Test.YtjimbkljclfflaaGreatDoorShowAgainB
import Derived.Test.YtjimbkljclfflaaGreatDoorShowAgainS
import Derived.Test.YtjimbkljclfflaaGreatDoorShowAgainX
import Derived.Test.YtjimbkljclfflaaGreatDoorShowAgainI
import Derived.Test.YtjimbkljclfflaaGreatDoorShowAgainW2
/- Each Go function computes its plain function. -/
namespace Go.Proofs.YtjimbkljclfflaaGreatDoor
open List
open Go.RowKit Go.Abs
set_option maxRecDepth 100000
set_option maxHeartbeats 4000000
theorem Ki {a0:bH} {r:Bool} (F:vt a0=some r):FZ 67 [.agg (bl a0)] [.p (.bool r)]:=by
 unfold vt at F;refine cy (n:=56) Tryz.func67 rfl rfl rfl fun w O=> ?_;refine ga9 ?_;refine gA ?_;(iterate 2 refine bt ?_);obtain⟨x0,F,hK0⟩:=bs F;refine ctq (sX 56 [(1,some (.lp 0 0)),pf 3 (.int .i64 (a0.ac.length:Int)),pf 27 (.bool x0)] [bf 0 39 (bl a0)] 1) ?_ ?_
 ·obtain⟨y3,h4,F⟩:=bs F;refine rq (clA 1 (jw h4)) ?_;refine iq F (fun hb5 F=> ?_) fun hb5 F=> ?_
  ·exact tl [0]
  refine iq F (fun hb6 F=> ?_) fun hb6 F=> ?_
  ·exact tl [0]
  refine iq F (fun hb7 F=> ?_) fun hb7 F=> ?_
  ·exact tl [0]
  obtain⟨y9,h0,F⟩:=bs F;refine rgn hb7 (clA 1 (si (q1_f:=99) (q1_c:=[]) (q1_b:=acb) (q1_h:=fun _ r h=>(Gv h)) h0)) ?_;exact tl [0]
 have F:=hK0;refine cq F (fun hb0 F=> ?_) fun hb0 F=> ?_
 ·exact tl []
 refine rq (fu rfl rfl rfl rfl rfl rfl) ?_;refine cq F (fun hb1 F=> ?_) fun hb1 F=> ?_
 ·exact tl []
 obtain⟨lr0,F,hK1⟩:=bs F;refine lpG (fun s1=>∃ q,lr0= .next q/\s1=(sX 56 [(1,some (.lp 0 0))] [bf 0 39 (bl a0)] 1)) (fun(q:Int)=>(sX 56 [(1,some (.lp 0 0)),pf 3 (.int .i64 (a0.ac.length:Int)),pf 36 (.vs 2 (map ax a0.aH)),pf 37 (.int .i64 (a0.aH.length:Int)),pf 38 (.int .i64 q)] [bf 0 39 (bl a0)] 1)) (fun k q=>oE a0 k q) 0 (bW [0]) F (fun k x1 F ih=> ?_) ?_
 ·refine gg ?_;refine cq F (fun hb2 F=> ?_) fun hb2 F=> ?_
  ·obtain⟨y0,h1,F⟩:=bs F;refine ga9 ?_;refine dt ?_;refine bt ?_;obtain⟨x2,F,hK2⟩:=bs F;refine ctx (sX 56 [(1,some (.lp 0 0)),pf 3 (.int .i64 (a0.ac.length:Int)),(5,some (.lp 1 0)),pf 36 (.vs 2 (map ax a0.aH)),pf 37 (.int .i64 (a0.aH.length:Int)),pf 38 (.int .i64 x1),pf 44 (.bool x2)] [bf 0 39 (bl a0),bf 1 42 (ax y0)] 2) ?_ ?_
   ·refine go4 ?_;refine cnd F (fun hb3 F=> ?_) fun hb3 F=> ?_
    ·exact tl [0,1]
    refine go4 ?_;refine cnd F (fun hb4 F=> ?_) fun hb4 F=> ?_
    ·exact tl [0,1]
    exact tl [0,1]
   have F:=hK2;refine gg ?_;refine cnd F (fun hb8 F=> ?_) fun hb8 F=> ?_
   ·refine gg ?_;refine rq (la (ax y0) uR) ?_;obtain⟨y1,h2,F⟩:=bs F;refine rq (clA 2 (tP h2)) ?_;refine cnd F (fun hb9 F=> ?_) fun hb9 F=> ?_
    ·refine ga8 ?_;refine aQ ?_;cases F;have F:=bq hK1;exact tl []
    refine gg ?_;exact bv (ih (ah (x1+1)) F) (bW [0])
   refine ga8 ?_;refine aQ ?_;cases F;have F:=bq hK1;exact tl []
  exact tl [0]
 rintro _ ⟨⟨⟩,rfl,rfl⟩;have F:=cj hK1;clear hK1;refine gg ?_;obtain⟨y2,h3,F⟩:=bs F;refine rgp (clA 1 (jw h3)) ?_;exact tl []
theorem sY {a0:List dr} {q1:dr->Option Bool} {r:Int} {q1_f:Nat} {q1_c:List PV} (q1_b:dh Tryz.prog q1_f=true) (q1_h:∀ (x0:dr) (r:Bool),q1 x0=some r->FZ q1_f ([.agg (aj x0)]++q1_c) [.p (.bool r)]) (F:jy a0 q1=some r):FZ 127 [.vs 13 (map aj a0),.fn q1_f q1_c] [.p (.int .i64 r)]:=by
 unfold jy at F;refine fb 19 Tryz.func127 fun w O=> ?_;obtain⟨lr0,F,hK0⟩:=bs F;refine lpG (fun s1=>∃ q,lr0= .next q/\s1=(sX 19 [] [] 0)) (fun(q:Int)=>(sX 19 [pf 0 (.vs 13 (map aj a0)),pf 1 (.fn q1_f q1_c),pf 7 (.int .i64 (a0.length:Int)),pf 8 (.int .i64 q)] [] 0)) (fun k q=>gi a0 q1 k q) 0 (bW []) F (fun k x1 F ih=> ?_) ?_
 ·refine gg ?_;refine cq F (fun hb0 F=> ?_) fun hb0 F=> ?_
  ·obtain⟨y0,h0,F⟩:=bs F;refine gg ?_;obtain⟨y1,h1,F⟩:=bs F;refine rq (eg 0 rfl (caps:=q1_c) (args:=[.agg (aj y0)]) (rs:=[.p (.bool y1)]) rfl rfl rfl q1_b (q1_h y0 _ h1) rfl rfl rfl) ?_;refine cnd F (fun hb1 F=> ?_) fun hb1 F=> ?_
   ·refine ga8 ?_;refine aQ ?_;cases F;have F:=bq hK0;exact tl []
   refine gg ?_;exact bv (ih (ah (x1+1)) F) (bW [])
  exact tl []
 rintro _ ⟨⟨⟩,rfl,rfl⟩;have F:=cj hK0;clear hK0;exact tl []
theorem ri {a0:List dr} {q1:dr->Option Bool} {r:Bool} {q1_f:Nat} {q1_c:List PV} (q1_b:dh Tryz.prog q1_f=true) (q1_h:∀ (x0:dr) (r:Bool),q1 x0=some r->FZ q1_f ([.agg (aj x0)]++q1_c) [.p (.bool r)]) (F:gq a0 q1=some r):FZ 101 [.vs 13 (map aj a0),.fn q1_f q1_c] [.p (.bool r)]:=by
 unfold gq at F;refine fb 9 Tryz.func101 fun w O=> ?_;obtain⟨y1,h2,F⟩:=bs F;refine rgp (clA 0 (sY (q1_b:=q1_b) (q1_h:=q1_h) h2)) ?_;exact tl []
theorem sk {a0:List aF} {q1:aF->Option Bool} {r:Int} {q1_f:Nat} {q1_c:List PV} (q1_b:dh Tryz.prog q1_f=true) (q1_h:∀ (x0:aF) (r:Bool),q1 x0=some r->FZ q1_f ([.agg (ax x0)]++q1_c) [.p (.bool r)]) (F:iK a0 q1=some r):FZ 162 [.vs 2 (map ax a0),.fn q1_f q1_c] [.p (.int .i64 r)]:=by
 unfold iK at F;refine fb 19 Tryz.func162 fun w O=> ?_;obtain⟨lr0,F,hK0⟩:=bs F;refine lpG (fun s1=>∃ q,lr0= .next q/\s1=(sX 19 [] [] 0)) (fun(q:Int)=>(sX 19 [pf 0 (.vs 2 (map ax a0)),pf 1 (.fn q1_f q1_c),pf 7 (.int .i64 (a0.length:Int)),pf 8 (.int .i64 q)] [] 0)) (fun k q=>fk a0 q1 k q) 0 (bW []) F (fun k x1 F ih=> ?_) ?_
 ·refine gg ?_;refine cq F (fun hb0 F=> ?_) fun hb0 F=> ?_
  ·obtain⟨y0,h0,F⟩:=bs F;refine gg ?_;obtain⟨y1,h1,F⟩:=bs F;refine rq (eg 0 rfl (caps:=q1_c) (args:=[.agg (ax y0)]) (rs:=[.p (.bool y1)]) rfl rfl rfl q1_b (q1_h y0 _ h1) rfl rfl rfl) ?_;refine cnd F (fun hb1 F=> ?_) fun hb1 F=> ?_
   ·refine ga8 ?_;refine aQ ?_;cases F;have F:=bq hK0;exact tl []
   refine gg ?_;exact bv (ih (ah (x1+1)) F) (bW [])
  exact tl []
 rintro _ ⟨⟨⟩,rfl,rfl⟩;have F:=cj hK0;clear hK0;exact tl []
theorem qi {a0:List aF} {q1:aF->Option Bool} {r:Bool} {q1_f:Nat} {q1_c:List PV} (q1_b:dh Tryz.prog q1_f=true) (q1_h:∀ (x0:aF) (r:Bool),q1 x0=some r->FZ q1_f ([.agg (ax x0)]++q1_c) [.p (.bool r)]) (F:fg a0 q1=some r):FZ 128 [.vs 2 (map ax a0),.fn q1_f q1_c] [.p (.bool r)]:=by
 unfold fg at F;refine fb 9 Tryz.func128 fun w O=> ?_;obtain⟨y1,h2,F⟩:=bs F;refine rgp (clA 0 (sk (q1_b:=q1_b) (q1_h:=q1_h) h2)) ?_;exact tl []
theorem Ai {a0:aF} {r:Bool} (F:qt a0=some r):FZ 129 [.agg (ax a0)] [.p (.bool r)]:=by
 unfold qt at F;refine cy (n:=6) Tryz.func129 rfl rfl rfl fun w O=> ?_;exact tl []
theorem Cf {a0:cd} {r:(List aF)} (F:vE a0=some r):FZ 95 [.vp (bV a0)] [.p (.vs 2 (map ax r))]:=by
 unfold vE at F;refine fb 17 Tryz.func95 fun w O=> ?_;refine rq (iz rfl rfl rfl rfl rfl) ?_;refine rgp (Ue rfl rfl rfl rfl rfl) ?_;refine rq (Au rfl rfl rfl rfl rfl) ?_;refine rq (iz rfl rfl rfl rfl rfl) ?_;obtain⟨y1,h2,F⟩:=bs F;refine rgp (xT (f:=ax) (l:=(a0.ae).l) (nl:=none) (nh:=(some (ah ((if(if 3 < a0.fN then 3 else a0.fN) > 0 then(if 3 < a0.fN then 3 else a0.fN) else 0)+1)))) (nm:=(some (ah ((if(if 3 < a0.fN then 3 else a0.fN) > 0 then(if 3 < a0.fN then 3 else a0.fN) else 0)+1)))) rfl rfl rfl rfl rfl (.inr rfl) sC rfl (fun _=>rfl) rfl rfl h2 rfl rfl) ?_;exact tl []
theorem rB {a0:cd} {a1:Int} {r:Bool} (F:nQ a0 a1=some r):FZ 94 [.agg (bV a0),.int .i64 a1] [.p (.bool r)]:=by
 unfold nQ at F;refine cy (n:=74) Tryz.func94 rfl rfl rfl fun w O=> ?_;refine ga9 ?_;refine dt ?_;refine bt ?_;obtain⟨x2,F,hK4⟩:=bs F;refine ctx (sX 74 [pf 1 (.int .i64 a1),(2,some (.lp 0 0)),pf 13 (.int .i64 a0.aa),pf 14 (.bool x2)] [bf 0 45 (bV a0)] 1) ?_ ?_
 ·refine go4 ?_;refine cnd F (fun hb1 F=> ?_) fun hb1 F=> ?_
  ·exact tl [0]
  exact tl [0]
 have F:=hK4;refine gg ?_;refine cq F (fun hb5 F=> ?_) fun hb5 F=> ?_
 ·refine rq (la (bV a0) iW) ?_;refine rgp (bd ((bV cA)) (bV (⟨a0.aa,[],0,(⟨av,av,av,av⟩:A4 aF)⟩:cd)) xj Ks) ?_;refine rgp (MZ (r:=lM a0 (⟨a0.aa,[],0,(⟨av,av,av,av⟩:A4 aF)⟩:cd)) rfl rfl rfl Ic rfl rfl rfl rfl rfl) ?_;exact tl []
 refine cnd F (fun hb6 F=> ?_) fun hb6 F=> ?_
 ·refine bt ?_;obtain⟨x0,F,hK0⟩:=bs F;refine ctq (sX 74 [pf 1 (.int .i64 a1),(2,some (.lp 0 0)),pf 37 (.bool x0)] [bf 0 45 (bV a0)] 1) ?_ ?_
  ·obtain⟨y9,h0,F⟩:=bs F;refine rgp (clA 1 (jw h0)) ?_;exact tl [0]
  have F:=hK0;refine cnd F (fun hb0 F=> ?_) fun hb0 F=> ?_
  ·exact tl []
  refine ga4 ?_;refine bG (iu [(0,some (.box 45 (bxv (bV a0))))] [(2,some (.pv (.vp (bV a0))))] (FzH.spec ⟨rfl,trivial⟩) ⟨⟨_,rfl,rfl⟩,trivial⟩) ?_;obtain⟨y0,h1,F⟩:=bs F;refine rq (clA 1 (Cf h1)) ?_;obtain⟨lr0,F,hK1⟩:=bs F;refine lpG (fun s1=>∃ q,lr0= .next q/\s1=(sX 74 [pf 2 (.vp (bV a0)),pf 5 (.vs 2 (map ax y0))] [] 0)) (fun(q:Int)=>(sX 74 [pf 1 (.int .i64 a1),pf 2 (.vp (bV a0)),pf 5 (.vs 2 (map ax y0)),pf 39 (.vs 2 (map ax y0)),pf 40 (.int .i64 (y0.length:Int)),pf 41 (.int .i64 q)] [] 0)) (fun k q=>nr a1 y0 k q) 0 (bW []) F (fun k x1 F ih=> ?_) ?_
  ·refine gg ?_;refine cq F (fun hb2 F=> ?_) fun hb2 F=> ?_
   ·obtain⟨y1,h2,F⟩:=bs F;refine gg ?_;refine rq (la (ax y1) uR) ?_;obtain⟨y2,h3,F⟩:=bs F;refine rq (clA 1 (tP h3)) ?_;refine cnd F (fun hb3 F=> ?_) fun hb3 F=> ?_
    ·refine ga7 ?_;refine aQ ?_;cases F;have F:=bq hK1;exact tl []
    refine gg ?_;exact bv (ih (ah (x1+1)) F) (bW [])
   exact tl []
  rintro _ ⟨⟨⟩,rfl,rfl⟩;have F:=cj hK1;clear hK1;refine gg ?_;obtain⟨y3,h4,F⟩:=bs F;refine rq (CD (nl:=(some 1)) (nh:=none) (nm:=none) rfl rfl rfl rfl rfl (.inl rfl) GW (Sb (nl:=(some 1)) (nh:=none) ax h4) rfl rfl) ?_;obtain⟨lr1,F,hK2⟩:=bs F;refine lpG (fun s1=>∃ q,lr1= .next q/\s1=(sX 74 [pf 2 (.vp (bV a0)),pf 5 (.vs 2 (map ax y0))] [] 0)) (fun(q:Int)=>(sX 74 [pf 2 (.vp (bV a0)),pf 5 (.vs 2 (map ax y0)),pf 51 (.vs 2 (map ax y3)),pf 52 (.int .i64 (y3.length:Int)),pf 53 (.int .i64 q)] [] 0)) (fun k q=>ng y3 k q) 0 (bW []) F (fun k x3 F ih=> ?_) ?_
  ·refine gg ?_;refine cq F (fun hb4 F=> ?_) fun hb4 F=> ?_
   ·obtain⟨y4,h5,F⟩:=bs F;refine gg ?_;refine cnd F (fun hb7 F=> ?_) fun hb7 F=> ?_
    ·refine ga7 ?_;refine aQ ?_;cases F;have F:=bq hK2;exact tl []
    refine gg ?_;exact bv (ih (ah (x3+1)) F) (bW [])
   exact tl []
  rintro _ ⟨⟨⟩,rfl,rfl⟩;have F:=cj hK2;clear hK2;refine gg ?_;obtain⟨y5,h6,F⟩:=bs F;refine rq (xT (f:=ax) (l:=(a0.ae).l) (nl:=(some (y0.length:Int))) (nh:=none) (nm:=none) rfl rfl rfl rfl rfl (.inl rfl) sC rfl (fun _=>rfl) rfl rfl h6 rfl rfl) ?_;obtain⟨lr2,F,hK3⟩:=bs F;refine lpG (fun s1=>∃ q,lr2= .next q/\s1=(sX 74 [] [] 0)) (fun(q:Int)=>(sX 74 [pf 64 (.vs 2 (map ax y5)),pf 65 (.int .i64 (y5.length:Int)),pf 66 (.int .i64 q)] [] 0)) (fun k q=>nv y5 k q) 0 (bW []) F (fun k x4 F ih=> ?_) ?_
  ·refine gg ?_;refine cq F (fun hb8 F=> ?_) fun hb8 F=> ?_
   ·obtain⟨y6,h7,F⟩:=bs F;refine gg ?_;refine rgp (la (ax y6) uR) ?_;refine rgp (bd ((ax av)) (ax av) wh Bt) ?_;refine rq (oO (r:=kO y6 av) rfl rfl rfl VU rfl rfl rfl rfl rfl) ?_;refine cnd F (fun hb9 F=> ?_) fun hb9 F=> ?_
    ·refine ga7 ?_;refine aQ ?_;cases F;have F:=bq hK3;exact tl []
    refine gg ?_;exact bv (ih (ah (x4+1)) F) (bW [])
   exact tl []
  rintro _ ⟨⟨⟩,rfl,rfl⟩;have F:=cj hK3;clear hK3;exact tl []
 exact tl []
theorem sF {a0:cd} {a1:Int} {r:Bool} (F:mQ a0 a1=some r):FZ 103 [.agg (bV a0),.int .i64 a1] [.p (.bool r)]:=by
 unfold mQ at F;refine cy (n:=30) Tryz.func103 rfl rfl rfl fun w O=> ?_;refine ga6 ?_;refine bG (iu [(0,some (.box 45 (bxv (bV a0))))] [(2,some (.pv (.vp (bV a0)))),(6,some (.pv (.vp (List.drop 3 (bV a0)))))] (FzH.spec ⟨rfl,trivial⟩) ⟨⟨_,rfl,rfl⟩,⟨_,rfl,rfl⟩,trivial⟩) ?_;obtain⟨y6,h7,F⟩:=bs F;refine rgp (xT (f:=ax) (l:=(a0.ae).l) (nl:=(some 1)) (nh:=none) (nm:=none) rfl rfl rfl rfl rfl (.inl rfl) sC rfl (fun _=>rfl) rfl rfl h7 rfl rfl) ?_;obtain⟨y9,h0,F⟩:=bs F;refine rq (clA 1 (qi (q1_f:=129) (q1_c:=[]) (q1_b:=Yr) (q1_h:=fun _ r h=>(Ai h)) h0)) ?_;refine iq F (fun hb0 F=> ?_) fun hb0 F=> ?_
 ·obtain⟨y0,h1,F⟩:=bs F;refine rqn hb0 (clA 1 (rB h1)) ?_;refine iq F (fun hb1 F=> ?_) fun hb1 F=> ?_
  ·refine rqn hb1 (BA (k:= .i64) (m:=0) (n:=4) rfl rfl rfl sC rfl rfl rfl rfl) ?_;refine iq F (fun hb2 F=> ?_) fun hb2 F=> ?_
   ·exact tl []
   refine rgn hb2 (BA (k:= .i64) (m:=0) (n:=4) rfl rfl rfl sC rfl rfl rfl rfl) ?_;exact tl []
  exact tl []
 exact tl []
theorem Ef {a0:dr} {c0:Int} {r:Bool} (F:uC a0 c0=some r):FZ 102 [.agg (aj a0),.vp (eI c0)] [.p (.bool r)]:=by
 unfold uC at F;refine fb 21 Tryz.func102 fun w O=> ?_;refine iq F (fun hb1 F=> ?_) fun hb1 F=> ?_
 ·exact tl []
 obtain⟨y2,h3,F⟩:=bs F;refine rqn hb1 (clA 1 (jw h3)) ?_;refine iq F (fun hb4 F=> ?_) fun hb4 F=> ?_
 ·exact tl []
 refine rqn hb4 (la (bV a0.aJ) iW) ?_;obtain⟨y5,h6,F⟩:=bs F;refine rgn hb4 (clA 1 (sF h6)) ?_;exact tl []
theorem wy {a0:List dr} {a1:Int} {a2:Int} {r:Bool} (F:ny a0 a1 a2=some r):FZ 68 [.vs 13 (map aj a0),.int .i64 a1,.int .i64 a2] [.p (.bool r)]:=by
 unfold ny at F;refine fb 17 Tryz.func68 fun w O=> ?_;refine iq F (fun hb1 F=> ?_) fun hb1 F=> ?_
 ·refine rgn hb1 (lC rfl rfl rfl rfl) ?_;obtain⟨y3,h4,F⟩:=bs F;refine rgn hb1 (ot 1 rfl (caps:=[]) (args:=[.vs 13 (map aj a0),.fn 102 [.vp (eI a2)]]) [(0,some (.box 3 [pI a2]))] rfl rfl rfl (FzH.spec ⟨rfl,trivial⟩) rfl rfl Zc (ri (q1_f:=102) (q1_c:=[.vp (eI a2)]) (q1_b:=YP) (q1_h:=fun _ r h=>(Ef h)) h4) rfl rfl rfl) ?_;exact tl []
 exact tl []
theorem rh {a0:List bM} {q1:bM->Option Bool} {r:Int} {q1_f:Nat} {q1_c:List PV} (q1_b:dh Tryz.prog q1_f=true) (q1_h:∀ (x0:bM) (r:Bool),q1 x0=some r->FZ q1_f ([.agg (bg x0)]++q1_c) [.p (.bool r)]) (F:iB a0 q1=some r):FZ 104 [.vs 17 (map bg a0),.fn q1_f q1_c] [.p (.int .i64 r)]:=by
 unfold iB at F;refine fb 19 Tryz.func104 fun w O=> ?_;obtain⟨lr0,F,hK0⟩:=bs F;refine lpG (fun s1=>∃ q,lr0= .next q/\s1=(sX 19 [] [] 0)) (fun(q:Int)=>(sX 19 [pf 0 (.vs 17 (map bg a0)),pf 1 (.fn q1_f q1_c),pf 7 (.int .i64 (a0.length:Int)),pf 8 (.int .i64 q)] [] 0)) (fun k q=>eO a0 q1 k q) 0 (bW []) F (fun k x1 F ih=> ?_) ?_
 ·refine gg ?_;refine cq F (fun hb0 F=> ?_) fun hb0 F=> ?_
  ·obtain⟨y0,h0,F⟩:=bs F;refine gg ?_;obtain⟨y1,h1,F⟩:=bs F;refine rq (eg 0 rfl (caps:=q1_c) (args:=[.agg (bg y0)]) (rs:=[.p (.bool y1)]) rfl rfl rfl q1_b (q1_h y0 _ h1) rfl rfl rfl) ?_;refine cnd F (fun hb1 F=> ?_) fun hb1 F=> ?_
   ·refine ga8 ?_;refine aQ ?_;cases F;have F:=bq hK0;exact tl []
   refine gg ?_;exact bv (ih (ah (x1+1)) F) (bW [])
  exact tl []
 rintro _ ⟨⟨⟩,rfl,rfl⟩;have F:=cj hK0;clear hK0;exact tl []
theorem qc {a0:List bM} {q1:bM->Option Bool} {r:Bool} {q1_f:Nat} {q1_c:List PV} (q1_b:dh Tryz.prog q1_f=true) (q1_h:∀ (x0:bM) (r:Bool),q1 x0=some r->FZ q1_f ([.agg (bg x0)]++q1_c) [.p (.bool r)]) (F:ea a0 q1=some r):FZ 69 [.vs 17 (map bg a0),.fn q1_f q1_c] [.p (.bool r)]:=by
 unfold ea at F;refine fb 9 Tryz.func69 fun w O=> ?_;obtain⟨y1,h2,F⟩:=bs F;refine rgp (clA 0 (rh (q1_b:=q1_b) (q1_h:=q1_h) h2)) ?_;exact tl []
theorem Pg {a0:Int} {r:Int} (F:qf a0=some r):FZ 130 [.int .i64 a0] [.p (.int .i64 r)]:=by
 unfold qf at F;refine cy (n:=26) Tryz.func130 rfl rfl rfl fun w O=> ?_;refine go7 ?_;refine dt ?_;refine go4 ?_;refine cnd F (fun hb1 F=> ?_) fun hb1 F=> ?_
 ·exact tl []
 refine go4 ?_;refine cnd F (fun hb2 F=> ?_) fun hb2 F=> ?_
 ·exact tl []
 refine go4 ?_;refine cnd F (fun hb3 F=> ?_) fun hb3 F=> ?_
 ·exact tl []
 refine go4 ?_;refine cnd F (fun hb4 F=> ?_) fun hb4 F=> ?_
 ·exact tl []
 refine go4 ?_;refine cnd F (fun hb5 F=> ?_) fun hb5 F=> ?_
 ·exact tl []
 refine go4 ?_;refine cnd F (fun hb6 F=> ?_) fun hb6 F=> ?_
 ·exact tl []
 refine go4 ?_;refine cnd F (fun hb7 F=> ?_) fun hb7 F=> ?_
 ·exact tl []
 refine go4 ?_;refine cnd F (fun hb8 F=> ?_) fun hb8 F=> ?_
 ·exact tl []
 refine go4 ?_;refine cnd F (fun hb9 F=> ?_) fun hb9 F=> ?_
 ·exact tl []
 refine go4 ?_;refine cnd F (fun hb0 F=> ?_) fun hb0 F=> ?_
 ·exact tl []
 refine go4 ?_;refine cnd F (fun hb12 F=> ?_) fun hb12 F=> ?_
 ·exact tl []
 exact tl []
theorem Jd {a0:ap} {a1:Int} {r:Bool} (F:ue a0 a1=some r):FZ 131 [.agg (bm a0),.int .i64 a1] [.p (.bool r)]:=by
 unfold ue at F;refine cy (n:=58) Tryz.func131 rfl rfl rfl fun w O=> ?_;refine ga4 ?_;refine bt ?_;refine qj F (fun q=>(sX 58 [pf 1 (.int .i64 a1),(2,some (.lp 0 0))] [bf 0 55 (bm a0)] 1)) ?_ ?_
 ·refine dt ?_;refine bt ?_;obtain⟨x3,F,hK5⟩:=gz F;refine ctx (sX 58 [pf 1 (.int .i64 a1),(2,some (.lp 0 0)),pf 5 (.bool x3)] [bf 0 55 (bm a0)] 1) ?_ ?_
  ·refine gg ?_;refine rq (lq rfl rfl rfl rfl rfl rfl) ?_;refine iq F (fun hb1 F=> ?_) fun hb1 F=> ?_
   ·exact tl [0]
   refine rqn hb1 (lq rfl rfl rfl rfl rfl rfl) ?_;refine iq F (fun hb2 F=> ?_) fun hb2 F=> ?_
   ·refine rgn hb2 (fu rfl rfl rfl rfl rfl rfl) ?_;exact tl [0]
   exact tl [0]
  have F:=hK5;refine go ?_;rcases gU F with⟨hb6,F⟩ | ⟨hb6,F⟩
  ·refine de rfl hb6 ?_;refine gg ?_;refine rgp (fu rfl rfl rfl rfl rfl rfl) ?_;refine go ?_;rcases gU F with⟨hb7,F⟩ | ⟨hb7,F⟩
   ·refine de rfl hb7 ?_;refine ga5 ?_;refine dZ ?_
    replace F:=jS F
    exact tl []
   refine dc rfl hb7 ?_;refine ga2 ?_;exact eA _ ⟨(),rfl,F⟩ (bW [0])
  refine dc rfl hb6 ?_;refine ga3 ?_;obtain⟨y0,h0,F⟩:=gz F;refine rgp (clA 1 (jw h0)) ?_;refine ga3 ?_;rcases gU F with⟨hb0,F⟩ | ⟨hb0,F⟩
  ·refine de rfl hb0 ?_;refine ga5 ?_;refine dZ ?_
   replace F:=jS F
   exact tl []
  refine dc rfl hb0 ?_;refine ga2 ?_;exact eA _ ⟨(),rfl,F⟩ (bW [0])
 rintro ⟨⟩ F;refine go ?_;refine bt ?_;refine qj F (fun q=>(sX 58 [pf 1 (.int .i64 a1),(2,some (.lp 0 0))] [bf 0 55 (bm a0)] 1)) ?_ ?_
 ·refine gg ?_;refine rgp (lq rfl rfl rfl rfl rfl rfl) ?_;refine ga3 ?_;rcases gU F with⟨hb3,F⟩ | ⟨hb3,F⟩
  ·refine de rfl hb3 ?_;refine gg ?_;refine rgp (fu rfl rfl rfl rfl rfl rfl) ?_;refine go ?_;rcases gU F with⟨hb4,F⟩ | ⟨hb4,F⟩
   ·refine de rfl hb4 ?_;refine ga5 ?_;refine dZ ?_
    replace F:=jS F
    exact tl []
   refine dc rfl hb4 ?_;refine ga2 ?_;exact eA _ ⟨(),rfl,F⟩ (bW [0])
  refine dc rfl hb3 ?_;refine bt ?_;obtain⟨x0,F,hK0⟩:=gz F;refine ctx (sX 58 [pf 1 (.int .i64 a1),(2,some (.lp 0 0)),pf 34 (.bool x0)] [bf 0 55 (bm a0)] 1) ?_ ?_
  ·refine gg ?_;obtain⟨y1,h1,F⟩:=bs F;refine rq (clA 1 (jw h1)) ?_;refine iq F (fun hb5 F=> ?_) fun hb5 F=> ?_
   ·refine rqn hb5 (lq rfl rfl rfl rfl rfl rfl) ?_;refine iq F (fun hb8 F=> ?_) fun hb8 F=> ?_
    ·exact tl [0]
    refine rgn hb8 (fu rfl rfl rfl rfl rfl rfl) ?_;exact tl [0]
   exact tl [0]
  have F:=hK0;refine go ?_;rcases gU F with⟨hb9,F⟩ | ⟨hb9,F⟩
  ·refine de rfl hb9 ?_;refine ga5 ?_;refine dZ ?_
   replace F:=jS F
   exact tl []
  refine dc rfl hb9 ?_;refine ga2 ?_;exact eA _ ⟨(),rfl,F⟩ (bW [0])
 rintro ⟨⟩ F;refine gg ?_;refine rq (lq rfl rfl rfl rfl rfl rfl) ?_;refine cq F (fun hb10 F=> ?_) fun hb10 F=> ?_
 ·refine rgp (fu rfl rfl rfl rfl rfl rfl) ?_;exact tl []
 obtain⟨y2,h2,F⟩:=bs F;refine rgp (clA 1 (jw h2)) ?_;exact tl []
theorem sv {a0:List au} {a1:List au} {q2:au->au->Option Bool} {r:Bool} {q2_f:Nat} {q2_c:List PV} (q2_b:dh Tryz.prog q2_f=true) (q2_h:∀ (x0:au) (x1:au) (r:Bool),q2 x0 x1=some r->FZ q2_f ([.agg (aE x0),.agg (aE x1)]++q2_c) [.p (.bool r)]) (F:jh a0 a1 q2=some r):FZ 206 [.vs 4 (bU a0),.vs 4 (bU a1),.fn q2_f q2_c] [.p (.bool r)]:=by
 unfold jh at F;refine fb 32 Tryz.func206 fun w O=> ?_;refine cq F (fun hb1 F=> ?_) fun hb1 F=> ?_
 ·exact tl []
 obtain⟨lr0,F,hK0⟩:=bs F;refine lpG (fun s1=>∃ q,lr0= .next q/\s1=(sX 32 [] [] 0)) (fun(q:Int)=>(sX 32 [pf 1 (.vs 4 (bU a1)),pf 2 (.fn q2_f q2_c),pf 15 (.vs 4 (bU a0)),pf 16 (.int .i64 (a0.length:Int)),pf 17 (.int .i64 q)] [] 0)) (fun k q=>io a0 a1 q2 k q) 0 (bW []) F (fun k x2 F ih=> ?_) ?_
 ·refine gg ?_;refine cq F (fun hb0 F=> ?_) fun hb0 F=> ?_
  ·obtain⟨y0,h0,F⟩:=bs F;refine gg ?_;obtain⟨y1,h1,F⟩:=bs F;refine gg ?_;refine rgp (la (aE y0) eN) ?_;refine rgp (la (aE y1) eN) ?_;obtain⟨y2,h2,F⟩:=bs F;refine rq (eg 2 rfl (caps:=q2_c) (args:=[.agg (aE y0),.agg (aE y1)]) (rs:=[.p (.bool y2)]) rfl rfl rfl q2_b (q2_h y0 y1 _ h2) rfl rfl rfl) ?_;refine cnd F (fun hb2 F=> ?_) fun hb2 F=> ?_
   ·refine ga7 ?_;refine aQ ?_;cases F;have F:=bq hK0;exact tl []
   refine gg ?_;exact bv (ih (ah (x2+1)) F) (bW [])
  exact tl []
 rintro _ ⟨⟨⟩,rfl,rfl⟩;have F:=cj hK0;clear hK0;exact tl []
theorem Gu : ∀ n:Nat,(∀ (a0:au) (a1:au) (r:Bool),pO n a0 a1=some r->FZ 184 [.agg (aE a0),.agg (aE a1)] [.p (.bool r)]):=by
 intro n
 induction n with
 | zero=>exact(fun _ _ _ h=>by simp[pO] at h)
 | succ n ih=>
  have expr_Same_ih:=ih;clear ih;intro a0 a1 r F;unfold pO at F
  revert F expr_Same_ih
  generalize pO n=expr_Same_rec
  intro expr_Same_ih F;refine fb 31 Tryz.func184 fun w O=> ?_;refine iq F (fun hb1 F=> ?_) fun hb1 F=> ?_
  ·refine iq F (fun hb2 F=> ?_) fun hb2 F=> ?_
   ·refine rqn hb2 (fu rfl rfl rfl rfl rfl rfl) ?_;refine iq F (fun hb3 F=> ?_) fun hb3 F=> ?_
    ·obtain⟨y6,h7,F⟩:=bs F;refine rgn hb3 (clA 2 (sv (q2_f:=184) (q2_c:=[]) (q2_b:=Zt) (q2_h:=fun _ _ r h=>(expr_Same_ih _ _ _ h)) h7)) ?_;exact tl []
    exact tl []
   exact tl []
  exact tl []
theorem Lz {n:Nat} {a0:au} {a1:au} {r:Bool} (F:pO n a0 a1=some r):FZ 184 [.agg (aE a0),.agg (aE a1)] [.p (.bool r)]:=(Gu n) _ _ _ F

theorem AA {a0:au} {r:Bool} (F:tv a0=some r):FZ 163 [.agg (aE a0)] [.p (.bool r)]:=by
 unfold tv at F;refine fb 6 Tryz.func163 fun w O=> ?_;refine rgp (la (aE a0) eN) ?_;refine rgp (bd ((aE bT)) (aE bT) jX qk) ?_;obtain⟨y1,h2,F⟩:=bs F;refine rgp (clA 1 (Lz h2)) ?_;exact tl []
theorem sy {a0:List au} {q1:au->Option Bool} {r:Int} {q1_f:Nat} {q1_c:List PV} (q1_b:dh Tryz.prog q1_f=true) (q1_h:∀ (x0:au) (r:Bool),q1 x0=some r->FZ q1_f ([.agg (aE x0)]++q1_c) [.p (.bool r)]) (F:gW a0 q1=some r):FZ 185 [.vs 4 (bU a0),.fn q1_f q1_c] [.p (.int .i64 r)]:=by
 unfold gW at F;refine fb 19 Tryz.func185 fun w O=> ?_;obtain⟨lr0,F,hK0⟩:=bs F;refine lpG (fun s1=>∃ q,lr0= .next q/\s1=(sX 19 [] [] 0)) (fun(q:Int)=>(sX 19 [pf 0 (.vs 4 (bU a0)),pf 1 (.fn q1_f q1_c),pf 7 (.int .i64 (a0.length:Int)),pf 8 (.int .i64 q)] [] 0)) (fun k q=>dP a0 q1 k q) 0 (bW []) F (fun k x1 F ih=> ?_) ?_
 ·refine gg ?_;refine cq F (fun hb0 F=> ?_) fun hb0 F=> ?_
  ·obtain⟨y0,h0,F⟩:=bs F;refine gg ?_;obtain⟨y1,h1,F⟩:=bs F;refine rq (eg 0 rfl (caps:=q1_c) (args:=[.agg (aE y0)]) (rs:=[.p (.bool y1)]) rfl rfl rfl q1_b (q1_h y0 _ h1) rfl rfl rfl) ?_;refine cnd F (fun hb1 F=> ?_) fun hb1 F=> ?_
   ·refine ga8 ?_;refine aQ ?_;cases F;have F:=bq hK0;exact tl []
   refine gg ?_;exact bv (ih (ah (x1+1)) F) (bW [])
  exact tl []
 rintro _ ⟨⟨⟩,rfl,rfl⟩;have F:=cj hK0;clear hK0;exact tl []
theorem jf {a0:List au} {q1:au->Option Bool} {r:Bool} {q1_f:Nat} {q1_c:List PV} (q1_b:dh Tryz.prog q1_f=true) (q1_h:∀ (x0:au) (r:Bool),q1 x0=some r->FZ q1_f ([.agg (aE x0)]++q1_c) [.p (.bool r)]) (F:cJ a0 q1=some r):FZ 164 [.vs 4 (bU a0),.fn q1_f q1_c] [.p (.bool r)]:=by
 unfold cJ at F;refine fb 9 Tryz.func164 fun w O=> ?_;obtain⟨y1,h2,F⟩:=bs F;refine rgp (clA 0 (sy (q1_b:=q1_b) (q1_h:=q1_h) h2)) ?_;exact tl []
theorem FU : ∀ n:Nat,(∀ (a0:au) (a1:Int) (r:Bool),mu n a0 a1=some r->FZ 171 [.agg (aE a0),.int .i64 a1] [.p (.bool r)])/\(∀ (a0:au) (c0:Int) (r:Bool),om n a0 c0=some r->FZ 190 [.agg (aE a0),.vp (eI c0)] [.p (.bool r)]):=by
 intro n
 induction n with
 | zero=>exact⟨fun _ _ _ h=>by simp[mu] at h,fun _ _ _ h=>by simp[om] at h⟩
 | succ n ih=>
  obtain⟨expr_deep_ih,expr_deep_1_ih⟩:=ih;refine⟨?_,?_⟩
  ·intro a0 a1 r F;unfold mu at F
   revert F expr_deep_ih expr_deep_1_ih
   generalize mu n=expr_deep_rec
   generalize om n=expr_deep_1_rec
   intro expr_deep_ih expr_deep_1_ih F;refine fb 12 Tryz.func171 fun w O=> ?_;refine cq F (fun hb1 F=> ?_) fun hb1 F=> ?_
   ·exact tl []
   refine rgp (lC rfl rfl rfl rfl) ?_;obtain⟨y3,h4,F⟩:=bs F;refine rgp (ot 2 rfl (caps:=[]) (args:=[.vs 4 (bU a0.aY),.fn 190 [.vp (eI a1)]]) [(1,some (.box 3 [pI a1]))] rfl rfl rfl (FzH.spec ⟨rfl,trivial⟩) rfl rfl Sx (jf (q1_f:=190) (q1_c:=[.vp (eI a1)]) (q1_b:=ZA) (q1_h:=fun _ r h=>(expr_deep_1_ih _ _ _ h)) h4) rfl rfl rfl) ?_;exact tl []
  ·intro a0 c0 r F;unfold om at F
   revert F expr_deep_ih expr_deep_1_ih
   generalize mu n=expr_deep_rec
   generalize om n=expr_deep_1_rec
   intro expr_deep_ih expr_deep_1_ih F;refine fb 9 Tryz.func190 fun w O=> ?_;refine rq (la (aE a0) eN) ?_;obtain⟨y1,h2,F⟩:=bs F;refine rgp (clA 1 (expr_deep_ih _ _ _ h2)) ?_;exact tl []
theorem Kg {n:Nat} {a0:au} {a1:Int} {r:Bool} (F:mu n a0 a1=some r):FZ 171 [.agg (aE a0),.int .i64 a1] [.p (.bool r)]:=(FU n).1 _ _ _ F
theorem Px {a0:au} {r:au} (F:AJ a0=some r):FZ 172 [.agg (aE a0)] [.p (.fn 191 [.vp (aE r)])]:=by
 unfold AJ at F;refine fb 4 Tryz.func172 fun w O=> ?_;refine rgp (lC rfl rfl rfl rfl) ?_;refine ga3 ?_;refine lk (iu [(0,some (.box 53 (bxv (aE a0))))] [(2,some (.pv (.fn 191 [.vp (aE a0)])))] (FzH.spec ⟨rfl,trivial⟩) ⟨⟨_,rfl,rfl⟩,trivial⟩) ?_;cases F;exact jo rfl rfl (.cons _ _ _ _ _ (.tmp _ _ rfl) (.p _) .nil) (.inl rfl)
theorem tb {a0:List au} {r:(List au)} (F:jv a0=some r):FZ 192 [.vs 4 (bU a0)] [.p (.fn 207 [.vp ((fun x=>([.vs 4 (bU x)]:List PV)) r)])]:=by
 unfold jv at F;refine fb 4 Tryz.func192 fun w O=> ?_;refine rgp (lC rfl rfl rfl rfl) ?_;refine ga3 ?_;refine lk (iu [(0,some (.box 51 [.pv (.vs 4 (bU a0))]))] [(2,some (.pv (.fn 207 [.vp ((fun x=>([.vs 4 (bU x)]:List PV)) a0)])))] (FzH.spec ⟨rfl,trivial⟩) ⟨⟨_,rfl,rfl⟩,trivial⟩) ?_;cases F;exact jo rfl rfl (.cons _ _ _ _ _ (.tmp _ _ rfl) (.p _) .nil) (.inl rfl)
theorem rY {rows:List (Int×au)} {sp:Nat} {c0:List au} (F:iO rows sp c0=some (min (sp+1) rows.length)):It dY Tryz.prog 207 2 [.vp ((fun x=>([.vs 4 (bU x)]:List PV)) c0)] none [] (rows.map (fun z:Int×au=>([.int .i64 z.1,.agg (aE z.2)]:List PV))) sp:=by
 unfold iO at F;refine Gz (n:=19) Tryz.func207 rfl rfl rfl ?_;intro l c hcx;refine ga5 ?_;refine cg ?_;refine piz (sX 19 [pf 0 (.yld l),pf 1 (.vp ((fun x=>([.vs 4 (bU x)]:List PV)) c0)),pf 3 (.int .i64 (ah ((c0.length:Int) - 1)))] [] 0) [] ?_;refine gg ?_;obtain⟨lr0,F,hK0⟩:=bs F;refine lpG (fun s1=>∃ q,lr0= .next q/\s1=⟨19,[],[],0,[],[],q,[]⟩) (fun(q:Nat×Int)=>⟨19,[(0,some (.pv (.yld l))),(1,some (.pv (.vp ((fun x=>([.vs 4 (bU x)]:List PV)) c0)))),(3,some (pI q.2))],[],0,[],[],q.1,[]⟩) (fun k q=>ek c0 sp rows k q.1 q.2) (0,ah ((c0.length:Int) - 1)) (bW []) F (fun k ⟨x0,x1⟩ F ih=> ?_) ?_
 ·refine sh ?_;refine ga4 ?_;refine cg ?_;refine piz ⟨19,[(0,some (.pv (.yld l))),(1,some (.pv (.vp ((fun x=>([.vs 4 (bU x)]:List PV)) c0)))),(3,some (pI x1)),(8,some (pB (decide (x1 >= 0))))],[],0,[],[],x0,[]⟩ [] ?_;refine gg ?_;refine cq F (fun hb0 F=> ?_) fun hb0 F=> ?_
  ·obtain⟨y0,h0,F⟩:=bs F;refine gg ?_;obtain⟨u0,h1,F⟩:=bs F;refine rgp (Nw (row:=(fun z:Int×au=>([.int .i64 z.1,.agg (aE z.2)]:List PV)) (x1,y0)) hcx rfl rfl rfl rfl (TZ (fun z:Int×au=>([.int .i64 z.1,.agg (aE z.2)]:List PV)) h1) (FM h1).2 rfl rfl) ?_;refine go ?_;refine cg ?_;refine piz ⟨19,[(0,some (.pv (.yld l))),(1,some (.pv (.vp ((fun x=>([.vs 4 (bU x)]:List PV)) c0)))),(3,some (pI x1)),(18,some (pB (!(!(x0==sp)))))],[],0,[],[],(x0+1),[]⟩ [] ?_;refine gg ?_;refine cnd F (fun hb1 F=> ?_) fun hb1 F=> ?_
   ·refine ga4 ?_;refine aQ ?_;cases F;have F:=bq hK0;exact DT (Lu F) rfl (.inl rfl)
   refine gg ?_;exact bv (ih ((x0+1),ah (x1 - 1)) F) (bW [])
  exact tl []
 rintro _ ⟨x2,rfl,rfl⟩;have F:=cj hK0;clear hK0;exact DT (Lu F) rfl (.inr rfl)

theorem Jo {rows:List (au)} {sp:Nat} {c0:au} (F:wo rows sp c0=some (min (sp+1) rows.length)):It dY Tryz.prog 191 1 [.vp (aE c0)] none [] (rows.map (fun z:au=>([.agg (aE z)]:List PV))) sp:=by
 unfold wo at F;refine Gz (n:=38) Tryz.func191 rfl rfl rfl ?_;intro l c hcx;refine gg ?_;refine rgp (QC 0 rfl (rows:=map aE ([c0]:List au)) (rows':=bU ([c0]:List au)) (zs:=(aE bT)) rfl rfl kz jX (by exact⟨rfl,rfl,rfl,trivial,trivial⟩) rfl rfl rfl rfl rfl rfl (cT _) rfl rfl) ?_;refine rgp (al 1 [.nils] abF) ?_;refine bG (bC 1 0 51 53 4 2 rfl rfl rfl) ?_;refine go ?_;refine cg ?_;refine piz (sX 38 [pf 0 (.yld l),(3,some (.lp 0 0))] [(0,some (.box 51 [.ls 1])),(1,some (.row 53 4 (bU [c0])))] 2) [1,0] ?_;refine gg ?_;obtain⟨lr0,F,hK0⟩:=bs F;refine lpG (fun s1=>∃ q,lr0= .next q/\s1=⟨38,[],[],0,[],[],q,[]⟩) (fun(q:Nat×(List au))=>⟨38,[(0,some (.pv (.yld l))),(3,some (.lp 0 0))],[(0,some (.box 51 [.ls 1])),(1,some (.row 53 4 (bU q.2)))],2,[],[],q.1,[]⟩) (fun k q=>nj sp rows k q.1 q.2) (0,[c0]) (bW [0,1]) F (fun k ⟨x0,x1⟩ F ih=> ?_) ?_
 ·refine gg ?_;refine rgp (jR rfl rfl rfl (Ui cT) kz rfl rfl) ?_;refine go ?_;refine cg ?_;refine piz ⟨38,[(0,some (.pv (.yld l))),(3,some (.lp 0 0)),(11,some (pB (decide ((x1.length:Int) > 0))))],[(0,some (.box 51 [.ls 1])),(1,some (.row 53 4 (bU x1)))],2,[],[],x0,[]⟩ [0,1] ?_;refine gg ?_;refine cq F (fun hb0 F=> ?_) fun hb0 F=> ?_
  ·refine rq (jR rfl rfl rfl (Ui cT) kz rfl rfl) ?_;obtain⟨y0,h0,F⟩:=bs F;refine rgp (pQ rfl rfl rfl rfl (Fk cT h0) kz rfl rfl) ?_;refine rgp (Io (ps:=aE y0) rfl rfl rfl (acU cT h0) rfl rfl eN rfl rfl) ?_;refine ga2 ?_;refine cg ?_;refine piz ⟨38,[(0,some (.pv (.yld l))),(3,some (.lp 0 0)),(4,some (.lp 2 0))],[(0,some (.box 51 [.ls 1])),(1,some (.row 53 4 (bU x1))),(2,some (.box 53 (bxv (aE y0))))],3,[],[],x0,[]⟩ [0,1,2] ?_;refine gg ?_;refine rq (jR rfl rfl rfl (Ui cT) kz rfl rfl) ?_;obtain⟨y1,h1,F⟩:=bs F;refine rgp (LM 3 rfl rfl rfl rfl rfl kz (acy cT h1) rfl rfl) ?_;refine go ?_;refine cg ?_;refine piz ⟨38,[(0,some (.pv (.yld l))),(3,some (.lp 0 0)),(4,some (.lp 2 0))],[(0,some (.box 51 [.ls 1])),(1,some (.row 53 4 (bU y1))),(2,some (.box 53 (bxv (aE y0))))],3,[],[],x0,[]⟩ [0,3,2] ?_;refine gg ?_;refine rgp (la (aE y0) eN) ?_;obtain⟨u0,h2,F⟩:=bs F;refine rgp (Nw (row:=(fun z:au=>([.agg (aE z)]:List PV)) y0) hcx rfl rfl rfl rfl (TZ (fun z:au=>([.agg (aE z)]:List PV)) h2) (FM h2).2 rfl rfl) ?_;refine go ?_;refine cg ?_;refine piz ⟨38,[(0,some (.pv (.yld l))),(3,some (.lp 0 0)),(4,some (.lp 2 0)),(26,some (pB (!(!(x0==sp)))))],[(0,some (.box 51 [.ls 1])),(1,some (.row 53 4 (bU y1))),(2,some (.box 53 (bxv (aE y0))))],3,[],[],(x0+1),[]⟩ [0,1,2] ?_;refine gg ?_;refine cnd F (fun hb1 F=> ?_) fun hb1 F=> ?_
   ·refine ga4 ?_;refine aQ ?_;cases F;have F:=bq hK0;exact DT (Lu F) rfl (.inl rfl)
   refine gg ?_;obtain⟨y2,h3,F⟩:=bs F;refine rgp (clA 3 (tb h3)) ?_;refine cg ?_;refine piz ⟨38,[(0,some (.pv (.yld l))),(3,some (.lp 0 0)),(29,some (.pv (.fn 207 [.vp ((fun x=>([.vs 4 (bU x)]:List PV)) y2)])))],[(0,some (.box 51 [.ls 1])),(1,some (.row 53 4 (bU y1)))],2,[],[],(x0+1),[]⟩ [0,1] ?_;refine go ?_;refine dt ?_;refine BL (s':=⟨38,[(0,some (.pv (.yld l))),(3,some (.lp 0 0)),(29,some (.pv (.fn 207 [.vp ((fun x=>([.vs 4 (bU x)]:List PV)) y2)])))],[(0,some (.box 51 [.ls 1])),(1,some (.row 53 4 (bU y1)))],2,[],[],(x0+1),[]⟩) (bW [0,1]) ?_;obtain⟨rows0,hR139,F⟩:=bs F;obtain⟨lr1,hL141,F⟩:=bs F;refine Be (X:=(Int×au)) (Q:=(List au)) (E:=Unit) (pre:=[.vp ((fun x=>([.vs 4 (bU x)]:List PV)) y2)]) (bx:=none) (post:=[]) (kt:=[0,3]) (psl:=[30,31]) none (fun z:Int×au=>([.int .i64 z.1,.agg (aE z.2)]:List PV)) rows0 pw y1 lr1 hL141 (fun q=>⟨38,[(0,some (.pv (.yld l))),(3,some (.lp 0 0))],[(0,some (.box 51 [.ls 1])),(1,some (.row 53 4 (bU q)))],2,[],[],(x0+1),[]⟩) (fun _=>(.ret,(sX 38 [] [] 0))) ⟨rfl,rfl⟩ Yu (fun sp=>rY (xd hR139 sp)) (fun _=>rfl) rfl rfl (by decide) rfl (fun x q=>⟨38,[(0,some (.pv (.yld l))),(3,some (.lp 0 0)),(6,some (.lp 2 0)),(30,some (pI x.1)),(31,some (.pv (.agg (aE x.2))))],[(0,some (.box 51 [.ls 1])),(1,some (.row 53 4 (bU q))),(2,some (.box 53 (bxv (aE x.2))))],3,[],[],(x0+1),[0,3]⟩) (fun q=>⟨rfl,rfl,rfl,rfl⟩) (fun z=>⟨rfl,rfl,rfl,rfl⟩) (fun z=>rfl) rfl rfl ⟨rfl,rfl,trivial⟩ ⟨⟨rfl,rfl,rfl⟩,⟨rfl,rfl,rfl⟩,trivial⟩ ?_ ?_ ?_ ?_
   ·rintro l142 c143 ⟨x2,x3⟩ x4 hc144;refine ga3 ?_;refine cg ?_;exact JF (bW [0,1,2])
   ·rintro l142 c143 ⟨x2,x3⟩ x4 r145 hc144 F
    rw[pw] at F
    have hcx:=hcx.round hc144;refine dt ?_;refine BL (yk 1) ?_;refine dH ⟨_,_,_⟩ rfl ?_;refine dgo ?_;refine cB { need:=[(6,.lp 2 0)],hneed:=[(2,.box 53 (bxv (aE x3)))],dst:=some 33,val:=some (.pv (.agg (aE x3))) } (fun m h=>cC (ca rfl) (eW (ps:=aE x3) rfl h.1.1 h.2.1.1 rfl rfl rfl eN rfl rfl) rfl) ⟨⟨rfl,trivial⟩,⟨rfl,trivial⟩,trivial⟩ ?_;refine cB { need:=[(32,.ls 1)],hneed:=[(1,.row 53 4 (bU x4))],dst:=some 34,val:=some (pI (x4.length:Int)) } (fun m h=>cC (ca rfl) (jR rfl h.1.1 h.2.1.1 (Ui cT) kz rfl rfl) rfl) ⟨⟨rfl,trivial⟩,⟨rfl,trivial⟩,trivial⟩ ?_;refine dk 35 [] (.pv (.vs 4 (bU ([bT]:List au)))) (fun m h=>⟨_,YQ (zs:=(aE bT)) (rows:=bU ([bT]:List au)) rfl kz jX (by exact⟨rfl,rfl,rfl,trivial,trivial⟩) (by exact⟨rfl,rfl,rfl,trivial,trivial⟩) rfl rfl rfl rfl rfl rfl rfl,rfl⟩) ?_;obtain⟨u1,h4,F⟩:=bs F;refine cB { need:=[(32,.ls 1),(35,.pv (.vs 4 (bU ([bT]:List au))))],hneed:=[(1,.row 53 4 (bU x4))],names:=[3],dst:=some 36,val:=some (.ls 3),upd:=[(3,some (.row 53 4 (bU (x4++([bT]:List au))))),(1,none)] } (fun m h=>cC (ca rfl) (gw 3 (zl h.2.2.1) rfl h.1.1 h.2.1.1 h.1.2.1 kz XX jX rfl rfl rfl (Tz cT h4) (Zh cT _ _) rfl rfl) rfl) ⟨⟨rfl,rfl,trivial⟩,⟨rfl,trivial⟩,⟨rfl,trivial⟩⟩ ?_;obtain⟨y3,h5,F⟩:=bs F;refine cB { need:=[(36,.ls 3),(34,pI (x4.length:Int))],hneed:=[(3,.row 53 4 (bU (x4++([bT]:List au))))],dst:=some 37,val:=some (.le 3 4 ((x4.length:Int):Int).toNat 0) } (fun m h=>cC (ca rfl) (pQ rfl h.1.1 h.1.2.1 h.2.1.1 (Fk cT h5) kz rfl rfl) rfl) ⟨⟨rfl,rfl,trivial⟩,⟨rfl,trivial⟩,trivial⟩ ?_;refine cB { need:=[(37,.le 3 4 ((x4.length:Int):Int).toNat 0),(33,.pv (.agg (aE x3)))],hneed:=[(3,.row 53 4 (bU (x4++([bT]:List au))))],upd:=[(3,some (.row 53 4 (bU ((x4++([bT]:List au)).set ((x4.length:Int):Int).toNat x3))))] } (fun m h=>cC (ca rfl) (yb rfl h.1.1 h.1.2.1 rfl h.2.1.1 (acU cT h5) (xh eN) (by rw[Rp];rfl) rfl (adK cT (x4++([bT]:List au)) _ x3) rfl rfl) rfl) ⟨⟨rfl,rfl,trivial⟩,⟨rfl,trivial⟩,trivial⟩ ?_;refine cB { need:=[(3,.lp 0 0),(36,.ls 3)],hneed:=[(0,.box 51 [.ls 1])],upd:=[(0,some (.box 51 [.ls 3]))] } (fun m h=>cC (ca rfl) (jC (n:=1) rfl h.1.1 h.1.2.1 rfl h.2.1.1 (Cc QL) (by rw[QL];rfl) rfl rfl rfl) rfl) ⟨⟨rfl,rfl,trivial⟩,⟨rfl,trivial⟩,trivial⟩ ?_;refine drn ?_
    refine piz ⟨38,[(0,some (.pv (.yld l))),(3,some (.lp 0 0))],[(0,some (.box 51 [.ls 1])),(1,some (.row 53 4 (bU ((x4++([bT]:List au)).set ((x4.length:Int):Int).toNat x3))))],2,[],[],(x0+1),[0,3]⟩ [0,3] ?_;refine gg ?_;cases F;exact Pq ((x4++([bT]:List au)).set ((x4.length:Int):Int).toNat x3) rfl (bW [0,1])
   ·rintro x4 rfl;have F:=cj F;refine ga2 ?_;refine gh ?_;exact bv (ih ((x0+1),x4) F) (bW [0,1])
   rintro ⟨⟩ rfl;have F:=bq F;cases F
  exact tl []
 rintro _ ⟨x5,rfl,rfl⟩;have F:=cj hK0;clear hK0;exact DT (Lu F) rfl (.inr rfl)

theorem Mn {a0:Int} {r:Int} (F:vF a0=some r):FZ 193 [.int .i64 a0] [.p (.int .i64 r)]:=by
 unfold vF at F;refine cy (n:=21) Tryz.func193 rfl rfl rfl fun w O=> ?_;refine ga7 ?_;refine dt ?_;refine bt ?_;obtain⟨x5,F,hK7⟩:=bs F;refine ctx (sX 21 [pf 3 (.int .i64 a0),pf 4 (.bool x5)] [] 0) ?_ ?_
 ·refine go4 ?_;refine cnd F (fun hb1 F=> ?_) fun hb1 F=> ?_
  ·exact tl []
  refine go4 ?_;refine cnd F (fun hb2 F=> ?_) fun hb2 F=> ?_
  ·exact tl []
  refine go4 ?_;refine cnd F (fun hb3 F=> ?_) fun hb3 F=> ?_
  ·exact tl []
  refine go4 ?_;refine cnd F (fun hb4 F=> ?_) fun hb4 F=> ?_
  ·exact tl []
  exact tl []
 have F:=hK7;refine gg ?_;refine cnd F (fun hb8 F=> ?_) fun hb8 F=> ?_
 ·exact tl []
 refine bt ?_;obtain⟨x0,F,hK0⟩:=bs F;refine ctx (sX 21 [pf 3 (.int .i64 a0),pf 10 (.bool x0)] [] 0) ?_ ?_
 ·refine go4 ?_;refine cnd F (fun hb9 F=> ?_) fun hb9 F=> ?_
  ·exact tl []
  exact tl []
 have F:=hK0;refine gg ?_;refine cnd F (fun hb0 F=> ?_) fun hb0 F=> ?_
 ·exact tl []
 refine bt ?_;obtain⟨x1,F,hK1⟩:=bs F;refine ctx (sX 21 [pf 13 (.bool x1)] [] 0) ?_ ?_
 ·refine go4 ?_;refine cnd F (fun hb5 F=> ?_) fun hb5 F=> ?_
  ·exact tl []
  refine go4 ?_;refine cnd F (fun hb6 F=> ?_) fun hb6 F=> ?_
  ·exact tl []
  refine go4 ?_;refine cnd F (fun hb7 F=> ?_) fun hb7 F=> ?_
  ·exact tl []
  refine go4 ?_;refine cnd F (fun hb10 F=> ?_) fun hb10 F=> ?_
  ·exact tl []
  refine go4 ?_;refine cnd F (fun hb11 F=> ?_) fun hb11 F=> ?_
  ·exact tl []
  refine go4 ?_;refine cnd F (fun hb12 F=> ?_) fun hb12 F=> ?_
  ·exact tl []
  exact tl []
 have F:=hK1;refine go ?_;refine cnd F (fun hb20 F=> ?_) fun hb20 F=> ?_
 ·exact tl []
 exact tl []
theorem Db {a0:au} {c0:au} {r:Bool} (F:qu a0 c0=some r):FZ 194 [.agg (aE a0),.vp (aE c0)] [.p (.bool r)]:=by
 unfold qu at F;refine cy (n:=22) Tryz.func194 rfl rfl rfl fun w O=> ?_;exact tl []
abbrev wQ (a0:au):Eff:={ need:=[(24,pB (a0.aa != 2)),(26,pS a0.ai)],dst:=some 27,val:=some (pB (!(a0.ai==[]))) }
theorem Jm {a0:au} {r:Bool} (F:tJ a0=some r):FZ 173 [.agg (aE a0)] [.p (.bool r)]:=by
 unfold tJ at F;refine cy (n:=55) Tryz.func173 rfl rfl rfl fun w O=> ?_;refine ga4 ?_;(iterate 2 refine bt ?_);obtain⟨x0,F,hK0⟩:=bs F;refine ctx (sX 55 [(1,some (.lp 0 0)),pf 29 (.bool x0)] [bf 0 53 (aE a0)] 1) ?_ ?_
 ·refine dH ⟨_,_,_⟩ rfl ?_;refine dd ?_;refine dk 5 [(4,.pv (.vs 4 (bU a0.aY)))] (pI (a0.aY.length:Int)) (fun m h=>⟨_,Bv rfl h.1.1 (Ui cT) kz rfl rfl,rfl⟩) ?_;refine dd ?_;obtain⟨y3,h4,F⟩:=bs F;refine dk 8 [(7,pI a0.aa)] (pI y3) (fun m h=>⟨_,eg 1 rfl (caps:=[]) (args:=[.int .i64 a0.aa]) (rs:=[.p (.int .i64 y3)]) rfl rfl (bw h.1.1 en) ZR (Mn h4) rfl rfl rfl,rfl⟩) ?_;refine dd ?_;rcases ie F with⟨hb5,F⟩ | ⟨hb5,F⟩
  ·exact tm [0]
  refine dd ?_;rcases ie F with⟨hb6,F⟩ | ⟨hb6,F⟩
  ·refine dd ?_;rcases ie F with⟨hb7,F⟩ | ⟨hb7,F⟩
   ·exact tm [0]
   refine dd ?_;rcases ie F with⟨hb8,F⟩ | ⟨hb8,F⟩
   ·refine dd ?_;refine cB (wQ a0) (fun m h=>cC (qO rfl rfl rfl h.1.1 hb8) (fu rfl h.1.2.1 rfl rfl rfl rfl) rfl) ⟨⟨rfl,rfl,trivial⟩,trivial,trivial⟩ ?_;exact tm [0]
   (iterate 3 refine Sh hb8 ?_);refine dkg hb7 28 [(24,pB (a0.aa != 2))] (pB false) (fun m h=>⟨_,nu rfl h.1.2.1 hb8 rfl rfl rfl,rfl⟩) ?_;refine dd ?_;refine drn ?_;refine piz (sX 55 [(1,some (.lp 0 0)),pf 29 (.bool false)] [bf 0 53 (aE a0)] 1) [0] ?_;exact tl [0]
  (iterate 3 refine Sh hb6 ?_);refine dkg hb5 18 [(14,pB (a0.aa != 1))] (pB false) (fun m h=>⟨_,nu rfl h.1.2.1 hb6 rfl rfl rfl,rfl⟩) ?_;refine dd ?_;rcases ie F with⟨hb9,F⟩ | ⟨hb9,F⟩
  ·refine dgn hb9 ?_;refine dd ?_;refine cB (wQ a0) (fun m h=>cC (qO rfl rfl rfl h.1.1 hb9) (fu rfl h.1.2.1 rfl rfl rfl rfl) rfl) ⟨⟨rfl,rfl,trivial⟩,trivial,trivial⟩ ?_;exact tm [0]
  (iterate 3 refine Sh hb9 ?_);refine dkg rfl 28 [(24,pB (a0.aa != 2))] (pB false) (fun m h=>⟨_,nu rfl h.1.2.1 hb9 rfl rfl rfl,rfl⟩) ?_;refine dd ?_;refine drn ?_;refine piz (sX 55 [(1,some (.lp 0 0)),pf 29 (.bool false)] [bf 0 53 (aE a0)] 1) [0] ?_;exact tl [0]
 have F:=hK0;refine gg ?_;refine cq F (fun hb0 F=> ?_) fun hb0 F=> ?_
 ·exact tl []
 refine cq F (fun hb1 F=> ?_) fun hb1 F=> ?_
 ·exact tl []
 refine cnd F (fun hb2 F=> ?_) fun hb2 F=> ?_
 ·refine gg ?_;obtain⟨y0,h0,F⟩:=bs F;refine rgp (clA 1 (jw h0)) ?_;exact tl []
 refine bt ?_;obtain⟨x1,F,hK1⟩:=bs F;refine ctx (sX 55 [(1,some (.lp 0 0)),pf 47 (.bool x1)] [bf 0 53 (aE a0)] 1) ?_ ?_
 ·refine go4 ?_;refine cnd F (fun hb3 F=> ?_) fun hb3 F=> ?_
  ·exact tl [0]
  exact tl [0]
 have F:=hK1;refine gg ?_;refine cq F (fun hb4 F=> ?_) fun hb4 F=> ?_
 ·refine rgp (lC rfl rfl rfl rfl) ?_;obtain⟨y1,h1,F⟩:=bs F;refine rgp (ot 1 rfl (caps:=[]) (args:=[.vs 4 (bU a0.aY),.fn 194 [.vp (aE a0)]]) [(0,some (.box 53 (bxv (aE a0))))] rfl rfl rfl (FzH.spec ⟨rfl,trivial⟩) rfl rfl Sx (jf (q1_f:=194) (q1_c:=[.vp (aE a0)]) (q1_b:=YB) (q1_h:=fun _ r h=>(Db h)) h1) rfl rfl rfl) ?_;exact tl []
 exact tl []
theorem uX {a0:au} {r:Bool} (F:pJ a0=some r):FZ 138 [.agg (aE a0)] [.p (.bool r)]:=by
 unfold pJ at F;refine cy (n:=13) Tryz.func138 rfl rfl rfl fun w O=> ?_;refine go ?_;refine rgp (bo 0) ?_;refine rgp (al 1 [.bool false] adx) ?_;refine go3 ?_;refine rgp (la (aE a0) eN) ?_;obtain⟨y3,h4,F⟩:=bs F;refine rq (clA 2 (Kg h4)) ?_;refine cq F (fun hb5 F=> ?_) fun hb5 F=> ?_
 ·cases F;exact jo rfl rfl (.cons _ _ _ _ _ (.one _ _ _ _ _ _ _ rfl rfl Sr rfl) (.p _) .nil) (.inl rfl)
 refine rgp (la (aE a0) eN) ?_;obtain⟨y8,h9,F⟩:=bs F;refine rgp (clA 2 (Px h9)) ?_;refine go ?_;refine dt ?_;refine BL (s':=(sX 13 [(2,some (.lp 0 0)),pf 8 (.fn 191 [.vp (aE y8)])] [(0,some (.box 4 [pB false]))] 1)) (bW [1]) ?_;obtain⟨rows0,hR29,F⟩:=bs F;obtain⟨lr0,hL31,F⟩:=bs F;refine Be (X:=au) (Q:=Unit) (E:=Unit) (pre:=[.vp (aE y8)]) (bx:=none) (post:=[]) (kt:=[2]) (psl:=[9]) none (fun z:au=>([.agg (aE z)]:List PV)) rows0 po () lr0 hL31 (fun q=>(sX 13 [(2,some (.lp 0 0))] [(0,some (.box 4 [pB false]))] 1)) (fun z=>(.ret,(sX 13 [(2,some (.lp 0 0))] [(0,some (.box 4 [pB false]))] 1))) ⟨rfl,rfl⟩ ZH (fun sp=>Jo (P6 hR29 sp)) (fun _=>rfl) rfl rfl (by decide) rfl (fun x q=>⟨13,[(2,some (.lp 0 0)),(3,some (.lp 1 0)),(9,some (.pv (.agg (aE x))))],[(0,some (.box 4 [pB false])),(1,some (.box 53 (bxv (aE x))))],2,[],[],0,[2]⟩) (fun q=>⟨rfl,rfl,rfl,rfl⟩) (fun z=>⟨rfl,rfl,rfl,rfl⟩) (fun z=>rfl) rfl rfl ⟨rfl,trivial⟩ ⟨⟨rfl,rfl,rfl⟩,trivial⟩ ?_ ?_ ?_ ?_
 ·rintro l32 c33 x0 ⟨⟩ hc34;refine ga3 ?_;refine cg ?_;exact JF (bW [0,1])
 ·rintro l32 c33 x0 ⟨⟩ r35 hc34 F;refine gg ?_;refine rgp (la (aE x0) eN) ?_;obtain⟨y0,h0,F⟩:=bs F;refine rq (clA 2 (Jm h0)) ?_;refine cq F (fun hb0 F=> ?_) fun hb0 F=> ?_
  ·cases F;exact LJ () rfl rfl (bW [0])
  cases F;exact Pq () rfl (bW [0])
 ·rintro ⟨⟩ rfl;have F:=cj F;refine gg ?_;cases F;exact jo rfl rfl (.cons _ _ _ _ _ (.one _ _ _ _ _ _ _ rfl rfl Sr rfl) (.p _) .nil) (.inl rfl)
 rintro ⟨⟩ rfl;have F:=bq F
 show gX _ _ .ret _
 refine gg ?_;cases F;exact jo rfl rfl (.cons _ _ _ _ _ (.one _ _ _ _ _ _ _ rfl rfl Sr rfl) (.p _) .nil) (.inl rfl)
theorem ET {a0:au} {r:Bool} (F:sc a0=some r):FZ 165 [.agg (aE a0)] [.p (.bool r)]:=by
 unfold sc at F;refine fb 6 Tryz.func165 fun w O=> ?_;refine rgp (la (aE a0) eN) ?_;obtain⟨y1,h2,F⟩:=bs F;refine rgp (clA 1 (uX h2)) ?_;exact tl []
theorem J7 {a0:ap} {a1:Int} {a2:Int} {r:Bool} (F:vm a0 a1 a2=some r):FZ 132 [.agg (bm a0),.int .i64 a1,.int .i64 a2] [.p (.bool r)]:=by
 unfold vm at F;refine cy (n:=96) Tryz.func132 rfl rfl rfl fun w O=> ?_;refine ga4 ?_;(iterate 2 refine bt ?_);obtain⟨x0,F,hK0⟩:=bs F;refine ctq (sX 96 [pf 1 (.int .i64 a1),(3,some (.lp 0 0)),pf 33 (.bool x0)] [bf 0 55 (bm a0)] 1) ?_ ?_
 ·refine rq (lq rfl rfl rfl rfl rfl rfl) ?_;refine iq F (fun hb1 F=> ?_) fun hb1 F=> ?_
  ·refine rgn hb1 (la (bV a0.aJ) iW) ?_;refine rgn hb1 (bd ((bV cA)) (bV cA) xj Ks) ?_;refine rqn hb1 (oO (r:=lM a0.aJ cA) rfl rfl rfl Ic rfl rfl rfl rfl rfl) ?_;refine iq F (fun hb2 F=> ?_) fun hb2 F=> ?_
   ·exact tl [0]
   refine rqn hb2 (lq rfl rfl rfl rfl rfl rfl) ?_;refine iq F (fun hb3 F=> ?_) fun hb3 F=> ?_
   ·refine iq F (fun hb4 F=> ?_) fun hb4 F=> ?_
    ·exact tl [0]
    refine rqn hb4 (la (bV a0.aJ) iW) ?_;obtain⟨y5,h6,F⟩:=bs F;refine rgn hb4 (clA 1 (rB h6)) ?_;exact tl [0]
   exact tl [0]
  refine rqn rfl (lq rfl rfl rfl rfl rfl rfl) ?_;refine iq F (fun hb7 F=> ?_) fun hb7 F=> ?_
  ·refine iq F (fun hb8 F=> ?_) fun hb8 F=> ?_
   ·exact tl [0]
   refine rqn hb8 (la (bV a0.aJ) iW) ?_;obtain⟨y9,h0,F⟩:=bs F;refine rgn hb8 (clA 1 (rB h0)) ?_;exact tl [0]
  exact tl [0]
 have F:=hK0;refine cnd F (fun hb0 F=> ?_) fun hb0 F=> ?_
 ·exact tl []
 refine ga2 ?_;refine bt ?_;refine qj F (fun q=>(sX 96 [pf 1 (.int .i64 a1),(3,some (.lp 0 0))] [bf 0 55 (bm a0)] 1)) ?_ ?_
 ·refine dt ?_;refine bt ?_;obtain⟨x1,F,hK1⟩:=gz F;refine ctx (sX 96 [pf 1 (.int .i64 a1),(3,some (.lp 0 0)),pf 34 (.bool x1)] [bf 0 55 (bm a0)] 1) ?_ ?_
  ·refine gg ?_;refine rq (lq rfl rfl rfl rfl rfl rfl) ?_;refine iq F (fun hb5 F=> ?_) fun hb5 F=> ?_
   ·exact tl [0]
   refine iq F (fun hb6 F=> ?_) fun hb6 F=> ?_
   ·refine rgn hb6 (la (aE a0.fE) eN) ?_;obtain⟨y0,h1,F⟩:=bs F;refine rgn hb6 (clA 1 (AA h1)) ?_;exact tl [0]
   exact tl [0]
  have F:=hK1;refine go ?_;rcases gU F with⟨hb9,F⟩ | ⟨hb9,F⟩
  ·refine de rfl hb9 ?_;refine gg ?_;refine rgp (la (aE a0.fE) eN) ?_;obtain⟨y1,h2,F⟩:=gz F;refine rgp (clA 1 (AA h2)) ?_;refine ga2 ?_;rcases gU F with⟨hb10,F⟩ | ⟨hb10,F⟩
   ·refine de rfl hb10 ?_;refine ga5 ?_;refine dZ ?_
    replace F:=jS F
    exact tl []
   refine dc rfl hb10 ?_;refine ga2 ?_;exact eA _ ⟨(),rfl,F⟩ (bW [0])
  refine dc rfl hb9 ?_;refine gg ?_;refine rgp (la (aE a0.fE) eN) ?_;obtain⟨y2,h3,F⟩:=gz F;refine rgp (clA 1 (uX h3)) ?_;refine ga3 ?_;rcases gU F with⟨hb11,F⟩ | ⟨hb11,F⟩
  ·refine de rfl hb11 ?_;refine ga5 ?_;refine dZ ?_
   replace F:=jS F
   exact tl []
  refine dc rfl hb11 ?_;refine bt ?_;obtain⟨x2,F,hK2⟩:=gz F;refine ctx (sX 96 [pf 1 (.int .i64 a1),(3,some (.lp 0 0)),pf 57 (.bool x2)] [bf 0 55 (bm a0)] 1) ?_ ?_
  ·exact tl [0]
  have F:=hK2;refine go ?_;rcases gU F with⟨hb12,F⟩ | ⟨hb12,F⟩
  ·refine de rfl hb12 ?_;refine ga5 ?_;refine dZ ?_
   replace F:=jS F
   exact tl []
  refine dc rfl hb12 ?_;refine ga2 ?_;exact eA _ ⟨(),rfl,F⟩ (bW [0])
 rintro ⟨⟩ F;refine gg ?_;refine rq (lq rfl rfl rfl rfl rfl rfl) ?_;refine cq F (fun hb13 F=> ?_) fun hb13 F=> ?_
 ·exact tl []
 refine iq F (fun hb17 F=> ?_) fun hb17 F=> ?_
 ·obtain⟨y3,h4,F⟩:=bs F;refine rgn hb17 (clA 1 (jf (q1_f:=165) (q1_c:=[]) (q1_b:=YF) (q1_h:=fun _ r h=>(ET h)) h4)) ?_;exact tl []
 exact tl []
theorem sD {a0:List ap} {q1:ap->Option Bool} {r:Int} {q1_f:Nat} {q1_c:List PV} (q1_b:dh Tryz.prog q1_f=true) (q1_h:∀ (x0:ap) (r:Bool),q1 x0=some r->FZ q1_f ([.agg (bm x0)]++q1_c) [.p (.bool r)]) (F:jl a0 q1=some r):FZ 166 [.vs 23 (bc a0),.fn q1_f q1_c] [.p (.int .i64 r)]:=by
 unfold jl at F;refine fb 19 Tryz.func166 fun w O=> ?_;obtain⟨lr0,F,hK0⟩:=bs F;refine lpG (fun s1=>∃ q,lr0= .next q/\s1=(sX 19 [] [] 0)) (fun(q:Int)=>(sX 19 [pf 0 (.vs 23 (bc a0)),pf 1 (.fn q1_f q1_c),pf 7 (.int .i64 (a0.length:Int)),pf 8 (.int .i64 q)] [] 0)) (fun k q=>fy a0 q1 k q) 0 (bW []) F (fun k x1 F ih=> ?_) ?_
 ·refine gg ?_;refine cq F (fun hb0 F=> ?_) fun hb0 F=> ?_
  ·obtain⟨y0,h0,F⟩:=bs F;refine gg ?_;obtain⟨y1,h1,F⟩:=bs F;refine rq (eg 0 rfl (caps:=q1_c) (args:=[.agg (bm y0)]) (rs:=[.p (.bool y1)]) rfl rfl rfl q1_b (q1_h y0 _ h1) rfl rfl rfl) ?_;refine cnd F (fun hb1 F=> ?_) fun hb1 F=> ?_
   ·refine ga8 ?_;refine aQ ?_;cases F;have F:=bq hK0;exact tl []
   refine gg ?_;exact bv (ih (ah (x1+1)) F) (bW [])
  exact tl []
 rintro _ ⟨⟨⟩,rfl,rfl⟩;have F:=cj hK0;clear hK0;exact tl []
theorem mf {a0:List ap} {q1:ap->Option Bool} {r:Bool} {q1_f:Nat} {q1_c:List PV} (q1_b:dh Tryz.prog q1_f=true) (q1_h:∀ (x0:ap) (r:Bool),q1 x0=some r->FZ q1_f ([.agg (bm x0)]++q1_c) [.p (.bool r)]) (F:ey a0 q1=some r):FZ 134 [.vs 23 (bc a0),.fn q1_f q1_c] [.p (.bool r)]:=by
 unfold ey at F;refine fb 9 Tryz.func134 fun w O=> ?_;obtain⟨y1,h2,F⟩:=bs F;refine rgp (clA 0 (sD (q1_b:=q1_b) (q1_h:=q1_h) h2)) ?_;exact tl []
theorem Da : ∀ n:Nat,(∀ (a0:ap) (a1:Int) (a2:Int) (r:Bool),mc n a0 a1 a2=some r->FZ 106 [.agg (bm a0),.int .i64 a1,.int .i64 a2] [.p (.bool r)])/\(∀ (a0:ap) (c0:Int) (c1:Int) (r:Bool),iG n a0 c0 c1=some r->FZ 133 [.agg (bm a0),.vp (eI c0),.vp (eI c1)] [.p (.bool r)]):=by
 intro n
 induction n with
 | zero=>exact⟨fun _ _ _ _ h=>by simp[mc] at h,fun _ _ _ _ h=>by simp[iG] at h⟩
 | succ n ih=>
  obtain⟨stmt_right_ih,stmt_right_1_ih⟩:=ih;refine⟨?_,?_⟩
  ·intro a0 a1 a2 r F;unfold mc at F
   revert F stmt_right_ih stmt_right_1_ih
   generalize mc n=stmt_right_rec
   generalize iG n=stmt_right_1_rec
   intro stmt_right_ih stmt_right_1_ih F;refine fb 66 Tryz.func106 fun w O=> ?_;obtain⟨y3,h4,F⟩:=bs F;refine rgp (clA 3 (Pg h4)) ?_;refine ga2 ?_;(iterate 2 refine bt ?_);obtain⟨x0,F,hK0⟩:=bs F;refine ctq (sX 66 [(3,some (.lp 0 0)),(4,some (.lp 1 0)),(5,some (.lp 2 0)),pf 52 (.bool x0)] [bf 0 55 (bm a0),(1,some (.box 3 [pI a1])),(2,some (.box 3 [pI a2]))] 3) ?_ ?_
   ·refine iq F (fun hb5 F=> ?_) fun hb5 F=> ?_
    ·exact tl [0,1,2]
    rcases ie F with⟨hb6,F⟩ | ⟨hb6,F⟩
    ·exact tl [0,1,2]
    refine rqn hb6 (la (bm a0) gv) ?_;obtain⟨y7,h8,F⟩:=bs F;refine rqn hb6 (clA 3 (Jd h8)) ?_;rcases ie F with⟨hb9,F⟩ | ⟨hb9,F⟩
    ·exact tl [0,1,2]
    refine rqn hb9 (la (bm a0) gv) ?_;obtain⟨y0,h0,F⟩:=bs F;refine rqn hb9 (clA 3 (J7 h0)) ?_;refine iq F (fun hb0 F=> ?_) fun hb0 F=> ?_
    ·exact tl [0,1,2]
    refine rqn hb0 (lq rfl rfl rfl rfl rfl rfl) ?_;refine iq F (fun hb1 F=> ?_) fun hb1 F=> ?_
    ·refine iq F (fun hb2 F=> ?_) fun hb2 F=> ?_
     ·exact tl [0,1,2]
     refine rgn hb2 (lq rfl rfl rfl rfl rfl rfl) ?_;exact tl [0,1,2]
    refine rgn rfl (lq rfl rfl rfl rfl rfl rfl) ?_;exact tl [0,1,2]
   have F:=hK0;refine cq F (fun hb3 F=> ?_) fun hb3 F=> ?_
   ·exact tl []
   refine rq (lC rfl rfl rfl rfl) ?_;obtain⟨y2,h1,F⟩:=bs F;refine rq (ot 3 rfl (caps:=[]) (args:=[.vs 23 (bc a0.aC),.fn 133 [.vp (eI a1),.vp (eI a2)]]) [(1,some (.box 3 [pI a1])),(2,some (.box 3 [pI a2]))] rfl rfl rfl (FzH.spec ⟨rfl,rfl,trivial⟩) rfl rfl SR (mf (q1_f:=133) (q1_c:=[.vp (eI a1),.vp (eI a2)]) (q1_b:=Tc) (q1_h:=fun _ r h=>(stmt_right_1_ih _ _ _ _ h)) h1) rfl rfl rfl) ?_;refine iq F (fun hb4 F=> ?_) fun hb4 F=> ?_
   ·obtain⟨y4,h3,F⟩:=bs F;refine rgn hb4 (ot 3 rfl (caps:=[]) (args:=[.vs 23 (bc a0.bQ),.fn 133 [.vp (eI a1),.vp (eI a2)]]) [(1,some (.box 3 [pI a1])),(2,some (.box 3 [pI a2]))] rfl rfl rfl (FzH.spec ⟨rfl,rfl,trivial⟩) rfl rfl SR (mf (q1_f:=133) (q1_c:=[.vp (eI a1),.vp (eI a2)]) (q1_b:=Tc) (q1_h:=fun _ r h=>(stmt_right_1_ih _ _ _ _ h)) h3) rfl rfl rfl) ?_;exact tl []
   exact tl []
  ·intro a0 c0 c1 r F;unfold iG at F
   revert F stmt_right_ih stmt_right_1_ih
   generalize mc n=stmt_right_rec
   generalize iG n=stmt_right_1_rec
   intro stmt_right_ih stmt_right_1_ih F;refine fb 11 Tryz.func133 fun w O=> ?_;refine rq (la (bm a0) gv) ?_;obtain⟨y1,h2,F⟩:=bs F;refine rgp (clA 1 (stmt_right_ih _ _ _ _ h2)) ?_;exact tl []
theorem Jk {n:Nat} {a0:ap} {a1:Int} {a2:Int} {r:Bool} (F:mc n a0 a1 a2=some r):FZ 106 [.agg (bm a0),.int .i64 a1,.int .i64 a2] [.p (.bool r)]:=(Da n).1 _ _ _ _ F
theorem yI {a0:ap} {a1:Int} {r:Bool} (F:nG a0 a1=some r):FZ 77 [.agg (bm a0),.int .i64 a1] [.p (.bool r)]:=by
 unfold nG at F;refine fb 8 Tryz.func77 fun w O=> ?_;refine rq (la (bm a0) gv) ?_;obtain⟨y1,h2,F⟩:=bs F;refine rgp (clA 1 (Jk h2)) ?_;exact tl []
theorem GU : ∀ n:Nat,(∀ (a0:List ap) (a1:Int) (r:Bool),iw n a0 a1=some r->FZ 105 [.vs 23 (bc a0),.int .i64 a1] [.p (.bool r)]):=by
 intro n
 induction n with
 | zero=>exact(fun _ _ _ h=>by simp[iw] at h)
 | succ n ih=>
  have size_body_ih:=ih;clear ih;intro a0 a1 r F;unfold iw at F
  revert F size_body_ih
  generalize iw n=size_body_rec
  intro size_body_ih F;refine fb 45 Tryz.func105 fun w O=> ?_;obtain⟨lr0,F,hK0⟩:=bs F;refine lpG (fun s1=>∃ q,lr0= .next q/\s1=(sX 45 [] [] 0)) (fun(q:Int)=>(sX 45 [pf 1 (.int .i64 a1),pf 7 (.vs 23 (bc a0)),pf 8 (.int .i64 (a0.length:Int)),pf 9 (.int .i64 q)] [] 0)) (fun k q=>oI a0 a1 size_body_rec k q) 0 (bW []) F (fun k x0 F ih=> ?_) ?_
  ·refine gg ?_;refine cq F (fun hb0 F=> ?_) fun hb0 F=> ?_
   ·obtain⟨y0,h0,F⟩:=bs F;refine ga5 ?_;refine bt ?_;obtain⟨x1,F,hK1⟩:=bs F;refine ctq (sX 45 [pf 1 (.int .i64 a1),pf 7 (.vs 23 (bc a0)),pf 8 (.int .i64 (a0.length:Int)),pf 9 (.int .i64 x0),pf 43 (.bool x1)] [] 0) ?_ ?_
    ·refine rq (la (bm y0) gv) ?_;obtain⟨y1,h1,F⟩:=bs F;refine rq (clA 1 (yI h1)) ?_;refine iq F (fun hb1 F=> ?_) fun hb1 F=> ?_
     ·exact tl []
     refine iq F (fun hb2 F=> ?_) fun hb2 F=> ?_
     ·refine rqn hb2 (la (bV y0.aJ) iW) ?_;obtain⟨y2,h2,F⟩:=bs F;refine rqn hb2 (clA 1 (sF h2)) ?_;refine iq F (fun hb3 F=> ?_) fun hb3 F=> ?_
      ·exact tl []
      obtain⟨y3,h3,F⟩:=bs F;refine rqn hb3 (clA 1 (size_body_ih _ _ _ h3)) ?_;refine iq F (fun hb4 F=> ?_) fun hb4 F=> ?_
      ·exact tl []
      obtain⟨y4,h4,F⟩:=bs F;refine rgn hb4 (clA 1 (size_body_ih _ _ _ h4)) ?_;exact tl []
     obtain⟨y5,h5,F⟩:=bs F;refine rqn rfl (clA 1 (size_body_ih _ _ _ h5)) ?_;refine iq F (fun hb5 F=> ?_) fun hb5 F=> ?_
     ·exact tl []
     obtain⟨y6,h6,F⟩:=bs F;refine rgn hb5 (clA 1 (size_body_ih _ _ _ h6)) ?_;exact tl []
    have F:=hK1;refine cnd F (fun hb6 F=> ?_) fun hb6 F=> ?_
    ·refine ga7 ?_;refine aQ ?_;cases F;have F:=bq hK0;exact tl []
    refine gg ?_;exact bv (ih (ah (x0+1)) F) (bW [])
   exact tl []
  rintro _ ⟨⟨⟩,rfl,rfl⟩;have F:=cj hK0;clear hK0;exact tl []
theorem LV {n:Nat} {a0:List ap} {a1:Int} {r:Bool} (F:iw n a0 a1=some r):FZ 105 [.vs 23 (bc a0),.int .i64 a1] [.p (.bool r)]:=(GU n) _ _ _ F

theorem Fw {a0:bM} {a1:Int} {r:Bool} (F:rI a0 a1=some r):FZ 71 [.agg (bg a0),.int .i64 a1] [.p (.bool r)]:=by
 unfold rI at F;refine fb 32 Tryz.func71 fun w O=> ?_;obtain⟨y1,h2,F⟩:=bs F;refine rq (clA 1 (jw h2)) ?_;refine iq F (fun hb3 F=> ?_) fun hb3 F=> ?_
 ·refine rqn hb3 (la (bV a0.af) iW) ?_;obtain⟨y4,h5,F⟩:=bs F;refine rqn hb3 (clA 1 (sF h5)) ?_;refine iq F (fun hb6 F=> ?_) fun hb6 F=> ?_
  ·obtain⟨y7,h8,F⟩:=bs F;refine rqn hb6 (clA 1 (wy h8)) ?_;refine iq F (fun hb9 F=> ?_) fun hb9 F=> ?_
   ·obtain⟨y0,h0,F⟩:=bs F;refine rqn hb9 (clA 1 (wy h0)) ?_;refine iq F (fun hb0 F=> ?_) fun hb0 F=> ?_
    ·obtain⟨y2,h1,F⟩:=bs F;refine rgn hb0 (clA 1 (LV h1)) ?_;exact tl []
    exact tl []
   exact tl []
  exact tl []
 exact tl []
theorem C5 {a0:bM} {c0:Int} {r:Bool} (F:qM a0 c0=some r):FZ 70 [.agg (bg a0),.vp (eI c0)] [.p (.bool r)]:=by
 unfold qM at F;refine fb 8 Tryz.func70 fun w O=> ?_;refine rq (la (bg a0) zn) ?_;obtain⟨y1,h2,F⟩:=bs F;refine rgp (clA 1 (Fw h2)) ?_;exact tl []
theorem IV {a0:bH} {r:Bool} (F:tV a0=some r):FZ 37 [.agg (bl a0)] [.p (.bool r)]:=by
 unfold tV at F;refine cy (n:=28) Tryz.func37 rfl rfl rfl fun w O=> ?_;refine go ?_;refine rgp (bo 0) ?_;refine go6 ?_;refine rgp (al 1 [.int .i64 0] adv) ?_;refine go3 ?_;refine rgp (la (bl a0) nz) ?_;obtain⟨y1,h2,F⟩:=bs F;refine rq (clA 2 (Ki h2)) ?_;refine iq F (fun hb3 F=> ?_) fun hb3 F=> ?_
 ·obtain⟨y4,h5,F⟩:=bs F;refine rqn hb3 (clA 2 (wy h5)) ?_;refine iq F (fun hb6 F=> ?_) fun hb6 F=> ?_
  ·refine iq F (fun hb7 F=> ?_) fun hb7 F=> ?_
   ·refine rgn hb7 (lC rfl rfl rfl rfl) ?_;obtain⟨y9,h0,F⟩:=bs F;refine rgn hb7 (ot 2 rfl (caps:=[]) (args:=[.vs 17 (map bg a0.am),.fn 70 [.vp (eI (a0.ac.length:Int))]]) [(1,some (.box 3 [pI (a0.ac.length:Int)]))] rfl rfl rfl (FzH.spec ⟨rfl,trivial⟩) rfl rfl abi (qc (q1_f:=70) (q1_c:=[.vp (eI (a0.ac.length:Int))]) (q1_b:=abL) (q1_h:=fun _ r h=>(C5 h)) h0) rfl rfl rfl) ?_;exact tl []
   exact tl []
  exact tl []
 exact tl []
theorem C7 {a0:bH} {r:Bool} (F:tc a0=some r):FZ 36 [.agg (bl a0)] [.p (.bool r)]:=by
 unfold tc at F;refine fb 6 Tryz.func36 fun w O=> ?_;refine rgp (la (bl a0) nz) ?_;obtain⟨y1,h2,F⟩:=bs F;refine rgp (clA 1 (IV h2)) ?_;exact tl []
theorem kU {a1:List cd} {b0:aI} {r:aI} (F:fm a1 b0=some r):Abs.FnW dY Tryz.prog 73 [.lp 0 0,.pv (.vs 11 (map bV a1))] [(0,some (.box 84 (bxv (be b0))))] 1 [(0,0)] [] [(0,some (.box 84 (bxv (be r))))] 1:=by
 unfold fm at F;refine gH (n:=30) (m:=1) [0] Tryz.func73 rfl rfl rfl ?_;intro c w O θ hcx;refine gg ?_;obtain⟨x0,F,hK0⟩:=bs F;refine lpG (fun s1=>s1=⟨30,[(0,some (.lp 0 0))],[(0,some (.box 84 (bxv (be x0))))],1,[],[],0,[0]⟩) (fun(q:aI×Int)=>⟨30,[(0,some (.lp 0 0)),(6,some (.pv (.vs 11 (map bV a1)))),(7,some (pI (a1.length:Int))),(8,some (pI q.2))],[(0,some (.box 84 (bxv (be q.1))))],1,[],[],0,[0]⟩) (fun k q=>jk a1 k q.1 q.2) (b0,0) (bW [0]) F (fun k ⟨x1,x2⟩ F ih=> ?_) ?_
 ·refine gg ?_;refine cnd F (fun hb0 F=> ?_) fun hb0 F=> ?_
  ·refine ga2 ?_;refine bt ?_;obtain⟨x3,F,hK1⟩:=bs F;refine ctq ⟨30,[(0,some (.lp 0 0)),(6,some (.pv (.vs 11 (map bV a1)))),(7,some (pI (a1.length:Int))),(8,some (pI x2))],[(0,some (.box 84 (bxv (be x3))))],1,[],[],0,[0]⟩ ?_ ?_
   ·obtain⟨y0,h0,F⟩:=bs F;refine ga5 ?_;refine bt ?_;obtain⟨x4,F,hK2⟩:=bs F;refine ctq ⟨30,[(0,some (.lp 0 0)),(6,some (.pv (.vs 11 (map bV a1)))),(7,some (pI (a1.length:Int))),(8,some (pI x2)),(21,some (pB x4))],[(0,some (.box 84 (bxv (be x1))))],1,[],[],0,[0]⟩ ?_ ?_
    ·refine iq F (fun hb1 F=> ?_) fun hb1 F=> ?_
     ·refine rgn hb1 (vW rfl rfl rfl sC rfl rfl rfl rfl) ?_;exact tl [0]
     exact tl [0]
    have F:=hK2;refine cq F (fun hb2 F=> ?_) fun hb2 F=> ?_
    ·refine rq (iz rfl rfl rfl rfl rfl) ?_;refine rgp (iz rfl rfl rfl rfl rfl) ?_;refine go2 ?_;refine cg ?_;exact tl [0]
    exact tl [0]
   have F:=hK1;exact bv (ih (x3,ah (x2+1)) F) (bW [0])
  exact tl [0]
 rintro _ rfl;have F:=hK0;exact tl []
theorem lI {a1:List dr} {b0:aI} {r:Int×aI} (F:gf a1 b0=some r):Abs.FnW dY Tryz.prog 72 [.lp 0 0,.pv (.vs 13 (map aj a1))] [(0,some (.box 84 (bxv (be b0))))] 1 [(0,0)] [pI r.1] [(0,some (.box 84 (bxv (be r.2))))] 1:=by
 unfold gf at F;refine gH (n:=21) (m:=1) [0] Tryz.func72 rfl rfl rfl ?_;intro c w O θ hcx;refine gg ?_;obtain⟨x0,F,hK0⟩:=bs F;refine lpG (fun s1=>s1=⟨21,[(0,some (.lp 0 0)),(1,some (.pv (.vs 13 (map aj a1))))],[(0,some (.box 84 (bxv (be x0))))],1,[],[],0,[0]⟩) (fun(q:aI×Int)=>⟨21,[(0,some (.lp 0 0)),(1,some (.pv (.vs 13 (map aj a1)))),(7,some (.pv (.vs 13 (map aj a1)))),(8,some (pI (a1.length:Int))),(9,some (pI q.2))],[(0,some (.box 84 (bxv (be q.1))))],1,[],[],0,[0]⟩) (fun k q=>ii a1 k q.1 q.2) (b0,0) (bW [0]) F (fun k ⟨x1,x2⟩ F ih=> ?_) ?_
 ·refine gg ?_;refine cq F (fun hb0 F=> ?_) fun hb0 F=> ?_
  ·obtain⟨y0,h0,F⟩:=bs F;refine gg ?_;refine rgp (la (bV y0.aJ) iW) ?_;refine rgp (fe (rows:=map bV ([y0.aJ]:List cd)) (zs:=(bV cA)) rfl rfl Dx xj (by exact⟨rfl,rfl,rfl,rfl,rfl,rfl,rfl,rfl,rfl,rfl,rfl,trivial⟩) rfl rfl rfl rfl rfl rfl rfl rfl) ?_;obtain⟨y1,h1,F⟩:=bs F;refine rgp (cD (args:=[.lp 0 0,.pv (.vs 11 (map bV [y0.aJ]))]) [0] [0] [] 2 rfl rfl rfl rfl rfl Ql (kU h1) rfl (by decide) ⟨rfl,trivial⟩ rfl (by decide) ⟨.inl rfl,trivial⟩ (by kernel_rfl) (by kernel_rfl) rfl rfl rfl rfl) ?_;refine cg ?_;refine piz ⟨21,[(0,some (.lp 0 0)),(1,some (.pv (.vs 13 (map aj a1)))),(7,some (.pv (.vs 13 (map aj a1)))),(8,some (pI (a1.length:Int))),(9,some (pI x2))],[(0,some (.box 84 (bxv (be y1))))],1,[],[],0,[0]⟩ [0] ?_;refine gg ?_;exact bv (ih (y1,ah (x2+1)) F) (bW [0])
  exact tl [0]
 rintro _ rfl;have F:=hK0;exact tl []
end Go.Proofs.YtjimbkljclfflaaGreatDoor
