/- A part of the proof that the law ShowBack gives true for every input. -/
import Derived.Test.YtjimbkljclfflaaGreatDoorShowBackT
import Derived.Test.YtjimbkljclfflaaGreatDoorShowBackY
import Derived.Test.YtjimbkljclfflaaGreatDoorShowBackB
import Derived.Test.YtjimbkljclfflaaGreatDoorShowBackS
import Derived.Test.YtjimbkljclfflaaGreatDoorShowBackX
import Derived.Test.YtjimbkljclfflaaGreatDoorShowBackI
/- Each Go function computes its plain function. -/
namespace Go.Proofs.YtjimbkljclfflaaGreatDoor
open List
open Go.RowKit Go.Abs
set_option maxRecDepth 100000
set_option maxHeartbeats 4000000
theorem Dy {a0:br} {r:Int} (F:pK a0=some r):FZ 17 [.agg (aY a0)] [.p (.int .i64 r)]:=by
 unfold pK at F;refine fb 45 Tryz.func17 fun w O=> ?_;obtain⟨x0,F,hK0⟩:=bs F;refine lpE (sX 45 [(1,some (.lp 0 0)),pf 3 (.int .i64 x0)] [bf 0 48 (aY a0)] 1) (fun(q:Int×Int)=>(sX 45 [(1,some (.lp 0 0)),pf 3 (.int .i64 q.1),pf 4 (.int .i64 q.2)] [bf 0 48 (aY a0)] 1)) (fun k q=>jY a0 k q.1 q.2) (0,0) (bG [0]) F (fun k ⟨x1,x2⟩ F ih=> ?_) ?_
 ·refine gg ?_;refine cnd F (fun hb0 F=> ?_) fun hb0 F=> ?_
  ·refine ga2 ?_;refine aJ ?_;obtain⟨x3,F,hK1⟩:=bs F;refine ctq (sX 45 [(1,some (.lp 0 0)),pf 3 (.int .i64 x3),pf 4 (.int .i64 x2)] [bf 0 48 (aY a0)] 1) ?_ ?_
   ·obtain⟨y0,h0,F⟩:=bs F;refine gg ?_;refine rgp (xc (k:= .i64) (m:=0) (n:=4) rfl rfl rfl mP rfl rfl rfl rfl) ?_;refine go4 ?_;refine cnd F (fun hb1 F=> ?_) fun hb1 F=> ?_
    ·refine go4 ?_;refine ci ?_;exact tl [0]
    exact tl [0]
   have F:=hK1;exact aP (ih (x3,ae (x2+1)) F) (bG [0])
  exact tl [0]
 have F:=hK0;refine gg ?_;obtain⟨x4,F,hK2⟩:=bs F;refine lpE (sX 45 [pf 3 (.int .i64 x4)] [] 0) (fun(q:Int×Int)=>(sX 45 [(1,some (.lp 0 0)),pf 3 (.int .i64 q.1),pf 5 (.int .i64 q.2)] [bf 0 48 (aY a0)] 1)) (fun k q=>jX a0 k q.1 q.2) (x0,0) (bG [0]) F (fun k ⟨x5,x6⟩ F ih=> ?_) ?_
 ·refine gg ?_;refine cnd F (fun hb2 F=> ?_) fun hb2 F=> ?_
  ·refine ga2 ?_;refine aJ ?_;obtain⟨x7,F,hK3⟩:=bs F;refine ctq (sX 45 [(1,some (.lp 0 0)),pf 3 (.int .i64 x7),pf 5 (.int .i64 x6)] [bf 0 48 (aY a0)] 1) ?_ ?_
   ·obtain⟨y1,h1,F⟩:=bs F;refine gg ?_;refine rgp (xc (k:= .i64) (m:=0) (n:=4) rfl rfl rfl mP rfl rfl rfl rfl) ?_;refine go4 ?_;refine cnd F (fun hb3 F=> ?_) fun hb3 F=> ?_
    ·refine go4 ?_;refine ci ?_;exact tl [0]
    exact tl [0]
   have F:=hK3;exact aP (ih (x7,ae (x6+1)) F) (bG [0])
  exact tl []
 have F:=hK2;exact tl []
theorem FQ : ∀ n:Nat,(∀ (a0:ai) (a1:Int) (r:Bool),jZ n a0 a1=some r->FZ 34 [.agg (ap a0),.int .i64 a1] [.p (.bool r)]):=by
 intro n
 induction n with
 | zero=>exact(fun _ _ _ h=>by simp[jZ] at h)
 | succ n ih=>
  have ref10_kids_ih:=ih;clear ih;intro a0 a1 r F;unfold jZ at F
  revert F ref10_kids_ih
  generalize jZ n=ref10_kids_rec
  intro ref10_kids_ih F;refine bM (n:=29) Tryz.func34 rfl rfl rfl fun w O=> ?_;refine ga4 ?_;(iterate 2 refine aJ ?_);obtain⟨x2,F,hK4⟩:=bs F;refine ctq (sX 29 [pf 1 (.int .i64 a1),(2,some (.lp 0 0)),pf 13 (.bool x2)] [bf 0 53 (ap a0)] 1) ?_ ?_
  ·exact tl [0]
  have F:=hK4;refine cq F (fun hb5 F=> ?_) fun hb5 F=> ?_
  ·exact tl []
  obtain⟨lr0,F,hK0⟩:=bs F;refine lpG (fun s1=>∃ q,lr0= .next q/\s1=(sX 29 [] [] 0)) (fun(q:Int)=>(sX 29 [pf 1 (.int .i64 a1),(2,some (.lp 0 0)),pf 5 (.int .i64 q)] [bf 0 53 (ap a0)] 1)) (fun k q=>nk a0 a1 ref10_kids_rec k q) 0 (bG [0]) F (fun k x0 F ih=> ?_) ?_
  ·refine gg ?_;refine cq F (fun hb0 F=> ?_) fun hb0 F=> ?_
   ·obtain⟨y0,h0,F⟩:=bs F;refine gg ?_;obtain⟨y1,h1,F⟩:=bs F;refine rq (clA 1 (ref10_kids_ih _ _ _ h1)) ?_;refine cnd F (fun hb1 F=> ?_) fun hb1 F=> ?_
    ·refine ga7 ?_;refine ba ?_;cases F;have F:=bH hK0;exact tl []
    refine gg ?_;exact aP (ih (ae (x0+1)) F) (bG [0])
   exact tl []
  rintro _ ⟨⟨⟩,rfl,rfl⟩;have F:=bW hK0;clear hK0;exact tl []
theorem Az {n:Nat} {a0:ai} {a1:Int} {r:Bool} (F:jZ n a0 a1=some r):FZ 34 [.agg (ap a0),.int .i64 a1] [.p (.bool r)]:=(FQ n) _ _ _ F

theorem Fw : ∀ n:Nat,(∀ (a0:ah) (a1:Int) (r:Bool),jC n a0 a1=some r->FZ 18 [.agg (ax a0),.int .i64 a1] [.p (.bool r)]):=by
 intro n
 induction n with
 | zero=>exact(fun _ _ _ h=>by simp[jC] at h)
 | succ n ih=>
  have ref10_much_ih:=ih;clear ih;intro a0 a1 r F;unfold jC at F
  revert F ref10_much_ih
  generalize jC n=ref10_much_rec
  intro ref10_much_ih F;refine bM (n:=76) Tryz.func18 rfl rfl rfl fun w O=> ?_;refine ga4 ?_;(iterate 2 refine aJ ?_);obtain⟨x7,F,hK9⟩:=bs F;refine ctq (sX 76 [pf 1 (.int .i64 a1),(2,some (.lp 0 0)),pf 32 (.bool x7)] [bf 0 55 (ax a0)] 1) ?_ ?_
  ·refine iq F (fun hb1 F=> ?_) fun hb1 F=> ?_
   ·exact tl [0]
   refine iq F (fun hb2 F=> ?_) fun hb2 F=> ?_
   ·exact tl [0]
   refine iq F (fun hb3 F=> ?_) fun hb3 F=> ?_
   ·exact tl [0]
   refine iq F (fun hb4 F=> ?_) fun hb4 F=> ?_
   ·exact tl [0]
   refine rgn hb4 (la (ap a0.fE) dR) ?_;obtain⟨y5,h6,F⟩:=bs F;refine rgn hb4 (clA 1 (Az h6)) ?_;exact tl [0]
  have F:=hK9;refine cq F (fun hb0 F=> ?_) fun hb0 F=> ?_
  ·exact tl []
  obtain⟨lr0,F,hK0⟩:=bs F;refine lpG (fun s1=>∃ q,lr0= .next q/\s1=(sX 76 [pf 1 (.int .i64 a1),(2,some (.lp 0 0))] [bf 0 55 (ax a0)] 1)) (fun(q:Int)=>(sX 76 [pf 1 (.int .i64 a1),(2,some (.lp 0 0)),pf 5 (.int .i64 q)] [bf 0 55 (ax a0)] 1)) (fun k q=>nw a0 k q) 0 (bG [0]) F (fun k x0 F ih=> ?_) ?_
  ·refine gg ?_;refine cq F (fun hb5 F=> ?_) fun hb5 F=> ?_
   ·obtain⟨y0,h0,F⟩:=bs F;refine gg ?_;obtain⟨y1,h1,F⟩:=bs F;refine rq (clA 1 (Az h1)) ?_;refine cnd F (fun hb6 F=> ?_) fun hb6 F=> ?_
    ·refine ga7 ?_;refine ba ?_;cases F;have F:=bH hK0;exact tl []
    refine gg ?_;exact aP (ih (ae (x0+1)) F) (bG [0])
   exact tl [0]
  rintro _ ⟨⟨⟩,rfl,rfl⟩;have F:=bW hK0;clear hK0;refine gg ?_;obtain⟨lr1,F,hK1⟩:=bs F;refine lpG (fun s1=>∃ q,lr1= .next q/\s1=(sX 76 [pf 1 (.int .i64 a1),(2,some (.lp 0 0))] [bf 0 55 (ax a0)] 1)) (fun(q:Int)=>(sX 76 [pf 1 (.int .i64 a1),(2,some (.lp 0 0)),pf 6 (.int .i64 q)] [bf 0 55 (ax a0)] 1)) (fun k q=>nt a0 a1 ref10_much_rec k q) 0 (bG [0]) F (fun k x1 F ih=> ?_) ?_
  ·refine gg ?_;refine cq F (fun hb7 F=> ?_) fun hb7 F=> ?_
   ·obtain⟨y2,h2,F⟩:=bs F;refine gg ?_;obtain⟨y3,h3,F⟩:=bs F;refine rq (clA 1 (ref10_much_ih _ _ _ h3)) ?_;refine cnd F (fun hb8 F=> ?_) fun hb8 F=> ?_
    ·refine ga7 ?_;refine ba ?_;cases F;have F:=bH hK1;exact tl []
    refine gg ?_;exact aP (ih (ae (x1+1)) F) (bG [0])
   exact tl [0]
  rintro _ ⟨⟨⟩,rfl,rfl⟩;have F:=bW hK1;clear hK1;refine gg ?_;obtain⟨lr2,F,hK2⟩:=bs F;refine lpG (fun s1=>∃ q,lr2= .next q/\s1=(sX 76 [] [] 0)) (fun(q:Int)=>(sX 76 [pf 1 (.int .i64 a1),(2,some (.lp 0 0)),pf 7 (.int .i64 q)] [bf 0 55 (ax a0)] 1)) (fun k q=>nq a0 a1 ref10_much_rec k q) 0 (bG [0]) F (fun k x2 F ih=> ?_) ?_
  ·refine gg ?_;refine cq F (fun hb9 F=> ?_) fun hb9 F=> ?_
   ·obtain⟨y4,h4,F⟩:=bs F;refine gg ?_;obtain⟨y6,h5,F⟩:=bs F;refine rq (clA 1 (ref10_much_ih _ _ _ h5)) ?_;refine cnd F (fun hb11 F=> ?_) fun hb11 F=> ?_
    ·refine ga7 ?_;refine ba ?_;cases F;have F:=bH hK2;exact tl []
    refine gg ?_;exact aP (ih (ae (x2+1)) F) (bG [0])
   exact tl []
  rintro _ ⟨⟨⟩,rfl,rfl⟩;have F:=bW hK2;clear hK2;exact tl []
theorem LK {n:Nat} {a0:ah} {a1:Int} {r:Bool} (F:jC n a0 a1=some r):FZ 18 [.agg (ax a0),.int .i64 a1] [.p (.bool r)]:=(Fw n) _ _ _ F

theorem Gy : ∀ n:Nat,(∀ (a0:ah) (r:Int),fq n a0=some r->FZ 19 [.agg (ax a0)] [.p (.int .i64 r)]):=by
 intro n
 induction n with
 | zero=>exact(fun _ _ h=>by simp[fq] at h)
 | succ n ih=>
  have ref08_Size_ih:=ih;clear ih;intro a0 r F;unfold fq at F
  revert F ref08_Size_ih
  generalize fq n=ref08_Size_rec
  intro ref08_Size_ih F;refine fb 37 Tryz.func19 fun w O=> ?_;obtain⟨x0,F,hK0⟩:=bs F;refine lpE (sX 37 [(1,some (.lp 0 0)),pf 3 (.int .i64 x0)] [bf 0 55 (ax a0)] 1) (fun(q:Int×Int)=>(sX 37 [(1,some (.lp 0 0)),pf 3 (.int .i64 q.1),pf 4 (.int .i64 q.2)] [bf 0 55 (ax a0)] 1)) (fun k q=>jO a0 ref08_Size_rec k q.1 q.2) (1,0) (bG [0]) F (fun k ⟨x1,x2⟩ F ih=> ?_) ?_
  ·refine gg ?_;refine cq F (fun hb0 F=> ?_) fun hb0 F=> ?_
   ·obtain⟨y0,h0,F⟩:=bs F;refine gg ?_;obtain⟨y1,h1,F⟩:=bs F;refine rgp (clA 1 (ref08_Size_ih _ _ h1)) ?_;refine ga2 ?_;refine ci ?_;refine piz (sX 37 [(1,some (.lp 0 0)),pf 3 (.int .i64 (ae (x1+y1))),pf 4 (.int .i64 x2)] [bf 0 55 (ax a0)] 1) [0] ?_;refine gg ?_;exact aP (ih (ae (x1+y1),ae (x2+1)) F) (bG [0])
   exact tl [0]
  have F:=hK0;refine gg ?_;obtain⟨x3,F,hK1⟩:=bs F;refine lpE (sX 37 [pf 3 (.int .i64 x3)] [] 0) (fun(q:Int×Int)=>(sX 37 [(1,some (.lp 0 0)),pf 3 (.int .i64 q.1),pf 5 (.int .i64 q.2)] [bf 0 55 (ax a0)] 1)) (fun k q=>jT a0 ref08_Size_rec k q.1 q.2) (x0,0) (bG [0]) F (fun k ⟨x4,x5⟩ F ih=> ?_) ?_
  ·refine gg ?_;refine cq F (fun hb1 F=> ?_) fun hb1 F=> ?_
   ·obtain⟨y2,h2,F⟩:=bs F;refine gg ?_;obtain⟨y3,h3,F⟩:=bs F;refine rgp (clA 1 (ref08_Size_ih _ _ h3)) ?_;refine ga2 ?_;refine ci ?_;refine piz (sX 37 [(1,some (.lp 0 0)),pf 3 (.int .i64 (ae (x4+y3))),pf 5 (.int .i64 x5)] [bf 0 55 (ax a0)] 1) [0] ?_;refine gg ?_;exact aP (ih (ae (x4+y3),ae (x5+1)) F) (bG [0])
   exact tl []
  have F:=hK1;exact tl []
theorem wn {n:Nat} {a0:ah} {r:Int} (F:fq n a0=some r):FZ 19 [.agg (ax a0)] [.p (.int .i64 r)]:=(Gy n) _ _ F

theorem Lc {a0:List be} {r:Bool} (F:tk a0=some r):FZ 6 [.vs 7 (map aH a0)] [.p (.bool r)]:=by
 unfold tk at F;refine fb 106 Tryz.func6 fun w O=> ?_;obtain⟨lr0,F,hK0⟩:=bs F;refine lpG (fun s1=>∃ q,lr0= .next q/\s1=(sX 106 [pf 3 (.int .i64 q)] [] 0)) (fun(q:Int×Int)=>(sX 106 [pf 0 (.vs 7 (map aH a0)),pf 3 (.int .i64 q.1),pf 4 (.int .i64 q.2)] [] 0)) (fun k q=>mn a0 k q.1 q.2) (0,0) (bG []) F (fun k ⟨x0,x1⟩ F ih=> ?_) ?_
 ·refine gg ?_;refine cq F (fun hb0 F=> ?_) fun hb0 F=> ?_
  ·obtain⟨y0,h0,F⟩:=bs F;refine ga5 ?_;(iterate 2 refine aJ ?_);obtain⟨x2,F,hK1⟩:=bs F;refine ctq (sX 106 [pf 0 (.vs 7 (map aH a0)),pf 3 (.int .i64 x0),pf 4 (.int .i64 x1),(5,some (.lp 0 0)),pf 45 (.bool x2)] [bf 0 39 (aH y0)] 1) ?_ ?_
   ·exact tl [0]
   have F:=hK1;refine cnd F (fun hb1 F=> ?_) fun hb1 F=> ?_
   ·refine ga8 ?_;refine ba ?_;cases F;have F:=bH hK0;exact tl []
   refine gg ?_;obtain⟨lr1,F,hK2⟩:=bs F;refine lpG (fun s1=>∃ q,lr1= .next q/\s1=(sX 106 [pf 0 (.vs 7 (map aH a0)),pf 3 (.int .i64 q),pf 4 (.int .i64 x1)] [] 0)) (fun(q:Int×Int)=>(sX 106 [pf 0 (.vs 7 (map aH a0)),pf 3 (.int .i64 q.1),pf 4 (.int .i64 x1),(5,some (.lp 0 0)),pf 6 (.int .i64 q.2)] [bf 0 39 (aH y0)] 1)) (fun k q=>mj y0 k q.1 q.2) (x0,0) (bG [0]) F (fun k ⟨x3,x4⟩ F ih=> ?_) ?_
   ·refine gg ?_;refine cq F (fun hb2 F=> ?_) fun hb2 F=> ?_
    ·obtain⟨y1,h1,F⟩:=bs F;refine ga5 ?_;(iterate 2 refine aJ ?_);obtain⟨x5,F,hK3⟩:=bs F;refine ctq (sX 106 [pf 0 (.vs 7 (map aH a0)),pf 3 (.int .i64 x3),pf 4 (.int .i64 x1),(5,some (.lp 0 0)),pf 6 (.int .i64 x4),(7,some (.lp 1 0)),pf 78 (.bool x5)] [bf 0 39 (aH y0),bf 1 48 (aY y1)] 2) ?_ ?_
     ·refine iq F (fun hb3 F=> ?_) fun hb3 F=> ?_
      ·exact tl [0,1]
      refine iq F (fun hb4 F=> ?_) fun hb4 F=> ?_
      ·exact tl [0,1]
      rcases ie F with⟨hb5,F⟩ | ⟨hb5,F⟩
      ·exact tl [0,1]
      refine rgn hb5 (la (aY y1) yY) ?_;obtain⟨y2,h2,F⟩:=bs F;refine rgn hb5 (clA 2 (Dy h2)) ?_;exact tl [0,1]
     have F:=hK3;refine cnd F (fun hb6 F=> ?_) fun hb6 F=> ?_
     ·refine ga8 ?_;refine ba ?_;cases F;have F:=bH hK2;refine ga3 ?_;refine ba ?_;cases F;have F:=bH hK0;exact tl []
     refine gg ?_;obtain⟨lr2,F,hK4⟩:=bs F;refine lpG (fun s1=>∃ q,lr2= .next q/\s1=(sX 106 [pf 0 (.vs 7 (map aH a0)),pf 3 (.int .i64 q),pf 4 (.int .i64 x1),(5,some (.lp 0 0)),pf 6 (.int .i64 x4)] [bf 0 39 (aH y0)] 1)) (fun(q:Int×Int)=>(sX 106 [pf 0 (.vs 7 (map aH a0)),pf 3 (.int .i64 q.1),pf 4 (.int .i64 x1),(5,some (.lp 0 0)),pf 6 (.int .i64 x4),(7,some (.lp 1 0)),pf 8 (.int .i64 q.2)] [bf 0 39 (aH y0),bf 1 48 (aY y1)] 2)) (fun k q=>oj y1 k q.1 q.2) (x3,0) (bG [0,1]) F (fun k ⟨x6,x7⟩ F ih=> ?_) ?_
     ·refine gg ?_;refine cnd F (fun hb7 F=> ?_) fun hb7 F=> ?_
      ·refine ga2 ?_;refine aJ ?_;refine cI ?_;(iterate 2 refine aJ ?_);obtain⟨x8,F,hK5⟩:=bs F;refine ctq (sX 106 [pf 0 (.vs 7 (map aH a0)),pf 3 (.int .i64 x6),pf 4 (.int .i64 x1),(5,some (.lp 0 0)),pf 6 (.int .i64 x4),(7,some (.lp 1 0)),pf 8 (.int .i64 x7),pf 95 (.bool x8)] [bf 0 39 (aH y0),bf 1 48 (aY y1)] 2) ?_ ?_
       ·refine iq F (fun hb8 F=> ?_) fun hb8 F=> ?_
        ·exact tl [0,1]
        obtain⟨y3,h3,F⟩:=bs F;refine gg ?_;obtain⟨y4,h4,F⟩:=bs F;refine rgn hb8 (clA 2 (LK h4)) ?_;exact tl [0,1]
       have F:=hK5;refine cnd F (fun hb9 F=> ?_) fun hb9 F=> ?_
       ·refine ga8 ?_;refine ba ?_;cases F;have F:=bH hK4;refine ga3 ?_;refine ba ?_;cases F;have F:=bH hK2;refine ga3 ?_;refine ba ?_;cases F;have F:=bH hK0;exact tl []
       refine gg ?_;obtain⟨y5,h5,F⟩:=bs F;refine gg ?_;obtain⟨y6,h6,F⟩:=bs F;refine rgp (clA 2 (wn h6)) ?_;refine ga2 ?_;refine ci ?_;refine piz (sX 106 [pf 0 (.vs 7 (map aH a0)),pf 3 (.int .i64 (ae (x6+y6))),pf 4 (.int .i64 x1),(5,some (.lp 0 0)),pf 6 (.int .i64 x4),(7,some (.lp 1 0)),pf 8 (.int .i64 x7)] [bf 0 39 (aH y0),bf 1 48 (aY y1)] 2) [0,1] ?_;refine gg ?_;exact aP (ih (ae (x6+y6),ae (x7+1)) F) (bG [0,1])
      exact tl [0]
     rintro _ ⟨x9,rfl,rfl⟩;have F:=bW hK4;clear hK4;refine gg ?_;exact aP (ih (x9,ae (x4+1)) F) (bG [0])
    exact tl []
   rintro _ ⟨x10,rfl,rfl⟩;have F:=bW hK2;clear hK2;refine gg ?_;exact aP (ih (x10,ae (x1+1)) F) (bG [])
  exact tl []
 rintro _ ⟨x11,rfl,rfl⟩;have F:=bW hK0;clear hK0;exact tl []
theorem JD {a0:Int} {r:Bool} (F:sN a0=some r):FZ 85 [.int .u8 a0] [.p (.bool r)]:=by
 unfold sN at F;refine bM (n:=17) Tryz.func85 rfl rfl rfl fun w O=> ?_;exact tl []
theorem Ap {a0:List UInt8} {r:Int} (F:qp a0=some r):FZ 48 [.str a0] [.p (.int .i64 r)]:=by
 unfold qp at F;refine fb 46 Tryz.func48 fun w O=> ?_;obtain⟨lr0,F,hK0⟩:=bs F;refine lpG (fun s1=>∃ q,lr0= .next q/\s1=(sX 46 [pf 3 (.int .i64 q)] [] 0)) (fun(q:Int)=>(sX 46 [pf 0 (.str a0),pf 3 (.int .i64 q)] [] 0)) (fun k q=>lu a0 k q) 0 (bG []) F (fun k x0 F ih=> ?_) ?_
 ·refine gg ?_;refine rq (dJ rfl rfl eo rfl rfl) ?_;refine cq F (fun hb0 F=> ?_) fun hb0 F=> ?_
  ·obtain⟨y0,h0,F⟩:=bs F;refine rgp (dV rfl rfl rfl h0 eo rfl rfl) ?_;obtain⟨y1,h1,F⟩:=bs F;refine rq (clA 0 (JD h1)) ?_;refine cnd F (fun hb1 F=> ?_) fun hb1 F=> ?_
   ·refine ga5 ?_;refine uv ?_;refine di ?_;refine jF ?_;refine fu ?_;exact aP (ih (ae (x0+1)) F) (bG [])
   refine ga2 ?_;(iterate 2 refine aJ ?_);obtain⟨x1,F,hK1⟩:=bs F;refine ctq (sX 46 [pf 0 (.str a0),pf 3 (.int .i64 x0),pf 31 (.bool x1)] [] 0) ?_ ?_
   ·refine rq (dJ rfl rfl eo rfl rfl) ?_;refine iq F (fun hb2 F=> ?_) fun hb2 F=> ?_
    ·exact tl []
    obtain⟨y2,h2,F⟩:=bs F;refine rqn hb2 (dV rfl rfl rfl h2 eo rfl rfl) ?_;refine iq F (fun hb3 F=> ?_) fun hb3 F=> ?_
    ·exact tl []
    obtain⟨y3,h3,F⟩:=bs F;refine rgn hb3 (dV rfl rfl rfl h3 eo rfl rfl) ?_;exact tl []
   have F:=hK1;refine cnd F (fun hb4 F=> ?_) fun hb4 F=> ?_
   ·refine ga8 ?_;refine ba ?_;cases F;have F:=bH hK0;exact tl []
   refine gg ?_;obtain⟨x2,F,hK2⟩:=bs F;refine lpE (sX 46 [pf 0 (.str a0),pf 3 (.int .i64 x2)] [] 0) (fun(q:Int)=>(sX 46 [pf 0 (.str a0),pf 3 (.int .i64 q)] [] 0)) (fun k q=>wl a0 k q) x0 (bG []) F (fun k x3 F ih=> ?_) ?_
   ·refine tp ?_;(iterate 2 refine aJ ?_);obtain⟨x4,F,hK3⟩:=bs F;refine ctq (sX 46 [pf 0 (.str a0),pf 3 (.int .i64 x3),pf 42 (.bool x4)] [] 0) ?_ ?_
    ·refine rq (dJ rfl rfl eo rfl rfl) ?_;refine iq F (fun hb5 F=> ?_) fun hb5 F=> ?_
     ·obtain⟨y4,h4,F⟩:=bs F;refine rgn hb5 (dV rfl rfl rfl h4 eo rfl rfl) ?_;exact tl []
     exact tl []
    have F:=hK3;refine cnd F (fun hb6 F=> ?_) fun hb6 F=> ?_
    ·refine ga2 ?_;refine cI ?_;refine ga4 ?_;refine ci ?_;refine piz (sX 46 [pf 0 (.str a0),pf 3 (.int .i64 (ae (x3+1)))] [] 0) [] ?_;refine go ?_;refine fu ?_;exact aP (ih (ae (x3+1)) F) (bG [])
    exact tl []
   have F:=hK2;refine go ?_;refine fu ?_;exact aP (ih x2 F) (bG [])
  exact tl []
 rintro _ ⟨x5,rfl,rfl⟩;have F:=bW hK0;clear hK0;exact tl []
theorem qf {a0:Int} {r:Bool} (F:jL a0=some r):FZ 79 [.int .u8 a0] [.p (.bool r)]:=by
 unfold jL at F;refine bM (n:=17) Tryz.func79 rfl rfl rfl fun w O=> ?_;exact tl []
theorem od {a0:Int} {r:Bool} (F:lg a0=some r):FZ 81 [.int .u8 a0] [.p (.bool r)]:=by
 unfold lg at F;refine bM (n:=9) Tryz.func81 rfl rfl rfl fun w O=> ?_;exact tl []
theorem JT  {r:(List (List UInt8))} (F:vE=some r):FZ 110 [] [.p (.vs 1 (map eS r))]:=by
 unfold vE at F;refine fb 2 Tryz.func110 fun w O=> ?_;refine rgp (ez (rows:=map eS ([[99,108,97,115,115],[101,120,116,101,110,100,115],[114,101,112],[112,101,101,114],[119,111,114,108,100],[97,110,121],[117,110,105,113,117,101],[112,117,114,101],[118,111,105,100],[105,110,116],[105,102],[101,108,115,101],[119,104,105,108,101],[114,101,116,117,114,110],[110,101,119],[109,111,118,101],[100,101,108,101,116,101],[116,104,105,115],[110,117,108,108],[105,110,112,117,116],[110,105,108],[115,97,109,101],[99,97,115,116]]:List (List UInt8))) (zs:=[.str []]) rfl rfl ga kQ (by exact⟨rfl,trivial⟩) rfl rfl rfl rfl rfl rfl rfl rfl) ?_;exact tl []
theorem Av {a0:List UInt8} {r:Int} (F:sd a0=some r):FZ 80 [.str a0] [.p (.int .i64 r)]:=by
 unfold sd at F;refine fb 20 Tryz.func80 fun w O=> ?_;obtain⟨y3,h4,F⟩:=bs F;refine rq (clA 0 (JT h4)) ?_;obtain⟨lr0,F,hK0⟩:=bs F;refine lpG (fun s1=>∃ q,lr0= .next q/\s1=(sX 20 [] [] 0)) (fun(q:Int)=>(sX 20 [pf 0 (.str a0),pf 3 (.vs 1 (map eS y3)),pf 4 (.int .i64 q)] [] 0)) (fun k q=>nA a0 y3 k q) 0 (bG []) F (fun k x0 F ih=> ?_) ?_
 ·refine gg ?_;refine cq F (fun hb0 F=> ?_) fun hb0 F=> ?_
  ·obtain⟨y0,h0,F⟩:=bs F;refine gg ?_;refine rq (dQ rfl rfl rfl rfl rfl rfl) ?_;refine cnd F (fun hb1 F=> ?_) fun hb1 F=> ?_
   ·refine ga9 ?_;refine ba ?_;cases F;have F:=bH hK0;exact tl []
   refine gg ?_;exact aP (ih (ae (x0+1)) F) (bG [])
  exact tl []
 rintro _ ⟨⟨⟩,rfl,rfl⟩;have F:=bW hK0;clear hK0;exact tl []
theorem AU {a0:List UInt8} {r:(List UInt8)} (F:sc a0=some r):FZ 86 [.str a0] [.p (.str r)]:=by
 unfold sc at F;refine bM (n:=38) Tryz.func86 rfl rfl rfl fun w O=> ?_;refine ga3 ?_;(iterate 2 refine aJ ?_);obtain⟨x7,F,hK9⟩:=bs F;refine ctq (sX 38 [pf 0 (.str a0),pf 17 (.bool x7)] [] 0) ?_ ?_
 ·refine rq (dJ rfl rfl eo rfl rfl) ?_;refine iq F (fun hb1 F=> ?_) fun hb1 F=> ?_
  ·obtain⟨y2,h3,F⟩:=bs F;refine rgn hb1 (gL (nl:=none) (nh:=(some 2)) rfl rfl rfl rfl eo h3 rfl rfl) ?_;refine rqn hb1 (dQ rfl rfl rfl rfl rfl rfl) ?_;refine iq F (fun hb4 F=> ?_) fun hb4 F=> ?_
   ·exact tl []
   obtain⟨y5,h6,F⟩:=bs F;refine rgn hb4 (gL (nl:=none) (nh:=(some 2)) rfl rfl rfl rfl eo h6 rfl rfl) ?_;refine rgn hb4 (dQ rfl rfl rfl rfl rfl rfl) ?_;exact tl []
  exact tl []
 have F:=hK9;refine cq F (fun hb0 F=> ?_) fun hb0 F=> ?_
 ·obtain⟨y0,h0,F⟩:=bs F;refine rgp (gL (nl:=none) (nh:=(some 2)) rfl rfl rfl rfl eo h0 rfl rfl) ?_;exact tl []
 obtain⟨lr0,F,hK0⟩:=bs F;refine lpG (fun s1=>∃ q,lr0= .next q/\s1=(sX 38 [] [] 0)) (fun(q:Int)=>(sX 38 [pf 0 (.str a0),pf 3 (.str [123,125,40,41,60,62,44,59,46,61,43,45,42,33]),pf 4 (.int .i64 q)] [] 0)) (fun k q=>pG a0 k q) 0 (bG []) F (fun k x0 F ih=> ?_) ?_
 ·refine tp ?_;(iterate 2 refine aJ ?_);obtain⟨x1,F,hK1⟩:=bs F;refine ctq (sX 38 [pf 0 (.str a0),pf 3 (.str [123,125,40,41,60,62,44,59,46,61,43,45,42,33]),pf 4 (.int .i64 x0),pf 27 (.bool x1)] [] 0) ?_ ?_
  ·refine rq (dJ rfl rfl eo rfl rfl) ?_;refine iq F (fun hb2 F=> ?_) fun hb2 F=> ?_
   ·refine rgn hb2 (dQ rfl rfl rfl rfl rfl rfl) ?_;exact tl []
   exact tl []
  have F:=hK1;refine cnd F (fun hb3 F=> ?_) fun hb3 F=> ?_
  ·refine ga2 ?_;refine aJ ?_;refine cI ?_;refine aJ ?_;refine dt ⟨_,_,_⟩ rfl ?_;refine dd ?_;obtain⟨y1,h1,F⟩:=bs F;refine dk 32 [(30,pS [123,125,40,41,60,62,44,59,46,61,43,45,42,33]),(31,pI x0)] (.pv (.int .u8 (y1.toNat:Int))) (fun m h=>⟨_,dV rfl h.1.1 h.1.2.1 h1 eo rfl rfl,rfl⟩) ?_;refine dgo ?_;obtain⟨y3,h2,F⟩:=bs F;refine dk 34 [(33,pS a0)] (.pv (.int .u8 (y3.toNat:Int))) (fun m h=>⟨_,dV rfl h.1.1 rfl h2 eo rfl rfl,rfl⟩) ?_;refine dd ?_;refine drn ?_;refine piz (sX 38 [pf 0 (.str a0),pf 3 (.str [123,125,40,41,60,62,44,59,46,61,43,45,42,33]),pf 4 (.int .i64 x0),pf 35 (.bool ((y1.toNat:Int)==(y3.toNat:Int)))] [] 0) [] ?_;refine gg ?_;refine cq F (fun hb5 F=> ?_) fun hb5 F=> ?_
   ·obtain⟨y4,h4,F⟩:=bs F;refine rgp (gL (nl:=none) (nh:=(some 1)) rfl rfl rfl rfl eo h4 rfl rfl) ?_;refine ga6 ?_;refine ba ?_;cases F;have F:=bH hK0;exact tl []
   exact aP (ih (ae (x0+1)) F) (bG [])
  exact tl []
 rintro _ ⟨⟨⟩,rfl,rfl⟩;have F:=bW hK0;clear hK0;exact tl []
theorem NK {a0:List UInt8} {r:aK} (F:wE a0=some r):FZ 49 [.str a0] [.p (.agg (aj r))]:=by
 unfold wE at F;refine fb 64 Tryz.func49 fun w O=> ?_;obtain⟨y5,h6,F⟩:=bs F;refine rgp (dV rfl rfl rfl h6 eo rfl rfl) ?_;obtain⟨y7,h8,F⟩:=bs F;refine rq (clA 1 (qf h8)) ?_;refine cq F (fun hb9 F=> ?_) fun hb9 F=> ?_
 ·obtain⟨x0,F,hK0⟩:=bs F;refine lpE (sX 64 [pf 0 (.str a0),(2,some (.lp 0 0)),pf 3 (.int .i64 x0)] [bf 0 70 (aj je)] 1) (fun(q:Int)=>(sX 64 [pf 0 (.str a0),(2,some (.lp 0 0)),pf 3 (.int .i64 q)] [bf 0 70 (aj je)] 1)) (fun k q=>rP a0 k q) 0 (bG [0]) F (fun k x1 F ih=> ?_) ?_
  ·refine tp ?_;(iterate 2 refine aJ ?_);obtain⟨x2,F,hK1⟩:=bs F;refine ctq (sX 64 [pf 0 (.str a0),(2,some (.lp 0 0)),pf 3 (.int .i64 x1),pf 22 (.bool x2)] [bf 0 70 (aj je)] 1) ?_ ?_
   ·refine rq (dJ rfl rfl eo rfl rfl) ?_;refine iq F (fun hb0 F=> ?_) fun hb0 F=> ?_
    ·obtain⟨y0,h0,F⟩:=bs F;refine rgn hb0 (dV rfl rfl rfl h0 eo rfl rfl) ?_;obtain⟨y1,h1,F⟩:=bs F;refine rqn hb0 (clA 1 (qf h1)) ?_;refine iq F (fun hb1 F=> ?_) fun hb1 F=> ?_
     ·exact tl [0]
     obtain⟨y2,h2,F⟩:=bs F;refine rgn hb1 (dV rfl rfl rfl h2 eo rfl rfl) ?_;obtain⟨y3,h3,F⟩:=bs F;refine rgn hb1 (clA 1 (od h3)) ?_;exact tl [0]
    exact tl [0]
   have F:=hK1;refine cnd F (fun hb2 F=> ?_) fun hb2 F=> ?_
   ·refine ga2 ?_;refine cI ?_;refine ga4 ?_;refine ci ?_;refine piz (sX 64 [pf 0 (.str a0),(2,some (.lp 0 0)),pf 3 (.int .i64 (ae (x1+1)))] [bf 0 70 (aj je)] 1) [0] ?_;refine go ?_;refine fu ?_;exact aP (ih (ae (x1+1)) F) (bG [0])
   exact tl [0]
  have F:=hK0;refine gg ?_;obtain⟨y4,h4,F⟩:=bs F;refine rgp (gL (nl:=none) (nh:=(some x0)) rfl rfl rfl rfl eo h4 rfl rfl) ?_;obtain⟨y6,h5,F⟩:=bs F;refine rq (clA 1 (Av h5)) ?_;refine cq F (fun hb3 F=> ?_) fun hb3 F=> ?_
  ·obtain⟨y8,h7,F⟩:=bs F;refine rgp (gL (nl:=none) (nh:=(some x0)) rfl rfl rfl rfl eo h7 rfl rfl) ?_;refine rgp (bd ((aj je)) (aj (⟨3,y8,0⟩:aK)) rj yU) ?_;exact tl []
  obtain⟨y9,h9,F⟩:=bs F;refine rgp (gL (nl:=none) (nh:=(some x0)) rfl rfl rfl rfl eo h9 rfl rfl) ?_;refine rgp (bd ((aj je)) (aj (⟨1,y9,0⟩:aK)) rj yU) ?_;exact tl []
 obtain⟨y10,h10,F⟩:=bs F;refine rgp (dV rfl rfl rfl h10 eo rfl rfl) ?_;obtain⟨y11,h11,F⟩:=bs F;refine rq (clA 1 (od h11)) ?_;refine cq F (fun hb4 F=> ?_) fun hb4 F=> ?_
 ·obtain⟨x3,F,hK2⟩:=bs F;refine lpE (sX 64 [pf 0 (.str a0),(2,some (.lp 0 0)),pf 3 (.int .i64 x3)] [bf 0 70 (aj je)] 1) (fun(q:Int)=>(sX 64 [pf 0 (.str a0),(2,some (.lp 0 0)),pf 3 (.int .i64 q)] [bf 0 70 (aj je)] 1)) (fun k q=>rc a0 k q) 0 (bG [0]) F (fun k x4 F ih=> ?_) ?_
  ·refine tp ?_;(iterate 2 refine aJ ?_);obtain⟨x5,F,hK3⟩:=bs F;refine ctq (sX 64 [pf 0 (.str a0),(2,some (.lp 0 0)),pf 3 (.int .i64 x4),pf 50 (.bool x5)] [bf 0 70 (aj je)] 1) ?_ ?_
   ·refine rq (dJ rfl rfl eo rfl rfl) ?_;refine iq F (fun hb5 F=> ?_) fun hb5 F=> ?_
    ·obtain⟨y12,h12,F⟩:=bs F;refine rgn hb5 (dV rfl rfl rfl h12 eo rfl rfl) ?_;obtain⟨y13,h13,F⟩:=bs F;refine rgn hb5 (clA 1 (od h13)) ?_;exact tl [0]
    exact tl [0]
   have F:=hK3;refine cnd F (fun hb6 F=> ?_) fun hb6 F=> ?_
   ·refine ga2 ?_;refine cI ?_;refine ga4 ?_;refine ci ?_;refine piz (sX 64 [pf 0 (.str a0),(2,some (.lp 0 0)),pf 3 (.int .i64 (ae (x4+1)))] [bf 0 70 (aj je)] 1) [0] ?_;refine go ?_;refine fu ?_;exact aP (ih (ae (x4+1)) F) (bG [0])
   exact tl [0]
  have F:=hK2;refine gg ?_;obtain⟨y14,h14,F⟩:=bs F;refine rgp (gL (nl:=none) (nh:=(some x3)) rfl rfl rfl rfl eo h14 rfl rfl) ?_;refine rgp (bd ((aj je)) (aj (⟨2,y14,0⟩:aK)) rj yU) ?_;exact tl []
 obtain⟨y15,h15,F⟩:=bs F;refine rgp (clA 1 (AU h15)) ?_;refine rq (dQ rfl rfl rfl rfl rfl rfl) ?_;refine cq F (fun hb7 F=> ?_) fun hb7 F=> ?_
 ·obtain⟨y16,h16,F⟩:=bs F;refine rgp (clA 1 (AU h16)) ?_;refine rgp (bd ((aj je)) (aj (⟨4,y16,0⟩:aK)) rj yU) ?_;exact tl []
 refine rgp (bd ((aj je)) (aj je) rj yU) ?_;exact tl []
theorem yi {a0:List UInt8} {r:Int×Bool} (F:ph a0=some r):FZ 50 [.str a0] [.p (.int .i64 r.1),.p (.bool r.2)]:=by
 unfold ph at F;refine bM (n:=44) Tryz.func50 rfl rfl rfl fun w O=> ?_;refine ga4 ?_;(iterate 2 refine aJ ?_);obtain⟨x6,F,hK8⟩:=bs F;refine ctq (sX 44 [pf 0 (.str a0),pf 23 (.bool x6)] [] 0) ?_ ?_
 ·refine rq (dJ rfl rfl eo rfl rfl) ?_;refine iq F (fun hb1 F=> ?_) fun hb1 F=> ?_
  ·exact tl []
  refine rqn hb1 (dJ rfl rfl eo rfl rfl) ?_;refine iq F (fun hb2 F=> ?_) fun hb2 F=> ?_
  ·exact tl []
  obtain⟨y3,h4,F⟩:=bs F;refine rqn hb2 (dV rfl rfl rfl h4 eo rfl rfl) ?_;refine iq F (fun hb5 F=> ?_) fun hb5 F=> ?_
  ·refine rgn hb5 (dJ rfl rfl eo rfl rfl) ?_;exact tl []
  exact tl []
 have F:=hK8;refine cq F (fun hb9 F=> ?_) fun hb9 F=> ?_
 ·exact tl []
 obtain⟨lr0,F,hK0⟩:=bs F;refine lpG (fun s1=>∃ q,lr0= .next q/\s1=(sX 44 [pf 4 (.int .i64 q)] [] 0)) (fun(q:Int×Int)=>(sX 44 [pf 0 (.str a0),pf 4 (.int .i64 q.1),pf 5 (.int .i64 q.2)] [] 0)) (fun k q=>nc a0 k q.1 q.2) (0,0) (bG []) F (fun k ⟨x0,x1⟩ F ih=> ?_) ?_
 ·refine gg ?_;refine rq (dJ rfl rfl eo rfl rfl) ?_;refine cq F (fun hb0 F=> ?_) fun hb0 F=> ?_
  ·obtain⟨y0,h0,F⟩:=bs F;refine rgp (dV rfl rfl rfl h0 eo rfl rfl) ?_;obtain⟨y1,h1,F⟩:=bs F;refine rq (clA 0 (od h1)) ?_;refine cnd F (fun hb3 F=> ?_) fun hb3 F=> ?_
   ·refine ga9 ?_;refine ba ?_;cases F;have F:=bH hK0;exact tl []
   refine gg ?_;obtain⟨y2,h2,F⟩:=bs F;refine rq (dV rfl rfl rfl h2 eo rfl rfl) ?_;refine rgp (xx rfl rfl Qx ack rfl rfl) ?_;refine ga2 ?_;refine ci ?_;refine piz (sX 44 [pf 0 (.str a0),pf 4 (.int .i64 (ae ((ae (10 * x0))+(ae (Ak ((y2.toNat:Int) - 48)))))),pf 5 (.int .i64 x1)] [] 0) [] ?_;refine gg ?_;exact aP (ih (ae ((ae (10 * x0))+(ae (Ak ((y2.toNat:Int) - 48)))),ae (x1+1)) F) (bG [])
  exact tl []
 rintro _ ⟨x2,rfl,rfl⟩;have F:=bW hK0;clear hK0;exact tl []
theorem QI {a0:List UInt8} {r:(List aK)×nK} (F:zx a0=some r):FZ 26 [.str a0] [.own 70 3 (map aj r.1),.p (.agg (lQ r.2))]:=by
 unfold zx at F;refine fb 78 Tryz.func26 fun w O=> ?_;refine rq (dJ rfl rfl eo rfl rfl) ?_;refine cnd F (fun hb1 F=> ?_) fun hb1 F=> ?_
 ·cases F
 refine ga4 ?_;refine cT (ib 4 70 3 1 rfl rfl) ?_;refine gg ?_;obtain⟨y4,h5,F⟩:=bs F;refine rq (clA 2 (Ap h5)) ?_;obtain⟨x0,F,hK0⟩:=bs F;refine lpE (sX 78 [pf 0 (.str a0),(3,some (.lp 0 0)),(4,some (.ls 1))] [bf 0 28 (lQ aM),(1,some (.row 70 3 (map aj x0)))] 2) (fun(q:(List aK)×Int)=>(sX 78 [pf 0 (.str a0),(3,some (.lp 0 0)),(4,some (.ls 1)),pf 5 (.int .i64 q.2)] [bf 0 28 (lQ aM),(1,some (.row 70 3 (map aj q.1)))] 2)) (fun k q=>qF a0 k q.1 q.2) ([],y4) (bG [0,1]) F (fun k ⟨x1,x2⟩ F ih=> ?_) ?_
 ·refine gg ?_;refine rq (dJ rfl rfl eo rfl rfl) ?_;refine cq F (fun hb0 F=> ?_) fun hb0 F=> ?_
  ·obtain⟨y0,h0,F⟩:=bs F;refine rgp (gL (nl:=(some x2)) (nh:=none) rfl rfl rfl rfl eo h0 rfl rfl) ?_;obtain⟨y1,h1,F⟩:=bs F;refine rq (clA 2 (NK h1)) ?_;refine cnd F (fun hb2 F=> ?_) fun hb2 F=> ?_
   ·cases F
   refine gg ?_;obtain⟨y2,h2,F⟩:=bs F;refine rgp (clA 3 (yi h2)) ?_;refine go ?_;(iterate 2 refine rgp (sh rfl rfl rfl rfl rfl) ?_);refine ga3 ?_;(iterate 2 refine aJ ?_);obtain⟨x3,F,hK1⟩:=bs F;refine ctx (sX 78 [pf 0 (.str a0),(3,some (.lp 0 0)),(4,some (.ls 1)),pf 5 (.int .i64 x2),(6,some (.lp 2 0)),pf 53 (.bool x3)] [bf 0 28 (lQ aM),(1,some (.row 70 3 (map aj x1))),bf 2 70 (aj ({ y1 with fAt:=x2 }:aK))] 3) ?_ ?_
   ·refine go5 ?_;rcases ie F with⟨hb3,F⟩ | ⟨hb3,F⟩
    ·(iterate 2 refine gn hb3 ?_);refine rgn hb3 (dJ rfl rfl eo rfl rfl) ?_;refine gn hb3 ?_;refine rpt hb3 ?_;refine go ?_;rcases ie F with⟨hb4,F⟩ | ⟨hb4,F⟩
     ·exact tl [0,1,2]
     (iterate 4 refine gn hb4 ?_);rcases ie F with⟨hb5,F⟩ | ⟨hb5,F⟩
     ·(iterate 2 refine gn hb5 ?_);refine rgn hb4 (qt rfl rfl hb5 rfl rfl rfl) ?_;refine rpf hb4 ?_;exact tl [0,1,2]
     (iterate 2 refine JQ hb5 ?_);refine rgn hb4 (dI rfl rfl hb5 rfl rfl rfl) ?_;refine rpf hb4 ?_;exact tl [0,1,2]
    (iterate 4 refine JQ hb3 ?_);refine rpf hb3 ?_;refine go ?_;(iterate 4 refine gn rfl ?_);rcases ie F with⟨hb6,F⟩ | ⟨hb6,F⟩
    ·(iterate 2 refine gn hb6 ?_);refine rgn rfl (qt rfl rfl hb6 rfl rfl rfl) ?_;refine rpf rfl ?_;exact tl [0,1,2]
    (iterate 2 refine JQ hb6 ?_);refine rgn rfl (dI rfl rfl hb6 rfl rfl rfl) ?_;refine rpf rfl ?_;exact tl [0,1,2]
   have F:=hK1;refine go ?_;refine cnd F (fun hb7 F=> ?_) fun hb7 F=> ?_
   ·cases F
   refine gg ?_;refine rgp (la (aj ({ y1 with fAt:=x2 }:aK)) jo) ?_;refine rgp (ez (rows:=map aj ([({ y1 with fAt:=x2 }:aK)]:List aK)) (zs:=(aj je)) rfl rfl IZ rj (by exact⟨rfl,rfl,rfl,trivial⟩) rfl rfl rfl rfl rfl rfl rfl rfl) ?_;obtain⟨u0,h3,F⟩:=bs F;refine rq (fJ 3 rfl rfl rfl rfl rfl IZ aao rj rfl rfl rfl (jr (f:=aj) (g:=aj) h3) (map_append (f:=aj) (l₁:=x1) (l₂:=[({ y1 with fAt:=x2 }:aK)])).symm rfl rfl) ?_;refine rq (dJ rfl rfl eo rfl rfl) ?_;obtain⟨y3,h4,F⟩:=bs F;refine rgp (gL (nl:=(some (ae (x2+((({ y1 with fAt:=x2 }:aK).bV).length:Int))))) (nh:=none) rfl rfl rfl rfl eo h4 rfl rfl) ?_;obtain⟨y5,h6,F⟩:=bs F;refine rgp (clA 4 (Ap h6)) ?_;refine ga2 ?_;refine ci ?_;refine piz (sX 78 [pf 0 (.str a0),(3,some (.lp 0 0)),(4,some (.ls 1)),pf 5 (.int .i64 (ae ((ae (x2+((({ y1 with fAt:=x2 }:aK).bV).length:Int)))+y5)))] [bf 0 28 (lQ aM),(1,some (.row 70 3 (map aj (x1++[({ y1 with fAt:=x2 }:aK)]))))] 2) [0,3] ?_;refine go ?_;refine fu ?_;exact aP (ih ((x1++[({ y1 with fAt:=x2 }:aK)]),ae ((ae (x2+((({ y1 with fAt:=x2 }:aK).bV).length:Int)))+y5)) F) (bG [0,1])
  exact tl [0,1]
 have F:=hK0;refine gg ?_;refine rgp (dJ rfl rfl eo rfl rfl) ?_;refine rgp (bd ((aj je)) (aj (⟨0,[],(a0.length:Int)⟩:aK)) rj yU) ?_;refine rgp (ez (rows:=map aj ([(⟨0,[],(a0.length:Int)⟩:aK)]:List aK)) (zs:=(aj je)) rfl rfl IZ rj (by exact⟨rfl,rfl,rfl,trivial⟩) rfl rfl rfl rfl rfl rfl rfl rfl) ?_;obtain⟨u1,h7,F⟩:=bs F;refine rgp (fJ 2 rfl rfl rfl rfl rfl IZ aao rj rfl rfl rfl (jr (f:=aj) (g:=aj) h7) (map_append (f:=aj) (l₁:=x0) (l₂:=[(⟨0,[],(a0.length:Int)⟩:aK)])).symm rfl rfl) ?_;refine rq (bd ((lQ aM)) (lQ aM) Kx ZC) ?_;cases F;exact oE rfl rfl (.cons _ _ _ _ _ (.tmp _ _ rfl) (.own _ _ _ _ rfl Wo) (.cons _ _ _ _ _ (.agg _ _ _ _ _ 2 _ _ rfl rfl PH rfl rfl rfl) (.p _) .nil)) (.inl rfl)
theorem dl {a0:List aK} {a1:Int} {r:aK} (F:dC a0 a1=some r):FZ 51 [.vs 3 (map aj a0),.int .i64 a1] [.p (.agg (aj r))]:=by
 unfold dC at F;refine bM (n:=29) Tryz.func51 rfl rfl rfl fun w O=> ?_;refine ga3 ?_;(iterate 2 refine aJ ?_);obtain⟨x2,F,hK4⟩:=bs F;refine ctq (sX 29 [pf 0 (.vs 3 (map aj a0)),pf 1 (.int .i64 a1),(4,some (.lp 0 0)),pf 12 (.bool x2)] [bf 0 70 (aj je)] 1) ?_ ?_
 ·exact tl [0]
 have F:=hK4;refine cnd F (fun hb5 F=> ?_) fun hb5 F=> ?_
 ·refine ga3 ?_;obtain⟨y6,h7,F⟩:=bs F;exact tl []
 refine gg ?_;refine cq F (fun hb8 F=> ?_) fun hb8 F=> ?_
 ·refine rgp (bd ((aj je)) (aj je) rj yU) ?_;exact tl []
 obtain⟨y9,h0,F⟩:=bs F;refine gg ?_;refine rgp (bd ((aj je)) (aj (⟨0,[],y9.fAt⟩:aK)) rj yU) ?_;exact tl []
theorem jh {a0:List aK} {a1:Int} {r:aK} (F:jy a0 a1=some r):FZ 27 [.vs 3 (map aj a0),.int .i64 a1] [.p (.agg (aj r))]:=by
 unfold jy at F;refine fb 8 Tryz.func27 fun w O=> ?_;obtain⟨y1,h2,F⟩:=bs F;refine rgp (clA 1 (dl h2)) ?_;exact tl []
theorem cW {a0:aK} {a1:List UInt8} {r:Bool} (F:dz a0 a1=some r):FZ 52 [.agg (aj a0),.str a1] [.p (.bool r)]:=by
 unfold dz at F;refine fb 19 Tryz.func52 fun w O=> ?_;refine iq F (fun hb1 F=> ?_) fun hb1 F=> ?_
 ·refine rgn rfl (dQ rfl rfl rfl rfl rfl rfl) ?_;exact tl []
 refine iq F (fun hb2 F=> ?_) fun hb2 F=> ?_
 ·refine rgn hb2 (dQ rfl rfl rfl rfl rfl rfl) ?_;exact tl []
 exact tl []
theorem eC {a0:List aK} {a1:Int} {a2:List UInt8} {r:Bool} (F:gd a0 a1 a2=some r):FZ 28 [.vs 3 (map aj a0),.int .i64 a1,.str a2] [.p (.bool r)]:=by
 unfold gd at F;refine fb 12 Tryz.func28 fun w O=> ?_;obtain⟨y1,h2,F⟩:=bs F;refine rq (clA 0 (dl h2)) ?_;obtain⟨y3,h4,F⟩:=bs F;refine rgp (clA 0 (cW h4)) ?_;exact tl []
theorem IA {a0:List aK} {a1:Int} {r:cJ} (F:qI a0 a1=some r):FZ 54 [.vs 3 (map aj a0),.int .i64 a1] [.p (.agg (bc r))]:=by
 unfold qI at F;refine bM (n:=45) Tryz.func54 rfl rfl rfl fun w O=> ?_;refine ga5 ?_;refine cT (ib 5 9 1 1 rfl rfl) ?_;refine gg ?_;obtain⟨lr0,F,hK0⟩:=bs F;refine lpG (fun _=>False) (fun(q:Int×(List (List UInt8)))=>(sX 45 [pf 0 (.vs 3 (map aj a0)),pf 1 (.int .i64 q.1),(4,some (.lp 0 0)),(5,some (.ls 1))] [bf 0 74 (bc zGGot_ref09),(1,some (.row 9 1 (map eS q.2)))] 2)) (fun k q=>ma a0 k q.1 q.2) (a1,[]) (bG [0,1]) F (fun k ⟨x0,x1⟩ F ih=> ?_) ?_
 ·refine gg ?_;obtain⟨y0,h0,F⟩:=bs F;refine rgp (clA 2 (jh h0)) ?_;refine rq (ek rfl rfl rn jP rfl rfl rfl) ?_;refine cnd F (fun hb0 F=> ?_) fun hb0 F=> ?_
  ·cases F
  refine gg ?_;refine rq (jv rfl rfl rfl (length_map ..) ga rfl rfl) ?_;refine cnd F (fun hb1 F=> ?_) fun hb1 F=> ?_
  ·cases F
  refine gg ?_;obtain⟨y1,h1,F⟩:=bs F;refine rgp (clA 2 (jh h1)) ?_;refine rgp (ek rfl rfl tu yn rfl rfl rfl) ?_;refine rgp (ez (rows:=map eS ([y1.bV]:List (List UInt8))) (zs:=[.str []]) rfl rfl ga kQ (by exact⟨rfl,trivial⟩) rfl rfl rfl rfl rfl rfl rfl rfl) ?_;obtain⟨u0,h2,F⟩:=bs F;refine rq (fJ 2 rfl rfl rfl rfl rfl ga Rh kQ rfl rfl rfl (jr (f:=eS) (g:=eS) h2) (map_append (f:=eS) (l₁:=x1) (l₂:=[y1.bV])).symm rfl rfl) ?_;obtain⟨y2,h3,F⟩:=bs F;refine rq (clA 3 (eC h3)) ?_;refine cnd F (fun hb2 F=> ?_) fun hb2 F=> ?_
  ·refine ga4 ?_;refine cT (gW [(2,some (.row 9 1 (map eS (x1++[y1.bV]))))] [(5,some (.pv (.vs 1 (map eS (x1++[y1.bV]))))),(34,some (.pv (.vs 1 (map eS (x1++[y1.bV])))))] (FzH.spec ⟨rfl,trivial⟩) ⟨⟨_,rfl,rfl⟩,⟨_,rfl,rfl⟩,trivial⟩) ?_;refine rgp (bd ((bc zGGot_ref09)) (bc (⟨zGClass,zGMethod,[],(x1++[y1.bV]),ae ((ae ((ae (x0+1))+1))+1),aM⟩:cJ)) nP vQ) ?_;refine ga6 ?_;refine ba ?_;cases F;have F:=bH hK0;exact tl []
  refine gg ?_;obtain⟨y3,h4,F⟩:=bs F;refine rq (clA 3 (eC h4)) ?_;refine cnd F (fun hb3 F=> ?_) fun hb3 F=> ?_
  ·cases F
  refine ga2 ?_;refine fu ?_;exact aP (ih (ae ((ae (x0+1))+1),(x1++[y1.bV])) F) (bG [0,2])
 intro _ h;exact h.elim
theorem sr {a0:aK} {r:ay} (F:iu a0=some r):FZ 114 [.agg (aj a0)] [.p (.agg (aC r))]:=by
 unfold iu at F;refine fb 29 Tryz.func114 fun w O=> ?_;refine rq (ez (rows:=map eS ([[114,101,112],[112,101,101,114],[],[119,111,114,108,100],[97,110,121],[117,110,105,113,117,101]]:List (List UInt8))) (zs:=[.str []]) rfl rfl ga kQ (by exact⟨rfl,trivial⟩) rfl rfl rfl rfl rfl rfl rfl rfl) ?_;obtain⟨lr0,F,hK0⟩:=bs F;refine lpG (fun s1=>∃ q,lr0= .next q/\s1=(sX 29 [(2,some (.lp 0 0))] [bf 0 42 (aC aq)] 1)) (fun(q:Int)=>(sX 29 [(1,some (.lp 0 0)),(2,some (.lp 1 0)),pf 3 (.vs 1 (map eS [[114,101,112],[112,101,101,114],[],[119,111,114,108,100],[97,110,121],[117,110,105,113,117,101]])),pf 4 (.int .i64 q)] [bf 0 70 (aj a0),bf 1 42 (aC aq)] 2)) (fun k q=>jV a0 k q) 0 (bG [0,1]) F (fun k x0 F ih=> ?_) ?_
 ·refine gg ?_;refine cnd F (fun hb0 F=> ?_) fun hb0 F=> ?_
  ·refine ga2 ?_;refine aJ ?_;refine cI ?_;refine aJ ?_;obtain⟨x1,F,hK1⟩:=bs F;refine ctx (sX 29 [(1,some (.lp 0 0)),(2,some (.lp 1 0)),pf 3 (.vs 1 (map eS [[114,101,112],[112,101,101,114],[],[119,111,114,108,100],[97,110,121],[117,110,105,113,117,101]])),pf 4 (.int .i64 x0),pf 24 (.bool x1)] [bf 0 70 (aj a0),bf 1 42 (aC aq)] 2) ?_ ?_
   ·refine dt ⟨_,_,_⟩ rfl ?_;refine bg { need:=[(1,.lp 0 0)],hneed:=[(0,.box 70 (bxv (aj a0)))],dst:=some 12,val:=some (.pv (.agg (aj a0))) } (fun m h=>bq (bQ rfl) (eZ (ps:=aj a0) rfl h.1.1 h.2.1.1 rfl rfl rfl jo rfl rfl) rfl) ⟨⟨rfl,trivial⟩,⟨rfl,trivial⟩,trivial⟩ ?_;refine dd ?_;obtain⟨y0,h0,F⟩:=bs F;refine dd ?_;obtain⟨y1,h1,F⟩:=bs F;refine dk 17 [(16,pS y0),(12,.pv (.agg (aj a0)))] (pB y1) (fun m h=>⟨_,dx 2 rfl (caps:=[]) (args:=[.agg (aj a0),.str y0]) (rs:=[.p (.bool y1)]) rfl rfl (bm h.1.2.1 (bm h.1.1 dM)) ZZ (cW h1) rfl rfl rfl,rfl⟩) ?_;refine dgo ?_;rcases ie F with⟨hb1,F⟩ | ⟨hb1,F⟩
    ·refine dkg hb1 19 [(3,.pv (.vs 1 (map eS [[114,101,112],[112,101,101,114],[],[119,111,114,108,100],[97,110,121],[117,110,105,113,117,101]])))] (.pv (.vs 1 (map eS [[114,101,112],[112,101,101,114],[],[119,111,114,108,100],[97,110,121],[117,110,105,113,117,101]]))) (fun m h=>⟨_,ic rfl h.1.2.1 rfl rfl,rfl⟩) ?_;refine dkg hb1 20 [(4,pI x0)] (pI x0) (fun m h=>⟨_,ic rfl h.1.2.1 rfl rfl,rfl⟩) ?_;obtain⟨y2,h2,F⟩:=bs F;refine dkg hb1 21 [(19,.pv (.vs 1 (map eS [[114,101,112],[112,101,101,114],[],[119,111,114,108,100],[97,110,121],[117,110,105,113,117,101]]))),(20,pI x0)] (.pv (.vp (eS y2))) (fun m h=>⟨_,iI (k:= .i64) rfl h.1.2.1 h.1.2.2.1 (kR eS h2) ga rfl rfl,rfl⟩) ?_;refine dd ?_;refine dkg hb1 23 [(22,pS y2)] (pB (!(y2==[]))) (fun m h=>⟨_,dQ rfl h.1.2.1 rfl rfl rfl rfl,rfl⟩) ?_;exact tm [0,1]
    exact tm [0,1]
   have F:=hK1;refine gg ?_;refine cq F (fun hb2 F=> ?_) fun hb2 F=> ?_
   ·refine rgp (bd ((aC aq)) (aC (⟨ae (x0+1),0⟩:ay)) vZ BN) ?_;refine ga6 ?_;refine ba ?_;cases F;have F:=bH hK0;exact tl []
   exact aP (ih (ae (x0+1)) F) (bG [0,1])
  exact tl [1]
 rintro _ ⟨⟨⟩,rfl,rfl⟩;have F:=bW hK0;clear hK0;refine gg ?_;refine rgp (bd ((aC aq)) (aC aq) vZ BN) ?_;exact tl []
theorem LJ {a0:List UInt8} {a1:List (List UInt8)} {r:Int} (F:xY a0 a1=some r):FZ 143 [.str a0,.vs 1 (map eS a1)] [.p (.int .i64 r)]:=by
 unfold xY at F;refine fb 20 Tryz.func143 fun w O=> ?_;obtain⟨lr0,F,hK0⟩:=bs F;refine lpG (fun s1=>∃ q,lr0= .next q/\s1=(sX 20 [] [] 0)) (fun(q:Int)=>(sX 20 [pf 0 (.str a0),pf 1 (.vs 1 (map eS a1)),pf 5 (.int .i64 q)] [] 0)) (fun k q=>pZ a0 a1 k q) 0 (bG []) F (fun k x7 F ih=> ?_) ?_
 ·refine gg ?_;refine cq F (fun hb0 F=> ?_) fun hb0 F=> ?_
  ·obtain⟨y0,h0,F⟩:=bs F;refine gg ?_;refine rq (dQ rfl rfl rfl rfl rfl rfl) ?_;refine cnd F (fun hb1 F=> ?_) fun hb1 F=> ?_
   ·refine ga9 ?_;refine ba ?_;cases F;have F:=bH hK0;exact tl []
   refine gg ?_;exact aP (ih (ae (x7+1)) F) (bG [])
  exact tl []
 rintro _ ⟨⟨⟩,rfl,rfl⟩;have F:=bW hK0;clear hK0;exact tl []
theorem yO {a0:aK} {a1:List (List UInt8)} {r:ay} (F:kU a0 a1=some r):FZ 115 [.agg (aj a0),.vs 1 (map eS a1)] [.p (.agg (aC r))]:=by
 unfold kU at F;refine fb 15 Tryz.func115 fun w O=> ?_;obtain⟨y3,h4,F⟩:=bs F;refine rq (clA 2 (LJ h4)) ?_;refine cq F (fun hb5 F=> ?_) fun hb5 F=> ?_
 ·refine rgp (bd ((aC aq)) (aC aq) vZ BN) ?_;exact tl []
 refine rgp (bd ((aC aq)) (aC (⟨3,y3⟩:ay)) vZ BN) ?_;exact tl []
theorem yp {a0:List aK} {a1:Int} {a2:List (List UInt8)} {r:dc} (F:pr a0 a1 a2=some r):FZ 87 [.vs 3 (map aj a0),.int .i64 a1,.vs 1 (map eS a2)] [.p (.agg (bw r))]:=by
 unfold pr at F;refine fb 76 Tryz.func87 fun w O=> ?_;obtain⟨y5,h6,F⟩:=bs F;refine rgp (clA 1 (dl h6)) ?_;obtain⟨y7,h8,F⟩:=bs F;refine rq (clA 1 (cW h8)) ?_;refine cnd F (fun hb9 F=> ?_) fun hb9 F=> ?_
 ·cases F
 refine ga4 ?_;refine cT (ib 7 42 2 1 rfl rfl) ?_;refine gg ?_;obtain⟨lr0,F,hK0⟩:=bs F;refine lpG (fun _=>False) (fun(q:Int×(List ay))=>(sX 76 [pf 0 (.vs 3 (map aj a0)),pf 1 (.int .i64 q.1),pf 2 (.vs 1 (map eS a2)),(6,some (.lp 0 0)),(7,some (.ls 1))] [bf 0 126 (bw dm),(1,some (.row 42 2 (map aC q.2)))] 2)) (fun k q=>nb a0 a2 k q.1 q.2) (a1,[]) (bG [0,1]) F (fun k ⟨x0,x1⟩ F ih=> ?_) ?_
 ·refine gg ?_;obtain⟨y0,h0,F⟩:=bs F;refine rq (clA 2 (dl h0)) ?_;refine rgp (la (aj y0) jo) ?_;obtain⟨y1,h1,F⟩:=bs F;refine rgp (clA 3 (sr h1)) ?_;refine ga3 ?_;refine aJ ?_;obtain⟨x2,F,hK1⟩:=bs F;refine ctx (sX 76 [pf 0 (.vs 3 (map aj a0)),pf 1 (.int .i64 (ae (x0+1))),pf 2 (.vs 1 (map eS a2)),(6,some (.lp 0 0)),(7,some (.ls 1)),(9,some (.lp 2 0))] [bf 0 126 (bw dm),(1,some (.row 42 2 (map aC x1))),bf 2 42 (aC x2)] 3) ?_ ?_
  ·refine gg ?_;refine cq F (fun hb0 F=> ?_) fun hb0 F=> ?_
   ·refine rq (la (aj y0) jo) ?_;obtain⟨y2,h2,F⟩:=bs F;refine rq (clA 4 (yO h2)) ?_;refine cnd F (fun hb1 F=> ?_) fun hb1 F=> ?_
    ·cases F
    exact tl [0,1,3]
   exact tl [0,1,3]
  have F:=hK1;refine go ?_;(iterate 2 refine aJ ?_);obtain⟨x3,F,hK2⟩:=bs F;refine ctq (sX 76 [pf 0 (.vs 3 (map aj a0)),pf 1 (.int .i64 (ae (x0+1))),pf 2 (.vs 1 (map eS a2)),(6,some (.lp 0 0)),(7,some (.ls 1)),(9,some (.lp 2 0)),pf 44 (.bool x3)] [bf 0 126 (bw dm),(1,some (.row 42 2 (map aC x1))),bf 2 42 (aC x2)] 3) ?_ ?_
  ·exact tl [0,1,2]
  have F:=hK2;refine cnd F (fun hb2 F=> ?_) fun hb2 F=> ?_
  ·cases F
  refine gg ?_;refine rq (jv rfl rfl rfl (length_map ..) Ea rfl rfl) ?_;refine cnd F (fun hb3 F=> ?_) fun hb3 F=> ?_
  ·cases F
  refine gg ?_;refine rgp (la (aC x2) qj) ?_;refine rgp (ez (rows:=map aC ([x2]:List ay)) (zs:=(aC aq)) rfl rfl Ea vZ (by exact⟨rfl,rfl,trivial⟩) rfl rfl rfl rfl rfl rfl rfl rfl) ?_;obtain⟨u0,h3,F⟩:=bs F;refine rq (fJ 3 rfl rfl rfl rfl rfl Ea adW vZ rfl rfl rfl (jr (f:=aC) (g:=aC) h3) (map_append (f:=aC) (l₁:=x1) (l₂:=[x2])).symm rfl rfl) ?_;obtain⟨y3,h4,F⟩:=bs F;refine rgp (clA 4 (dl h4)) ?_;obtain⟨y4,h5,F⟩:=bs F;refine rq (clA 4 (cW h5)) ?_;refine cnd F (fun hb4 F=> ?_) fun hb4 F=> ?_
  ·refine ga4 ?_;refine cT (gW [(3,some (.row 42 2 (map aC (x1++[x2]))))] [(7,some (.pv (.vs 2 (map aC (x1++[x2]))))),(64,some (.pv (.vs 2 (map aC (x1++[x2])))))] (FzH.spec ⟨rfl,trivial⟩) ⟨⟨_,rfl,rfl⟩,⟨_,rfl,rfl⟩,trivial⟩) ?_;refine rgp (bd ((bw dm)) (bw (⟨(x1++[x2]),dY,pM,ae ((ae ((ae (x0+1))+1))+1),aM⟩:dc)) nT Ai) ?_;refine ga6 ?_;refine ba ?_;cases F;have F:=bH hK0;exact tl []
  refine gg ?_;obtain⟨y6,h7,F⟩:=bs F;refine rgp (clA 4 (dl h7)) ?_;obtain⟨y8,h9,F⟩:=bs F;refine rq (clA 4 (cW h9)) ?_;refine cnd F (fun hb5 F=> ?_) fun hb5 F=> ?_
  ·cases F
  refine ga2 ?_;refine fu ?_;exact aP (ih (ae ((ae (x0+1))+1),(x1++[x2])) F) (bG [0,3])
 intro _ h;exact h.elim
theorem IL {a0:List aK} {a1:Int} {a2_0:List UInt8} {a2_1:List (List UInt8)} {a2_2:List UInt8} {a2_3:List ay} {a2_6:Int} {b0:List cN} {b1:List br} {r:(List UInt8)×(List (List UInt8))×(List UInt8)×(List ay)×(List cN)×(List br)×Int×(List UInt8)×Bool×Int×(List UInt8)×Int×Int×Int×Int×Int×Int×Int×Int×Int×(List cN)×(List cN)×(List ah)×Int×(List cN)×(List (List UInt8))×Int×Int×Int} (F:sH a0 a1 a2_0 a2_1 a2_2 a2_3 a2_6 b0 b1=some r):Abs.FnW eg Tryz.prog 55 [.pv (.vs 3 (map aj a0)),pI a1,.agg [pS a2_0,.pv (.vs 1 (map eS a2_1)),pS a2_2,.pv (.vs 2 (map aC a2_3)),.ls 0,.ls 1,pI a2_6]] [(0,some (.row 80 13 (map aI b0))),(1,some (.row 48 17 (map aY b1)))] 2 [] [.agg [pS r.1,.pv (.vs 1 (map eS r.2.1)),pS r.2.2.1,.pv (.vs 2 (map aC r.2.2.2.1)),.ls 1,.ls 2,pI r.2.2.2.2.2.2.1,pS r.2.2.2.2.2.2.2.1,pB r.2.2.2.2.2.2.2.2.1,pI r.2.2.2.2.2.2.2.2.2.1,pS r.2.2.2.2.2.2.2.2.2.2.1,pI r.2.2.2.2.2.2.2.2.2.2.2.1,pI r.2.2.2.2.2.2.2.2.2.2.2.2.1,pI r.2.2.2.2.2.2.2.2.2.2.2.2.2.1,pI r.2.2.2.2.2.2.2.2.2.2.2.2.2.2.1,pI r.2.2.2.2.2.2.2.2.2.2.2.2.2.2.2.1,pI r.2.2.2.2.2.2.2.2.2.2.2.2.2.2.2.2.1,pI r.2.2.2.2.2.2.2.2.2.2.2.2.2.2.2.2.2.1,pI r.2.2.2.2.2.2.2.2.2.2.2.2.2.2.2.2.2.2.1,pI r.2.2.2.2.2.2.2.2.2.2.2.2.2.2.2.2.2.2.2.1,.pv (.vs 13 (map aI r.2.2.2.2.2.2.2.2.2.2.2.2.2.2.2.2.2.2.2.2.1)),.pv (.vs 13 (map aI r.2.2.2.2.2.2.2.2.2.2.2.2.2.2.2.2.2.2.2.2.2.1)),.ls 3,pI r.2.2.2.2.2.2.2.2.2.2.2.2.2.2.2.2.2.2.2.2.2.2.2.1,.pv (.vs 13 (map aI r.2.2.2.2.2.2.2.2.2.2.2.2.2.2.2.2.2.2.2.2.2.2.2.2.1)),.pv (.vs 1 (map eS r.2.2.2.2.2.2.2.2.2.2.2.2.2.2.2.2.2.2.2.2.2.2.2.2.2.1)),pI r.2.2.2.2.2.2.2.2.2.2.2.2.2.2.2.2.2.2.2.2.2.2.2.2.2.2.1,pI r.2.2.2.2.2.2.2.2.2.2.2.2.2.2.2.2.2.2.2.2.2.2.2.2.2.2.2.1,pI r.2.2.2.2.2.2.2.2.2.2.2.2.2.2.2.2.2.2.2.2.2.2.2.2.2.2.2.2]] [(0,some (.box 74 [pS r.1,.pv (.vs 1 (map eS r.2.1)),pS r.2.2.1,.pv (.vs 2 (map aC r.2.2.2.1)),.ls 1,.ls 2,pI r.2.2.2.2.2.2.1,pS r.2.2.2.2.2.2.2.1,pB r.2.2.2.2.2.2.2.2.1,pI r.2.2.2.2.2.2.2.2.2.1,pS r.2.2.2.2.2.2.2.2.2.2.1,pI r.2.2.2.2.2.2.2.2.2.2.2.1,pI r.2.2.2.2.2.2.2.2.2.2.2.2.1,pI r.2.2.2.2.2.2.2.2.2.2.2.2.2.1,pI r.2.2.2.2.2.2.2.2.2.2.2.2.2.2.1,pI r.2.2.2.2.2.2.2.2.2.2.2.2.2.2.2.1,pI r.2.2.2.2.2.2.2.2.2.2.2.2.2.2.2.2.1,pI r.2.2.2.2.2.2.2.2.2.2.2.2.2.2.2.2.2.1,pI r.2.2.2.2.2.2.2.2.2.2.2.2.2.2.2.2.2.2.1,pI r.2.2.2.2.2.2.2.2.2.2.2.2.2.2.2.2.2.2.2.1,.pv (.vs 13 (map aI r.2.2.2.2.2.2.2.2.2.2.2.2.2.2.2.2.2.2.2.2.1)),.pv (.vs 13 (map aI r.2.2.2.2.2.2.2.2.2.2.2.2.2.2.2.2.2.2.2.2.2.1)),.ls 3,pI r.2.2.2.2.2.2.2.2.2.2.2.2.2.2.2.2.2.2.2.2.2.2.2.1,.pv (.vs 13 (map aI r.2.2.2.2.2.2.2.2.2.2.2.2.2.2.2.2.2.2.2.2.2.2.2.2.1)),.pv (.vs 1 (map eS r.2.2.2.2.2.2.2.2.2.2.2.2.2.2.2.2.2.2.2.2.2.2.2.2.2.1)),pI r.2.2.2.2.2.2.2.2.2.2.2.2.2.2.2.2.2.2.2.2.2.2.2.2.2.2.1,pI r.2.2.2.2.2.2.2.2.2.2.2.2.2.2.2.2.2.2.2.2.2.2.2.2.2.2.2.1,pI r.2.2.2.2.2.2.2.2.2.2.2.2.2.2.2.2.2.2.2.2.2.2.2.2.2.2.2.2])),(1,some (.row 80 13 (map aI r.2.2.2.2.1))),(2,some (.row 48 17 (map aY r.2.2.2.2.2.1))),(3,some (.row 55 23 (bT r.2.2.2.2.2.2.2.2.2.2.2.2.2.2.2.2.2.2.2.2.2.2.1)))] 4:=by
 unfold sH at F;refine iB (n:=84) (m:=2) [] Tryz.func55 rfl rfl rfl ?_;intro c w O θ hcx;refine gg ?_;obtain⟨y3,h4,F⟩:=bs F;refine rgp (clA 4 (jh h4)) ?_;refine rq (ek rfl rfl rn jP rfl rfl rfl) ?_;refine cnd F (fun hb5 F=> ?_) fun hb5 F=> ?_
 ·cases F
 refine gg ?_;obtain⟨y8,h9,F⟩:=bs F;refine rgp (clA 4 (jh h9)) ?_;refine rq (ek rfl rfl tu yn rfl rfl rfl) ?_;obtain⟨y0,h0,F⟩:=bs F;refine rq (clA 4 (eC h0)) ?_;refine cq F (fun hb0 F=> ?_) fun hb0 F=> ?_
 ·refine rq (gf (cs:=[pS a2_0,.pv (.vs 1 (map eS a2_1)),pS y8.bV,.pv (.vs 2 (map aC a2_3)),.ls 0,.ls 1,pI a2_6]) rfl rfl rfl rfl rfl nN rfl rfl) ?_;refine rgp (qJ (zs:=[.str zGGot_ref09.fC.af,.vs 1 (map eS zGGot_ref09.fC.ac),.str zGGot_ref09.fC.cb,.vs 2 (map aC zGGot_ref09.fC.bl),.nils,.nils,.int .i64 zGGot_ref09.fC.fAt,.str zGGot_ref09.fM.af,.bool zGGot_ref09.fM.fm,.int .i64 zGGot_ref09.fM.aQ.aa,.str zGGot_ref09.fM.aQ.bu,.int .i64 zGGot_ref09.fM.aQ.fN,.int .i64 zGGot_ref09.fM.aQ.am.a0.aa,.int .i64 zGGot_ref09.fM.aQ.am.a0.fN,.int .i64 zGGot_ref09.fM.aQ.am.a1.aa,.int .i64 zGGot_ref09.fM.aQ.am.a1.fN,.int .i64 zGGot_ref09.fM.aQ.am.a2.aa,.int .i64 zGGot_ref09.fM.aQ.am.a2.fN,.int .i64 zGGot_ref09.fM.aQ.am.a3.aa,.int .i64 zGGot_ref09.fM.aQ.am.a3.fN,.vs 13 (map aI zGGot_ref09.fM.ac),.vs 13 (map aI zGGot_ref09.fM.bC),.nils,.int .i64 zGGot_ref09.fM.fAt,.vs 13 (map aI zGGot_ref09.fV),.vs 1 (map eS zGGot_ref09.fN),.int .i64 zGGot_ref09.aU,.int .i64 zGGot_ref09.fF.gY,.int .i64 zGGot_ref09.fF.fAt]) (r:=[pS a2_0,.pv (.vs 1 (map eS a2_1)),pS y8.bV,.pv (.vs 2 (map aC a2_3)),.ls 0,.ls 1,pI a2_6,pS zGGot_ref09.fM.af,pB zGGot_ref09.fM.fm,pI zGGot_ref09.fM.aQ.aa,pS zGGot_ref09.fM.aQ.bu,pI zGGot_ref09.fM.aQ.fN,pI zGGot_ref09.fM.aQ.am.a0.aa,pI zGGot_ref09.fM.aQ.am.a0.fN,pI zGGot_ref09.fM.aQ.am.a1.aa,pI zGGot_ref09.fM.aQ.am.a1.fN,pI zGGot_ref09.fM.aQ.am.a2.aa,pI zGGot_ref09.fM.aQ.am.a2.fN,pI zGGot_ref09.fM.aQ.am.a3.aa,pI zGGot_ref09.fM.aQ.am.a3.fN,.pv (.vs 13 (map aI zGGot_ref09.fM.ac)),.pv (.vs 13 (map aI zGGot_ref09.fM.bC)),.pv .nils,pI zGGot_ref09.fM.fAt,.pv (.vs 13 (map aI zGGot_ref09.fV)),.pv (.vs 1 (map eS zGGot_ref09.fN)),pI (ae (a1+2)),pI zGGot_ref09.fF.gY,pI zGGot_ref09.fF.fAt]) rfl nP (by exact⟨rfl,trivial,rfl,trivial,rfl,rfl,rfl,rfl,rfl,rfl,rfl,rfl,rfl,rfl,rfl,rfl,rfl,rfl,rfl,rfl,trivial,trivial,rfl,rfl,trivial,trivial,rfl,rfl,rfl,trivial⟩) vQ rfl rfl rfl rfl) ?_;refine go ?_;refine cT (jR 3 22 74 55 23 4 rfl rfl rfl) ?_;refine ga3 ?_
  refine piz (sX 84 [(6,some (.lp 0 0))] [(0,some (.box 74 [pS a2_0,.pv (.vs 1 (map eS a2_1)),pS y8.bV,.pv (.vs 2 (map aC a2_3)),.ls 1,.ls 2,pI a2_6,pS zGGot_ref09.fM.af,pB zGGot_ref09.fM.fm,pI zGGot_ref09.fM.aQ.aa,pS zGGot_ref09.fM.aQ.bu,pI zGGot_ref09.fM.aQ.fN,pI zGGot_ref09.fM.aQ.am.a0.aa,pI zGGot_ref09.fM.aQ.am.a0.fN,pI zGGot_ref09.fM.aQ.am.a1.aa,pI zGGot_ref09.fM.aQ.am.a1.fN,pI zGGot_ref09.fM.aQ.am.a2.aa,pI zGGot_ref09.fM.aQ.am.a2.fN,pI zGGot_ref09.fM.aQ.am.a3.aa,pI zGGot_ref09.fM.aQ.am.a3.fN,.pv (.vs 13 (map aI zGGot_ref09.fM.ac)),.pv (.vs 13 (map aI zGGot_ref09.fM.bC)),.ls 3,pI zGGot_ref09.fM.fAt,.pv (.vs 13 (map aI zGGot_ref09.fV)),.pv (.vs 1 (map eS zGGot_ref09.fN)),pI (ae (a1+2)),pI zGGot_ref09.fF.gY,pI zGGot_ref09.fF.fAt])),(1,some (.row 80 13 (map aI b0))),(2,some (.row 48 17 (map aY b1))),(3,some (.row 55 23 (bT [])))] 4) [3,0,1,4] ?_;cases F;exact mc hcx rfl (.cons _ _ _ _ (.aggM _ _ _ _ _ 29 _ _ rfl rfl zd rfl rfl) .nil) rfl (.inl rfl)
 obtain⟨y1,h1,F⟩:=bs F;refine rgp (cl 4 [.vs 3 (map aj a0),.int .i64 (ae (a1+2)),.vs 1 (map eS a2_1)] [.p (.agg (bw y1))] (yp h1)) ?_;refine rgp (al 4 (bw dm) nT) ?_;refine go9 ?_;refine cnd F (fun hb1 F=> ?_) fun hb1 F=> ?_
 ·cases F
 refine gg ?_;obtain⟨lr0,F,hK0⟩:=bs F;refine lpE (sX 84 [(5,some (.lp 0 0)),(6,some (.lp 3 0)),(7,some (.lp 4 0))] [(0,some (.box 39 [pS a2_0,.pv (.vs 1 (map eS a2_1)),pS y8.bV,.pv (.vs 2 (map aC a2_3)),.ls 1,.ls 2,pI a2_6])),(1,some (.row 80 13 (map aI b0))),(2,some (.row 48 17 (map aY b1))),bf 3 74 (bc zGGot_ref09),bf 4 126 (bw y1)] 5) (fun(q:Int)=>(sX 84 [(5,some (.lp 0 0)),(6,some (.lp 3 0)),(7,some (.lp 4 0)),pf 8 (.int .i64 q)] [(0,some (.box 39 [pS a2_0,.pv (.vs 1 (map eS a2_1)),pS y8.bV,.pv (.vs 2 (map aC a2_3)),.ls 1,.ls 2,pI a2_6])),(1,some (.row 80 13 (map aI b0))),(2,some (.row 48 17 (map aY b1))),bf 3 74 (bc zGGot_ref09),bf 4 126 (bw y1)] 5)) (fun k q=>oI y1 k q) 0 (bG [2,0,1,3,4]) F (fun k x0 F ih=> ?_) ?_
 ·refine gg ?_;refine cnd F (fun hb2 F=> ?_) fun hb2 F=> ?_
  ·refine ga2 ?_;refine aJ ?_;refine cI ?_;refine aJ ?_;obtain⟨x1,F,hK1⟩:=bs F;refine ctq (sX 84 [(5,some (.lp 0 0)),(6,some (.lp 3 0)),(7,some (.lp 4 0)),pf 8 (.int .i64 x0),pf 69 (.bool x1)] [(0,some (.box 39 [pS a2_0,.pv (.vs 1 (map eS a2_1)),pS y8.bV,.pv (.vs 2 (map aC a2_3)),.ls 1,.ls 2,pI a2_6])),(1,some (.row 80 13 (map aI b0))),(2,some (.row 48 17 (map aY b1))),bf 3 74 (bc zGGot_ref09),bf 4 126 (bw y1)] 5) ?_ ?_
   ·obtain⟨y2,h2,F⟩:=bs F;refine gg ?_;rcases ie F with⟨hb3,F⟩ | ⟨hb3,F⟩
    ·exact tl [0,1,2,3,4]
    refine ga3 ?_;obtain⟨y4,h3,F⟩:=bs F;exact tl [0,1,2,3,4]
   have F:=hK1;refine cnd F (fun hb4 F=> ?_) fun hb4 F=> ?_
   ·cases F
   refine gg ?_;exact aP (ih (ae (x0+1)) F) (bG [0,1,2,3,4])
  exact tl [0,1,2,3,4]
 have F:=hK0;refine gg ?_;refine rq (gf (cs:=[pS a2_0,.pv (.vs 1 (map eS a2_1)),pS y8.bV,.pv (.vs 2 (map aC y1.fL)),.ls 1,.ls 2,pI a2_6]) rfl rfl rfl rfl rfl nN rfl rfl) ?_;refine rgp (qJ (zs:=[.str zGGot_ref09.fC.af,.vs 1 (map eS zGGot_ref09.fC.ac),.str zGGot_ref09.fC.cb,.vs 2 (map aC zGGot_ref09.fC.bl),.nils,.nils,.int .i64 zGGot_ref09.fC.fAt,.str zGGot_ref09.fM.af,.bool zGGot_ref09.fM.fm,.int .i64 zGGot_ref09.fM.aQ.aa,.str zGGot_ref09.fM.aQ.bu,.int .i64 zGGot_ref09.fM.aQ.fN,.int .i64 zGGot_ref09.fM.aQ.am.a0.aa,.int .i64 zGGot_ref09.fM.aQ.am.a0.fN,.int .i64 zGGot_ref09.fM.aQ.am.a1.aa,.int .i64 zGGot_ref09.fM.aQ.am.a1.fN,.int .i64 zGGot_ref09.fM.aQ.am.a2.aa,.int .i64 zGGot_ref09.fM.aQ.am.a2.fN,.int .i64 zGGot_ref09.fM.aQ.am.a3.aa,.int .i64 zGGot_ref09.fM.aQ.am.a3.fN,.vs 13 (map aI zGGot_ref09.fM.ac),.vs 13 (map aI zGGot_ref09.fM.bC),.nils,.int .i64 zGGot_ref09.fM.fAt,.vs 13 (map aI zGGot_ref09.fV),.vs 1 (map eS zGGot_ref09.fN),.int .i64 zGGot_ref09.aU,.int .i64 zGGot_ref09.fF.gY,.int .i64 zGGot_ref09.fF.fAt]) (r:=[pS a2_0,.pv (.vs 1 (map eS a2_1)),pS y8.bV,.pv (.vs 2 (map aC y1.fL)),.ls 1,.ls 2,pI a2_6,pS zGGot_ref09.fM.af,pB zGGot_ref09.fM.fm,pI zGGot_ref09.fM.aQ.aa,pS zGGot_ref09.fM.aQ.bu,pI zGGot_ref09.fM.aQ.fN,pI zGGot_ref09.fM.aQ.am.a0.aa,pI zGGot_ref09.fM.aQ.am.a0.fN,pI zGGot_ref09.fM.aQ.am.a1.aa,pI zGGot_ref09.fM.aQ.am.a1.fN,pI zGGot_ref09.fM.aQ.am.a2.aa,pI zGGot_ref09.fM.aQ.am.a2.fN,pI zGGot_ref09.fM.aQ.am.a3.aa,pI zGGot_ref09.fM.aQ.am.a3.fN,.pv (.vs 13 (map aI zGGot_ref09.fM.ac)),.pv (.vs 13 (map aI zGGot_ref09.fM.bC)),.pv .nils,pI zGGot_ref09.fM.fAt,.pv (.vs 13 (map aI zGGot_ref09.fV)),.pv (.vs 1 (map eS zGGot_ref09.fN)),pI y1.aU,pI zGGot_ref09.fF.gY,pI zGGot_ref09.fF.fAt]) rfl nP (by exact⟨rfl,trivial,rfl,trivial,rfl,rfl,rfl,rfl,rfl,rfl,rfl,rfl,rfl,rfl,rfl,rfl,rfl,rfl,rfl,rfl,trivial,trivial,rfl,rfl,trivial,trivial,rfl,rfl,rfl,trivial⟩) vQ rfl rfl rfl rfl) ?_;refine go ?_;refine cT (jR 3 22 74 55 23 5 rfl rfl rfl) ?_;refine ga2 ?_
 refine piz (sX 84 [(6,some (.lp 0 0))] [(0,some (.box 74 [pS a2_0,.pv (.vs 1 (map eS a2_1)),pS y8.bV,.pv (.vs 2 (map aC y1.fL)),.ls 1,.ls 2,pI a2_6,pS zGGot_ref09.fM.af,pB zGGot_ref09.fM.fm,pI zGGot_ref09.fM.aQ.aa,pS zGGot_ref09.fM.aQ.bu,pI zGGot_ref09.fM.aQ.fN,pI zGGot_ref09.fM.aQ.am.a0.aa,pI zGGot_ref09.fM.aQ.am.a0.fN,pI zGGot_ref09.fM.aQ.am.a1.aa,pI zGGot_ref09.fM.aQ.am.a1.fN,pI zGGot_ref09.fM.aQ.am.a2.aa,pI zGGot_ref09.fM.aQ.am.a2.fN,pI zGGot_ref09.fM.aQ.am.a3.aa,pI zGGot_ref09.fM.aQ.am.a3.fN,.pv (.vs 13 (map aI zGGot_ref09.fM.ac)),.pv (.vs 13 (map aI zGGot_ref09.fM.bC)),.ls 3,pI zGGot_ref09.fM.fAt,.pv (.vs 13 (map aI zGGot_ref09.fV)),.pv (.vs 1 (map eS zGGot_ref09.fN)),pI y1.aU,pI zGGot_ref09.fF.gY,pI zGGot_ref09.fF.fAt])),(1,some (.row 80 13 (map aI b0))),(2,some (.row 48 17 (map aY b1))),(3,some (.row 55 23 (bT [])))] 4) [3,1,2,5] ?_;cases F;exact mc hcx rfl (.cons _ _ _ _ (.aggM _ _ _ _ _ 29 _ _ rfl rfl zd rfl rfl) .nil) rfl (.inl rfl)
theorem vq {a0:be} {r:Int} (F:jU a0=some r):FZ 25 [.agg (aH a0)] [.p (.int .i64 r)]:=by
 unfold jU at F;refine fb 37 Tryz.func25 fun w O=> ?_;obtain⟨x0,F,hK0⟩:=bs F;refine lpE (sX 37 [pf 3 (.int .i64 x0)] [] 0) (fun(q:Int×Int)=>(sX 37 [(1,some (.lp 0 0)),pf 3 (.int .i64 q.1),pf 4 (.int .i64 q.2)] [bf 0 39 (aH a0)] 1)) (fun k q=>oe a0 k q.1 q.2) (0,0) (bG [0]) F (fun k ⟨x1,x2⟩ F ih=> ?_) ?_
 ·refine gg ?_;refine cq F (fun hb0 F=> ?_) fun hb0 F=> ?_
  ·obtain⟨x3,F,hK1⟩:=bs F;refine lpE (sX 37 [(1,some (.lp 0 0)),pf 3 (.int .i64 x3),pf 4 (.int .i64 x2)] [bf 0 39 (aH a0)] 1) (fun(q:Int×Int)=>(sX 37 [(1,some (.lp 0 0)),pf 3 (.int .i64 q.1),pf 4 (.int .i64 x2),pf 5 (.int .i64 q.2)] [bf 0 39 (aH a0)] 1)) (fun k q=>nV a0 x2 k q.1 q.2) (x1,0) (bG [0]) F (fun k ⟨x4,x5⟩ F ih=> ?_) ?_
   ·refine gg ?_;obtain⟨y0,h0,F⟩:=bs F;refine gg ?_;refine cnd F (fun hb1 F=> ?_) fun hb1 F=> ?_
    ·refine go2 ?_;refine aJ ?_;refine cI ?_;refine go5 ?_;obtain⟨y1,h1,F⟩:=bs F;refine rgp (ix (kR aY h1) Jy) ?_;refine go3 ?_;obtain⟨y2,h2,F⟩:=bs F;refine rgp (ix (Dx eG h2) vd) ?_;refine rgp (lw (ax y2) ec) ?_;obtain⟨y3,h3,F⟩:=bs F;refine rgp (cl 1 [.agg (ax y2)] [.p (.int .i64 y3)] (wn h3)) ?_;refine ga2 ?_;refine ci ?_;refine piz (sX 37 [(1,some (.lp 0 0)),pf 3 (.int .i64 (ae (x4+y3))),pf 4 (.int .i64 x2),pf 5 (.int .i64 x5)] [bf 0 39 (aH a0)] 1) [0] ?_;refine gg ?_;exact aP (ih (ae (x4+y3),ae (x5+1)) F) (bG [0])
    exact tl [0]
   have F:=hK1;refine gg ?_;exact aP (ih (x3,ae (x2+1)) F) (bG [0])
  exact tl []
 have F:=hK0;exact tl []
theorem JC {a0:List aK} {a1:Int} {a2:Bool} {r:Bool} (F:oD a0 a1 a2=some r):FZ 116 [.vs 3 (map aj a0),.int .i64 a1,.bool a2] [.p (.bool r)]:=by
 unfold oD at F;refine fb 41 Tryz.func116 fun w O=> ?_;obtain⟨y5,h6,F⟩:=bs F;refine rq (clA 0 (dl h6)) ?_;obtain⟨y7,h8,F⟩:=bs F;refine rq (clA 0 (dl h8)) ?_;refine iq F (fun hb9 F=> ?_) fun hb9 F=> ?_
 ·refine iq F (fun hb0 F=> ?_) fun hb0 F=> ?_
  ·exact tl []
  rcases ie F with⟨hb1,F⟩ | ⟨hb1,F⟩
  ·exact tl []
  refine rgn hb1 (la (aj y7) jo) ?_;obtain⟨y0,h0,F⟩:=bs F;refine rqn hb1 (clA 2 (cW h0)) ?_;rcases ie F with⟨hb2,F⟩ | ⟨hb2,F⟩
  ·exact tl []
  refine rgn hb2 (la (aj y7) jo) ?_;obtain⟨y1,h1,F⟩:=bs F;refine rqn hb2 (clA 2 (cW h1)) ?_;rcases ie F with⟨hb3,F⟩ | ⟨hb3,F⟩
  ·exact tl []
  refine rgn hb3 (la (aj y7) jo) ?_;obtain⟨y2,h2,F⟩:=bs F;refine rgn hb3 (clA 2 (cW h2)) ?_;exact tl []
 exact tl []
end Go.Proofs.YtjimbkljclfflaaGreatDoor
