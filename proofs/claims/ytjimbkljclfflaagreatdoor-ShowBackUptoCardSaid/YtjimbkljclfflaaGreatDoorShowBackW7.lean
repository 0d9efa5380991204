/- A part of the proof that the law ShowBack gives true for every input. -/
import Derived.Test.YtjimbkljclfflaaGreatDoorShowBackT
import Derived.Test.YtjimbkljclfflaaGreatDoorShowBackY
import Derived.Test.YtjimbkljclfflaaGreatDoorShowBackB
import Derived.Test.YtjimbkljclfflaaGreatDoorShowBackS
import Derived.Test.YtjimbkljclfflaaGreatDoorShowBackX
import Derived.Test.YtjimbkljclfflaaGreatDoorShowBackI
import Derived.Test.YtjimbkljclfflaaGreatDoorShowBackW4
import Derived.Test.YtjimbkljclfflaaGreatDoorShowBackW6
/- Each Go function computes its plain function. -/
namespace Go.Proofs.YtjimbkljclfflaaGreatDoor
open List
open Go.RowKit Go.Abs
set_option maxRecDepth 100000
set_option maxHeartbeats 4000000
theorem Mo {n:Nat} {a0:ai} {r:Bool} (F:li n a0=some r):FZ 198 [.agg (ap a0)] [.p (.bool r)]:=(Gi n) _ _ F

theorem yI {a0:ai} {r:Bool} (F:qx a0=some r):FZ 176 [.agg (ap a0)] [.p (.bool r)]:=by
 unfold qx at F;refine fb 10 Tryz.func176 fun w O=> ?_;refine rgp (la (ap a0) dR) ?_;obtain⟨y1,h2,F⟩:=bs F;refine rq (clA 1 (Mo h2)) ?_;rcases ie F with⟨hb3,F⟩ | ⟨hb3,F⟩
 ·refine rgn hb3 (la (ap a0) dR) ?_;obtain⟨y4,h5,F⟩:=bs F;refine rgn hb3 (clA 1 (vN h5)) ?_;exact tl []
 exact tl []
theorem KO {a0:ah} {r:Bool} (F:tb a0=some r):FZ 142 [.agg (ax a0)] [.p (.bool r)]:=by
 unfold tb at F;refine bM (n:=86) Tryz.func142 rfl rfl rfl fun w O=> ?_;refine ga9 ?_;refine aJ ?_;obtain⟨x9,F,hK0⟩:=bs F;refine ctx (sX 86 [(1,some (.lp 0 0)),pf 3 (.int .i64 a0.aa),pf 4 (.bool x9)] [bf 0 55 (ax a0)] 1) ?_ ?_
 ·refine gg ?_;refine iq F (fun hb1 F=> ?_) fun hb1 F=> ?_
  ·exact tl [0]
  refine iq F (fun hb2 F=> ?_) fun hb2 F=> ?_
  ·exact tl [0]
  refine iq F (fun hb3 F=> ?_) fun hb3 F=> ?_
  ·exact tl [0]
  refine iq F (fun hb4 F=> ?_) fun hb4 F=> ?_
  ·exact tl [0]
  refine iq F (fun hb5 F=> ?_) fun hb5 F=> ?_
  ·exact tl [0]
  refine iq F (fun hb6 F=> ?_) fun hb6 F=> ?_
  ·refine rgn hb6 (la (ap a0.fE) dR) ?_;refine rgn hb6 (bd ((ap cA)) (ap cA) iZ pz) ?_;obtain⟨y7,h8,F⟩:=bs F;refine rgn hb6 (clA 1 (sx h8)) ?_;exact tl [0]
  exact tl [0]
 have F:=hK0;refine go ?_;(iterate 2 refine aJ ?_);obtain⟨x0,F,hK1⟩:=bs F;refine ctq (sX 86 [(1,some (.lp 0 0)),pf 71 (.bool x0)] [bf 0 55 (ax a0)] 1) ?_ ?_
 ·refine iq F (fun hb0 F=> ?_) fun hb0 F=> ?_
  ·refine rgn hb0 (la (ap a0.fE) dR) ?_;obtain⟨y0,h0,F⟩:=bs F;refine rgn hb0 (clA 1 (yI h0)) ?_;exact tl [0]
  exact tl [0]
 have F:=hK1;refine cq F (fun hb7 F=> ?_) fun hb7 F=> ?_
 ·exact tl []
 obtain⟨lr0,F,hK2⟩:=bs F;refine lpG (fun s1=>∃ q,lr0= .next q/\s1=(sX 86 [] [] 0)) (fun(q:Int)=>(sX 86 [(1,some (.lp 0 0)),pf 5 (.int .i64 q)] [bf 0 55 (ax a0)] 1)) (fun k q=>mq a0 k q) 0 (bG [0]) F (fun k x1 F ih=> ?_) ?_
 ·refine gg ?_;refine cq F (fun hb8 F=> ?_) fun hb8 F=> ?_
  ·obtain⟨y1,h1,F⟩:=bs F;refine gg ?_;obtain⟨y2,h2,F⟩:=bs F;refine rq (clA 1 (yI h2)) ?_;refine cnd F (fun hb9 F=> ?_) fun hb9 F=> ?_
   ·refine ga7 ?_;refine ba ?_;cases F;have F:=bH hK2;exact tl []
   refine gg ?_;exact aP (ih (ae (x1+1)) F) (bG [0])
  exact tl []
 rintro _ ⟨⟨⟩,rfl,rfl⟩;have F:=bW hK2;clear hK2;exact tl []
theorem FW : ∀ n:Nat,(∀ (a0:ah) (a1:Int) (r:Bool),gx n a0 a1=some r->FZ 111 [.agg (ax a0),.int .i64 a1] [.p (.bool r)]):=by
 intro n
 induction n with
 | zero=>exact(fun _ _ _ h=>by simp[gx] at h)
 | succ n ih=>
  have ref08_form_ih:=ih;clear ih;intro a0 a1 r F;unfold gx at F
  revert F ref08_form_ih
  generalize gx n=ref08_form_rec
  intro ref08_form_ih F;refine bM (n:=51) Tryz.func111 rfl rfl rfl fun w O=> ?_;refine ga4 ?_;(iterate 2 refine aJ ?_);obtain⟨x0,F,hK0⟩:=bs F;refine ctq (sX 51 [pf 1 (.int .i64 a1),(2,some (.lp 0 0)),pf 20 (.bool x0)] [bf 0 55 (ax a0)] 1) ?_ ?_
  ·refine rgp (la (ax a0) ec) ?_;obtain⟨y3,h4,F⟩:=bs F;refine rq (clA 1 (LU h4)) ?_;rcases ie F with⟨hb5,F⟩ | ⟨hb5,F⟩
   ·exact tl [0]
   refine rqn hb5 (la (ax a0) ec) ?_;obtain⟨y6,h7,F⟩:=bs F;refine rqn hb5 (clA 1 (Jc h7)) ?_;rcases ie F with⟨hb8,F⟩ | ⟨hb8,F⟩
   ·exact tl [0]
   refine rgn hb8 (la (ax a0) ec) ?_;obtain⟨y9,h0,F⟩:=bs F;refine rgn hb8 (clA 1 (KO h0)) ?_;exact tl [0]
  have F:=hK0;refine cq F (fun hb0 F=> ?_) fun hb0 F=> ?_
  ·exact tl []
  obtain⟨lr0,F,hK1⟩:=bs F;refine lpG (fun s1=>∃ q,lr0= .next q/\s1=(sX 51 [pf 1 (.int .i64 a1),(2,some (.lp 0 0))] [bf 0 55 (ax a0)] 1)) (fun(q:Int)=>(sX 51 [pf 1 (.int .i64 a1),(2,some (.lp 0 0)),pf 5 (.int .i64 q)] [bf 0 55 (ax a0)] 1)) (fun k q=>nJ a0 a1 ref08_form_rec k q) 0 (bG [0]) F (fun k x1 F ih=> ?_) ?_
  ·refine gg ?_;refine cq F (fun hb1 F=> ?_) fun hb1 F=> ?_
   ·obtain⟨y0,h1,F⟩:=bs F;refine gg ?_;obtain⟨y1,h2,F⟩:=bs F;refine rq (clA 1 (ref08_form_ih _ _ _ h2)) ?_;refine cnd F (fun hb2 F=> ?_) fun hb2 F=> ?_
    ·refine ga7 ?_;refine ba ?_;cases F;have F:=bH hK1;exact tl []
    refine gg ?_;exact aP (ih (ae (x1+1)) F) (bG [0])
   exact tl [0]
  rintro _ ⟨⟨⟩,rfl,rfl⟩;have F:=bW hK1;clear hK1;refine gg ?_;obtain⟨lr1,F,hK2⟩:=bs F;refine lpG (fun s1=>∃ q,lr1= .next q/\s1=(sX 51 [] [] 0)) (fun(q:Int)=>(sX 51 [pf 1 (.int .i64 a1),(2,some (.lp 0 0)),pf 6 (.int .i64 q)] [bf 0 55 (ax a0)] 1)) (fun k q=>nv a0 a1 ref08_form_rec k q) 0 (bG [0]) F (fun k x2 F ih=> ?_) ?_
  ·refine gg ?_;refine cq F (fun hb3 F=> ?_) fun hb3 F=> ?_
   ·obtain⟨y2,h3,F⟩:=bs F;refine gg ?_;obtain⟨y4,h5,F⟩:=bs F;refine rq (clA 1 (ref08_form_ih _ _ _ h5)) ?_;refine cnd F (fun hb4 F=> ?_) fun hb4 F=> ?_
    ·refine ga7 ?_;refine ba ?_;cases F;have F:=bH hK2;exact tl []
    refine gg ?_;exact aP (ih (ae (x2+1)) F) (bG [0])
   exact tl []
  rintro _ ⟨⟨⟩,rfl,rfl⟩;have F:=bW hK2;clear hK2;exact tl []
theorem LQ {n:Nat} {a0:ah} {a1:Int} {r:Bool} (F:gx n a0 a1=some r):FZ 111 [.agg (ax a0),.int .i64 a1] [.p (.bool r)]:=(FW n) _ _ _ F

theorem FK : ∀ n:Nat,(∀ (a0:ah) (r:Int),jA n a0=some r->FZ 112 [.agg (ax a0)] [.p (.int .i64 r)]):=by
 intro n
 induction n with
 | zero=>exact(fun _ _ h=>by simp[jA] at h)
 | succ n ih=>
  have ref08_Deep_ih:=ih;clear ih;intro a0 r F;unfold jA at F
  revert F ref08_Deep_ih
  generalize jA n=ref08_Deep_rec
  intro ref08_Deep_ih F;refine fb 38 Tryz.func112 fun w O=> ?_;obtain⟨x0,F,hK0⟩:=bs F;refine lpE (sX 38 [(1,some (.lp 0 0)),pf 3 (.int .i64 x0)] [bf 0 55 (ax a0)] 1) (fun(q:Int×Int)=>(sX 38 [(1,some (.lp 0 0)),pf 3 (.int .i64 q.1),pf 4 (.int .i64 q.2)] [bf 0 55 (ax a0)] 1)) (fun k q=>pY a0 ref08_Deep_rec k q.1 q.2) (0,0) (bG [0]) F (fun k ⟨x1,x2⟩ F ih=> ?_) ?_
  ·refine gg ?_;refine cq F (fun hb0 F=> ?_) fun hb0 F=> ?_
   ·obtain⟨y0,h0,F⟩:=bs F;refine gg ?_;obtain⟨y1,h1,F⟩:=bs F;refine rgp (clA 1 (ref08_Deep_ih _ _ h1)) ?_;refine rgp (xZ rfl rfl rfl rfl rfl) ?_;refine go ?_;refine ci ?_;refine piz (sX 38 [(1,some (.lp 0 0)),pf 3 (.int .i64 (if y1 > x1 then y1 else x1)),pf 4 (.int .i64 x2)] [bf 0 55 (ax a0)] 1) [0] ?_;refine gg ?_;exact aP (ih ((if y1 > x1 then y1 else x1),ae (x2+1)) F) (bG [0])
   exact tl [0]
  have F:=hK0;refine gg ?_;obtain⟨x3,F,hK1⟩:=bs F;refine lpE (sX 38 [pf 3 (.int .i64 x3)] [] 0) (fun(q:Int×Int)=>(sX 38 [(1,some (.lp 0 0)),pf 3 (.int .i64 q.1),pf 5 (.int .i64 q.2)] [bf 0 55 (ax a0)] 1)) (fun k q=>pU a0 ref08_Deep_rec k q.1 q.2) (x0,0) (bG [0]) F (fun k ⟨x4,x5⟩ F ih=> ?_) ?_
  ·refine gg ?_;refine cq F (fun hb1 F=> ?_) fun hb1 F=> ?_
   ·obtain⟨y2,h2,F⟩:=bs F;refine gg ?_;obtain⟨y3,h3,F⟩:=bs F;refine rgp (clA 1 (ref08_Deep_ih _ _ h3)) ?_;refine rgp (xZ rfl rfl rfl rfl rfl) ?_;refine go ?_;refine ci ?_;refine piz (sX 38 [(1,some (.lp 0 0)),pf 3 (.int .i64 (if y3 > x4 then y3 else x4)),pf 5 (.int .i64 x5)] [bf 0 55 (ax a0)] 1) [0] ?_;refine gg ?_;exact aP (ih ((if y3 > x4 then y3 else x4),ae (x5+1)) F) (bG [0])
   exact tl []
  have F:=hK1;exact tl []
theorem LG {n:Nat} {a0:ah} {r:Int} (F:jA n a0=some r):FZ 112 [.agg (ax a0)] [.p (.int .i64 r)]:=(FK n) _ _ F

theorem KF {a0:ah} {a1:Int} {r:Bool} (F:qz a0 a1=some r):FZ 82 [.agg (ax a0),.int .i64 a1] [.p (.bool r)]:=by
 unfold qz at F;refine fb 13 Tryz.func82 fun w O=> ?_;refine rq (la (ax a0) ec) ?_;obtain⟨y1,h2,F⟩:=bs F;refine rq (clA 1 (LQ h2)) ?_;rcases ie F with⟨hb3,F⟩ | ⟨hb3,F⟩
 ·refine rgn hb3 (la (ax a0) ec) ?_;obtain⟨y4,h5,F⟩:=bs F;refine rgn hb3 (clA 1 (LG h5)) ?_;exact tl []
 exact tl []
theorem sj {a0:bZ} {a1:Int} {r:Bool} (F:lv a0 a1=some r):FZ 83 [.agg (bt a0),.int .i64 a1] [.p (.bool r)]:=by
 unfold lv at F;refine fb 41 Tryz.func83 fun w O=> ?_;refine rgp (la ((eA4 aC) a0.am) Tq) ?_;refine rgp (al 1 ((eA4 aC) (⟨aq,aq,aq,aq⟩:A4 ay)) adS) ?_;refine go3 ?_;refine rgp (la (bt a0) fH) ?_;refine go ?_;obtain⟨y1,h2,F⟩:=bs F;refine rq (clA 2 (zk h2)) ?_;rcases ie F with⟨hb3,F⟩ | ⟨hb3,F⟩
 ·refine rqn hb3 (po rfl rfl rfl mP rfl rfl rfl rfl) ?_;rcases ie F with⟨hb4,F⟩ | ⟨hb4,F⟩
  ·refine rqn hb4 (po rfl rfl rfl mP rfl rfl rfl rfl) ?_;rcases ie F with⟨hb5,F⟩ | ⟨hb5,F⟩
   ·refine rqn hb5 (po rfl rfl rfl mP rfl rfl rfl rfl) ?_;rcases ie F with⟨hb6,F⟩ | ⟨hb6,F⟩
    ·refine rqn hb6 (po rfl rfl rfl mP rfl rfl rfl rfl) ?_;rcases ie F with⟨hb7,F⟩ | ⟨hb7,F⟩
     ·exact tl []
     refine rgn hb7 (po rfl rfl rfl mP rfl rfl rfl rfl) ?_;exact tl []
    exact tl []
   exact tl []
  exact tl []
 exact tl []
theorem pQ {a0:List cN} {a1:Int} {a2:Int} {r:Bool} (F:jB a0 a1 a2=some r):FZ 47 [.vs 13 (map aI a0),.int .i64 a1,.int .i64 a2] [.p (.bool r)]:=by
 unfold jB at F;refine fb 44 Tryz.func47 fun w O=> ?_;obtain⟨lr0,F,hK0⟩:=bs F;refine lpG (fun s1=>∃ q,lr0= .next q/\s1=(sX 44 [pf 0 (.vs 13 (map aI a0)),pf 1 (.int .i64 a1)] [] 0)) (fun(q:Int)=>(sX 44 [pf 0 (.vs 13 (map aI a0)),pf 1 (.int .i64 a1),pf 2 (.int .i64 a2),pf 7 (.int .i64 q)] [] 0)) (fun k q=>nB a0 a2 k q) 0 (bG []) F (fun k x0 F ih=> ?_) ?_
 ·refine gg ?_;refine cnd F (fun hb0 F=> ?_) fun hb0 F=> ?_
  ·refine ga2 ?_;refine aJ ?_;refine cI ?_;refine aJ ?_;obtain⟨x1,F,hK1⟩:=bs F;refine ctq (sX 44 [pf 0 (.vs 13 (map aI a0)),pf 1 (.int .i64 a1),pf 2 (.int .i64 a2),pf 7 (.int .i64 x0),pf 39 (.bool x1)] [] 0) ?_ ?_
   ·obtain⟨y0,h0,F⟩:=bs F;refine gg ?_;obtain⟨y1,h1,F⟩:=bs F;refine rq (clA 0 (ey h1)) ?_;rcases ie F with⟨hb1,F⟩ | ⟨hb1,F⟩
    ·refine Rm hb1 ?_;exact tl []
    (iterate 2 refine rgn hb1 (ic rfl rfl rfl rfl) ?_);obtain⟨y2,h2,F⟩:=bs F;refine rgn hb1 (ix (kR aI h2) pA) ?_;(iterate 4 refine gn hb1 ?_);refine rpf hb1 ?_;refine go ?_;rcases ie F with⟨hb2,F⟩ | ⟨hb2,F⟩
    ·(iterate 8 refine Rm hb2 ?_);exact tl []
    (iterate 2 refine rgn hb2 (ic rfl rfl rfl rfl) ?_);obtain⟨y3,h3,F⟩:=bs F;refine rgn hb2 (ix (kR aI h3) pA) ?_;refine gn hb2 ?_;refine rgn hb2 (lw (bt y3.av) fH) ?_;refine gn hb2 ?_;obtain⟨y4,h4,F⟩:=bs F;refine rgn hb2 (cl 0 [.agg (bt y3.av),.int .i64 a2] [.p (.bool y4)] (sj h4)) ?_;exact tl []
   have F:=hK1;refine cnd F (fun hb3 F=> ?_) fun hb3 F=> ?_
   ·refine ga7 ?_;refine ba ?_;cases F;have F:=bH hK0;exact tl []
   refine gg ?_;exact aP (ih (ae (x0+1)) F) (bG [])
  exact tl []
 rintro _ ⟨⟨⟩,rfl,rfl⟩;have F:=bW hK0;clear hK0;exact tl []
theorem Gd : ∀ n:Nat,(∀ (a0:List ah) (a1:Int) (r:Bool),fW n a0 a1=some r->FZ 84 [.vs 23 (bT a0),.int .i64 a1] [.p (.bool r)]):=by
 intro n
 induction n with
 | zero=>exact(fun _ _ _ h=>by simp[fW] at h)
 | succ n ih=>
  have ref10_open_ih:=ih;clear ih;intro a0 a1 r F;unfold fW at F
  revert F ref10_open_ih
  generalize fW n=ref10_open_rec
  intro ref10_open_ih F;refine fb 49 Tryz.func84 fun w O=> ?_;obtain⟨lr0,F,hK0⟩:=bs F;refine lpG (fun s1=>∃ q,lr0= .next q/\s1=(sX 49 [] [] 0)) (fun(q:Int)=>(sX 49 [pf 0 (.vs 23 (bT a0)),pf 1 (.int .i64 a1),pf 5 (.int .i64 q)] [] 0)) (fun k q=>nI a0 a1 ref10_open_rec k q) 0 (bG []) F (fun k x0 F ih=> ?_) ?_
  ·refine gg ?_;refine cnd F (fun hb0 F=> ?_) fun hb0 F=> ?_
   ·refine ga2 ?_;refine aJ ?_;refine cI ?_;refine aJ ?_;obtain⟨x1,F,hK1⟩:=bs F;refine ctq (sX 49 [pf 0 (.vs 23 (bT a0)),pf 1 (.int .i64 a1),pf 5 (.int .i64 x0),pf 48 (.bool x1)] [] 0) ?_ ?_
    ·obtain⟨y0,h0,F⟩:=bs F;refine gg ?_;rcases ie F with⟨hb1,F⟩ | ⟨hb1,F⟩
     ·(iterate 2 refine gn hb1 ?_);obtain⟨y1,h1,F⟩:=bs F;refine rgn hb1 (ix (Dx eG h1) vd) ?_;refine gn hb1 ?_;refine rgn hb1 (lw (bt y1.av) fH) ?_;refine gn hb1 ?_;obtain⟨y2,h2,F⟩:=bs F;refine rgn hb1 (cl 0 [.agg (bt y1.av),.int .i64 a1] [.p (.bool y2)] (sj h2)) ?_;refine gn hb1 ?_;refine rpt hb1 ?_;refine go ?_;rcases ie F with⟨hb2,F⟩ | ⟨hb2,F⟩
      ·refine Rm hb2 ?_;exact tl []
      (iterate 2 refine rgn hb2 (ic rfl rfl rfl rfl) ?_);obtain⟨y3,h3,F⟩:=bs F;refine rgn hb2 (ix (Dx eG h3) vd) ?_;(iterate 3 refine gn hb2 ?_);obtain⟨y4,h4,F⟩:=bs F;refine rgn hb2 (cl 0 [.vs 23 (bT y3.au),.int .i64 a1] [.p (.bool y4)] (ref10_open_ih _ _ _ h4)) ?_;refine gn hb2 ?_;refine rpf hb2 ?_;refine go ?_;rcases ie F with⟨hb3,F⟩ | ⟨hb3,F⟩
      ·refine Rm hb3 ?_;exact tl []
      (iterate 2 refine rgn hb3 (ic rfl rfl rfl rfl) ?_);obtain⟨y5,h5,F⟩:=bs F;refine rgn hb3 (ix (Dx eG h5) vd) ?_;(iterate 3 refine gn hb3 ?_);obtain⟨y6,h6,F⟩:=bs F;refine rgn hb3 (cl 0 [.vs 23 (bT y5.aZ),.int .i64 a1] [.p (.bool y6)] (ref10_open_ih _ _ _ h6)) ?_;refine gn hb3 ?_;exact tl []
     (iterate 8 refine JQ hb1 ?_);refine rpf hb1 ?_;refine go ?_;(iterate 2 refine rgn rfl (ic rfl rfl rfl rfl) ?_);obtain⟨y7,h7,F⟩:=bs F;refine rgn rfl (ix (Dx eG h7) vd) ?_;(iterate 3 refine gn rfl ?_);obtain⟨y8,h8,F⟩:=bs F;refine rgn rfl (cl 0 [.vs 23 (bT y7.au),.int .i64 a1] [.p (.bool y8)] (ref10_open_ih _ _ _ h8)) ?_;refine gn rfl ?_;refine rpf rfl ?_;refine go ?_;rcases ie F with⟨hb4,F⟩ | ⟨hb4,F⟩
     ·refine Rm hb4 ?_;exact tl []
     (iterate 2 refine rgn hb4 (ic rfl rfl rfl rfl) ?_);obtain⟨y9,h9,F⟩:=bs F;refine rgn hb4 (ix (Dx eG h9) vd) ?_;(iterate 3 refine gn hb4 ?_);obtain⟨y10,h10,F⟩:=bs F;refine rgn hb4 (cl 0 [.vs 23 (bT y9.aZ),.int .i64 a1] [.p (.bool y10)] (ref10_open_ih _ _ _ h10)) ?_;exact tl []
    have F:=hK1;refine cnd F (fun hb5 F=> ?_) fun hb5 F=> ?_
    ·refine ga7 ?_;refine ba ?_;cases F;have F:=bH hK0;exact tl []
    refine gg ?_;exact aP (ih (ae (x0+1)) F) (bG [])
   exact tl []
  rintro _ ⟨⟨⟩,rfl,rfl⟩;have F:=bW hK0;clear hK0;exact tl []
theorem Lj {n:Nat} {a0:List ah} {a1:Int} {r:Bool} (F:fW n a0 a1=some r):FZ 84 [.vs 23 (bT a0),.int .i64 a1] [.p (.bool r)]:=(Gd n) _ _ _ F

theorem GF {a0:br} {a1:Int} {r:Bool} (F:pm a0 a1=some r):FZ 46 [.agg (aY a0),.int .i64 a1] [.p (.bool r)]:=by
 unfold pm at F;refine fb 48 Tryz.func46 fun w O=> ?_;obtain⟨lr0,F,hK0⟩:=bs F;refine lpG (fun s1=>∃ q,lr0= .next q/\s1=(sX 48 [pf 1 (.int .i64 a1),(2,some (.lp 0 0))] [bf 0 48 (aY a0)] 1)) (fun(q:Int)=>(sX 48 [pf 1 (.int .i64 a1),(2,some (.lp 0 0)),pf 5 (.int .i64 q)] [bf 0 48 (aY a0)] 1)) (fun k q=>kF a0 a1 k q) 0 (bG [0]) F (fun k x0 F ih=> ?_) ?_
 ·refine gg ?_;refine cq F (fun hb0 F=> ?_) fun hb0 F=> ?_
  ·obtain⟨y0,h0,F⟩:=bs F;refine gg ?_;obtain⟨y1,h1,F⟩:=bs F;refine rq (clA 1 (KF h1)) ?_;refine cnd F (fun hb1 F=> ?_) fun hb1 F=> ?_
   ·refine ga7 ?_;refine ba ?_;cases F;have F:=bH hK0;exact tl []
   refine gg ?_;exact aP (ih (ae (x0+1)) F) (bG [0])
  exact tl [0]
 rintro _ ⟨⟨⟩,rfl,rfl⟩;have F:=bW hK0;clear hK0;refine gg ?_;obtain⟨y2,h2,F⟩:=bs F;refine rq (clA 1 (ey h2)) ?_;refine iq F (fun hb2 F=> ?_) fun hb2 F=> ?_
 ·refine rqn hb2 (la (bt a0.aQ) fH) ?_;obtain⟨y3,h3,F⟩:=bs F;refine rqn hb2 (clA 1 (sj h3)) ?_;refine iq F (fun hb3 F=> ?_) fun hb3 F=> ?_
  ·obtain⟨y4,h4,F⟩:=bs F;refine rqn hb3 (clA 1 (pQ h4)) ?_;refine iq F (fun hb4 F=> ?_) fun hb4 F=> ?_
   ·obtain⟨y5,h5,F⟩:=bs F;refine rqn hb4 (clA 1 (pQ h5)) ?_;refine iq F (fun hb5 F=> ?_) fun hb5 F=> ?_
    ·obtain⟨y6,h6,F⟩:=bs F;refine rgn hb5 (clA 1 (Lj h6)) ?_;exact tl []
    exact tl []
   exact tl []
  exact tl []
 exact tl []
end Go.Proofs.YtjimbkljclfflaaGreatDoor
