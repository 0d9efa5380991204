/- A part of the proof that the law ShowAgain gives true for every input. -/
import Derived.Test.YtjimbkljclfflaaGreatDoorShowAgainT
import Derived.Test.YtjimbkljclfflaaGreatDoorShowAgainY
import Derived.Test.YtjimbkljclfflaaGreatDoorShowAgainB
import Derived.Test.YtjimbkljclfflaaGreatDoorShowAgainS
import Derived.Test.YtjimbkljclfflaaGreatDoorShowAgainX
import Derived.Test.YtjimbkljclfflaaGreatDoorShowAgainI
import Derived.Test.YtjimbkljclfflaaGreatDoorShowAgainW4
/- Each Go function computes its plain function. -/
namespace Go.Proofs.YtjimbkljclfflaaGreatDoor
open List
open Go.RowKit Go.Abs
set_option maxRecDepth 100000
set_option maxHeartbeats 4000000
theorem EO {a0:List bH} {r:Bool} (F:sg a0=some r):FZ 10 [.vs 7 (map bl a0)] [.p (.bool r)]:=by
 unfold sg at F;refine fb 38 Tryz.func10 fun w O=> ?_;obtain⟨lr0,F,hK0⟩:=bs F;refine lpG (fun s1=>∃ q,lr0= .next q/\s1=(sX 38 [] [] 0)) (fun(q:Int)=>(sX 38 [pf 0 (.vs 7 (map bl a0)),pf 3 (.int .i64 q)] [] 0)) (fun k q=>mn a0 k q) 0 (bW []) F (fun k x0 F ih=> ?_) ?_
 ·refine gg ?_;refine cq F (fun hb0 F=> ?_) fun hb0 F=> ?_
  ·obtain⟨y0,h0,F⟩:=bs F;refine gg ?_;obtain⟨lr1,F,hK1⟩:=bs F;refine lpG (fun s1=>∃ q,lr1= .next q/\s1=(sX 38 [pf 0 (.vs 7 (map bl a0)),pf 3 (.int .i64 x0)] [] 0)) (fun(q:Int)=>(sX 38 [pf 0 (.vs 7 (map bl a0)),pf 3 (.int .i64 x0),pf 4 (.vs 1 (map eS y0.ac)),pf 5 (.int .i64 q)] [] 0)) (fun k q=>mr y0 k q) 0 (bW []) F (fun k x1 F ih=> ?_) ?_
   ·refine gg ?_;refine cq F (fun hb1 F=> ?_) fun hb1 F=> ?_
    ·obtain⟨lr2,F,hK2⟩:=bs F;refine lpG (fun s1=>∃ q,lr2= .next q/\s1=(sX 38 [pf 0 (.vs 7 (map bl a0)),pf 3 (.int .i64 x0),pf 4 (.vs 1 (map eS y0.ac)),pf 5 (.int .i64 x1)] [] 0)) (fun(q:Int)=>(sX 38 [pf 0 (.vs 7 (map bl a0)),pf 3 (.int .i64 x0),pf 4 (.vs 1 (map eS y0.ac)),pf 5 (.int .i64 x1),pf 6 (.int .i64 q)] [] 0)) (fun k q=>mq x1 y0 k q) 0 (bW []) F (fun k x2 F ih=> ?_) ?_
     ·refine gg ?_;refine cnd F (fun hb2 F=> ?_) fun hb2 F=> ?_
      ·refine ga2 ?_;refine bt ?_;refine dt ?_;refine bt ?_;refine dH ⟨_,_,_⟩ rfl ?_;refine dd ?_;obtain⟨y1,h1,F⟩:=bs F;refine dd ?_;obtain⟨y2,h2,F⟩:=bs F;refine dd ?_;refine dk 37 [(32,pS y1),(36,pS y2)] (pB (y1==y2)) (fun m h=>⟨_,fu rfl h.1.1 h.1.2.1 rfl rfl rfl,rfl⟩) ?_;refine drn ?_;refine piz (sX 38 [pf 0 (.vs 7 (map bl a0)),pf 3 (.int .i64 x0),pf 4 (.vs 1 (map eS y0.ac)),pf 5 (.int .i64 x1),pf 6 (.int .i64 x2),pf 37 (.bool (y1==y2))] [] 0) [] ?_;refine gg ?_;refine cnd F (fun hb3 F=> ?_) fun hb3 F=> ?_
       ·refine ga7 ?_;refine aQ ?_;cases F;have F:=bq hK2;refine ga3 ?_;refine aQ ?_;cases F;have F:=bq hK1;refine ga3 ?_;refine aQ ?_;cases F;have F:=bq hK0;exact tl []
       refine gg ?_;exact bv (ih (ah (x2+1)) F) (bW [])
      exact tl []
     rintro _ ⟨⟨⟩,rfl,rfl⟩;have F:=cj hK2;clear hK2;refine gg ?_;exact bv (ih (ah (x1+1)) F) (bW [])
    exact tl []
   rintro _ ⟨⟨⟩,rfl,rfl⟩;have F:=cj hK1;clear hK1;refine gg ?_;exact bv (ih (ah (x0+1)) F) (bW [])
  exact tl []
 rintro _ ⟨⟨⟩,rfl,rfl⟩;have F:=cj hK0;clear hK0;exact tl []
theorem Et : ∀ n:Nat,(∀ (a0:List ap) (a1:List ap) (r:Bool),rb n a0 a1=some r->FZ 90 [.vs 23 (bc a0),.vs 23 (bc a1)] [.p (.bool r)]):=by
 intro n
 induction n with
 | zero=>exact(fun _ _ _ h=>by simp[rb] at h)
 | succ n ih=>
  have ref09_ats_ih:=ih;clear ih;intro a0 a1 r F;unfold rb at F
  revert F ref09_ats_ih
  generalize rb n=ref09_ats_rec
  intro ref09_ats_ih F;refine fb 56 Tryz.func90 fun w O=> ?_;refine cq F (fun hb1 F=> ?_) fun hb1 F=> ?_
  ·exact tl []
  obtain⟨lr0,F,hK0⟩:=bs F;refine lpG (fun s1=>∃ q,lr0= .next q/\s1=(sX 56 [] [] 0)) (fun(q:Int)=>(sX 56 [pf 0 (.vs 23 (bc a0)),pf 1 (.vs 23 (bc a1)),pf 5 (.int .i64 q)] [] 0)) (fun k q=>wl a0 a1 ref09_ats_rec k q) 0 (bW []) F (fun k x0 F ih=> ?_) ?_
  ·refine gg ?_;refine cnd F (fun hb0 F=> ?_) fun hb0 F=> ?_
   ·refine ga2 ?_;refine bt ?_;refine dt ?_;refine bt ?_;obtain⟨x1,F,hK1⟩:=bs F;refine ctx (sX 56 [pf 0 (.vs 23 (bc a0)),pf 1 (.vs 23 (bc a1)),pf 5 (.int .i64 x0),pf 55 (.bool x1)] [] 0) ?_ ?_
    ·refine dH ⟨_,_,_⟩ rfl ?_;refine dd ?_;obtain⟨y0,h0,F⟩:=bs F;refine dd ?_;obtain⟨y1,h1,F⟩:=bs F;refine dd ?_;rcases ie F with⟨hb2,F⟩ | ⟨hb2,F⟩
     ·exact tm []
     refine dkg hb2 29 [(0,.pv (.vs 23 (bc a0)))] (.pv (.vs 23 (bc a0))) (fun m h=>⟨_,iU rfl h.1.2.1 rfl rfl,rfl⟩) ?_;refine dkg hb2 30 [(5,pI x0)] (pI x0) (fun m h=>⟨_,iU rfl h.1.2.1 rfl rfl,rfl⟩) ?_;obtain⟨y2,h2,F⟩:=bs F;refine dkg hb2 31 [(29,.pv (.vs 23 (bc a0))),(30,pI x0)] (.pv (.vp (bm y2))) (fun m h=>⟨_,gd (k:= .i64) rfl h.1.2.1 h.1.2.2.1 (Fk iA h2) uV rfl rfl,rfl⟩) ?_;refine dkg hb2 32 [(31,.pv (.vp (bm y2)))] (.pv (.vp (List.drop 20 (bm y2)))) (fun m h=>⟨_,mG rfl h.1.2.1 Ox rfl rfl,rfl⟩) ?_;refine dkg hb2 33 [(32,.pv (.vp (List.drop 20 (bm y2))))] (.pv (.vs 23 (bc y2.aC))) (fun m h=>⟨_,qZ rfl h.1.2.1 rfl Rh rfl rfl,rfl⟩) ?_;refine dkg hb2 34 [(1,.pv (.vs 23 (bc a1)))] (.pv (.vs 23 (bc a1))) (fun m h=>⟨_,iU rfl h.1.2.1 rfl rfl,rfl⟩) ?_;refine dkg hb2 35 [(5,pI x0)] (pI x0) (fun m h=>⟨_,iU rfl h.1.2.1 rfl rfl,rfl⟩) ?_;obtain⟨y3,h3,F⟩:=bs F;refine dkg hb2 36 [(34,.pv (.vs 23 (bc a1))),(35,pI x0)] (.pv (.vp (bm y3))) (fun m h=>⟨_,gd (k:= .i64) rfl h.1.2.1 h.1.2.2.1 (Fk iA h3) uV rfl rfl,rfl⟩) ?_;refine dd ?_;obtain⟨y4,h4,F⟩:=bs F;refine dkg hb2 39 [(38,.pv (.vs 23 (bc y3.aC))),(33,.pv (.vs 23 (bc y2.aC)))] (pB y4) (fun m h=>⟨_,eg 0 rfl (caps:=[]) (args:=[.vs 23 (bc y2.aC),.vs 23 (bc y3.aC)]) (rs:=[.p (.bool y4)]) rfl rfl (bw h.1.2.2.1 (bw h.1.2.1 en)) XY (ref09_ats_ih _ _ _ h4) rfl rfl rfl,rfl⟩) ?_;refine dd ?_;rcases ie F with⟨hb3,F⟩ | ⟨hb3,F⟩
     ·exact tm []
     refine dkg hb3 43 [(0,.pv (.vs 23 (bc a0)))] (.pv (.vs 23 (bc a0))) (fun m h=>⟨_,iU rfl h.1.2.1 rfl rfl,rfl⟩) ?_;refine dkg hb3 44 [(5,pI x0)] (pI x0) (fun m h=>⟨_,iU rfl h.1.2.1 rfl rfl,rfl⟩) ?_;obtain⟨y5,h5,F⟩:=bs F;refine dkg hb3 45 [(43,.pv (.vs 23 (bc a0))),(44,pI x0)] (.pv (.vp (bm y5))) (fun m h=>⟨_,gd (k:= .i64) rfl h.1.2.1 h.1.2.2.1 (Fk iA h5) uV rfl rfl,rfl⟩) ?_;refine dkg hb3 46 [(45,.pv (.vp (bm y5)))] (.pv (.vp (List.drop 21 (bm y5)))) (fun m h=>⟨_,mG rfl h.1.2.1 Oz rfl rfl,rfl⟩) ?_;refine dkg hb3 47 [(46,.pv (.vp (List.drop 21 (bm y5))))] (.pv (.vs 23 (bc y5.bQ))) (fun m h=>⟨_,qZ rfl h.1.2.1 rfl Rh rfl rfl,rfl⟩) ?_;refine dkg hb3 48 [(1,.pv (.vs 23 (bc a1)))] (.pv (.vs 23 (bc a1))) (fun m h=>⟨_,iU rfl h.1.2.1 rfl rfl,rfl⟩) ?_;refine dkg hb3 49 [(5,pI x0)] (pI x0) (fun m h=>⟨_,iU rfl h.1.2.1 rfl rfl,rfl⟩) ?_;obtain⟨y6,h6,F⟩:=bs F;refine dkg hb3 50 [(48,.pv (.vs 23 (bc a1))),(49,pI x0)] (.pv (.vp (bm y6))) (fun m h=>⟨_,gd (k:= .i64) rfl h.1.2.1 h.1.2.2.1 (Fk iA h6) uV rfl rfl,rfl⟩) ?_;refine dd ?_;obtain⟨y7,h7,F⟩:=bs F;refine dkg hb3 53 [(52,.pv (.vs 23 (bc y6.bQ))),(47,.pv (.vs 23 (bc y5.bQ)))] (pB y7) (fun m h=>⟨_,eg 0 rfl (caps:=[]) (args:=[.vs 23 (bc y5.bQ),.vs 23 (bc y6.bQ)]) (rs:=[.p (.bool y7)]) rfl rfl (bw h.1.2.2.1 (bw h.1.2.1 en)) XY (ref09_ats_ih _ _ _ h7) rfl rfl rfl,rfl⟩) ?_;exact tm []
    have F:=hK1;refine gg ?_;refine cnd F (fun hb4 F=> ?_) fun hb4 F=> ?_
    ·refine ga7 ?_;refine aQ ?_;cases F;have F:=bq hK0;exact tl []
    refine gg ?_;exact bv (ih (ah (x0+1)) F) (bW [])
   exact tl []
  rintro _ ⟨⟨⟩,rfl,rfl⟩;have F:=cj hK0;clear hK0;exact tl []
theorem Mc {n:Nat} {a0:List ap} {a1:List ap} {r:Bool} (F:rb n a0 a1=some r):FZ 90 [.vs 23 (bc a0),.vs 23 (bc a1)] [.p (.bool r)]:=(Et n) _ _ _ F

theorem uM {a0:List dr} {a1:List dr} {a2:Bool} {r:Bool} (F:pH a0 a1 a2=some r):FZ 58 [.vs 13 (map aj a0),.vs 13 (map aj a1),.bool a2] [.p (.bool r)]:=by
 unfold pH at F;refine fb 59 Tryz.func58 fun w O=> ?_;refine cq F (fun hb1 F=> ?_) fun hb1 F=> ?_
 ·exact tl []
 obtain⟨lr0,F,hK0⟩:=bs F;refine lpG (fun s1=>∃ q,lr0= .next q/\s1=(sX 59 [] [] 0)) (fun(q:Int)=>(sX 59 [pf 0 (.vs 13 (map aj a0)),pf 1 (.vs 13 (map aj a1)),pf 2 (.bool a2),pf 7 (.int .i64 q)] [] 0)) (fun k q=>nt a0 a1 a2 k q) 0 (bW []) F (fun k x0 F ih=> ?_) ?_
 ·refine gg ?_;refine cnd F (fun hb0 F=> ?_) fun hb0 F=> ?_
  ·refine ga2 ?_;refine bt ?_;refine dt ?_;refine bt ?_;obtain⟨x1,F,hK1⟩:=bs F;refine ctx (sX 59 [pf 0 (.vs 13 (map aj a0)),pf 1 (.vs 13 (map aj a1)),pf 2 (.bool a2),pf 7 (.int .i64 x0),pf 58 (.bool x1)] [] 0) ?_ ?_
   ·refine dH ⟨_,_,_⟩ rfl ?_;refine dd ?_;obtain⟨y0,h0,F⟩:=bs F;refine dd ?_;obtain⟨y1,h1,F⟩:=bs F;refine dd ?_;refine dk 29 [(23,pS y0.ai),(28,pS y1.ai)] (pB (!(y0.ai==y1.ai))) (fun m h=>⟨_,fu rfl h.1.1 h.1.2.1 rfl rfl rfl,rfl⟩) ?_;refine dgo ?_;rcases ie F with⟨hb2,F⟩ | ⟨hb2,F⟩
    ·exact tm []
    refine dkg hb2 31 [(0,.pv (.vs 13 (map aj a0)))] (.pv (.vs 13 (map aj a0))) (fun m h=>⟨_,iU rfl h.1.2.1 rfl rfl,rfl⟩) ?_;refine dkg hb2 32 [(7,pI x0)] (pI x0) (fun m h=>⟨_,iU rfl h.1.2.1 rfl rfl,rfl⟩) ?_;obtain⟨y2,h2,F⟩:=bs F;refine dkg hb2 33 [(31,.pv (.vs 13 (map aj a0))),(32,pI x0)] (.pv (.vp (aj y2))) (fun m h=>⟨_,gd (k:= .i64) rfl h.1.2.1 h.1.2.2.1 (nB aj h2) qz rfl rfl,rfl⟩) ?_;refine dkg hb2 34 [(33,.pv (.vp (aj y2)))] (.pv (.vp (List.drop 1 (aj y2)))) (fun m h=>⟨_,mG rfl h.1.2.1 EF rfl rfl,rfl⟩) ?_;refine dkg hb2 35 [(34,.pv (.vp (List.drop 1 (aj y2))))] (.pv (.agg (bV y2.aJ))) (fun m h=>⟨_,qg (ps:=bV y2.aJ) rfl h.1.2.1 rfl rfl iW rfl rfl,rfl⟩) ?_;refine dkg hb2 36 [(1,.pv (.vs 13 (map aj a1)))] (.pv (.vs 13 (map aj a1))) (fun m h=>⟨_,iU rfl h.1.2.1 rfl rfl,rfl⟩) ?_;refine dkg hb2 37 [(7,pI x0)] (pI x0) (fun m h=>⟨_,iU rfl h.1.2.1 rfl rfl,rfl⟩) ?_;obtain⟨y3,h3,F⟩:=bs F;refine dkg hb2 38 [(36,.pv (.vs 13 (map aj a1))),(37,pI x0)] (.pv (.vp (aj y3))) (fun m h=>⟨_,gd (k:= .i64) rfl h.1.2.1 h.1.2.2.1 (nB aj h3) qz rfl rfl,rfl⟩) ?_;refine dkg hb2 39 [(38,.pv (.vp (aj y3)))] (.pv (.vp (List.drop 1 (aj y3)))) (fun m h=>⟨_,mG rfl h.1.2.1 EF rfl rfl,rfl⟩) ?_;refine dkg hb2 40 [(39,.pv (.vp (List.drop 1 (aj y3))))] (.pv (.agg (bV y3.aJ))) (fun m h=>⟨_,qg (ps:=bV y3.aJ) rfl h.1.2.1 rfl rfl iW rfl rfl,rfl⟩) ?_;refine dkg hb2 41 [(35,.pv (.agg (bV y2.aJ))),(40,.pv (.agg (bV y3.aJ)))] (pB (!(lM y2.aJ y3.aJ))) (fun m h=>⟨_,oO (r:=lM y2.aJ y3.aJ) rfl h.1.2.1 h.1.2.2.1 Ic rfl rfl rfl rfl rfl,rfl⟩) ?_;refine dd ?_;rcases ie F with⟨hb3,F⟩ | ⟨hb3,F⟩
    ·exact tm []
    refine dd ?_;rcases ie F with⟨hb4,F⟩ | ⟨hb4,F⟩
    ·refine dkg hb4 46 [(0,.pv (.vs 13 (map aj a0)))] (.pv (.vs 13 (map aj a0))) (fun m h=>⟨_,iU rfl h.1.2.1 rfl rfl,rfl⟩) ?_;refine dkg hb4 47 [(7,pI x0)] (pI x0) (fun m h=>⟨_,iU rfl h.1.2.1 rfl rfl,rfl⟩) ?_;obtain⟨y4,h4,F⟩:=bs F;refine dkg hb4 48 [(46,.pv (.vs 13 (map aj a0))),(47,pI x0)] (.pv (.vp (aj y4))) (fun m h=>⟨_,gd rfl h.1.2.1 h.1.2.2.1 (nB aj h4) qz rfl rfl,rfl⟩) ?_;refine dkg hb4 49 [(48,.pv (.vp (aj y4)))] (.pv (.vp (List.drop 12 (aj y4)))) (fun m h=>⟨_,mG rfl h.1.2.1 FK rfl rfl,rfl⟩) ?_;refine dkg hb4 50 [(49,.pv (.vp (List.drop 12 (aj y4))))] (pI y4.fAt) (fun m h=>⟨_,qZ rfl h.1.2.1 rfl kf rfl rfl,rfl⟩) ?_;refine dkg hb4 51 [(1,.pv (.vs 13 (map aj a1)))] (.pv (.vs 13 (map aj a1))) (fun m h=>⟨_,iU rfl h.1.2.1 rfl rfl,rfl⟩) ?_;refine dkg hb4 52 [(7,pI x0)] (pI x0) (fun m h=>⟨_,iU rfl h.1.2.1 rfl rfl,rfl⟩) ?_;obtain⟨y5,h5,F⟩:=bs F;refine dkg hb4 53 [(51,.pv (.vs 13 (map aj a1))),(52,pI x0)] (.pv (.vp (aj y5))) (fun m h=>⟨_,gd rfl h.1.2.1 h.1.2.2.1 (nB aj h5) qz rfl rfl,rfl⟩) ?_;refine dkg hb4 54 [(53,.pv (.vp (aj y5)))] (.pv (.vp (List.drop 12 (aj y5)))) (fun m h=>⟨_,mG rfl h.1.2.1 FK rfl rfl,rfl⟩) ?_;refine dkg hb4 55 [(54,.pv (.vp (List.drop 12 (aj y5))))] (pI y5.fAt) (fun m h=>⟨_,qZ rfl h.1.2.1 rfl kf rfl rfl,rfl⟩) ?_;refine dkg hb4 56 [(50,pI y4.fAt),(55,pI y5.fAt)] (pB (y4.fAt != y5.fAt)) (fun m h=>⟨_,BN rfl h.1.2.1 h.1.2.2.1 rfl rfl rfl,rfl⟩) ?_;refine dkg hb3 57 [(45,pB a2),(56,pB (y4.fAt != y5.fAt))] (pB (y4.fAt != y5.fAt)) (fun m h=>⟨_,vN rfl h.1.2.1 hb4 h.1.2.2.1 rfl rfl,rfl⟩) ?_;refine dk 58 [(43,pB (!(lM y2.aJ y3.aJ))),(57,pB (y4.fAt != y5.fAt))] (pB (y4.fAt != y5.fAt)) (fun m h=>⟨_,nu rfl h.1.1 hb3 h.1.2.1 rfl rfl,rfl⟩) ?_;refine drn ?_;refine piz (sX 59 [pf 0 (.vs 13 (map aj a0)),pf 1 (.vs 13 (map aj a1)),pf 2 (.bool a2),pf 7 (.int .i64 x0),pf 58 (.bool (y4.fAt != y5.fAt))] [] 0) [] ?_;cases F;exact pcz []
    (iterate 11 refine Sh hb4 ?_);refine dkg hb3 57 [(45,pB a2)] (pB false) (fun m h=>⟨_,nu rfl h.1.2.1 hb4 rfl rfl rfl,rfl⟩) ?_;refine dk 58 [(43,pB (!(lM y2.aJ y3.aJ))),(57,pB false)] (pB false) (fun m h=>⟨_,nu rfl h.1.1 hb3 h.1.2.1 rfl rfl,rfl⟩) ?_;refine drn ?_;refine piz (sX 59 [pf 0 (.vs 13 (map aj a0)),pf 1 (.vs 13 (map aj a1)),pf 2 (.bool a2),pf 7 (.int .i64 x0),pf 58 (.bool false)] [] 0) [] ?_;cases F;exact pcz []
   have F:=hK1;refine go ?_;refine cnd F (fun hb5 F=> ?_) fun hb5 F=> ?_
   ·refine go7 ?_;refine aQ ?_;cases F;have F:=bq hK0;refine go ?_;cases F;exact prt
   refine go7 ?_;refine rnr ?_;exact bv (ih (ah (x0+1)) F) (bW [])
  refine sV ?_;(iterate 2 refine dy ?_);cases F;exact px _ ⟨_,rfl,rfl⟩ (bW [])
 rintro _ ⟨⟨⟩,rfl,rfl⟩;have F:=cj hK0;clear hK0;exact tl []
theorem Dq : ∀ n:Nat,(∀ (a0:au) (a1:au) (r:Bool),kx n a0 a1=some r->FZ 155 [.agg (aE a0),.agg (aE a1)] [.p (.bool r)]):=by
 intro n
 induction n with
 | zero=>exact(fun _ _ _ h=>by simp[kx] at h)
 | succ n ih=>
  have ref06_Same_ih:=ih;clear ih;intro a0 a1 r F;unfold kx at F
  revert F ref06_Same_ih
  generalize kx n=ref06_Same_rec
  intro ref06_Same_ih F;refine cy (n:=53) Tryz.func155 rfl rfl rfl fun w O=> ?_;refine ga5 ?_;(iterate 2 refine bt ?_);obtain⟨x4,F,hK6⟩:=bs F;refine ctq (sX 53 [(2,some (.lp 0 0)),(3,some (.lp 1 0)),pf 33 (.bool x4)] [bf 0 53 (aE a0),bf 1 53 (aE a1)] 2) ?_ ?_
  ·refine iq F (fun hb1 F=> ?_) fun hb1 F=> ?_
   ·exact tl [0,1]
   refine iq F (fun hb2 F=> ?_) fun hb2 F=> ?_
   ·exact tl [0,1]
   refine rgn hb2 (fu rfl rfl rfl rfl rfl rfl) ?_;exact tl [0,1]
  have F:=hK6;refine cq F (fun hb7 F=> ?_) fun hb7 F=> ?_
  ·exact tl []
  obtain⟨lr0,F,hK0⟩:=bs F;refine lpG (fun s1=>∃ q,lr0= .next q/\s1=(sX 53 [] [] 0)) (fun(q:Int)=>(sX 53 [(2,some (.lp 0 0)),(3,some (.lp 1 0)),pf 5 (.int .i64 q)] [bf 0 53 (aE a0),bf 1 53 (aE a1)] 2)) (fun k q=>nq a0 a1 ref06_Same_rec k q) 0 (bW [0,1]) F (fun k x0 F ih=> ?_) ?_
  ·refine gg ?_;refine cnd F (fun hb0 F=> ?_) fun hb0 F=> ?_
   ·refine ga2 ?_;refine bt ?_;refine dt ?_;refine bt ?_;refine dH ⟨_,_,_⟩ rfl ?_;refine dd ?_;obtain⟨y0,h0,F⟩:=bs F;refine dd ?_;obtain⟨y1,h1,F⟩:=bs F;refine dd ?_;obtain⟨y2,h2,F⟩:=bs F;refine dk 51 [(50,.pv (.agg (aE y1))),(45,.pv (.agg (aE y0)))] (pB y2) (fun m h=>⟨_,eg 2 rfl (caps:=[]) (args:=[.agg (aE y0),.agg (aE y1)]) (rs:=[.p (.bool y2)]) rfl rfl (bw h.1.2.1 (bw h.1.1 en)) SX (ref06_Same_ih _ _ _ h2) rfl rfl rfl,rfl⟩) ?_;refine dd ?_;refine drn ?_;refine piz (sX 53 [(2,some (.lp 0 0)),(3,some (.lp 1 0)),pf 5 (.int .i64 x0),pf 52 (.bool (!y2))] [bf 0 53 (aE a0),bf 1 53 (aE a1)] 2) [0,1] ?_;refine gg ?_;refine cnd F (fun hb3 F=> ?_) fun hb3 F=> ?_
    ·refine ga7 ?_;refine aQ ?_;cases F;have F:=bq hK0;exact tl []
    refine gg ?_;exact bv (ih (ah (x0+1)) F) (bW [0,1])
   exact tl []
  rintro _ ⟨⟨⟩,rfl,rfl⟩;have F:=cj hK0;clear hK0;exact tl []
theorem zh {n:Nat} {a0:au} {a1:au} {r:Bool} (F:kx n a0 a1=some r):FZ 155 [.agg (aE a0),.agg (aE a1)] [.p (.bool r)]:=(Dq n) _ _ _ F

theorem Dp : ∀ n:Nat,(∀ (a0:List ap) (a1:List ap) (r:Bool),kC n a0 a1=some r->FZ 91 [.vs 23 (bc a0),.vs 23 (bc a1)] [.p (.bool r)])/\(∀ (a0:ap) (a1:ap) (r:Bool),lZ n a0 a1=some r->FZ 120 [.agg (bm a0),.agg (bm a1)] [.p (.bool r)]):=by
 intro n
 induction n with
 | zero=>exact⟨fun _ _ _ h=>by simp[kC] at h,fun _ _ _ h=>by simp[lZ] at h⟩
 | succ n ih=>
  obtain⟨ref08_List_ih,ref08_Same_ih⟩:=ih;refine⟨?_,?_⟩
  ·intro a0 a1 r F;unfold kC at F
   revert F ref08_List_ih ref08_Same_ih
   generalize kC n=ref08_List_rec
   generalize lZ n=ref08_Same_rec
   intro ref08_List_ih ref08_Same_ih F;refine fb 27 Tryz.func91 fun w O=> ?_;refine cq F (fun hb1 F=> ?_) fun hb1 F=> ?_
   ·exact tl []
   obtain⟨lr0,F,hK0⟩:=bs F;refine lpG (fun s1=>∃ q,lr0= .next q/\s1=(sX 27 [] [] 0)) (fun(q:Int)=>(sX 27 [pf 0 (.vs 23 (bc a0)),pf 1 (.vs 23 (bc a1)),pf 5 (.int .i64 q)] [] 0)) (fun k q=>nw a0 a1 ref08_Same_rec k q) 0 (bW []) F (fun k x0 F ih=> ?_) ?_
   ·refine gg ?_;refine cnd F (fun hb0 F=> ?_) fun hb0 F=> ?_
    ·refine ga2 ?_;refine bt ?_;refine dt ?_;refine bt ?_;refine dH ⟨_,_,_⟩ rfl ?_;refine dd ?_;obtain⟨y0,h0,F⟩:=bs F;refine dd ?_;obtain⟨y1,h1,F⟩:=bs F;refine dd ?_;obtain⟨y2,h2,F⟩:=bs F;refine dk 25 [(24,.pv (.agg (bm y1))),(20,.pv (.agg (bm y0)))] (pB y2) (fun m h=>⟨_,eg 0 rfl (caps:=[]) (args:=[.agg (bm y0),.agg (bm y1)]) (rs:=[.p (.bool y2)]) rfl rfl (bw h.1.2.1 (bw h.1.1 en)) ZL (ref08_Same_ih _ _ _ h2) rfl rfl rfl,rfl⟩) ?_;refine dd ?_;refine drn ?_;refine piz (sX 27 [pf 0 (.vs 23 (bc a0)),pf 1 (.vs 23 (bc a1)),pf 5 (.int .i64 x0),pf 26 (.bool (!y2))] [] 0) [] ?_;refine gg ?_;refine cnd F (fun hb6 F=> ?_) fun hb6 F=> ?_
     ·refine ga7 ?_;refine aQ ?_;cases F;have F:=bq hK0;exact tl []
     refine gg ?_;exact bv (ih (ah (x0+1)) F) (bW [])
    exact tl []
   rintro _ ⟨⟨⟩,rfl,rfl⟩;have F:=cj hK0;clear hK0;exact tl []
  ·intro a0 a1 r F;unfold lZ at F
   revert F ref08_List_ih ref08_Same_ih
   generalize kC n=ref08_List_rec
   generalize lZ n=ref08_Same_rec
   intro ref08_List_ih ref08_Same_ih F;refine cy (n:=87) Tryz.func120 rfl rfl rfl fun w O=> ?_;refine ga5 ?_;(iterate 2 refine bt ?_);obtain⟨x9,F,hK1⟩:=bs F;refine ctq (sX 87 [(2,some (.lp 0 0)),(3,some (.lp 1 0)),pf 55 (.bool x9)] [bf 0 55 (bm a0),bf 1 55 (bm a1)] 2) ?_ ?_
   ·refine iq F (fun hb1 F=> ?_) fun hb1 F=> ?_
    ·exact tl [0,1]
    refine rqn hb1 (fu rfl rfl rfl rfl rfl rfl) ?_;refine iq F (fun hb2 F=> ?_) fun hb2 F=> ?_
    ·exact tl [0,1]
    refine rqn hb2 (fu rfl rfl rfl rfl rfl rfl) ?_;refine iq F (fun hb3 F=> ?_) fun hb3 F=> ?_
    ·exact tl [0,1]
    refine rqn hb3 (fu rfl rfl rfl rfl rfl rfl) ?_;refine iq F (fun hb4 F=> ?_) fun hb4 F=> ?_
    ·exact tl [0,1]
    refine rqn hb4 (la (bV a0.aJ) iW) ?_;refine rgn hb4 (la (bV a1.aJ) iW) ?_;refine rqn hb4 (oO (r:=lM a0.aJ a1.aJ) rfl rfl rfl Ic rfl rfl rfl rfl rfl) ?_;refine iq F (fun hb5 F=> ?_) fun hb5 F=> ?_
    ·exact tl [0,1]
    refine rqn hb5 (la (aE a0.fE) eN) ?_;refine rgn hb5 (la (aE a1.fE) eN) ?_;obtain⟨y6,h7,F⟩:=bs F;refine rgn hb5 (clA 2 (zh h7)) ?_;exact tl [0,1]
   have F:=hK1;refine cq F (fun hb7 F=> ?_) fun hb7 F=> ?_
   ·exact tl []
   obtain⟨lr1,F,hK2⟩:=bs F;refine lpG (fun s1=>∃ q,lr1= .next q/\s1=(sX 87 [(2,some (.lp 0 0)),(3,some (.lp 1 0))] [bf 0 55 (bm a0),bf 1 55 (bm a1)] 2)) (fun(q:Int)=>(sX 87 [(2,some (.lp 0 0)),(3,some (.lp 1 0)),pf 5 (.int .i64 q)] [bf 0 55 (bm a0),bf 1 55 (bm a1)] 2)) (fun k q=>nn a0 a1 k q) 0 (bW [0,1]) F (fun k x1 F ih=> ?_) ?_
   ·refine gg ?_;refine cnd F (fun hb8 F=> ?_) fun hb8 F=> ?_
    ·refine ga2 ?_;refine bt ?_;refine dt ?_;refine bt ?_;refine dH ⟨_,_,_⟩ rfl ?_;refine dd ?_;obtain⟨y3,h3,F⟩:=bs F;refine dd ?_;obtain⟨y4,h4,F⟩:=bs F;refine dd ?_;obtain⟨y5,h5,F⟩:=bs F;refine dk 73 [(72,.pv (.agg (aE y4))),(67,.pv (.agg (aE y3)))] (pB y5) (fun m h=>⟨_,eg 2 rfl (caps:=[]) (args:=[.agg (aE y3),.agg (aE y4)]) (rs:=[.p (.bool y5)]) rfl rfl (bw h.1.2.1 (bw h.1.1 en)) SX (zh h5) rfl rfl rfl,rfl⟩) ?_;refine dd ?_;refine drn ?_;refine piz (sX 87 [(2,some (.lp 0 0)),(3,some (.lp 1 0)),pf 5 (.int .i64 x1),pf 74 (.bool (!y5))] [bf 0 55 (bm a0),bf 1 55 (bm a1)] 2) [0,1] ?_;refine gg ?_;refine cnd F (fun hb9 F=> ?_) fun hb9 F=> ?_
     ·refine ga7 ?_;refine aQ ?_;cases F;have F:=bq hK2;exact tl []
     refine gg ?_;exact bv (ih (ah (x1+1)) F) (bW [0,1])
    exact tl [0,1]
   rintro _ ⟨⟨⟩,rfl,rfl⟩;have F:=cj hK2;clear hK2;refine gg ?_;obtain⟨y7,h6,F⟩:=bs F;refine rq (clA 2 (ref08_List_ih _ _ _ h6)) ?_;refine iq F (fun hb10 F=> ?_) fun hb10 F=> ?_
   ·obtain⟨y8,h8,F⟩:=bs F;refine rgn hb10 (clA 2 (ref08_List_ih _ _ _ h8)) ?_;exact tl []
   exact tl []
theorem IZ {n:Nat} {a0:List ap} {a1:List ap} {r:Bool} (F:kC n a0 a1=some r):FZ 91 [.vs 23 (bc a0),.vs 23 (bc a1)] [.p (.bool r)]:=(Dp n).1 _ _ _ F
theorem Ja {a0:bM} {a1:bM} {a2:Bool} {r:Bool} (F:tH a0 a1 a2=some r):FZ 57 [.agg (bg a0),.agg (bg a1),.bool a2] [.p (.bool r)]:=by
 unfold tH at F;refine cy (n:=65) Tryz.func57 rfl rfl rfl fun w O=> ?_;refine ga5 ?_;(iterate 2 refine bt ?_);obtain⟨x8,F,hK0⟩:=bs F;refine ctq (sX 65 [pf 2 (.bool a2),(3,some (.lp 0 0)),(4,some (.lp 1 0)),pf 43 (.bool x8)] [bf 0 48 (bg a0),bf 1 48 (bg a1)] 2) ?_ ?_
 ·refine rq (fu rfl rfl rfl rfl rfl rfl) ?_;refine iq F (fun hb1 F=> ?_) fun hb1 F=> ?_
  ·exact tl [0,1]
  refine rqn hb1 (IM rfl rfl rfl aan rfl rfl) ?_;refine iq F (fun hb2 F=> ?_) fun hb2 F=> ?_
  ·exact tl [0,1]
  refine rqn hb2 (la (bV a0.af) iW) ?_;refine rgn hb2 (la (bV a1.af) iW) ?_;refine rqn hb2 (oO (r:=lM a0.af a1.af) rfl rfl rfl Ic rfl rfl rfl rfl rfl) ?_;refine iq F (fun hb3 F=> ?_) fun hb3 F=> ?_
  ·exact tl [0,1]
  refine iq F (fun hb4 F=> ?_) fun hb4 F=> ?_
  ·refine iq F (fun hb5 F=> ?_) fun hb5 F=> ?_
   ·exact tl [0,1]
   obtain⟨y6,h7,F⟩:=bs F;refine rgn hb5 (clA 2 (Mc h7)) ?_;exact tl [0,1]
  exact tl [0,1]
 have F:=hK0;refine cq F (fun hb0 F=> ?_) fun hb0 F=> ?_
 ·exact tl []
 obtain⟨y0,h0,F⟩:=bs F;refine rq (clA 2 (uM h0)) ?_;refine iq F (fun hb6 F=> ?_) fun hb6 F=> ?_
 ·obtain⟨y1,h1,F⟩:=bs F;refine rqn hb6 (clA 2 (uM h1)) ?_;refine iq F (fun hb7 F=> ?_) fun hb7 F=> ?_
  ·obtain⟨y2,h2,F⟩:=bs F;refine rgn hb7 (clA 2 (IZ h2)) ?_;exact tl []
  exact tl []
 exact tl []
theorem Kc {a0:bH} {a1:bH} {a2:Bool} {r:Bool} (F:vr a0 a1 a2=some r):FZ 30 [.agg (bl a0),.agg (bl a1),.bool a2] [.p (.bool r)]:=by
 unfold vr at F;refine cy (n:=121) Tryz.func30 rfl rfl rfl fun w O=> ?_;refine ga5 ?_;(iterate 2 refine bt ?_);obtain⟨x7,F,hK9⟩:=bs F;refine ctq (sX 121 [pf 2 (.bool a2),(3,some (.lp 0 0)),(4,some (.lp 1 0)),pf 58 (.bool x7)] [bf 0 39 (bl a0),bf 1 39 (bl a1)] 2) ?_ ?_
 ·refine rq (fu rfl rfl rfl rfl rfl rfl) ?_;refine iq F (fun hb1 F=> ?_) fun hb1 F=> ?_
  ·exact tl [0,1]
  refine rgn hb1 (fu rfl rfl rfl rfl rfl rfl) ?_;exact tl [0,1]
 have F:=hK9;refine cq F (fun hb0 F=> ?_) fun hb0 F=> ?_
 ·exact tl []
 obtain⟨lr0,F,hK0⟩:=bs F;refine lpG (fun s1=>∃ q,lr0= .next q/\s1=(sX 121 [pf 2 (.bool a2),(3,some (.lp 0 0)),(4,some (.lp 1 0))] [bf 0 39 (bl a0),bf 1 39 (bl a1)] 2)) (fun(q:Int)=>(sX 121 [pf 2 (.bool a2),(3,some (.lp 0 0)),(4,some (.lp 1 0)),pf 7 (.int .i64 q)] [bf 0 39 (bl a0),bf 1 39 (bl a1)] 2)) (fun k q=>oT a0 a1 k q) 0 (bW [0,1]) F (fun k x0 F ih=> ?_) ?_
 ·refine gg ?_;refine cnd F (fun hb2 F=> ?_) fun hb2 F=> ?_
  ·refine ga2 ?_;refine bt ?_;refine dt ?_;refine bt ?_;refine dH ⟨_,_,_⟩ rfl ?_;refine dd ?_;obtain⟨y0,h0,F⟩:=bs F;refine dd ?_;obtain⟨y1,h1,F⟩:=bs F;refine dd ?_;refine dk 76 [(70,pS y0),(75,pS y1)] (pB (!(y0==y1))) (fun m h=>⟨_,fu rfl h.1.1 h.1.2.1 rfl rfl rfl,rfl⟩) ?_;refine drn ?_;refine piz (sX 121 [pf 2 (.bool a2),(3,some (.lp 0 0)),(4,some (.lp 1 0)),pf 7 (.int .i64 x0),pf 76 (.bool (!(y0==y1)))] [bf 0 39 (bl a0),bf 1 39 (bl a1)] 2) [0,1] ?_;refine gg ?_;refine cnd F (fun hb3 F=> ?_) fun hb3 F=> ?_
   ·refine ga7 ?_;refine aQ ?_;cases F;have F:=bq hK0;exact tl []
   refine gg ?_;exact bv (ih (ah (x0+1)) F) (bW [0,1])
  exact tl [0,1]
 rintro _ ⟨⟨⟩,rfl,rfl⟩;have F:=cj hK0;clear hK0;refine gg ?_;obtain⟨lr1,F,hK1⟩:=bs F;refine lpG (fun s1=>∃ q,lr1= .next q/\s1=(sX 121 [pf 2 (.bool a2),(3,some (.lp 0 0)),(4,some (.lp 1 0))] [bf 0 39 (bl a0),bf 1 39 (bl a1)] 2)) (fun(q:Int)=>(sX 121 [pf 2 (.bool a2),(3,some (.lp 0 0)),(4,some (.lp 1 0)),pf 8 (.int .i64 q)] [bf 0 39 (bl a0),bf 1 39 (bl a1)] 2)) (fun k q=>oY a0 a1 k q) 0 (bW [0,1]) F (fun k x1 F ih=> ?_) ?_
 ·refine gg ?_;refine cnd F (fun hb4 F=> ?_) fun hb4 F=> ?_
  ·refine ga2 ?_;refine bt ?_;refine dt ?_;refine bt ?_;refine dH ⟨_,_,_⟩ rfl ?_;refine dd ?_;obtain⟨y2,h2,F⟩:=bs F;refine dd ?_;obtain⟨y3,h3,F⟩:=bs F;refine dd ?_;refine dk 94 [(88,.pv (.agg (ax y2))),(93,.pv (.agg (ax y3)))] (pB (!(kO y2 y3))) (fun m h=>⟨_,oO (r:=kO y2 y3) rfl h.1.1 h.1.2.1 VU rfl rfl rfl rfl rfl,rfl⟩) ?_;refine drn ?_;refine piz (sX 121 [pf 2 (.bool a2),(3,some (.lp 0 0)),(4,some (.lp 1 0)),pf 8 (.int .i64 x1),pf 94 (.bool (!(kO y2 y3)))] [bf 0 39 (bl a0),bf 1 39 (bl a1)] 2) [0,1] ?_;refine gg ?_;refine cnd F (fun hb5 F=> ?_) fun hb5 F=> ?_
   ·refine ga7 ?_;refine aQ ?_;cases F;have F:=bq hK1;exact tl []
   refine gg ?_;exact bv (ih (ah (x1+1)) F) (bW [0,1])
  exact tl [0,1]
 rintro _ ⟨⟨⟩,rfl,rfl⟩;have F:=cj hK1;clear hK1;refine gg ?_;obtain⟨lr2,F,hK2⟩:=bs F;refine lpG (fun s1=>∃ q,lr2= .next q/\s1=(sX 121 [pf 2 (.bool a2),(3,some (.lp 0 0)),(4,some (.lp 1 0))] [bf 0 39 (bl a0),bf 1 39 (bl a1)] 2)) (fun(q:Int)=>(sX 121 [pf 2 (.bool a2),(3,some (.lp 0 0)),(4,some (.lp 1 0)),pf 9 (.int .i64 q)] [bf 0 39 (bl a0),bf 1 39 (bl a1)] 2)) (fun k q=>oJ a0 a1 a2 k q) 0 (bW [0,1]) F (fun k x2 F ih=> ?_) ?_
 ·refine gg ?_;refine cnd F (fun hb6 F=> ?_) fun hb6 F=> ?_
  ·refine ga2 ?_;refine bt ?_;refine dt ?_;refine bt ?_;refine dH ⟨_,_,_⟩ rfl ?_;refine dd ?_;obtain⟨y4,h4,F⟩:=bs F;refine dd ?_;obtain⟨y5,h5,F⟩:=bs F;refine dd ?_;obtain⟨y6,h6,F⟩:=bs F;refine dk 113 [(112,pB a2),(111,.pv (.agg (bg y5))),(106,.pv (.agg (bg y4)))] (pB y6) (fun m h=>⟨_,eg 2 rfl (caps:=[]) (args:=[.agg (bg y4),.agg (bg y5),.bool a2]) (rs:=[.p (.bool y6)]) rfl rfl (bw h.1.2.2.1 (bw h.1.2.1 (bw h.1.1 en))) acg (Ja h6) rfl rfl rfl,rfl⟩) ?_;refine dd ?_;refine drn ?_;refine piz (sX 121 [pf 2 (.bool a2),(3,some (.lp 0 0)),(4,some (.lp 1 0)),pf 9 (.int .i64 x2),pf 114 (.bool (!y6))] [bf 0 39 (bl a0),bf 1 39 (bl a1)] 2) [0,1] ?_;refine gg ?_;refine cnd F (fun hb7 F=> ?_) fun hb7 F=> ?_
   ·refine ga7 ?_;refine aQ ?_;cases F;have F:=bq hK2;exact tl []
   refine gg ?_;exact bv (ih (ah (x2+1)) F) (bW [0,1])
  exact tl [0,1]
 rintro _ ⟨⟨⟩,rfl,rfl⟩;have F:=cj hK2;clear hK2;refine gg ?_;obtain⟨y7,h7,F⟩:=bs F;refine rgp (clA 2 (uM h7)) ?_;exact tl []
theorem Jp {a0:List bH} {a1:List bH} {a2:Bool} {r:Bool} (F:ud a0 a1 a2=some r):FZ 12 [.vs 7 (map bl a0),.vs 7 (map bl a1),.bool a2] [.p (.bool r)]:=by
 unfold ud at F;refine fb 30 Tryz.func12 fun w O=> ?_;refine cq F (fun hb1 F=> ?_) fun hb1 F=> ?_
 ·exact tl []
 obtain⟨lr0,F,hK0⟩:=bs F;refine lpG (fun s1=>∃ q,lr0= .next q/\s1=(sX 30 [] [] 0)) (fun(q:Int)=>(sX 30 [pf 0 (.vs 7 (map bl a0)),pf 1 (.vs 7 (map bl a1)),pf 2 (.bool a2),pf 7 (.int .i64 q)] [] 0)) (fun k q=>nk a0 a1 a2 k q) 0 (bW []) F (fun k x0 F ih=> ?_) ?_
 ·refine gg ?_;refine cnd F (fun hb0 F=> ?_) fun hb0 F=> ?_
  ·refine ga2 ?_;refine bt ?_;refine dt ?_;refine bt ?_;refine dH ⟨_,_,_⟩ rfl ?_;refine dd ?_;obtain⟨y0,h0,F⟩:=bs F;refine dd ?_;obtain⟨y1,h1,F⟩:=bs F;refine dd ?_;obtain⟨y2,h2,F⟩:=bs F;refine dk 28 [(27,pB a2),(26,.pv (.agg (bl y1))),(22,.pv (.agg (bl y0)))] (pB y2) (fun m h=>⟨_,eg 0 rfl (caps:=[]) (args:=[.agg (bl y0),.agg (bl y1),.bool a2]) (rs:=[.p (.bool y2)]) rfl rfl (bw h.1.2.2.1 (bw h.1.2.1 (bw h.1.1 en))) abV (Kc h2) rfl rfl rfl,rfl⟩) ?_;refine dd ?_;refine drn ?_;refine piz (sX 30 [pf 0 (.vs 7 (map bl a0)),pf 1 (.vs 7 (map bl a1)),pf 2 (.bool a2),pf 7 (.int .i64 x0),pf 29 (.bool (!y2))] [] 0) [] ?_;refine gg ?_;refine cnd F (fun hb2 F=> ?_) fun hb2 F=> ?_
   ·refine ga7 ?_;refine aQ ?_;cases F;have F:=bq hK0;exact tl []
   refine gg ?_;exact bv (ih (ah (x0+1)) F) (bW [])
  exact tl []
 rintro _ ⟨⟨⟩,rfl,rfl⟩;have F:=cj hK0;clear hK0;exact tl []
theorem zo {a0:List UInt8} {r:Bool} (F:pC a0=some r):FZ 4 [.str a0] [.p (.bool r)]:=by
 unfold pC at F;refine fb 61 Tryz.func4 fun w O=> ?_;refine rq (et rfl rfl fK rfl rfl) ?_;refine cq F (fun hb1 F=> ?_) fun hb1 F=> ?_
 ·obtain⟨y2,h3,F⟩:=bs F;refine rgp (clA 0 (qq h3)) ?_;exact tl []
 obtain⟨y6,h7,F⟩:=bs F;refine rgp (clA 0 (Fn.frozen (xf h7))) ?_;refine go ?_;(iterate 2 refine rgp (pG rfl rfl rfl rfl rfl) ?_);refine rgp (al 0 (cr aK) pb) ?_;refine go9 ?_;refine cnd F (fun hb8 F=> ?_) fun hb8 F=> ?_
 ·refine go ?_;obtain⟨y9,h0,F⟩:=bs F;refine rgp (clA 1 (qq h0)) ?_;exact tl []
 refine go4 ?_;obtain⟨y0,h1,F⟩:=bs F;refine rgp (clA 1 (wn h1)) ?_;refine ga2 ?_;(iterate 2 refine bt ?_);obtain⟨x0,F,hK0⟩:=bs F;refine ctq (sX 61 [pf 3 (.vs 7 (map bl y6.1)),pf 5 (.str y0),pf 29 (.bool x0)] [] 0) ?_ ?_
 ·refine rq (et rfl rfl fK rfl rfl) ?_;refine iq F (fun hb0 F=> ?_) fun hb0 F=> ?_
  ·exact tl []
  obtain⟨y1,h2,F⟩:=bs F;refine rgn hb0 (clA 1 (EO h2)) ?_;exact tl []
 have F:=hK0;refine cq F (fun hb2 F=> ?_) fun hb2 F=> ?_
 ·obtain⟨y3,h4,F⟩:=bs F;refine rgp (clA 0 (qq h4)) ?_;exact tl []
 obtain⟨y4,h5,F⟩:=bs F;refine rgp (clA 0 (Fn.frozen (xf h5))) ?_;refine go ?_;(iterate 2 refine rgp (pG rfl rfl rfl rfl rfl) ?_);refine rgp (al 0 (cr aK) pb) ?_;refine go8 ?_;rcases ie F with⟨hb3,F⟩ | ⟨hb3,F⟩
 ·(iterate 2 refine gn hb3 ?_);obtain⟨y5,h6,F⟩:=bs F;refine rgn hb3 (cl 1 [.vs 7 (map bl y6.1),.vs 7 (map bl y4.1),.bool false] [.p (.bool y5)] (Jp h6)) ?_;refine rpt hb3 ?_;refine go ?_;rcases ie F with⟨hb4,F⟩ | ⟨hb4,F⟩
  ·refine gg ?_;obtain⟨y7,h8,F⟩:=bs F;refine rqn hb4 (clA 1 (wn h8)) ?_;refine rqn hb4 (fu rfl rfl rfl rfl rfl rfl) ?_;refine iq F (fun hb5 F=> ?_) fun hb5 F=> ?_
   ·refine rgn hb5 (fu rfl rfl rfl rfl rfl rfl) ?_;refine rqn hb5 (IR rfl rfl rfl aan rfl rfl) ?_;rcases ie F with⟨hb6,F⟩ | ⟨hb6,F⟩
    ·obtain⟨y8,h9,F⟩:=bs F;refine rgn hb6 (clA 1 (qq h9)) ?_;exact tl []
    exact tl []
   exact tl []
  (iterate 4 refine Vo hb4 ?_);refine rpf hb4 ?_;refine go ?_;exact tl []
 (iterate 3 refine Vo hb3 ?_);exact tl []
end Go.Proofs.YtjimbkljclfflaaGreatDoor
