/- A part of the proof that the law ShowBack gives true for every input. -/
import Derived.Test.YtjimbkljclfflaaGreatDoorShowBackT
import Derived.Test.YtjimbkljclfflaaGreatDoorShowBackY
import Derived.Test.YtjimbkljclfflaaGreatDoorShowBackB
import Derived.Test.YtjimbkljclfflaaGreatDoorShowBackS
import Derived.Test.YtjimbkljclfflaaGreatDoorShowBackX
import Derived.Test.YtjimbkljclfflaaGreatDoorShowBackI
import Derived.Test.YtjimbkljclfflaaGreatDoorShowBackW2
/- Each Go function computes its plain function. -/
namespace Go.Proofs.YtjimbkljclfflaaGreatDoor
open List
open Go.RowKit Go.Abs
set_option maxRecDepth 100000
set_option maxHeartbeats 4000000
theorem Sg {a0:Int} {r:Int} (F:rk a0=some r):FZ 130 [.int .i64 a0] [.p (.int .i64 r)]:=by
 unfold rk at F;refine bM (n:=26) Tryz.func130 rfl rfl rfl fun w O=> ?_;refine go7 ?_;refine cI ?_;refine go4 ?_;refine cnd F (fun hb1 F=> ?_) fun hb1 F=> ?_
 ·exact tl []
 refine go4 ?_;refine cnd F (fun hb2 F=> ?_) fun hb2 F=> ?_
 ·exact tl []
 refine go4 ?_;refine cnd F (fun hb3 F=> ?_) fun hb3 F=> ?_
 ·exact tl []
 refine go4 ?_;refine cnd F (fun hb4 F=> ?_) fun hb4 F=> ?_
 ·exact tl []
 refine go4 ?_;refine cnd F (fun hb5 F=> ?_) fun hb5 F=> ?_
 ·exact tl []
 refine go4 ?_;refine cnd F (fun hb6 F=> ?_) fun hb6 F=> ?_
 ·exact tl []
 refine go4 ?_;refine cnd F (fun hb7 F=> ?_) fun hb7 F=> ?_
 ·exact tl []
 refine go4 ?_;refine cnd F (fun hb8 F=> ?_) fun hb8 F=> ?_
 ·exact tl []
 refine go4 ?_;refine cnd F (fun hb9 F=> ?_) fun hb9 F=> ?_
 ·exact tl []
 refine go4 ?_;refine cnd F (fun hb0 F=> ?_) fun hb0 F=> ?_
 ·exact tl []
 refine go4 ?_;refine cnd F (fun hb12 F=> ?_) fun hb12 F=> ?_
 ·exact tl []
 exact tl []
theorem Mg {a0:ah} {a1:Int} {r:Bool} (F:uH a0 a1=some r):FZ 131 [.agg (ax a0),.int .i64 a1] [.p (.bool r)]:=by
 unfold uH at F;refine bM (n:=58) Tryz.func131 rfl rfl rfl fun w O=> ?_;refine ga4 ?_;refine aJ ?_;refine Dl F (fun q=>(sX 58 [pf 1 (.int .i64 a1),(2,some (.lp 0 0))] [bf 0 55 (ax a0)] 1)) ?_ ?_
 ·refine cI ?_;refine aJ ?_;obtain⟨x3,F,hK5⟩:=qd F;refine ctx (sX 58 [pf 1 (.int .i64 a1),(2,some (.lp 0 0)),pf 5 (.bool x3)] [bf 0 55 (ax a0)] 1) ?_ ?_
  ·refine gg ?_;refine rq (kO rfl rfl rfl rfl rfl rfl) ?_;refine iq F (fun hb1 F=> ?_) fun hb1 F=> ?_
   ·exact tl [0]
   refine rqn hb1 (kO rfl rfl rfl rfl rfl rfl) ?_;refine iq F (fun hb2 F=> ?_) fun hb2 F=> ?_
   ·refine rgn hb2 (dQ rfl rfl rfl rfl rfl rfl) ?_;exact tl [0]
   exact tl [0]
  have F:=hK5;refine go ?_;rcases mR F with⟨hb6,F⟩ | ⟨hb6,F⟩
  ·refine gk rfl hb6 ?_;refine gg ?_;refine rgp (dQ rfl rfl rfl rfl rfl rfl) ?_;refine go ?_;rcases mR F with⟨hb7,F⟩ | ⟨hb7,F⟩
   ·refine gk rfl hb7 ?_;refine ga5 ?_;refine gK ?_
    replace F:=pu F
    exact tl []
   refine fg rfl hb7 ?_;refine ga2 ?_;exact kf _ ⟨(),rfl,F⟩ (bG [0])
  refine fg rfl hb6 ?_;refine ga3 ?_;obtain⟨y0,h0,F⟩:=qd F;refine rgp (clA 1 (jf h0)) ?_;refine ga3 ?_;rcases mR F with⟨hb0,F⟩ | ⟨hb0,F⟩
  ·refine gk rfl hb0 ?_;refine ga5 ?_;refine gK ?_
   replace F:=pu F
   exact tl []
  refine fg rfl hb0 ?_;refine ga2 ?_;exact kf _ ⟨(),rfl,F⟩ (bG [0])
 rintro ⟨⟩ F;refine go ?_;refine aJ ?_;refine Dl F (fun q=>(sX 58 [pf 1 (.int .i64 a1),(2,some (.lp 0 0))] [bf 0 55 (ax a0)] 1)) ?_ ?_
 ·refine gg ?_;refine rgp (kO rfl rfl rfl rfl rfl rfl) ?_;refine ga3 ?_;rcases mR F with⟨hb3,F⟩ | ⟨hb3,F⟩
  ·refine gk rfl hb3 ?_;refine gg ?_;refine rgp (dQ rfl rfl rfl rfl rfl rfl) ?_;refine go ?_;rcases mR F with⟨hb4,F⟩ | ⟨hb4,F⟩
   ·refine gk rfl hb4 ?_;refine ga5 ?_;refine gK ?_
    replace F:=pu F
    exact tl []
   refine fg rfl hb4 ?_;refine ga2 ?_;exact kf _ ⟨(),rfl,F⟩ (bG [0])
  refine fg rfl hb3 ?_;refine aJ ?_;obtain⟨x0,F,hK0⟩:=qd F;refine ctx (sX 58 [pf 1 (.int .i64 a1),(2,some (.lp 0 0)),pf 34 (.bool x0)] [bf 0 55 (ax a0)] 1) ?_ ?_
  ·refine gg ?_;obtain⟨y1,h1,F⟩:=bs F;refine rq (clA 1 (jf h1)) ?_;refine iq F (fun hb5 F=> ?_) fun hb5 F=> ?_
   ·refine rqn hb5 (kO rfl rfl rfl rfl rfl rfl) ?_;refine iq F (fun hb8 F=> ?_) fun hb8 F=> ?_
    ·exact tl [0]
    refine rgn hb8 (dQ rfl rfl rfl rfl rfl rfl) ?_;exact tl [0]
   exact tl [0]
  have F:=hK0;refine go ?_;rcases mR F with⟨hb9,F⟩ | ⟨hb9,F⟩
  ·refine gk rfl hb9 ?_;refine ga5 ?_;refine gK ?_
   replace F:=pu F
   exact tl []
  refine fg rfl hb9 ?_;refine ga2 ?_;exact kf _ ⟨(),rfl,F⟩ (bG [0])
 rintro ⟨⟩ F;refine gg ?_;refine rq (kO rfl rfl rfl rfl rfl rfl) ?_;refine cq F (fun hb10 F=> ?_) fun hb10 F=> ?_
 ·refine rgp (dQ rfl rfl rfl rfl rfl rfl) ?_;exact tl []
 obtain⟨y2,h2,F⟩:=bs F;refine rgp (clA 1 (jf h2)) ?_;exact tl []
theorem tU {a0:List ai} {a1:List ai} {q2:ai->ai->Option Bool} {r:Bool} {q2_f:Nat} {q2_c:List PV} (q2_b:cY Tryz.prog q2_f=true) (q2_h:∀ (x0:ai) (x1:ai) (r:Bool),q2 x0 x1=some r->FZ q2_f ([.agg (ap x0),.agg (ap x1)]++q2_c) [.p (.bool r)]) (F:iO a0 a1 q2=some r):FZ 206 [.vs 4 (bR a0),.vs 4 (bR a1),.fn q2_f q2_c] [.p (.bool r)]:=by
 unfold iO at F;refine fb 32 Tryz.func206 fun w O=> ?_;refine cq F (fun hb1 F=> ?_) fun hb1 F=> ?_
 ·exact tl []
 obtain⟨lr0,F,hK0⟩:=bs F;refine lpG (fun s1=>∃ q,lr0= .next q/\s1=(sX 32 [] [] 0)) (fun(q:Int)=>(sX 32 [pf 1 (.vs 4 (bR a1)),pf 2 (.fn q2_f q2_c),pf 15 (.vs 4 (bR a0)),pf 16 (.int .i64 (a0.length:Int)),pf 17 (.int .i64 q)] [] 0)) (fun k q=>gQ a0 a1 q2 k q) 0 (bG []) F (fun k x2 F ih=> ?_) ?_
 ·refine gg ?_;refine cq F (fun hb0 F=> ?_) fun hb0 F=> ?_
  ·obtain⟨y0,h0,F⟩:=bs F;refine gg ?_;obtain⟨y1,h1,F⟩:=bs F;refine gg ?_;refine rgp (la (ap y0) dR) ?_;refine rgp (la (ap y1) dR) ?_;obtain⟨y2,h2,F⟩:=bs F;refine rq (dx 2 rfl (caps:=q2_c) (args:=[.agg (ap y0),.agg (ap y1)]) (rs:=[.p (.bool y2)]) rfl rfl rfl q2_b (q2_h y0 y1 _ h2) rfl rfl rfl) ?_;refine cnd F (fun hb2 F=> ?_) fun hb2 F=> ?_
   ·refine ga7 ?_;refine ba ?_;cases F;have F:=bH hK0;exact tl []
   refine gg ?_;exact aP (ih (ae (x2+1)) F) (bG [])
  exact tl []
 rintro _ ⟨⟨⟩,rfl,rfl⟩;have F:=bW hK0;clear hK0;exact tl []
theorem KJ : ∀ n:Nat,(∀ (a0:ai) (a1:ai) (r:Bool),qH n a0 a1=some r->FZ 184 [.agg (ap a0),.agg (ap a1)] [.p (.bool r)]):=by
 intro n
 induction n with
 | zero=>exact(fun _ _ _ h=>by simp[qH] at h)
 | succ n ih=>
  have expr_Same_ih:=ih;clear ih;intro a0 a1 r F;unfold qH at F
  revert F expr_Same_ih
  generalize qH n=expr_Same_rec
  intro expr_Same_ih F;refine fb 31 Tryz.func184 fun w O=> ?_;refine iq F (fun hb1 F=> ?_) fun hb1 F=> ?_
  ·refine iq F (fun hb2 F=> ?_) fun hb2 F=> ?_
   ·refine rqn hb2 (dQ rfl rfl rfl rfl rfl rfl) ?_;refine iq F (fun hb3 F=> ?_) fun hb3 F=> ?_
    ·obtain⟨y6,h7,F⟩:=bs F;refine rgn hb3 (clA 2 (tU (q2_f:=184) (q2_c:=[]) (q2_b:=aaB) (q2_h:=fun _ _ r h=>(expr_Same_ih _ _ _ h)) h7)) ?_;exact tl []
    exact tl []
   exact tl []
  exact tl []
theorem NW {n:Nat} {a0:ai} {a1:ai} {r:Bool} (F:qH n a0 a1=some r):FZ 184 [.agg (ap a0),.agg (ap a1)] [.p (.bool r)]:=(KJ n) _ _ _ F

theorem Cy {a0:ai} {r:Bool} (F:uC a0=some r):FZ 163 [.agg (ap a0)] [.p (.bool r)]:=by
 unfold uC at F;refine fb 6 Tryz.func163 fun w O=> ?_;refine rgp (la (ap a0) dR) ?_;refine rgp (bd ((ap cA)) (ap cA) iZ pz) ?_;obtain⟨y1,h2,F⟩:=bs F;refine rgp (clA 1 (NW h2)) ?_;exact tl []
theorem tK {a0:List ai} {q1:ai->Option Bool} {r:Int} {q1_f:Nat} {q1_c:List PV} (q1_b:cY Tryz.prog q1_f=true) (q1_h:∀ (x0:ai) (r:Bool),q1 x0=some r->FZ q1_f ([.agg (ap x0)]++q1_c) [.p (.bool r)]) (F:gl a0 q1=some r):FZ 185 [.vs 4 (bR a0),.fn q1_f q1_c] [.p (.int .i64 r)]:=by
 unfold gl at F;refine fb 19 Tryz.func185 fun w O=> ?_;obtain⟨lr0,F,hK0⟩:=bs F;refine lpG (fun s1=>∃ q,lr0= .next q/\s1=(sX 19 [] [] 0)) (fun(q:Int)=>(sX 19 [pf 0 (.vs 4 (bR a0)),pf 1 (.fn q1_f q1_c),pf 7 (.int .i64 (a0.length:Int)),pf 8 (.int .i64 q)] [] 0)) (fun k q=>dv a0 q1 k q) 0 (bG []) F (fun k x1 F ih=> ?_) ?_
 ·refine gg ?_;refine cq F (fun hb0 F=> ?_) fun hb0 F=> ?_
  ·obtain⟨y0,h0,F⟩:=bs F;refine gg ?_;obtain⟨y1,h1,F⟩:=bs F;refine rq (dx 0 rfl (caps:=q1_c) (args:=[.agg (ap y0)]) (rs:=[.p (.bool y1)]) rfl rfl rfl q1_b (q1_h y0 _ h1) rfl rfl rfl) ?_;refine cnd F (fun hb1 F=> ?_) fun hb1 F=> ?_
   ·refine ga8 ?_;refine ba ?_;cases F;have F:=bH hK0;exact tl []
   refine gg ?_;exact aP (ih (ae (x1+1)) F) (bG [])
  exact tl []
 rintro _ ⟨⟨⟩,rfl,rfl⟩;have F:=bW hK0;clear hK0;exact tl []
theorem iK {a0:List ai} {q1:ai->Option Bool} {r:Bool} {q1_f:Nat} {q1_c:List PV} (q1_b:cY Tryz.prog q1_f=true) (q1_h:∀ (x0:ai) (r:Bool),q1 x0=some r->FZ q1_f ([.agg (ap x0)]++q1_c) [.p (.bool r)]) (F:cw a0 q1=some r):FZ 164 [.vs 4 (bR a0),.fn q1_f q1_c] [.p (.bool r)]:=by
 unfold cw at F;refine fb 9 Tryz.func164 fun w O=> ?_;obtain⟨y1,h2,F⟩:=bs F;refine rgp (clA 0 (tK (q1_b:=q1_b) (q1_h:=q1_h) h2)) ?_;exact tl []
theorem Jf : ∀ n:Nat,(∀ (a0:ai) (a1:Int) (r:Bool),lZ n a0 a1=some r->FZ 171 [.agg (ap a0),.int .i64 a1] [.p (.bool r)])/\(∀ (a0:ai) (c0:Int) (r:Bool),oh n a0 c0=some r->FZ 190 [.agg (ap a0),.vp (eI c0)] [.p (.bool r)]):=by
 intro n
 induction n with
 | zero=>exact⟨fun _ _ _ h=>by simp[lZ] at h,fun _ _ _ h=>by simp[oh] at h⟩
 | succ n ih=>
  obtain⟨expr_deep_ih,expr_deep_1_ih⟩:=ih;refine⟨?_,?_⟩
  ·intro a0 a1 r F;unfold lZ at F
   revert F expr_deep_ih expr_deep_1_ih
   generalize lZ n=expr_deep_rec
   generalize oh n=expr_deep_1_rec
   intro expr_deep_ih expr_deep_1_ih F;refine fb 12 Tryz.func171 fun w O=> ?_;refine cq F (fun hb1 F=> ?_) fun hb1 F=> ?_
   ·exact tl []
   refine rgp (kY rfl rfl rfl rfl) ?_;obtain⟨y3,h4,F⟩:=bs F;refine rgp (oX 2 rfl (caps:=[]) (args:=[.vs 4 (bR a0.az),.fn 190 [.vp (eI a1)]]) [(1,some (.box 3 [pI a1]))] rfl rfl rfl (FzH.spec ⟨rfl,trivial⟩) rfl rfl Wb (iK (q1_f:=190) (q1_c:=[.vp (eI a1)]) (q1_b:=abi) (q1_h:=fun _ r h=>(expr_deep_1_ih _ _ _ h)) h4) rfl rfl rfl) ?_;exact tl []
  ·intro a0 c0 r F;unfold oh at F
   revert F expr_deep_ih expr_deep_1_ih
   generalize lZ n=expr_deep_rec
   generalize oh n=expr_deep_1_rec
   intro expr_deep_ih expr_deep_1_ih F;refine fb 9 Tryz.func190 fun w O=> ?_;refine rq (la (ap a0) dR) ?_;obtain⟨y1,h2,F⟩:=bs F;refine rgp (clA 1 (expr_deep_ih _ _ _ h2)) ?_;exact tl []
theorem Pm {n:Nat} {a0:ai} {a1:Int} {r:Bool} (F:lZ n a0 a1=some r):FZ 171 [.agg (ap a0),.int .i64 a1] [.p (.bool r)]:=(Jf n).1 _ _ _ F
theorem SF {a0:ai} {r:ai} (F:Dm a0=some r):FZ 172 [.agg (ap a0)] [.p (.fn 191 [.vp (ap r)])]:=by
 unfold Dm at F;refine fb 4 Tryz.func172 fun w O=> ?_;refine rgp (kY rfl rfl rfl rfl) ?_;refine ga3 ?_;refine vn (gW [(0,some (.box 53 (bxv (ap a0))))] [(2,some (.pv (.fn 191 [.vp (ap a0)])))] (FzH.spec ⟨rfl,trivial⟩) ⟨⟨_,rfl,rfl⟩,trivial⟩) ?_;cases F;exact oE rfl rfl (.cons _ _ _ _ _ (.tmp _ _ rfl) (.p _) .nil) (.inl rfl)
theorem um {a0:List ai} {r:(List ai)} (F:ji a0=some r):FZ 192 [.vs 4 (bR a0)] [.p (.fn 207 [.vp ((fun x=>([.vs 4 (bR x)]:List PV)) r)])]:=by
 unfold ji at F;refine fb 4 Tryz.func192 fun w O=> ?_;refine rgp (kY rfl rfl rfl rfl) ?_;refine ga3 ?_;refine vn (gW [(0,some (.box 51 [.pv (.vs 4 (bR a0))]))] [(2,some (.pv (.fn 207 [.vp ((fun x=>([.vs 4 (bR x)]:List PV)) a0)])))] (FzH.spec ⟨rfl,trivial⟩) ⟨⟨_,rfl,rfl⟩,trivial⟩) ?_;cases F;exact oE rfl rfl (.cons _ _ _ _ _ (.tmp _ _ rfl) (.p _) .nil) (.inl rfl)
theorem tH {rows:List (Int×ai)} {sp:Nat} {c0:List ai} (F:iv rows sp c0=some (min (sp+1) rows.length)):It eg Tryz.prog 207 2 [.vp ((fun x=>([.vs 4 (bR x)]:List PV)) c0)] none [] (rows.map (fun z:Int×ai=>([.int .i64 z.1,.agg (ap z.2)]:List PV))) sp:=by
 unfold iv at F;refine IU (n:=19) Tryz.func207 rfl rfl rfl ?_;intro l c hcx;refine ga5 ?_;refine ci ?_;refine piz (sX 19 [pf 0 (.yld l),pf 1 (.vp ((fun x=>([.vs 4 (bR x)]:List PV)) c0)),pf 3 (.int .i64 (ae ((c0.length:Int) - 1)))] [] 0) [] ?_;refine gg ?_;obtain⟨lr0,F,hK0⟩:=bs F;refine lpG (fun s1=>∃ q,lr0= .next q/\s1=⟨19,[],[],0,[],[],q,[]⟩) (fun(q:Nat×Int)=>⟨19,[(0,some (.pv (.yld l))),(1,some (.pv (.vp ((fun x=>([.vs 4 (bR x)]:List PV)) c0)))),(3,some (pI q.2))],[],0,[],[],q.1,[]⟩) (fun k q=>dW c0 sp rows k q.1 q.2) (0,ae ((c0.length:Int) - 1)) (bG []) F (fun k ⟨x0,x1⟩ F ih=> ?_) ?_
 ·refine tp ?_;refine ga4 ?_;refine ci ?_;refine piz ⟨19,[(0,some (.pv (.yld l))),(1,some (.pv (.vp ((fun x=>([.vs 4 (bR x)]:List PV)) c0)))),(3,some (pI x1)),(8,some (pB (decide (x1 >= 0))))],[],0,[],[],x0,[]⟩ [] ?_;refine gg ?_;refine cq F (fun hb0 F=> ?_) fun hb0 F=> ?_
  ·obtain⟨y0,h0,F⟩:=bs F;refine gg ?_;obtain⟨u0,h1,F⟩:=bs F;refine rgp (Rn (row:=(fun z:Int×ai=>([.int .i64 z.1,.agg (ap z.2)]:List PV)) (x1,y0)) hcx rfl rfl rfl rfl (We (fun z:Int×ai=>([.int .i64 z.1,.agg (ap z.2)]:List PV)) h1) (JL h1).2 rfl rfl) ?_;refine go ?_;refine ci ?_;refine piz ⟨19,[(0,some (.pv (.yld l))),(1,some (.pv (.vp ((fun x=>([.vs 4 (bR x)]:List PV)) c0)))),(3,some (pI x1)),(18,some (pB (!(!(x0==sp)))))],[],0,[],[],(x0+1),[]⟩ [] ?_;refine gg ?_;refine cnd F (fun hb1 F=> ?_) fun hb1 F=> ?_
   ·refine ga4 ?_;refine ba ?_;cases F;have F:=bH hK0;exact GL (PJ F) rfl (.inl rfl)
   refine gg ?_;exact aP (ih ((x0+1),ae (x1 - 1)) F) (bG [])
  exact tl []
 rintro _ ⟨x2,rfl,rfl⟩;have F:=bW hK0;clear hK0;exact GL (PJ F) rfl (.inr rfl)

theorem Lv {rows:List (ai)} {sp:Nat} {c0:ai} (F:xW rows sp c0=some (min (sp+1) rows.length)):It eg Tryz.prog 191 1 [.vp (ap c0)] none [] (rows.map (fun z:ai=>([.agg (ap z)]:List PV))) sp:=by
 unfold xW at F;refine IU (n:=38) Tryz.func191 rfl rfl rfl ?_;intro l c hcx;refine gg ?_;refine rgp (SN 0 rfl (rows:=map ap ([c0]:List ai)) (rows':=bR ([c0]:List ai)) (zs:=(ap cA)) rfl rfl jG iZ (by exact⟨rfl,rfl,rfl,trivial,trivial⟩) rfl rfl rfl rfl rfl rfl (cr _) rfl rfl) ?_;refine rgp (al 1 [.nils] adm) ?_;refine cT (jR 1 0 51 53 4 2 rfl rfl rfl) ?_;refine go ?_;refine ci ?_;refine piz (sX 38 [pf 0 (.yld l),(3,some (.lp 0 0))] [(0,some (.box 51 [.ls 1])),(1,some (.row 53 4 (bR [c0])))] 2) [1,0] ?_;refine gg ?_;obtain⟨lr0,F,hK0⟩:=bs F;refine lpG (fun s1=>∃ q,lr0= .next q/\s1=⟨38,[],[],0,[],[],q,[]⟩) (fun(q:Nat×(List ai))=>⟨38,[(0,some (.pv (.yld l))),(3,some (.lp 0 0))],[(0,some (.box 51 [.ls 1])),(1,some (.row 53 4 (bR q.2)))],2,[],[],q.1,[]⟩) (fun k q=>nC sp rows k q.1 q.2) (0,[c0]) (bG [0,1]) F (fun k ⟨x0,x1⟩ F ih=> ?_) ?_
 ·refine gg ?_;refine rgp (jv rfl rfl rfl (Tc cr) jG rfl rfl) ?_;refine go ?_;refine ci ?_;refine piz ⟨38,[(0,some (.pv (.yld l))),(3,some (.lp 0 0)),(11,some (pB (decide ((x1.length:Int) > 0))))],[(0,some (.box 51 [.ls 1])),(1,some (.row 53 4 (bR x1)))],2,[],[],x0,[]⟩ [0,1] ?_;refine gg ?_;refine cq F (fun hb0 F=> ?_) fun hb0 F=> ?_
  ·refine rq (jv rfl rfl rfl (Tc cr) jG rfl rfl) ?_;obtain⟨y0,h0,F⟩:=bs F;refine rgp (qD rfl rfl rfl rfl (Dx cr h0) jG rfl rfl) ?_;refine rgp (IG (ps:=ap y0) rfl rfl rfl (aff cr h0) rfl rfl dR rfl rfl) ?_;refine ga2 ?_;refine ci ?_;refine piz ⟨38,[(0,some (.pv (.yld l))),(3,some (.lp 0 0)),(4,some (.lp 2 0))],[(0,some (.box 51 [.ls 1])),(1,some (.row 53 4 (bR x1))),(2,some (.box 53 (bxv (ap y0))))],3,[],[],x0,[]⟩ [0,1,2] ?_;refine gg ?_;refine rq (jv rfl rfl rfl (Tc cr) jG rfl rfl) ?_;obtain⟨y1,h1,F⟩:=bs F;refine rgp (Pw 3 rfl rfl rfl rfl rfl jG (aeE cr h1) rfl rfl) ?_;refine go ?_;refine ci ?_;refine piz ⟨38,[(0,some (.pv (.yld l))),(3,some (.lp 0 0)),(4,some (.lp 2 0))],[(0,some (.box 51 [.ls 1])),(1,some (.row 53 4 (bR y1))),(2,some (.box 53 (bxv (ap y0))))],3,[],[],x0,[]⟩ [0,3,2] ?_;refine gg ?_;refine rgp (la (ap y0) dR) ?_;obtain⟨u0,h2,F⟩:=bs F;refine rgp (Rn (row:=(fun z:ai=>([.agg (ap z)]:List PV)) y0) hcx rfl rfl rfl rfl (We (fun z:ai=>([.agg (ap z)]:List PV)) h2) (JL h2).2 rfl rfl) ?_;refine go ?_;refine ci ?_;refine piz ⟨38,[(0,some (.pv (.yld l))),(3,some (.lp 0 0)),(4,some (.lp 2 0)),(26,some (pB (!(!(x0==sp)))))],[(0,some (.box 51 [.ls 1])),(1,some (.row 53 4 (bR y1))),(2,some (.box 53 (bxv (ap y0))))],3,[],[],(x0+1),[]⟩ [0,1,2] ?_;refine gg ?_;refine cnd F (fun hb1 F=> ?_) fun hb1 F=> ?_
   ·refine ga4 ?_;refine ba ?_;cases F;have F:=bH hK0;exact GL (PJ F) rfl (.inl rfl)
   refine gg ?_;obtain⟨y2,h3,F⟩:=bs F;refine rgp (clA 3 (um h3)) ?_;refine ci ?_;refine piz ⟨38,[(0,some (.pv (.yld l))),(3,some (.lp 0 0)),(29,some (.pv (.fn 207 [.vp ((fun x=>([.vs 4 (bR x)]:List PV)) y2)])))],[(0,some (.box 51 [.ls 1])),(1,some (.row 53 4 (bR y1)))],2,[],[],(x0+1),[]⟩ [0,1] ?_;refine go ?_;refine cI ?_;refine DJ (s':=⟨38,[(0,some (.pv (.yld l))),(3,some (.lp 0 0)),(29,some (.pv (.fn 207 [.vp ((fun x=>([.vs 4 (bR x)]:List PV)) y2)])))],[(0,some (.box 51 [.ls 1])),(1,some (.row 53 4 (bR y1)))],2,[],[],(x0+1),[]⟩) (bG [0,1]) ?_;obtain⟨rows0,hR139,F⟩:=bs F;obtain⟨lr1,hL141,F⟩:=bs F;refine Cd (X:=(Int×ai)) (Q:=(List ai)) (E:=Unit) (pre:=[.vp ((fun x=>([.vs 4 (bR x)]:List PV)) y2)]) (bx:=none) (post:=[]) (kt:=[0,3]) (psl:=[30,31]) none (fun z:Int×ai=>([.int .i64 z.1,.agg (ap z.2)]:List PV)) rows0 pH y1 lr1 hL141 (fun q=>⟨38,[(0,some (.pv (.yld l))),(3,some (.lp 0 0))],[(0,some (.box 51 [.ls 1])),(1,some (.row 53 4 (bR q)))],2,[],[],(x0+1),[]⟩) (fun _=>(.ret,(sX 38 [] [] 0))) ⟨rfl,rfl⟩ abh (fun sp=>tH (zA hR139 sp)) (fun _=>rfl) rfl rfl (by decide) rfl (fun x q=>⟨38,[(0,some (.pv (.yld l))),(3,some (.lp 0 0)),(6,some (.lp 2 0)),(30,some (pI x.1)),(31,some (.pv (.agg (ap x.2))))],[(0,some (.box 51 [.ls 1])),(1,some (.row 53 4 (bR q))),(2,some (.box 53 (bxv (ap x.2))))],3,[],[],(x0+1),[0,3]⟩) (fun q=>⟨rfl,rfl,rfl,rfl⟩) (fun z=>⟨rfl,rfl,rfl,rfl⟩) (fun z=>rfl) rfl rfl ⟨rfl,rfl,trivial⟩ ⟨⟨rfl,rfl,rfl⟩,⟨rfl,rfl,rfl⟩,trivial⟩ ?_ ?_ ?_ ?_
   ·rintro l142 c143 ⟨x2,x3⟩ x4 hc144;refine ga3 ?_;refine ci ?_;exact MC (bG [0,1,2])
   ·rintro l142 c143 ⟨x2,x3⟩ x4 r145 hc144 F
    rw[pH] at F
    have hcx:=hcx.round hc144;refine cI ?_;refine DJ (zH 1) ?_;refine dt ⟨_,_,_⟩ rfl ?_;refine dgo ?_;refine bg { need:=[(6,.lp 2 0)],hneed:=[(2,.box 53 (bxv (ap x3)))],dst:=some 33,val:=some (.pv (.agg (ap x3))) } (fun m h=>bq (bQ rfl) (eZ (ps:=ap x3) rfl h.1.1 h.2.1.1 rfl rfl rfl dR rfl rfl) rfl) ⟨⟨rfl,trivial⟩,⟨rfl,trivial⟩,trivial⟩ ?_;refine bg { need:=[(32,.ls 1)],hneed:=[(1,.row 53 4 (bR x4))],dst:=some 34,val:=some (pI (x4.length:Int)) } (fun m h=>bq (bQ rfl) (jv rfl h.1.1 h.2.1.1 (Tc cr) jG rfl rfl) rfl) ⟨⟨rfl,trivial⟩,⟨rfl,trivial⟩,trivial⟩ ?_;refine dk 35 [] (.pv (.vs 4 (bR ([cA]:List ai)))) (fun m h=>⟨_,abp (zs:=(ap cA)) (rows:=bR ([cA]:List ai)) rfl jG iZ (by exact⟨rfl,rfl,rfl,trivial,trivial⟩) (by exact⟨rfl,rfl,rfl,trivial,trivial⟩) rfl rfl rfl rfl rfl rfl rfl,rfl⟩) ?_;obtain⟨u1,h4,F⟩:=bs F;refine bg { need:=[(32,.ls 1),(35,.pv (.vs 4 (bR ([cA]:List ai))))],hneed:=[(1,.row 53 4 (bR x4))],names:=[3],dst:=some 36,val:=some (.ls 3),upd:=[(3,some (.row 53 4 (bR (x4++([cA]:List ai))))),(1,none)] } (fun m h=>bq (bQ rfl) (fJ 3 (BE h.2.2.1) rfl h.1.1 h.2.1.1 h.1.2.1 jG Zh iZ rfl rfl rfl (UI cr h4) (abT cr _ _) rfl rfl) rfl) ⟨⟨rfl,rfl,trivial⟩,⟨rfl,trivial⟩,⟨rfl,trivial⟩⟩ ?_;obtain⟨y3,h5,F⟩:=bs F;refine bg { need:=[(36,.ls 3),(34,pI (x4.length:Int))],hneed:=[(3,.row 53 4 (bR (x4++([cA]:List ai))))],dst:=some 37,val:=some (.le 3 4 ((x4.length:Int):Int).toNat 0) } (fun m h=>bq (bQ rfl) (qD rfl h.1.1 h.1.2.1 h.2.1.1 (Dx cr h5) jG rfl rfl) rfl) ⟨⟨rfl,rfl,trivial⟩,⟨rfl,trivial⟩,trivial⟩ ?_;refine bg { need:=[(37,.le 3 4 ((x4.length:Int):Int).toNat 0),(33,.pv (.agg (ap x3)))],hneed:=[(3,.row 53 4 (bR (x4++([cA]:List ai))))],upd:=[(3,some (.row 53 4 (bR ((x4++([cA]:List ai)).set ((x4.length:Int):Int).toNat x3))))] } (fun m h=>bq (bQ rfl) (yQ rfl h.1.1 h.1.2.1 rfl h.2.1.1 (aff cr h5) (Ef dR) (by rw[Ul];rfl) rfl (afD cr (x4++([cA]:List ai)) _ x3) rfl rfl) rfl) ⟨⟨rfl,rfl,trivial⟩,⟨rfl,trivial⟩,trivial⟩ ?_;refine bg { need:=[(3,.lp 0 0),(36,.ls 3)],hneed:=[(0,.box 51 [.ls 1])],upd:=[(0,some (.box 51 [.ls 3]))] } (fun m h=>bq (bQ rfl) (kZ (n:=1) rfl h.1.1 h.1.2.1 rfl h.2.1.1 (DP SY) (by rw[SY];rfl) rfl rfl rfl) rfl) ⟨⟨rfl,rfl,trivial⟩,⟨rfl,trivial⟩,trivial⟩ ?_;refine drn ?_
    refine piz ⟨38,[(0,some (.pv (.yld l))),(3,some (.lp 0 0))],[(0,some (.box 51 [.ls 1])),(1,some (.row 53 4 (bR ((x4++([cA]:List ai)).set ((x4.length:Int):Int).toNat x3))))],2,[],[],(x0+1),[0,3]⟩ [0,3] ?_;refine gg ?_;cases F;exact RR ((x4++([cA]:List ai)).set ((x4.length:Int):Int).toNat x3) rfl (bG [0,1])
   ·rintro x4 rfl;have F:=bW F;refine ga2 ?_;refine fu ?_;exact aP (ih ((x0+1),x4) F) (bG [0,1])
   rintro ⟨⟩ rfl;have F:=bH F;cases F
  exact tl []
 rintro _ ⟨x5,rfl,rfl⟩;have F:=bW hK0;clear hK0;exact GL (PJ F) rfl (.inr rfl)

theorem Ph {a0:Int} {r:Int} (F:ww a0=some r):FZ 193 [.int .i64 a0] [.p (.int .i64 r)]:=by
 unfold ww at F;refine bM (n:=21) Tryz.func193 rfl rfl rfl fun w O=> ?_;refine ga7 ?_;refine cI ?_;refine aJ ?_;obtain⟨x5,F,hK7⟩:=bs F;refine ctx (sX 21 [pf 3 (.int .i64 a0),pf 4 (.bool x5)] [] 0) ?_ ?_
 ·refine go4 ?_;refine cnd F (fun hb1 F=> ?_) fun hb1 F=> ?_
  ·exact tl []
  refine go4 ?_;refine cnd F (fun hb2 F=> ?_) fun hb2 F=> ?_
  ·exact tl []
  refine go4 ?_;refine cnd F (fun hb3 F=> ?_) fun hb3 F=> ?_
  ·exact tl []
  refine go4 ?_;refine cnd F (fun hb4 F=> ?_) fun hb4 F=> ?_
  ·exact tl []
  exact tl []
 have F:=hK7;refine gg ?_;refine cnd F (fun hb8 F=> ?_) fun hb8 F=> ?_
 ·exact tl []
 refine aJ ?_;obtain⟨x0,F,hK0⟩:=bs F;refine ctx (sX 21 [pf 3 (.int .i64 a0),pf 10 (.bool x0)] [] 0) ?_ ?_
 ·refine go4 ?_;refine cnd F (fun hb9 F=> ?_) fun hb9 F=> ?_
  ·exact tl []
  exact tl []
 have F:=hK0;refine gg ?_;refine cnd F (fun hb0 F=> ?_) fun hb0 F=> ?_
 ·exact tl []
 refine aJ ?_;obtain⟨x1,F,hK1⟩:=bs F;refine ctx (sX 21 [pf 13 (.bool x1)] [] 0) ?_ ?_
 ·refine go4 ?_;refine cnd F (fun hb5 F=> ?_) fun hb5 F=> ?_
  ·exact tl []
  refine go4 ?_;refine cnd F (fun hb6 F=> ?_) fun hb6 F=> ?_
  ·exact tl []
  refine go4 ?_;refine cnd F (fun hb7 F=> ?_) fun hb7 F=> ?_
  ·exact tl []
  refine go4 ?_;refine cnd F (fun hb10 F=> ?_) fun hb10 F=> ?_
  ·exact tl []
  refine go4 ?_;refine cnd F (fun hb11 F=> ?_) fun hb11 F=> ?_
  ·exact tl []
  refine go4 ?_;refine cnd F (fun hb12 F=> ?_) fun hb12 F=> ?_
  ·exact tl []
  exact tl []
 have F:=hK1;refine go ?_;refine cnd F (fun hb20 F=> ?_) fun hb20 F=> ?_
 ·exact tl []
 exact tl []
theorem GH {a0:ai} {c0:ai} {r:Bool} (F:qY a0 c0=some r):FZ 194 [.agg (ap a0),.vp (ap c0)] [.p (.bool r)]:=by
 unfold qY at F;refine bM (n:=22) Tryz.func194 rfl rfl rfl fun w O=> ?_;exact tl []
abbrev yg (a0:ai):Eff:={ need:=[(24,pB (a0.aa != 2)),(26,pS a0.af)],dst:=some 27,val:=some (pB (!(a0.af==[]))) }
theorem Mu {a0:ai} {r:Bool} (F:uV a0=some r):FZ 173 [.agg (ap a0)] [.p (.bool r)]:=by
 unfold uV at F;refine bM (n:=55) Tryz.func173 rfl rfl rfl fun w O=> ?_;refine ga4 ?_;(iterate 2 refine aJ ?_);obtain⟨x0,F,hK0⟩:=bs F;refine ctx (sX 55 [(1,some (.lp 0 0)),pf 29 (.bool x0)] [bf 0 53 (ap a0)] 1) ?_ ?_
 ·refine dt ⟨_,_,_⟩ rfl ?_;refine dd ?_;refine dk 5 [(4,.pv (.vs 4 (bR a0.az)))] (pI (a0.az.length:Int)) (fun m h=>⟨_,Ae rfl h.1.1 (Tc cr) jG rfl rfl,rfl⟩) ?_;refine dd ?_;obtain⟨y3,h4,F⟩:=bs F;refine dk 8 [(7,pI a0.aa)] (pI y3) (fun m h=>⟨_,dx 1 rfl (caps:=[]) (args:=[.int .i64 a0.aa]) (rs:=[.p (.int .i64 y3)]) rfl rfl (bm h.1.1 dM) aaR (Ph h4) rfl rfl rfl,rfl⟩) ?_;refine dd ?_;rcases ie F with⟨hb5,F⟩ | ⟨hb5,F⟩
  ·exact tm [0]
  refine dd ?_;rcases ie F with⟨hb6,F⟩ | ⟨hb6,F⟩
  ·refine dd ?_;rcases ie F with⟨hb7,F⟩ | ⟨hb7,F⟩
   ·exact tm [0]
   refine dd ?_;rcases ie F with⟨hb8,F⟩ | ⟨hb8,F⟩
   ·refine dd ?_;refine bg (yg a0) (fun m h=>bq (cD rfl rfl rfl h.1.1 hb8) (dQ rfl h.1.2.1 rfl rfl rfl rfl) rfl) ⟨⟨rfl,rfl,trivial⟩,trivial,trivial⟩ ?_;exact tm [0]
   (iterate 3 refine zB hb8 ?_);refine dkg hb7 28 [(24,pB (a0.aa != 2))] (pB false) (fun m h=>⟨_,dI rfl h.1.2.1 hb8 rfl rfl rfl,rfl⟩) ?_;refine dd ?_;refine drn ?_;refine piz (sX 55 [(1,some (.lp 0 0)),pf 29 (.bool false)] [bf 0 53 (ap a0)] 1) [0] ?_;exact tl [0]
  (iterate 3 refine zB hb6 ?_);refine dkg hb5 18 [(14,pB (a0.aa != 1))] (pB false) (fun m h=>⟨_,dI rfl h.1.2.1 hb6 rfl rfl rfl,rfl⟩) ?_;refine dd ?_;rcases ie F with⟨hb9,F⟩ | ⟨hb9,F⟩
  ·refine dgn hb9 ?_;refine dd ?_;refine bg (yg a0) (fun m h=>bq (cD rfl rfl rfl h.1.1 hb9) (dQ rfl h.1.2.1 rfl rfl rfl rfl) rfl) ⟨⟨rfl,rfl,trivial⟩,trivial,trivial⟩ ?_;exact tm [0]
  (iterate 3 refine zB hb9 ?_);refine dkg rfl 28 [(24,pB (a0.aa != 2))] (pB false) (fun m h=>⟨_,dI rfl h.1.2.1 hb9 rfl rfl rfl,rfl⟩) ?_;refine dd ?_;refine drn ?_;refine piz (sX 55 [(1,some (.lp 0 0)),pf 29 (.bool false)] [bf 0 53 (ap a0)] 1) [0] ?_;exact tl [0]
 have F:=hK0;refine gg ?_;refine cq F (fun hb0 F=> ?_) fun hb0 F=> ?_
 ·exact tl []
 refine cq F (fun hb1 F=> ?_) fun hb1 F=> ?_
 ·exact tl []
 refine cnd F (fun hb2 F=> ?_) fun hb2 F=> ?_
 ·refine gg ?_;obtain⟨y0,h0,F⟩:=bs F;refine rgp (clA 1 (jf h0)) ?_;exact tl []
 refine aJ ?_;obtain⟨x1,F,hK1⟩:=bs F;refine ctx (sX 55 [(1,some (.lp 0 0)),pf 47 (.bool x1)] [bf 0 53 (ap a0)] 1) ?_ ?_
 ·refine go4 ?_;refine cnd F (fun hb3 F=> ?_) fun hb3 F=> ?_
  ·exact tl [0]
  exact tl [0]
 have F:=hK1;refine gg ?_;refine cq F (fun hb4 F=> ?_) fun hb4 F=> ?_
 ·refine rgp (kY rfl rfl rfl rfl) ?_;obtain⟨y1,h1,F⟩:=bs F;refine rgp (oX 1 rfl (caps:=[]) (args:=[.vs 4 (bR a0.az),.fn 194 [.vp (ap a0)]]) [(0,some (.box 53 (bxv (ap a0))))] rfl rfl rfl (FzH.spec ⟨rfl,trivial⟩) rfl rfl Wb (iK (q1_f:=194) (q1_c:=[.vp (ap a0)]) (q1_b:=abg) (q1_h:=fun _ r h=>(GH h)) h1) rfl rfl rfl) ?_;exact tl []
 exact tl []
theorem wa {a0:ai} {r:Bool} (F:qm a0=some r):FZ 138 [.agg (ap a0)] [.p (.bool r)]:=by
 unfold qm at F;refine bM (n:=13) Tryz.func138 rfl rfl rfl fun w O=> ?_;refine go ?_;refine rgp (bo 0) ?_;refine rgp (al 1 [.bool false] afc) ?_;refine go3 ?_;refine rgp (la (ap a0) dR) ?_;obtain⟨y3,h4,F⟩:=bs F;refine rq (clA 2 (Pm h4)) ?_;refine cq F (fun hb5 F=> ?_) fun hb5 F=> ?_
 ·cases F;exact oE rfl rfl (.cons _ _ _ _ _ (.one _ _ _ _ _ _ _ rfl rfl VE rfl) (.p _) .nil) (.inl rfl)
 refine rgp (la (ap a0) dR) ?_;obtain⟨y8,h9,F⟩:=bs F;refine rgp (clA 2 (SF h9)) ?_;refine go ?_;refine cI ?_;refine DJ (s':=(sX 13 [(2,some (.lp 0 0)),pf 8 (.fn 191 [.vp (ap y8)])] [(0,some (.box 4 [pB false]))] 1)) (bG [1]) ?_;obtain⟨rows0,hR29,F⟩:=bs F;obtain⟨lr0,hL31,F⟩:=bs F;refine Cd (X:=ai) (Q:=Unit) (E:=Unit) (pre:=[.vp (ap y8)]) (bx:=none) (post:=[]) (kt:=[2]) (psl:=[9]) none (fun z:ai=>([.agg (ap z)]:List PV)) rows0 pJ () lr0 hL31 (fun q=>(sX 13 [(2,some (.lp 0 0))] [(0,some (.box 4 [pB false]))] 1)) (fun z=>(.ret,(sX 13 [(2,some (.lp 0 0))] [(0,some (.box 4 [pB false]))] 1))) ⟨rfl,rfl⟩ abV (fun sp=>Lv (TK hR29 sp)) (fun _=>rfl) rfl rfl (by decide) rfl (fun x q=>⟨13,[(2,some (.lp 0 0)),(3,some (.lp 1 0)),(9,some (.pv (.agg (ap x))))],[(0,some (.box 4 [pB false])),(1,some (.box 53 (bxv (ap x))))],2,[],[],0,[2]⟩) (fun q=>⟨rfl,rfl,rfl,rfl⟩) (fun z=>⟨rfl,rfl,rfl,rfl⟩) (fun z=>rfl) rfl rfl ⟨rfl,trivial⟩ ⟨⟨rfl,rfl,rfl⟩,trivial⟩ ?_ ?_ ?_ ?_
 ·rintro l32 c33 x0 ⟨⟩ hc34;refine ga3 ?_;refine ci ?_;exact MC (bG [0,1])
 ·rintro l32 c33 x0 ⟨⟩ r35 hc34 F;refine gg ?_;refine rgp (la (ap x0) dR) ?_;obtain⟨y0,h0,F⟩:=bs F;refine rq (clA 2 (Mu h0)) ?_;refine cq F (fun hb0 F=> ?_) fun hb0 F=> ?_
  ·cases F;exact Oo () rfl rfl (bG [0])
  cases F;exact RR () rfl (bG [0])
 ·rintro ⟨⟩ rfl;have F:=bW F;refine gg ?_;cases F;exact oE rfl rfl (.cons _ _ _ _ _ (.one _ _ _ _ _ _ _ rfl rfl VE rfl) (.p _) .nil) (.inl rfl)
 rintro ⟨⟩ rfl;have F:=bH F
 show gw _ _ .ret _
 refine gg ?_;cases F;exact oE rfl rfl (.cons _ _ _ _ _ (.one _ _ _ _ _ _ _ rfl rfl VE rfl) (.p _) .nil) (.inl rfl)
theorem Kc {a0:ai} {r:Bool} (F:ti a0=some r):FZ 165 [.agg (ap a0)] [.p (.bool r)]:=by
 unfold ti at F;refine fb 6 Tryz.func165 fun w O=> ?_;refine rgp (la (ap a0) dR) ?_;obtain⟨y1,h2,F⟩:=bs F;refine rgp (clA 1 (wa h2)) ?_;exact tl []
theorem O8 {a0:ah} {a1:Int} {a2:Int} {r:Bool} (F:wy a0 a1 a2=some r):FZ 132 [.agg (ax a0),.int .i64 a1,.int .i64 a2] [.p (.bool r)]:=by
 unfold wy at F;refine bM (n:=96) Tryz.func132 rfl rfl rfl fun w O=> ?_;refine ga4 ?_;(iterate 2 refine aJ ?_);obtain⟨x0,F,hK0⟩:=bs F;refine ctq (sX 96 [pf 1 (.int .i64 a1),(3,some (.lp 0 0)),pf 33 (.bool x0)] [bf 0 55 (ax a0)] 1) ?_ ?_
 ·refine rq (kO rfl rfl rfl rfl rfl rfl) ?_;refine iq F (fun hb1 F=> ?_) fun hb1 F=> ?_
  ·refine rgn hb1 (la (bt a0.av) fH) ?_;refine rgn hb1 (bd ((bt dY)) (bt dY) uL BR) ?_;refine rqn hb1 (mJ (r:=jp a0.av dY) rfl rfl rfl Bh rfl rfl rfl rfl rfl) ?_;refine iq F (fun hb2 F=> ?_) fun hb2 F=> ?_
   ·exact tl [0]
   refine rqn hb2 (kO rfl rfl rfl rfl rfl rfl) ?_;refine iq F (fun hb3 F=> ?_) fun hb3 F=> ?_
   ·refine iq F (fun hb4 F=> ?_) fun hb4 F=> ?_
    ·exact tl [0]
    refine rqn hb4 (la (bt a0.av) fH) ?_;obtain⟨y5,h6,F⟩:=bs F;refine rgn hb4 (clA 1 (sy h6)) ?_;exact tl [0]
   exact tl [0]
  refine rqn rfl (kO rfl rfl rfl rfl rfl rfl) ?_;refine iq F (fun hb7 F=> ?_) fun hb7 F=> ?_
  ·refine iq F (fun hb8 F=> ?_) fun hb8 F=> ?_
   ·exact tl [0]
   refine rqn hb8 (la (bt a0.av) fH) ?_;obtain⟨y9,h0,F⟩:=bs F;refine rgn hb8 (clA 1 (sy h0)) ?_;exact tl [0]
  exact tl [0]
 have F:=hK0;refine cnd F (fun hb0 F=> ?_) fun hb0 F=> ?_
 ·exact tl []
 refine ga2 ?_;refine aJ ?_;refine Dl F (fun q=>(sX 96 [pf 1 (.int .i64 a1),(3,some (.lp 0 0))] [bf 0 55 (ax a0)] 1)) ?_ ?_
 ·refine cI ?_;refine aJ ?_;obtain⟨x1,F,hK1⟩:=qd F;refine ctx (sX 96 [pf 1 (.int .i64 a1),(3,some (.lp 0 0)),pf 34 (.bool x1)] [bf 0 55 (ax a0)] 1) ?_ ?_
  ·refine gg ?_;refine rq (kO rfl rfl rfl rfl rfl rfl) ?_;refine iq F (fun hb5 F=> ?_) fun hb5 F=> ?_
   ·exact tl [0]
   refine iq F (fun hb6 F=> ?_) fun hb6 F=> ?_
   ·refine rgn hb6 (la (ap a0.fE) dR) ?_;obtain⟨y0,h1,F⟩:=bs F;refine rgn hb6 (clA 1 (Cy h1)) ?_;exact tl [0]
   exact tl [0]
  have F:=hK1;refine go ?_;rcases mR F with⟨hb9,F⟩ | ⟨hb9,F⟩
  ·refine gk rfl hb9 ?_;refine gg ?_;refine rgp (la (ap a0.fE) dR) ?_;obtain⟨y1,h2,F⟩:=qd F;refine rgp (clA 1 (Cy h2)) ?_;refine ga2 ?_;rcases mR F with⟨hb10,F⟩ | ⟨hb10,F⟩
   ·refine gk rfl hb10 ?_;refine ga5 ?_;refine gK ?_
    replace F:=pu F
    exact tl []
   refine fg rfl hb10 ?_;refine ga2 ?_;exact kf _ ⟨(),rfl,F⟩ (bG [0])
  refine fg rfl hb9 ?_;refine gg ?_;refine rgp (la (ap a0.fE) dR) ?_;obtain⟨y2,h3,F⟩:=qd F;refine rgp (clA 1 (wa h3)) ?_;refine ga3 ?_;rcases mR F with⟨hb11,F⟩ | ⟨hb11,F⟩
  ·refine gk rfl hb11 ?_;refine ga5 ?_;refine gK ?_
   replace F:=pu F
   exact tl []
  refine fg rfl hb11 ?_;refine aJ ?_;obtain⟨x2,F,hK2⟩:=qd F;refine ctx (sX 96 [pf 1 (.int .i64 a1),(3,some (.lp 0 0)),pf 57 (.bool x2)] [bf 0 55 (ax a0)] 1) ?_ ?_
  ·exact tl [0]
  have F:=hK2;refine go ?_;rcases mR F with⟨hb12,F⟩ | ⟨hb12,F⟩
  ·refine gk rfl hb12 ?_;refine ga5 ?_;refine gK ?_
   replace F:=pu F
   exact tl []
  refine fg rfl hb12 ?_;refine ga2 ?_;exact kf _ ⟨(),rfl,F⟩ (bG [0])
 rintro ⟨⟩ F;refine gg ?_;refine rq (kO rfl rfl rfl rfl rfl rfl) ?_;refine cq F (fun hb13 F=> ?_) fun hb13 F=> ?_
 ·exact tl []
 refine iq F (fun hb17 F=> ?_) fun hb17 F=> ?_
 ·obtain⟨y3,h4,F⟩:=bs F;refine rgn hb17 (clA 1 (iK (q1_f:=165) (q1_c:=[]) (q1_b:=aaO) (q1_h:=fun _ r h=>(Kc h)) h4)) ?_;exact tl []
 exact tl []
theorem tI {a0:List ah} {q1:ah->Option Bool} {r:Int} {q1_f:Nat} {q1_c:List PV} (q1_b:cY Tryz.prog q1_f=true) (q1_h:∀ (x0:ah) (r:Bool),q1 x0=some r->FZ q1_f ([.agg (ax x0)]++q1_c) [.p (.bool r)]) (F:iM a0 q1=some r):FZ 166 [.vs 23 (bT a0),.fn q1_f q1_c] [.p (.int .i64 r)]:=by
 unfold iM at F;refine fb 19 Tryz.func166 fun w O=> ?_;obtain⟨lr0,F,hK0⟩:=bs F;refine lpG (fun s1=>∃ q,lr0= .next q/\s1=(sX 19 [] [] 0)) (fun(q:Int)=>(sX 19 [pf 0 (.vs 23 (bT a0)),pf 1 (.fn q1_f q1_c),pf 7 (.int .i64 (a0.length:Int)),pf 8 (.int .i64 q)] [] 0)) (fun k q=>fc a0 q1 k q) 0 (bG []) F (fun k x1 F ih=> ?_) ?_
 ·refine gg ?_;refine cq F (fun hb0 F=> ?_) fun hb0 F=> ?_
  ·obtain⟨y0,h0,F⟩:=bs F;refine gg ?_;obtain⟨y1,h1,F⟩:=bs F;refine rq (dx 0 rfl (caps:=q1_c) (args:=[.agg (ax y0)]) (rs:=[.p (.bool y1)]) rfl rfl rfl q1_b (q1_h y0 _ h1) rfl rfl rfl) ?_;refine cnd F (fun hb1 F=> ?_) fun hb1 F=> ?_
   ·refine ga8 ?_;refine ba ?_;cases F;have F:=bH hK0;exact tl []
   refine gg ?_;exact aP (ih (ae (x1+1)) F) (bG [])
  exact tl []
 rintro _ ⟨⟨⟩,rfl,rfl⟩;have F:=bW hK0;clear hK0;exact tl []
theorem lJ {a0:List ah} {q1:ah->Option Bool} {r:Bool} {q1_f:Nat} {q1_c:List PV} (q1_b:cY Tryz.prog q1_f=true) (q1_h:∀ (x0:ah) (r:Bool),q1 x0=some r->FZ q1_f ([.agg (ax x0)]++q1_c) [.p (.bool r)]) (F:ea a0 q1=some r):FZ 134 [.vs 23 (bT a0),.fn q1_f q1_c] [.p (.bool r)]:=by
 unfold ea at F;refine fb 9 Tryz.func134 fun w O=> ?_;obtain⟨y1,h2,F⟩:=bs F;refine rgp (clA 0 (tI (q1_b:=q1_b) (q1_h:=q1_h) h2)) ?_;exact tl []
theorem Gh : ∀ n:Nat,(∀ (a0:ah) (a1:Int) (a2:Int) (r:Bool),lG n a0 a1 a2=some r->FZ 106 [.agg (ax a0),.int .i64 a1,.int .i64 a2] [.p (.bool r)])/\(∀ (a0:ah) (c0:Int) (c1:Int) (r:Bool),il n a0 c0 c1=some r->FZ 133 [.agg (ax a0),.vp (eI c0),.vp (eI c1)] [.p (.bool r)]):=by
 intro n
 induction n with
 | zero=>exact⟨fun _ _ _ _ h=>by simp[lG] at h,fun _ _ _ _ h=>by simp[il] at h⟩
 | succ n ih=>
  obtain⟨stmt_right_ih,stmt_right_1_ih⟩:=ih;refine⟨?_,?_⟩
  ·intro a0 a1 a2 r F;unfold lG at F
   revert F stmt_right_ih stmt_right_1_ih
   generalize lG n=stmt_right_rec
   generalize il n=stmt_right_1_rec
   intro stmt_right_ih stmt_right_1_ih F;refine fb 66 Tryz.func106 fun w O=> ?_;obtain⟨y3,h4,F⟩:=bs F;refine rgp (clA 3 (Sg h4)) ?_;refine ga2 ?_;(iterate 2 refine aJ ?_);obtain⟨x0,F,hK0⟩:=bs F;refine ctq (sX 66 [(3,some (.lp 0 0)),(4,some (.lp 1 0)),(5,some (.lp 2 0)),pf 52 (.bool x0)] [bf 0 55 (ax a0),(1,some (.box 3 [pI a1])),(2,some (.box 3 [pI a2]))] 3) ?_ ?_
   ·refine iq F (fun hb5 F=> ?_) fun hb5 F=> ?_
    ·exact tl [0,1,2]
    rcases ie F with⟨hb6,F⟩ | ⟨hb6,F⟩
    ·exact tl [0,1,2]
    refine rqn hb6 (la (ax a0) ec) ?_;obtain⟨y7,h8,F⟩:=bs F;refine rqn hb6 (clA 3 (Mg h8)) ?_;rcases ie F with⟨hb9,F⟩ | ⟨hb9,F⟩
    ·exact tl [0,1,2]
    refine rqn hb9 (la (ax a0) ec) ?_;obtain⟨y0,h0,F⟩:=bs F;refine rqn hb9 (clA 3 (O8 h0)) ?_;refine iq F (fun hb0 F=> ?_) fun hb0 F=> ?_
    ·exact tl [0,1,2]
    refine rqn hb0 (kO rfl rfl rfl rfl rfl rfl) ?_;refine iq F (fun hb1 F=> ?_) fun hb1 F=> ?_
    ·refine iq F (fun hb2 F=> ?_) fun hb2 F=> ?_
     ·exact tl [0,1,2]
     refine rgn hb2 (kO rfl rfl rfl rfl rfl rfl) ?_;exact tl [0,1,2]
    refine rgn rfl (kO rfl rfl rfl rfl rfl rfl) ?_;exact tl [0,1,2]
   have F:=hK0;refine cq F (fun hb3 F=> ?_) fun hb3 F=> ?_
   ·exact tl []
   refine rq (kY rfl rfl rfl rfl) ?_;obtain⟨y2,h1,F⟩:=bs F;refine rq (oX 3 rfl (caps:=[]) (args:=[.vs 23 (bT a0.au),.fn 133 [.vp (eI a1),.vp (eI a2)]]) [(1,some (.box 3 [pI a1])),(2,some (.box 3 [pI a2]))] rfl rfl rfl (FzH.spec ⟨rfl,rfl,trivial⟩) rfl rfl Vh (lJ (q1_f:=133) (q1_c:=[.vp (eI a1),.vp (eI a2)]) (q1_b:=UJ) (q1_h:=fun _ r h=>(stmt_right_1_ih _ _ _ _ h)) h1) rfl rfl rfl) ?_;refine iq F (fun hb4 F=> ?_) fun hb4 F=> ?_
   ·obtain⟨y4,h3,F⟩:=bs F;refine rgn hb4 (oX 3 rfl (caps:=[]) (args:=[.vs 23 (bT a0.aZ),.fn 133 [.vp (eI a1),.vp (eI a2)]]) [(1,some (.box 3 [pI a1])),(2,some (.box 3 [pI a2]))] rfl rfl rfl (FzH.spec ⟨rfl,rfl,trivial⟩) rfl rfl Vh (lJ (q1_f:=133) (q1_c:=[.vp (eI a1),.vp (eI a2)]) (q1_b:=UJ) (q1_h:=fun _ r h=>(stmt_right_1_ih _ _ _ _ h)) h3) rfl rfl rfl) ?_;exact tl []
   exact tl []
  ·intro a0 c0 c1 r F;unfold il at F
   revert F stmt_right_ih stmt_right_1_ih
   generalize lG n=stmt_right_rec
   generalize il n=stmt_right_1_rec
   intro stmt_right_ih stmt_right_1_ih F;refine fb 11 Tryz.func133 fun w O=> ?_;refine rq (la (ax a0) ec) ?_;obtain⟨y1,h2,F⟩:=bs F;refine rgp (clA 1 (stmt_right_ih _ _ _ _ h2)) ?_;exact tl []
theorem Mj {n:Nat} {a0:ah} {a1:Int} {a2:Int} {r:Bool} (F:lG n a0 a1 a2=some r):FZ 106 [.agg (ax a0),.int .i64 a1,.int .i64 a2] [.p (.bool r)]:=(Gh n).1 _ _ _ _ F
theorem AH {a0:ah} {a1:Int} {r:Bool} (F:oz a0 a1=some r):FZ 77 [.agg (ax a0),.int .i64 a1] [.p (.bool r)]:=by
 unfold oz at F;refine fb 8 Tryz.func77 fun w O=> ?_;refine rq (la (ax a0) ec) ?_;obtain⟨y1,h2,F⟩:=bs F;refine rgp (clA 1 (Mj h2)) ?_;exact tl []
theorem Iw : ∀ n:Nat,(∀ (a0:List ah) (a1:Int) (r:Bool),gZ n a0 a1=some r->FZ 105 [.vs 23 (bT a0),.int .i64 a1] [.p (.bool r)]):=by
 intro n
 induction n with
 | zero=>exact(fun _ _ _ h=>by simp[gZ] at h)
 | succ n ih=>
  have size_body_ih:=ih;clear ih;intro a0 a1 r F;unfold gZ at F
  revert F size_body_ih
  generalize gZ n=size_body_rec
  intro size_body_ih F;refine fb 45 Tryz.func105 fun w O=> ?_;obtain⟨lr0,F,hK0⟩:=bs F;refine lpG (fun s1=>∃ q,lr0= .next q/\s1=(sX 45 [] [] 0)) (fun(q:Int)=>(sX 45 [pf 1 (.int .i64 a1),pf 7 (.vs 23 (bT a0)),pf 8 (.int .i64 (a0.length:Int)),pf 9 (.int .i64 q)] [] 0)) (fun k q=>pa a0 a1 size_body_rec k q) 0 (bG []) F (fun k x0 F ih=> ?_) ?_
  ·refine gg ?_;refine cq F (fun hb0 F=> ?_) fun hb0 F=> ?_
   ·obtain⟨y0,h0,F⟩:=bs F;refine ga5 ?_;refine aJ ?_;obtain⟨x1,F,hK1⟩:=bs F;refine ctq (sX 45 [pf 1 (.int .i64 a1),pf 7 (.vs 23 (bT a0)),pf 8 (.int .i64 (a0.length:Int)),pf 9 (.int .i64 x0),pf 43 (.bool x1)] [] 0) ?_ ?_
    ·refine rq (la (ax y0) ec) ?_;obtain⟨y1,h1,F⟩:=bs F;refine rq (clA 1 (AH h1)) ?_;refine iq F (fun hb1 F=> ?_) fun hb1 F=> ?_
     ·exact tl []
     refine iq F (fun hb2 F=> ?_) fun hb2 F=> ?_
     ·refine rqn hb2 (la (bt y0.av) fH) ?_;obtain⟨y2,h2,F⟩:=bs F;refine rqn hb2 (clA 1 (ud h2)) ?_;refine iq F (fun hb3 F=> ?_) fun hb3 F=> ?_
      ·exact tl []
      obtain⟨y3,h3,F⟩:=bs F;refine rqn hb3 (clA 1 (size_body_ih _ _ _ h3)) ?_;refine iq F (fun hb4 F=> ?_) fun hb4 F=> ?_
      ·exact tl []
      obtain⟨y4,h4,F⟩:=bs F;refine rgn hb4 (clA 1 (size_body_ih _ _ _ h4)) ?_;exact tl []
     obtain⟨y5,h5,F⟩:=bs F;refine rqn rfl (clA 1 (size_body_ih _ _ _ h5)) ?_;refine iq F (fun hb5 F=> ?_) fun hb5 F=> ?_
     ·exact tl []
     obtain⟨y6,h6,F⟩:=bs F;refine rgn hb5 (clA 1 (size_body_ih _ _ _ h6)) ?_;exact tl []
    have F:=hK1;refine cnd F (fun hb6 F=> ?_) fun hb6 F=> ?_
    ·refine ga7 ?_;refine ba ?_;cases F;have F:=bH hK0;exact tl []
    refine gg ?_;exact aP (ih (ae (x0+1)) F) (bG [])
   exact tl []
  rintro _ ⟨⟨⟩,rfl,rfl⟩;have F:=bW hK0;clear hK0;exact tl []
theorem Pu {n:Nat} {a0:List ah} {a1:Int} {r:Bool} (F:gZ n a0 a1=some r):FZ 105 [.vs 23 (bT a0),.int .i64 a1] [.p (.bool r)]:=(Iw n) _ _ _ F

theorem KC {a0:br} {a1:Int} {r:Bool} (F:tz a0 a1=some r):FZ 71 [.agg (aY a0),.int .i64 a1] [.p (.bool r)]:=by
 unfold tz at F;refine fb 32 Tryz.func71 fun w O=> ?_;obtain⟨y1,h2,F⟩:=bs F;refine rq (clA 1 (jf h2)) ?_;refine iq F (fun hb3 F=> ?_) fun hb3 F=> ?_
 ·refine rqn hb3 (la (bt a0.aQ) fH) ?_;obtain⟨y4,h5,F⟩:=bs F;refine rqn hb3 (clA 1 (ud h5)) ?_;refine iq F (fun hb6 F=> ?_) fun hb6 F=> ?_
  ·obtain⟨y7,h8,F⟩:=bs F;refine rqn hb6 (clA 1 (xt h8)) ?_;refine iq F (fun hb9 F=> ?_) fun hb9 F=> ?_
   ·obtain⟨y0,h0,F⟩:=bs F;refine rqn hb9 (clA 1 (xt h0)) ?_;refine iq F (fun hb0 F=> ?_) fun hb0 F=> ?_
    ·obtain⟨y2,h1,F⟩:=bs F;refine rgn hb0 (clA 1 (Pu h1)) ?_;exact tl []
    exact tl []
   exact tl []
  exact tl []
 exact tl []
theorem Gz {a0:br} {c0:Int} {r:Bool} (F:rL a0 c0=some r):FZ 70 [.agg (aY a0),.vp (eI c0)] [.p (.bool r)]:=by
 unfold rL at F;refine fb 8 Tryz.func70 fun w O=> ?_;refine rq (la (aY a0) yY) ?_;obtain⟨y1,h2,F⟩:=bs F;refine rgp (clA 1 (KC h2)) ?_;exact tl []
theorem Ma {a0:be} {r:Bool} (F:vr a0=some r):FZ 37 [.agg (aH a0)] [.p (.bool r)]:=by
 unfold vr at F;refine bM (n:=28) Tryz.func37 rfl rfl rfl fun w O=> ?_;refine go ?_;refine rgp (bo 0) ?_;refine go6 ?_;refine rgp (al 1 [.int .i64 0] aeQ) ?_;refine go3 ?_;refine rgp (la (aH a0) nN) ?_;obtain⟨y1,h2,F⟩:=bs F;refine rq (clA 2 (Qg h2)) ?_;refine iq F (fun hb3 F=> ?_) fun hb3 F=> ?_
 ·obtain⟨y4,h5,F⟩:=bs F;refine rqn hb3 (clA 2 (xt h5)) ?_;refine iq F (fun hb6 F=> ?_) fun hb6 F=> ?_
  ·refine iq F (fun hb7 F=> ?_) fun hb7 F=> ?_
   ·refine rgn hb7 (kY rfl rfl rfl rfl) ?_;obtain⟨y9,h0,F⟩:=bs F;refine rgn hb7 (oX 2 rfl (caps:=[]) (args:=[.vs 17 (map aY a0.ak),.fn 70 [.vp (eI (a0.ac.length:Int))]]) [(1,some (.box 3 [pI (a0.ac.length:Int)]))] rfl rfl rfl (FzH.spec ⟨rfl,trivial⟩) rfl rfl acM (qU (q1_f:=70) (q1_c:=[.vp (eI (a0.ac.length:Int))]) (q1_b:=adz) (q1_h:=fun _ r h=>(Gz h)) h0) rfl rfl rfl) ?_;exact tl []
   exact tl []
  exact tl []
 exact tl []
theorem Gx {a0:be} {r:Bool} (F:uu a0=some r):FZ 36 [.agg (aH a0)] [.p (.bool r)]:=by
 unfold uu at F;refine fb 6 Tryz.func36 fun w O=> ?_;refine rgp (la (aH a0) nN) ?_;obtain⟨y1,h2,F⟩:=bs F;refine rgp (clA 1 (Ma h2)) ?_;exact tl []
theorem ku {a1:List bZ} {b0:aE} {r:aE} (F:eO a1 b0=some r):Abs.FnW eg Tryz.prog 73 [.lp 0 0,.pv (.vs 11 (map bt a1))] [(0,some (.box 84 (bxv (aV b0))))] 1 [(0,0)] [] [(0,some (.box 84 (bxv (aV r))))] 1:=by
 unfold eO at F;refine iB (n:=30) (m:=1) [0] Tryz.func73 rfl rfl rfl ?_;intro c w O θ hcx;refine gg ?_;obtain⟨x0,F,hK0⟩:=bs F;refine lpG (fun s1=>s1=⟨30,[(0,some (.lp 0 0))],[(0,some (.box 84 (bxv (aV x0))))],1,[],[],0,[0]⟩) (fun(q:aE×Int)=>⟨30,[(0,some (.lp 0 0)),(6,some (.pv (.vs 11 (map bt a1)))),(7,some (pI (a1.length:Int))),(8,some (pI q.2))],[(0,some (.box 84 (bxv (aV q.1))))],1,[],[],0,[0]⟩) (fun k q=>iL a1 k q.1 q.2) (b0,0) (bG [0]) F (fun k ⟨x1,x2⟩ F ih=> ?_) ?_
 ·refine gg ?_;refine cnd F (fun hb0 F=> ?_) fun hb0 F=> ?_
  ·refine ga2 ?_;refine aJ ?_;obtain⟨x3,F,hK1⟩:=bs F;refine ctq ⟨30,[(0,some (.lp 0 0)),(6,some (.pv (.vs 11 (map bt a1)))),(7,some (pI (a1.length:Int))),(8,some (pI x2))],[(0,some (.box 84 (bxv (aV x3))))],1,[],[],0,[0]⟩ ?_ ?_
   ·obtain⟨y0,h0,F⟩:=bs F;refine ga5 ?_;refine aJ ?_;obtain⟨x4,F,hK2⟩:=bs F;refine ctq ⟨30,[(0,some (.lp 0 0)),(6,some (.pv (.vs 11 (map bt a1)))),(7,some (pI (a1.length:Int))),(8,some (pI x2)),(21,some (pB x4))],[(0,some (.box 84 (bxv (aV x1))))],1,[],[],0,[0]⟩ ?_ ?_
    ·refine iq F (fun hb1 F=> ?_) fun hb1 F=> ?_
     ·refine rgn hb1 (po rfl rfl rfl mP rfl rfl rfl rfl) ?_;exact tl [0]
     exact tl [0]
    have F:=hK2;refine cq F (fun hb2 F=> ?_) fun hb2 F=> ?_
    ·refine rq (ia rfl rfl rfl rfl rfl) ?_;refine rgp (ia rfl rfl rfl rfl rfl) ?_;refine go2 ?_;refine ci ?_;exact tl [0]
    exact tl [0]
   have F:=hK1;exact aP (ih (x3,ae (x2+1)) F) (bG [0])
  exact tl [0]
 rintro _ rfl;have F:=hK0;exact tl []
theorem lF {a1:List cN} {b0:aE} {r:Int×aE} (F:fw a1 b0=some r):Abs.FnW eg Tryz.prog 72 [.lp 0 0,.pv (.vs 13 (map aI a1))] [(0,some (.box 84 (bxv (aV b0))))] 1 [(0,0)] [pI r.1] [(0,some (.box 84 (bxv (aV r.2))))] 1:=by
 unfold fw at F;refine iB (n:=21) (m:=1) [0] Tryz.func72 rfl rfl rfl ?_;intro c w O θ hcx;refine gg ?_;obtain⟨x0,F,hK0⟩:=bs F;refine lpG (fun s1=>s1=⟨21,[(0,some (.lp 0 0)),(1,some (.pv (.vs 13 (map aI a1))))],[(0,some (.box 84 (bxv (aV x0))))],1,[],[],0,[0]⟩) (fun(q:aE×Int)=>⟨21,[(0,some (.lp 0 0)),(1,some (.pv (.vs 13 (map aI a1)))),(7,some (.pv (.vs 13 (map aI a1)))),(8,some (pI (a1.length:Int))),(9,some (pI q.2))],[(0,some (.box 84 (bxv (aV q.1))))],1,[],[],0,[0]⟩) (fun k q=>gJ a1 k q.1 q.2) (b0,0) (bG [0]) F (fun k ⟨x1,x2⟩ F ih=> ?_) ?_
 ·refine gg ?_;refine cq F (fun hb0 F=> ?_) fun hb0 F=> ?_
  ·obtain⟨y0,h0,F⟩:=bs F;refine gg ?_;refine rgp (la (bt y0.av) fH) ?_;refine rgp (ez (rows:=map bt ([y0.av]:List bZ)) (zs:=(bt dY)) rfl rfl GX uL (by exact⟨rfl,rfl,rfl,rfl,rfl,rfl,rfl,rfl,rfl,rfl,rfl,trivial⟩) rfl rfl rfl rfl rfl rfl rfl rfl) ?_;obtain⟨y1,h1,F⟩:=bs F;refine rgp (dp (args:=[.lp 0 0,.pv (.vs 11 (map bt [y0.av]))]) [0] [0] [] 2 rfl rfl rfl rfl rfl Ue (ku h1) rfl (by decide) ⟨rfl,trivial⟩ rfl (by decide) ⟨.inl rfl,trivial⟩ (by kernel_rfl) (by kernel_rfl) rfl rfl rfl rfl) ?_;refine ci ?_;refine piz ⟨21,[(0,some (.lp 0 0)),(1,some (.pv (.vs 13 (map aI a1)))),(7,some (.pv (.vs 13 (map aI a1)))),(8,some (pI (a1.length:Int))),(9,some (pI x2))],[(0,some (.box 84 (bxv (aV y1))))],1,[],[],0,[0]⟩ [0] ?_;refine gg ?_;exact aP (ih (y1,ae (x2+1)) F) (bG [0])
  exact tl [0]
 rintro _ rfl;have F:=hK0;exact tl []
theorem uT : ∀ (n:Nat) (a1:List ah) (a2:Int) (b0:aE) (r:aE),du n a1 a2 b0=some r->Abs.FnW eg Tryz.prog 74 [.lp 0 0,.pv (.vs 23 (bT a1)),pI a2] [(0,some (.box 84 (bxv (aV b0))))] 1 [(0,0)] [] [(0,some (.box 84 (bxv (aV r))))] 1:=by
 intro n
 induction n with
 | zero=>exact fun _ _ _ _ h=>by simp[du] at h
 | succ n ih=>
  have __size_Counts__body_w_ih:=ih;clear ih;intro a1 a2 b0 r F;unfold du at F
  revert F __size_Counts__body_w_ih
  generalize du n=__size_Counts__body_w_rec
  intro __size_Counts__body_w_ih F;refine iB (n:=51) (m:=1) [0] Tryz.func74 rfl rfl rfl ?_;intro c w O θ hcx;refine aJ ?_;obtain⟨x2,F,hK4⟩:=bs F;refine ctq ⟨51,[(0,some (.lp 0 0)),(1,some (.pv (.vs 23 (bT a1)))),(2,some (pI a2))],[(0,some (.box 84 (bxv (aV x2))))],1,[],[],0,[0]⟩ ?_ ?_
  ·refine cq F (fun hb1 F=> ?_) fun hb1 F=> ?_
   ·refine rq (ia rfl rfl rfl rfl rfl) ?_;refine rgp (xZ rfl rfl rfl rfl rfl) ?_;refine rgp (ia rfl rfl rfl rfl rfl) ?_;exact tl [0]
   exact tl [0]
  have F:=hK4;obtain⟨x0,F,hK0⟩:=bs F;refine lpG (fun s1=>s1=⟨51,[(0,some (.lp 0 0))],[(0,some (.box 84 (bxv (aV x0))))],1,[],[],0,[0]⟩) (fun(q:aE×Int)=>⟨51,[(0,some (.lp 0 0)),(2,some (pI a2)),(20,some (.pv (.vs 23 (bT a1)))),(21,some (pI (a1.length:Int))),(22,some (pI q.2))],[(0,some (.box 84 (bxv (aV q.1))))],1,[],[],0,[0]⟩) (fun k q=>gF a1 a2 __size_Counts__body_w_rec k q.1 q.2) (x2,0) (bG [0]) F (fun k ⟨x1,x3⟩ F ih=> ?_) ?_
  ·refine gg ?_;refine cq F (fun hb0 F=> ?_) fun hb0 F=> ?_
   ·obtain⟨y0,h0,F⟩:=bs F;refine gg ?_;(iterate 2 refine rq (ia rfl rfl rfl rfl rfl) ?_);refine rgp (la (bt y0.av) fH) ?_;refine rgp (ez (rows:=map bt ([y0.av]:List bZ)) (zs:=(bt dY)) rfl rfl GX uL (by exact⟨rfl,rfl,rfl,rfl,rfl,rfl,rfl,rfl,rfl,rfl,rfl,trivial⟩) rfl rfl rfl rfl rfl rfl rfl rfl) ?_;obtain⟨y1,h1,F⟩:=bs F;refine rq (dp (args:=[.lp 0 0,.pv (.vs 11 (map bt [y0.av]))]) [0] [0] [] 2 rfl rfl rfl rfl rfl Ue (ku h1) rfl (by decide) ⟨rfl,trivial⟩ rfl (by decide) ⟨.inl rfl,trivial⟩ (by kernel_rfl) (by kernel_rfl) rfl rfl rfl rfl) ?_;obtain⟨y2,h2,F⟩:=bs F;refine rq (dp (args:=[.lp 0 0,.pv (.vs 23 (bT y0.au)),pI (ae (a2+1))]) [0] [0] [] 2 rfl rfl rfl rfl rfl S8 (__size_Counts__body_w_ih _ _ _ _ h2) rfl (by decide) ⟨rfl,trivial⟩ rfl (by decide) ⟨.inl rfl,trivial⟩ (by kernel_rfl) (by kernel_rfl) rfl rfl rfl rfl) ?_;obtain⟨y3,h3,F⟩:=bs F;refine rgp (dp (args:=[.lp 0 0,.pv (.vs 23 (bT y0.aZ)),pI (ae (a2+1))]) [0] [0] [] 2 rfl rfl rfl rfl rfl S8 (__size_Counts__body_w_ih _ _ _ _ h3) rfl (by decide) ⟨rfl,trivial⟩ rfl (by decide) ⟨.inl rfl,trivial⟩ (by kernel_rfl) (by kernel_rfl) rfl rfl rfl rfl) ?_;refine ci ?_;refine piz ⟨51,[(0,some (.lp 0 0)),(2,some (pI a2)),(20,some (.pv (.vs 23 (bT a1)))),(21,some (pI (a1.length:Int))),(22,some (pI x3))],[(0,some (.box 84 (bxv (aV y3))))],1,[],[],0,[0]⟩ [0] ?_;refine gg ?_;exact aP (ih (y3,ae (x3+1)) F) (bG [0])
   exact tl [0]
  rintro _ rfl;have F:=hK0;exact tl []
theorem wt {n:Nat} {a1:List ah} {a2:Int} {b0:aE} {r:aE} (F:du n a1 a2 b0=some r):Abs.FnW eg Tryz.prog 74 [.lp 0 0,.pv (.vs 23 (bT a1)),pI a2] [(0,some (.box 84 (bxv (aV b0))))] 1 [(0,0)] [] [(0,some (.box 84 (bxv (aV r))))] 1:=uT n a1 a2 b0 r F
theorem Ux {a0:List be} {r:aE} (F:CD a0=some r):FZ 38 [.vs 7 (map aH a0)] [.p (.agg (aV r))]:=by
 unfold CD at F;refine fb 59 Tryz.func38 fun w O=> ?_;refine rq (bd ((aV jj)) (aV (⟨(a0.length:Int),0,0,0,0,0,0⟩:aE)) ZU aed) ?_;obtain⟨x0,F,hK0⟩:=bs F;refine lpE (sX 59 [(2,some (.lp 0 0)),(3,some (.lp 1 0))] [bf 0 84 (aV jj),bf 1 84 (aV x0)] 2) (fun(q:aE×Int)=>(sX 59 [(2,some (.lp 0 0)),(3,some (.lp 1 0)),pf 11 (.vs 7 (map aH a0)),pf 12 (.int .i64 (a0.length:Int)),pf 13 (.int .i64 q.2)] [bf 0 84 (aV jj),bf 1 84 (aV q.1)] 2)) (fun k q=>uY a0 k q.1 q.2) ((⟨(a0.length:Int),0,0,0,0,0,0⟩:aE),0) (bG [0,1]) F (fun k ⟨x1,x2⟩ F ih=> ?_) ?_
 ·refine gg ?_;refine cq F (fun hb0 F=> ?_) fun hb0 F=> ?_
  ·obtain⟨y0,h0,F⟩:=bs F;refine ga5 ?_;refine aJ ?_;refine dt ⟨_,_,_⟩ rfl ?_;refine dd ?_;obtain⟨y1,h1,F⟩:=bs F;obtain⟨u0,h2,F⟩:=bs F;refine bg { need:=[(20,.pv (.vs 13 (map aI y0.bn))),(3,.lp 1 0)],hneed:=[(1,.box 84 (bxv (aV x1)))],dst:=some 21,val:=some (pI y1.1),upd:=[(1,some (.box 84 (bxv (aV y1.2))))] } (fun m h=>bq (bQ rfl) (TA h.2.1.1 (dp (args:=[.lp 0 0,.pv (.vs 13 (map aI y0.bn))]) [1] [1] [] 3 rfl rfl (bm h.1.2.1 (bm h.1.1 dM)) rfl rfl TB (lF h1) rfl (by decide) ⟨h.2.1.1,trivial⟩ rfl (by decide) ⟨.inl rfl,trivial⟩ (by kernel_rfl) (by kernel_rfl) rfl rfl rfl rfl)) rfl) ⟨⟨rfl,rfl,trivial⟩,⟨rfl,trivial⟩,trivial⟩ ?_;refine dd ?_;refine bg { need:=[(23,.lp 1 1),(22,pI (ae (x1.bn+y1.1)))],hneed:=[(1,.box 84 (bxv (aV y1.2)))],upd:=[(1,some (.box 84 (bxv (aV ({ y1.2 with bn:=ae (x1.bn+y1.1) }:aE)))))] } (fun m h=>bq (bQ rfl) (kZ (n:=1) rfl h.1.1 h.1.2.1 rfl h.2.1.1 (DP jP) (by rw[jP];rfl) rfl rfl rfl) rfl) ⟨⟨rfl,rfl,trivial⟩,⟨rfl,trivial⟩,trivial⟩ ?_;refine Vq 1 1 [4] mixed rfl rfl rfl (by decide) ⟨⟨_,.box 84 (bxv (aV y1.2)),rfl,rfl,rfl,rfl,fun m h=>bq (bQ rfl) (gv (v:=pI x1.bn) rfl h.1.1 h.2.1.1 (congrArg (fun z=>some (AV.pv (.int .i64 z))) (Kg h2)) jP rfl rfl) rfl⟩,trivial⟩ (by kernel_rfl) ?_;refine piz (sX 59 [(2,some (.lp 0 0)),(3,some (.lp 1 0)),(5,some (.lp 2 0)),pf 11 (.vs 7 (map aH a0)),pf 12 (.int .i64 (a0.length:Int)),pf 13 (.int .i64 x2)] [bf 0 84 (aV jj),bf 1 84 (aV ({ y1.2 with bn:=ae (x1.bn+y1.1) }:aE)),bf 2 39 (aH y0)] 3) [0,1,2] ?_;refine gg ?_;obtain⟨x3,F,hK1⟩:=bs F;refine lpE (sX 59 [(2,some (.lp 0 0)),(3,some (.lp 1 0)),pf 11 (.vs 7 (map aH a0)),pf 12 (.int .i64 (a0.length:Int)),pf 13 (.int .i64 x2)] [bf 0 84 (aV jj),bf 1 84 (aV x3)] 2) (fun(q:aE×Int)=>(sX 59 [(2,some (.lp 0 0)),(3,some (.lp 1 0)),pf 11 (.vs 7 (map aH a0)),pf 12 (.int .i64 (a0.length:Int)),pf 13 (.int .i64 x2),pf 32 (.vs 17 (map aY y0.ak)),pf 33 (.int .i64 (y0.ak.length:Int)),pf 34 (.int .i64 q.2)] [bf 0 84 (aV jj),bf 1 84 (aV q.1)] 2)) (fun k q=>uJ y0 k q.1 q.2) (({ ({ y1.2 with bn:=ae (x1.bn+y1.1) }:aE) with ak:=ae ((({ y1.2 with bn:=ae (x1.bn+y1.1) }:aE).ak)+(y0.ak.length:Int)) }:aE),0) (bG [0,1]) F (fun k ⟨x4,x5⟩ F ih=> ?_) ?_
   ·refine gg ?_;refine cq F (fun hb1 F=> ?_) fun hb1 F=> ?_
    ·obtain⟨y2,h3,F⟩:=bs F;refine gg ?_;refine rgp (la (bt y2.aQ) fH) ?_;refine rgp (ez (rows:=map bt ([y2.aQ]:List bZ)) (zs:=(bt dY)) rfl rfl GX uL (by exact⟨rfl,rfl,rfl,rfl,rfl,rfl,rfl,rfl,rfl,rfl,rfl,trivial⟩) rfl rfl rfl rfl rfl rfl rfl rfl) ?_;obtain⟨y3,h4,F⟩:=bs F;refine rgp (dp (args:=[.lp 0 0,.pv (.vs 11 (map bt [y2.aQ]))]) [1] [1] [] 3 rfl rfl rfl rfl rfl Ue (ku h4) rfl (by decide) ⟨rfl,trivial⟩ rfl (by decide) ⟨.inl rfl,trivial⟩ (by kernel_rfl) (by kernel_rfl) rfl rfl rfl rfl) ?_;refine go ?_;refine aJ ?_;refine dt ⟨_,_,_⟩ rfl ?_;refine dd ?_;obtain⟨y4,h5,F⟩:=bs F;obtain⟨u1,h6,F⟩:=bs F;refine bg { need:=[(45,.pv (.vs 13 (map aI y2.ac))),(3,.lp 1 0)],hneed:=[(1,.box 84 (bxv (aV y3)))],dst:=some 46,val:=some (pI y4.1),upd:=[(1,some (.box 84 (bxv (aV y4.2))))] } (fun m h=>bq (bQ rfl) (TA h.2.1.1 (dp (args:=[.lp 0 0,.pv (.vs 13 (map aI y2.ac))]) [1] [1] [] 3 rfl rfl (bm h.1.2.1 (bm h.1.1 dM)) rfl rfl TB (lF h5) rfl (by decide) ⟨h.2.1.1,trivial⟩ rfl (by decide) ⟨.inl rfl,trivial⟩ (by kernel_rfl) (by kernel_rfl) rfl rfl rfl rfl)) rfl) ⟨⟨rfl,rfl,trivial⟩,⟨rfl,trivial⟩,trivial⟩ ?_;refine dd ?_;obtain⟨y5,h7,F⟩:=bs F;obtain⟨u2,h8,F⟩:=bs F;refine bg { need:=[(48,.pv (.vs 13 (map aI y2.bC))),(3,.lp 1 0)],hneed:=[(1,.box 84 (bxv (aV y4.2)))],dst:=some 49,val:=some (pI y5.1),upd:=[(1,some (.box 84 (bxv (aV y5.2))))] } (fun m h=>bq (bQ rfl) (TA h.2.1.1 (dp (args:=[.lp 0 0,.pv (.vs 13 (map aI y2.bC))]) [1] [1] [] 3 rfl rfl (bm h.1.2.1 (bm h.1.1 dM)) rfl rfl TB (lF h7) rfl (by decide) ⟨h.2.1.1,trivial⟩ rfl (by decide) ⟨.inl rfl,trivial⟩ (by kernel_rfl) (by kernel_rfl) rfl rfl rfl rfl)) rfl) ⟨⟨rfl,rfl,trivial⟩,⟨rfl,trivial⟩,trivial⟩ ?_;refine dd ?_;refine bg { need:=[(52,.lp 1 3),(51,pI (ae (y3.lf+(ae (y4.1+y5.1)))))],hneed:=[(1,.box 84 (bxv (aV y5.2)))],upd:=[(1,some (.box 84 (bxv (aV ({ y5.2 with lf:=ae (y3.lf+(ae (y4.1+y5.1))) }:aE)))))] } (fun m h=>bq (bQ rfl) (kZ (n:=1) rfl h.1.1 h.1.2.1 rfl h.2.1.1 (DP jP) (by rw[jP];rfl) rfl rfl rfl) rfl) ⟨⟨rfl,rfl,trivial⟩,⟨rfl,trivial⟩,trivial⟩ ?_
     refine Vq 1 1 [4,7] mixed rfl rfl rfl (by decide) ⟨⟨_,.box 84 (bxv (aV y4.2)),rfl,rfl,rfl,rfl,fun m h=>bq (bQ rfl) (gv (v:=pI y3.lf) rfl h.1.1 h.2.1.1 (congrArg (fun z=>some (AV.pv (.int .i64 z))) (Kg h6)) jP rfl rfl) rfl⟩,⟨_,.box 84 (bxv (aV y5.2)),rfl,rfl,rfl,rfl,fun m h=>bq (bQ rfl) (gv (v:=pI y3.lf) rfl h.1.1 h.2.1.1 (congrArg (fun z=>some (AV.pv (.int .i64 z))) (Kg h8)) jP rfl rfl) rfl⟩,trivial⟩ (by kernel_rfl) ?_;refine piz (sX 59 [(2,some (.lp 0 0)),(3,some (.lp 1 0)),(7,some (.lp 2 0)),pf 11 (.vs 7 (map aH a0)),pf 12 (.int .i64 (a0.length:Int)),pf 13 (.int .i64 x2),pf 32 (.vs 17 (map aY y0.ak)),pf 33 (.int .i64 (y0.ak.length:Int)),pf 34 (.int .i64 x5)] [bf 0 84 (aV jj),bf 1 84 (aV ({ y5.2 with lf:=ae (y3.lf+(ae (y4.1+y5.1))) }:aE)),bf 2 48 (aY y2)] 3) [0,1,2] ?_;refine gg ?_;obtain⟨y6,h9,F⟩:=bs F;refine rgp (dp (args:=[.lp 0 0,.pv (.vs 23 (bT y2.au)),pI 1]) [1] [1] [] 3 rfl rfl rfl rfl rfl S8 (wt h9) rfl (by decide) ⟨rfl,trivial⟩ rfl (by decide) ⟨.inl rfl,trivial⟩ (by kernel_rfl) (by kernel_rfl) rfl rfl rfl rfl) ?_;refine ci ?_;refine piz (sX 59 [(2,some (.lp 0 0)),(3,some (.lp 1 0)),pf 11 (.vs 7 (map aH a0)),pf 12 (.int .i64 (a0.length:Int)),pf 13 (.int .i64 x2),pf 32 (.vs 17 (map aY y0.ak)),pf 33 (.int .i64 (y0.ak.length:Int)),pf 34 (.int .i64 x5)] [bf 0 84 (aV jj),bf 1 84 (aV y6)] 2) [0,1] ?_;refine gg ?_;exact aP (ih (y6,ae (x5+1)) F) (bG [0,1])
    exact tl [0,1]
   have F:=hK1;refine gg ?_;exact aP (ih (x3,ae (x2+1)) F) (bG [0,1])
  exact tl [0,1]
 have F:=hK0;refine gg ?_;refine rgp (la (aV x0) TJ) ?_;exact tl []
theorem Mn {a0:List be} {r:Bool} (F:uW a0=some r):FZ 20 [.vs 7 (map aH a0)] [.p (.bool r)]:=by
 unfold uW at F;refine fb 17 Tryz.func20 fun w O=> ?_;refine iq F (fun hb1 F=> ?_) fun hb1 F=> ?_
 ·obtain⟨y3,h4,F⟩:=bs F;refine rqn hb1 (clA 0 (rp (q1_f:=36) (q1_c:=[]) (q1_b:=adA) (q1_h:=fun _ r h=>(Gx h)) h4)) ?_;refine iq F (fun hb5 F=> ?_) fun hb5 F=> ?_
  ·obtain⟨y6,h7,F⟩:=bs F;refine rgn hb5 (clA 0 (Ux h7)) ?_;refine rgn hb5 (ek rfl rfl XM jP rfl rfl rfl) ?_;exact tl []
  exact tl []
 exact tl []
theorem qg {a0:List (List UInt8)} {a1 r:List UInt8} (F:strings_Join a0 a1=some r):FZ 96 [.vs 1 (map eS a0),.str a1] [.p (.str r)]:=abI Tryz.strings_Join_none Tryz.strings_Join F
theorem xH {a0:List UInt8} {a1:List (List UInt8)} {a2:List UInt8} {a3:Bool} {r:(List UInt8)} (F:pq a0 a1 a2 a3=some r):FZ 63 [.str a0,.vs 1 (map eS a1),.str a2,.bool a3] [.p (.str r)]:=by
 unfold pq at F;refine bM (n:=22) Tryz.func63 rfl rfl rfl fun w O=> ?_;refine ga3 ?_;(iterate 2 refine aJ ?_);obtain⟨x2,F,hK4⟩:=bs F;refine ctq (sX 22 [pf 0 (.str a0),pf 1 (.vs 1 (map eS a1)),pf 2 (.str a2),pf 15 (.bool x2)] [] 0) ?_ ?_
 ·exact tl []
 have F:=hK4;refine cq F (fun hb5 F=> ?_) fun hb5 F=> ?_
 ·exact tl []
 obtain⟨y6,h7,F⟩:=bs F;refine rgp (clA 0 (qg h7)) ?_;obtain⟨u8,h9,F⟩:=bs F;refine ga2 ?_;obtain⟨u0,h0,F⟩:=bs F;exact tl []
theorem Au {a0:ay} {a1:List (List UInt8)} {r:(List UInt8)} (F:si a0 a1=some r):FZ 76 [.agg (aC a0),.vs 1 (map eS a1)] [.p (.str r)]:=by
 unfold si at F;refine fb 30 Tryz.func76 fun w O=> ?_;refine rq (la (aC a0) qj) ?_;obtain⟨y3,h4,F⟩:=bs F;refine rq (clA 1 (uM h4)) ?_;refine cq F (fun hb5 F=> ?_) fun hb5 F=> ?_
 ·exact tl []
 refine cq F (fun hb6 F=> ?_) fun hb6 F=> ?_
 ·exact tl []
 refine cq F (fun hb7 F=> ?_) fun hb7 F=> ?_
 ·exact tl []
 refine cq F (fun hb8 F=> ?_) fun hb8 F=> ?_
 ·exact tl []
 refine cq F (fun hb9 F=> ?_) fun hb9 F=> ?_
 ·exact tl []
 refine cq F (fun hb0 F=> ?_) fun hb0 F=> ?_
 ·exact tl []
 refine cnd F (fun hb1 F=> ?_) fun hb1 F=> ?_
 ·exact tl []
 refine ga8 ?_;obtain⟨y0,h0,F⟩:=bs F;exact tl []
theorem LC {a0:be} {r:(List UInt8)} (F:uN a0=some r):FZ 41 [.agg (aH a0)] [.p (.str r)]:=by
 unfold uN at F;refine bM (n:=43) Tryz.func41 rfl rfl rfl fun w O=> ?_;refine ga4 ?_;refine aJ ?_;refine dt ⟨_,_,_⟩ rfl ?_;refine dd ?_;obtain⟨u7,h8,F⟩:=bs F;refine dd ?_;obtain⟨y9,h0,F⟩:=bs F;refine dk 12 [(11,.pv (.vs 1 (map eS a0.ac)))] (pS y9) (fun m h=>⟨_,dx 1 rfl (caps:=[]) (args:=[.str [60],.vs 1 (map eS a0.ac),.str [62],.bool false]) (rs:=[.p (.str y9)]) rfl rfl (bm rfl (bm h.1.1 (bm rfl (bm rfl dM)))) TN (xH h0) rfl rfl rfl,rfl⟩) ?_;obtain⟨u0,h1,F⟩:=bs F;refine dd ?_;refine drn ?_;refine piz (sX 43 [(1,some (.lp 0 0)),pf 3 (.str (([99,108,97,115,115,32]++a0.af)++y9))] [bf 0 39 (aH a0)] 1) [0] ?_;refine gg ?_;refine rq (dQ rfl rfl rfl rfl rfl rfl) ?_;refine cnd F (fun hb0 F=> ?_) fun hb0 F=> ?_
 ·refine ga2 ?_;obtain⟨u1,h2,F⟩:=bs F;exact tl []
 refine ga4 ?_;refine cT (ib 4 9 1 1 rfl rfl) ?_;refine gg ?_;obtain⟨x0,F,hK0⟩:=bs F;refine lpE (sX 43 [(1,some (.lp 0 0)),pf 3 (.str (([99,108,97,115,115,32]++a0.af)++y9)),(4,some (.ls 1))] [bf 0 39 (aH a0),(1,some (.row 9 1 (map eS x0)))] 2) (fun(q:(List (List UInt8))×Int)=>(sX 43 [(1,some (.lp 0 0)),pf 3 (.str (([99,108,97,115,115,32]++a0.af)++y9)),(4,some (.ls 1)),pf 20 (.vs 2 (map aC a0.bl)),pf 21 (.int .i64 (a0.bl.length:Int)),pf 22 (.int .i64 q.2)] [bf 0 39 (aH a0),(1,some (.row 9 1 (map eS q.1)))] 2)) (fun k q=>lj a0 k q.1 q.2) ([],0) (bG [0,1]) F (fun k ⟨x1,x2⟩ F ih=> ?_) ?_
 ·refine gg ?_;refine cq F (fun hb1 F=> ?_) fun hb1 F=> ?_
  ·obtain⟨y0,h3,F⟩:=bs F;refine gg ?_;refine rq (la (aC y0) qj) ?_;obtain⟨y1,h4,F⟩:=bs F;refine rgp (clA 3 (Au h4)) ?_;refine rgp (ez (rows:=map eS ([y1]:List (List UInt8))) (zs:=[.str []]) rfl rfl ga kQ (by exact⟨rfl,trivial⟩) rfl rfl rfl rfl rfl rfl rfl rfl) ?_;obtain⟨u2,h5,F⟩:=bs F;refine rgp (fJ 3 rfl rfl rfl rfl rfl ga Rh kQ rfl rfl rfl (jr (f:=eS) (g:=eS) h5) (map_append (f:=eS) (l₁:=x1) (l₂:=[y1])).symm rfl rfl) ?_;refine go ?_;refine ci ?_;refine piz (sX 43 [(1,some (.lp 0 0)),pf 3 (.str (([99,108,97,115,115,32]++a0.af)++y9)),(4,some (.ls 1)),pf 20 (.vs 2 (map aC a0.bl)),pf 21 (.int .i64 (a0.bl.length:Int)),pf 22 (.int .i64 x2)] [bf 0 39 (aH a0),(1,some (.row 9 1 (map eS (x1++[y1]))))] 2) [0,3] ?_;refine gg ?_;exact aP (ih ((x1++[y1]),ae (x2+1)) F) (bG [0,1])
  exact tl [0,1]
 have F:=hK0;refine go ?_;refine aJ ?_;refine dt ⟨_,_,_⟩ rfl ?_;refine dgo ?_;obtain⟨u3,h6,F⟩:=bs F;refine dd ?_;obtain⟨u4,h7,F⟩:=bs F;refine dd ?_;obtain⟨y2,h9,F⟩:=bs F;refine bg { need:=[(39,.ls 1)],hneed:=[(1,.row 9 1 (map eS x0))],dst:=some 40,val:=some (pS y2) } (fun m h=>bq (bQ rfl) (oX 2 rfl (caps:=[]) (args:=[.str [60],.vs 1 (map eS x0),.str [62],.bool false]) [(1,some (.row 9 1 (map eS x0)))] rfl rfl (bm rfl (bm h.1.1 (bm rfl (bm rfl dM)))) (FzH.spec ⟨h.2.1.1,trivial⟩) rfl rfl TN (xH h9) rfl rfl rfl) rfl) ⟨⟨rfl,trivial⟩,⟨rfl,trivial⟩,trivial⟩ ?_;obtain⟨u5,h11,F⟩:=bs F;refine dd ?_;obtain⟨u6,h13,F⟩:=bs F;exact tm []
theorem kG {a1:List (List UInt8)} {b1:List Int} {r:(List Int)} (F:jb a1 b1=some r):Abs.FnW eg Tryz.prog 40 [.mv 21 [.lp 0 0],.pv (.vs 1 (map eS a1))] [(0,some (.box 60 [.bp 0,.ls 1])),(1,some (.row 5 1 (map ce b1)))] 2 [(0,0)] [] [(0,some (.box 60 [.bp 0,.ls 1])),(1,some (.row 5 1 (map ce r)))] 2:=by
 unfold jb at F;refine iB (n:=18) (m:=2) [0] Tryz.func40 rfl rfl rfl ?_;intro c w O θ hcx;refine gg ?_;obtain⟨x0,F,hK0⟩:=bs F;refine lpG (fun s1=>s1=⟨18,[(0,some (.mv 21 [.lp 0 0]))],[(0,some (.box 60 [.bp 0,.ls 1])),(1,some (.row 5 1 (map ce x0)))],2,[],[],0,[0]⟩) (fun(q:(List Int)×Int)=>⟨18,[(0,some (.mv 21 [.lp 0 0])),(6,some (.pv (.vs 1 (map eS a1)))),(7,some (pI (a1.length:Int))),(8,some (pI q.2))],[(0,some (.box 60 [.bp 0,.ls 1])),(1,some (.row 5 1 (map ce q.1)))],2,[],[],0,[0]⟩) (fun k q=>mW a1 k q.1 q.2) (b1,0) (bG [0,1]) F (fun k ⟨x1,x2⟩ F ih=> ?_) ?_
 ·refine gg ?_;refine cq F (fun hb0 F=> ?_) fun hb0 F=> ?_
  ·obtain⟨y0,h0,F⟩:=bs F;refine gg ?_;obtain⟨u0,h1,F⟩:=bs F;refine rq (Eg (args:=[.lp 0 0,pS y0]) [0,1] [0,2] [1] 3 rfl rfl rfl rfl Jw (OI h1) rfl (by decide) ⟨rfl,rfl,trivial⟩ rfl (by decide) ⟨.inl rfl,.inr rfl,trivial⟩ (by kernel_rfl) (by kernel_rfl) rfl rfl rfl rfl) ?_;obtain⟨u1,h2,F⟩:=bs F;refine rgp (Eg (args:=[.lp 0 0,pS [10]]) [0,2] [0,3] [2] 4 rfl rfl rfl rfl Jw (OI h2) rfl (by decide) ⟨rfl,rfl,trivial⟩ rfl (by decide) ⟨.inl rfl,.inr rfl,trivial⟩ (by kernel_rfl) (by kernel_rfl) rfl rfl rfl rfl) ?_;refine ci ?_;refine piz ⟨18,[(0,some (.mv 21 [.lp 0 0])),(6,some (.pv (.vs 1 (map eS a1)))),(7,some (pI (a1.length:Int))),(8,some (pI x2))],[(0,some (.box 60 [.bp 0,.ls 1])),(1,some (.row 5 1 (map ce ((x1++bh y0)++bh [10]))))],2,[],[],0,[0]⟩ [0,3] ?_;refine gg ?_;exact aP (ih (((x1++bh y0)++bh [10]),ae (x2+1)) F) (bG [0,1])
  exact tl [0,1]
 rintro _ rfl;have F:=hK0;exact tl []
end Go.Proofs.YtjimbkljclfflaaGreatDoor
