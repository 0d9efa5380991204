/- A part of the proof that the law ShowText gives true for every input. -/
import Derived.Test.YtjimbkljclfflaaGreatDoorShowTextT
import Derived.Test.YtjimbkljclfflaaGreatDoorShowTextB
import Derived.Test.YtjimbkljclfflaaGreatDoorShowTextS
import Derived.Test.YtjimbkljclfflaaGreatDoorShowTextX
import Derived.Test.YtjimbkljclfflaaGreatDoorShowTextI
import Derived.Test.YtjimbkljclfflaaGreatDoorShowTextW0
/- Each Go function computes its plain function. -/
namespace Go.Proofs.YtjimbkljclfflaaGreatDoor
open Go.RowKit Go.Abs
set_option maxRecDepth 100000
set_option maxHeartbeats 4000000
theorem Da {a0:List ct} {a1:Int} {a2:Int} {r:gx} (F:wB a0 a1 a2=some r):FZ 29 [.vs 3 (List.map aF a0),.int .i64 a1,.int .i64 a2] [.p (.agg (cI r))]:=by
 unfold wB at F;refine ak (n:=100) Tryz.func29 rfl rfl rfl fun w O=> ?_;refine go ?_;refine rgp (al 0 (cI zGGot_ref09) rE) ?_;refine go4 ?_;obtain⟨y3,h4,F⟩:=bs F;refine rgp (cl 1 [.vs 3 (List.map aF a0),.int .i64 a1] [.p (.agg (aF y3))] (ic h4)) ?_;refine rgp (kz (p:= .int .i64 y3.fAt) rfl rfl MG kq rfl rfl rfl) ?_;refine rgp (sf (zs:=[.str zGClass.aj,.vs 1 (List.map eS zGClass.ab),.str zGClass.cO,.vs 2 (List.map ax zGClass.bU),.nils,.nils,.int .i64 zGClass.fAt]) (r:=[.pv (.str zGClass.aj),.pv (.vs 1 (List.map eS zGClass.ab)),.pv (.str zGClass.cO),.pv (.vs 2 (List.map ax zGClass.bU)),.pv .nils,.pv .nils,.pv (.int .i64 y3.fAt)]) rfl tL (by exact⟨rfl,trivial,rfl,trivial,rfl,rfl,rfl,trivial⟩) Vt rfl rfl rfl rfl) ?_;refine rgp (al 1 (ah zGClass) tL) ?_;refine go ?_;refine dI (lg 1 4 39 80 13 2 rfl rfl rfl) ?_;refine dI (lg 1 5 39 48 17 3 rfl rfl rfl) ?_;refine go6 ?_;obtain⟨y7,h8,F⟩:=bs F;refine rgp (cl 4 [.vs 3 (List.map aF a0),.int .i64 (ae (a1+1))] [.p (.agg (aF y7))] (ic h8)) ?_;refine rgp (kz (p:= .int .i64 y7.aa) rfl rfl zq kq rfl rfl rfl) ?_;refine go2 ?_;refine cnd F (fun hb9 F=> ?_) fun hb9 F=> ?_
 ·cases F
 refine go6 ?_;obtain⟨y0,h0,F⟩:=bs F;refine rgp (cl 4 [.vs 3 (List.map aF a0),.int .i64 (ae (a1+1))] [.p (.agg (aF y0))] (ic h0)) ?_;refine rgp (kz (p:= .str y0.dT) rfl rfl Dv qH rfl rfl rfl) ?_;(iterate 12 refine go ?_);obtain⟨y1,h1,F⟩:=bs F;refine rgp (cl 4 [.vs 3 (List.map aF a0),.int .i64 (ae (a1+2)),.str [60]] [.p (.bool y1)] (iZ h1)) ?_;refine go ?_;refine cnd F (fun hb0 F=> ?_) fun hb0 F=> ?_
 ·refine go3 ?_;obtain⟨y2,h2,F⟩:=bs F;refine rgp (cl 4 [.vs 3 (List.map aF a0),.int .i64 (ae (a1+2))] [.p (.agg (cI y2))] (Ey h2)) ?_;refine rgp (al 4 (cI zGGot_ref09) rE) ?_;refine go9 ?_;refine cnd F (fun hb1 F=> ?_) fun hb1 F=> ?_
  ·cases F
  (iterate 17 refine go ?_);obtain⟨y4,h3,F⟩:=bs F;refine rgp (cl 5 [.vs 3 (List.map aF a0),.int .i64 y2.gJ,.str [101,120,116,101,110,100,115]] [.p (.bool y4)] (iZ h3)) ?_;refine go ?_;refine cnd F (fun hb2 F=> ?_) fun hb2 F=> ?_
  ·refine go3 ?_;refine rgp (iK (cs:=[.pv (.str y0.dT),.pv (.vs 1 (List.map eS y2.fN)),.pv (.str zGClass.cO),.pv (.vs 2 (List.map ax zGClass.bU)),.ls 2,.ls 3,.pv (.int .i64 y3.fAt)]) rfl rfl rfl rfl rfl gz rfl rfl) ?_;obtain⟨y5,h5,F⟩:=bs F;refine rgp (dl (args:=[.pv (.vs 3 (List.map aF a0)),.pv (.int .i64 y2.gJ),.agg [.pv (.str y0.dT),.pv (.vs 1 (List.map eS y2.fN)),.pv (.str zGClass.cO),.pv (.vs 2 (List.map ax zGClass.bU)),.ls 0,.ls 1,.pv (.int .i64 y3.fAt)]]) [2,3] [5,6,7,8] [2,3] 9 rfl rfl rfl rfl rfl U0 (DH h5) rfl (by decide) ⟨rfl,rfl,trivial⟩ rfl (by decide) ⟨.inr rfl,.inr rfl,.inr rfl,.inr rfl,trivial⟩ (by kernel_rfl) (by kernel_rfl) rfl rfl rfl rfl) ?_;refine dI (zH 1 4 rfl) ?_;refine dI (zH 1 5 rfl) ?_;refine rgp (al 9 (cI zGGot_ref09) rE) ?_;refine go ?_;refine bN ?_;refine piz (sX 100 [pf 0 (.vs 3 (List.map aF a0)),pf 2 (.int .i64 a2),(6,some (.lp 0 0)),(7,some (.lp 1 0)),(9,some (.lp 2 0))] [bf 0 74 (cI zGGot_ref09),(1,some (.box 39 [.pv (.str y0.dT),.pv (.vs 1 (List.map eS y2.fN)),.pv (.str zGClass.cO),.pv (.vs 2 (List.map ax zGClass.bU)),.any,.any,.pv (.int .i64 y3.fAt)])),(2,some (.box 74 [.pv (.str y5.1),.pv (.vs 1 (List.map eS y5.2.1)),.pv (.str y5.2.2.1),.pv (.vs 2 (List.map ax y5.2.2.2.1)),.ls 3,.ls 4,.pv (.int .i64 y5.2.2.2.2.2.2.1),.pv (.str y5.2.2.2.2.2.2.2.1),.pv (.bool y5.2.2.2.2.2.2.2.2.1),.pv (.int .i64 y5.2.2.2.2.2.2.2.2.2.1),.pv (.str y5.2.2.2.2.2.2.2.2.2.2.1),.pv (.int .i64 y5.2.2.2.2.2.2.2.2.2.2.2.1),.pv (.int .i64 y5.2.2.2.2.2.2.2.2.2.2.2.2.1),.pv (.int .i64 y5.2.2.2.2.2.2.2.2.2.2.2.2.2.1),.pv (.int .i64 y5.2.2.2.2.2.2.2.2.2.2.2.2.2.2.1),.pv (.int .i64 y5.2.2.2.2.2.2.2.2.2.2.2.2.2.2.2.1),.pv (.int .i64 y5.2.2.2.2.2.2.2.2.2.2.2.2.2.2.2.2.1),.pv (.int .i64 y5.2.2.2.2.2.2.2.2.2.2.2.2.2.2.2.2.2.1),.pv (.int .i64 y5.2.2.2.2.2.2.2.2.2.2.2.2.2.2.2.2.2.2.1),.pv (.int .i64 y5.2.2.2.2.2.2.2.2.2.2.2.2.2.2.2.2.2.2.2.1),.pv (.vs 13 (List.map bm y5.2.2.2.2.2.2.2.2.2.2.2.2.2.2.2.2.2.2.2.2.1)),.pv (.vs 13 (List.map bm y5.2.2.2.2.2.2.2.2.2.2.2.2.2.2.2.2.2.2.2.2.2.1)),.ls 5,.pv (.int .i64 y5.2.2.2.2.2.2.2.2.2.2.2.2.2.2.2.2.2.2.2.2.2.2.2.1),.pv (.vs 13 (List.map bm y5.2.2.2.2.2.2.2.2.2.2.2.2.2.2.2.2.2.2.2.2.2.2.2.2.1)),.pv (.vs 1 (List.map eS y5.2.2.2.2.2.2.2.2.2.2.2.2.2.2.2.2.2.2.2.2.2.2.2.2.2.1)),.pv (.int .i64 y5.2.2.2.2.2.2.2.2.2.2.2.2.2.2.2.2.2.2.2.2.2.2.2.2.2.2.1),.pv (.int .i64 y5.2.2.2.2.2.2.2.2.2.2.2.2.2.2.2.2.2.2.2.2.2.2.2.2.2.2.2.1),.pv (.int .i64 y5.2.2.2.2.2.2.2.2.2.2.2.2.2.2.2.2.2.2.2.2.2.2.2.2.2.2.2.2)])),(3,some (.row 80 13 (List.map bm y5.2.2.2.2.1))),(4,some (.row 48 17 (List.map ay y5.2.2.2.2.2.1))),(5,some (.row 55 23 (cq y5.2.2.2.2.2.2.2.2.2.2.2.2.2.2.2.2.2.2.2.2.2.2.1)))] 6) [0,1,9,6,7,8] ?_
   refine go8 ?_;refine cnd F (fun hb3 F=> ?_) fun hb3 F=> ?_
   ·cases F
   refine go4 ?_;refine rgp (iK (cs:=[.pv (.str y5.1),.pv (.vs 1 (List.map eS y5.2.1)),.pv (.str y5.2.2.1),.pv (.vs 2 (List.map ax y5.2.2.2.1)),.ls 3,.ls 4,.pv (.int .i64 y5.2.2.2.2.2.2.1)]) rfl rfl rfl rfl rfl gz rfl rfl) ?_;(iterate 11 refine go ?_);obtain⟨y6,h6,F⟩:=bs F;refine rgp (cl 6 [.vs 3 (List.map aF a0),.int .i64 y5.2.2.2.2.2.2.2.2.2.2.2.2.2.2.2.2.2.2.2.2.2.2.2.2.2.2.1,.str [123]] [.p (.bool y6)] (iZ h6)) ?_;refine go2 ?_;refine cnd F (fun hb4 F=> ?_) fun hb4 F=> ?_
   ·cases F
   refine go7 ?_;refine ap ?_;obtain⟨lr0,F,hK0⟩:=bs F;refine bV (a0.length+64) (fun s1=>s1=(sX 100 [pf 1 (.int .i64 lr0.1),(6,some (.lp 0 0)),(7,some (.lp 1 0))] [bf 0 74 (cI zGGot_ref09),(1,some (.box 39 [.pv (.str lr0.2.1),.pv (.vs 1 (List.map eS lr0.2.2.1)),.pv (.str lr0.2.2.2.1),.pv (.vs 2 (List.map ax lr0.2.2.2.2.1)),.ls 2,.ls 3,.pv (.int .i64 lr0.2.2.2.2.2.2.2)])),(2,some (.row 80 13 (List.map bm lr0.2.2.2.2.2.1))),(3,some (.row 48 17 (List.map ay lr0.2.2.2.2.2.2.1)))] 4)) ?_ ?_
   ·refine bl (α:=Int×(List UInt8)×(List (List UInt8))×(List UInt8)×(List be)×(List dV)×(List bG)×Int) (fun q=>(sX 100 [pf 0 (.vs 3 (List.map aF a0)),pf 1 (.int .i64 q.1),pf 2 (.int .i64 a2),(6,some (.lp 0 0)),(7,some (.lp 1 0))] [bf 0 74 (cI zGGot_ref09),(1,some (.box 39 [.pv (.str q.2.1),.pv (.vs 1 (List.map eS q.2.2.1)),.pv (.str q.2.2.2.1),.pv (.vs 2 (List.map ax q.2.2.2.2.1)),.ls 2,.ls 3,.pv (.int .i64 q.2.2.2.2.2.2.2)])),(2,some (.row 80 13 (List.map bm q.2.2.2.2.2.1))),(3,some (.row 48 17 (List.map ay q.2.2.2.2.2.2.1)))] 4)) (fun k q=>tn a0 a2 k q.1 q.2.1 q.2.2.1 q.2.2.2.1 q.2.2.2.2.1 q.2.2.2.2.2.1 q.2.2.2.2.2.2.1 q.2.2.2.2.2.2.2=some lr0) (ae (y5.2.2.2.2.2.2.2.2.2.2.2.2.2.2.2.2.2.2.2.2.2.2.2.2.2.2.1+1),y5.1,y5.2.1,y5.2.2.1,y5.2.2.2.1,y5.2.2.2.2.1,y5.2.2.2.2.2.1,y5.2.2.2.2.2.2.1) (bc [0,1,3,4]) F (fun q h=>by cases h) ?_;clear F;rintro k ⟨x0,x1,x2,x3,x4,x5,x6,x7⟩ F ih;refine bg ?_;refine go4 ?_;obtain⟨y8,h7,F⟩:=bs F;refine rgp (cl 4 [.vs 3 (List.map aF a0),.int .i64 x0,.str [125]] [.p (.bool y8)] (iZ h7)) ?_;refine go2 ?_;refine cnd F (fun hb5 F=> ?_) fun hb5 F=> ?_
    ·refine go2 ?_;refine aM ?_;refine ap ?_;refine Ap (xr 5) ?_;refine dh ⟨_,_,_⟩ rfl ?_;(iterate 2 refine dgo ?_);refine aY { need:=[(7,.lp 1 0)],hneed:=[(1,.box 39 [.pv (.str x1),.pv (.vs 1 (List.map eS x2)),.pv (.str x3),.pv (.vs 2 (List.map ax x4)),.ls 2,.ls 3,.pv (.int .i64 x7)])],dst:=some 81,val:=some (.agg [.pv (.str x1),.pv (.vs 1 (List.map eS x2)),.pv (.str x3),.pv (.vs 2 (List.map ax x4)),.ls 2,.ls 3,.pv (.int .i64 x7)]) } (fun m h=>aX (bM rfl) (iK (cs:=[.pv (.str x1),.pv (.vs 1 (List.map eS x2)),.pv (.str x3),.pv (.vs 2 (List.map ax x4)),.ls 2,.ls 3,.pv (.int .i64 x7)]) rfl h.1.1 h.2.1.1 rfl rfl gz rfl rfl) rfl) ⟨⟨rfl,trivial⟩,⟨rfl,trivial⟩,trivial⟩ ?_;refine dgo ?_;refine aY { need:=[(7,.lp 1 0)],hneed:=[(1,.box 39 [.pv (.str x1),.pv (.vs 1 (List.map eS x2)),.pv (.str x3),.pv (.vs 2 (List.map ax x4)),.ls 2,.ls 3,.pv (.int .i64 x7)])],dst:=some 83,val:=some (.agg [.pv (.str x1),.pv (.vs 1 (List.map eS x2)),.pv (.str x3),.pv (.vs 2 (List.map ax x4)),.ls 2,.ls 3,.pv (.int .i64 x7)]) } (fun m h=>aX (bM rfl) (iK (cs:=[.pv (.str x1),.pv (.vs 1 (List.map eS x2)),.pv (.str x3),.pv (.vs 2 (List.map ax x4)),.ls 2,.ls 3,.pv (.int .i64 x7)]) rfl h.1.1 h.2.1.1 rfl rfl gz rfl rfl) rfl) ⟨⟨rfl,trivial⟩,⟨rfl,trivial⟩,trivial⟩ ?_;obtain⟨y9,h9,F⟩:=bs F;refine aY { need:=[(83,.agg [.pv (.str x1),.pv (.vs 1 (List.map eS x2)),.pv (.str x3),.pv (.vs 2 (List.map ax x4)),.ls 2,.ls 3,.pv (.int .i64 x7)])],hneed:=[(2,.row 80 13 (List.map bm x5)),(3,.row 48 17 (List.map ay x6))],dst:=some 84,val:=some (.pv (.int .i64 y9)) } (fun m h=>aX (bM rfl) (kS 9 rfl (caps:=[]) (args:=[.agg (ah (⟨x1,x2,x3,x4,x5,x6,x7⟩:aJ))]) [(2,some (.row 80 13 (List.map bm x5))),(3,some (.row 48 17 (List.map ay x6)))] rfl rfl (bh h.1.1 cN) (FzH.spec ⟨h.2.1.1,h.2.1.2.1,trivial⟩) rfl rfl Vk (sS h9) rfl rfl rfl) rfl) ⟨⟨rfl,trivial⟩,⟨rfl,rfl,trivial⟩,trivial⟩ ?_;refine dk 85 [(82,.pv (.int .i64 a2)),(84,.pv (.int .i64 y9))] (.pv (.int .i64 (ae (a2+y9)))) (fun m h=>⟨_,jg (k:= .i64) (m:=a2) (n:=y9) rfl h.1.1 h.1.2.1 rfl rfl rfl,rfl⟩) ?_;obtain⟨y10,h10,F⟩:=bs F
     refine aY { need:=[(85,.pv (.int .i64 (ae (a2+y9)))),(81,.agg [.pv (.str x1),.pv (.vs 1 (List.map eS x2)),.pv (.str x3),.pv (.vs 2 (List.map ax x4)),.ls 2,.ls 3,.pv (.int .i64 x7)]),(80,.pv (.int .i64 x0)),(79,.pv (.vs 3 (List.map aF a0)))],hneed:=[(2,.row 80 13 (List.map bm x5)),(3,.row 48 17 (List.map ay x6))],names:=[4,5,6,7],dst:=some 86,val:=some (.agg [.pv (.str y10.1),.pv (.vs 1 (List.map eS y10.2.1)),.pv (.str y10.2.2.1),.pv (.vs 2 (List.map ax y10.2.2.2.1)),.ls 5,.ls 6,.pv (.int .i64 y10.2.2.2.2.2.2.1),.pv (.str y10.2.2.2.2.2.2.2.1),.pv (.bool y10.2.2.2.2.2.2.2.2.1),.pv (.int .i64 y10.2.2.2.2.2.2.2.2.2.1),.pv (.str y10.2.2.2.2.2.2.2.2.2.2.1),.pv (.int .i64 y10.2.2.2.2.2.2.2.2.2.2.2.1),.pv (.int .i64 y10.2.2.2.2.2.2.2.2.2.2.2.2.1),.pv (.int .i64 y10.2.2.2.2.2.2.2.2.2.2.2.2.2.1),.pv (.int .i64 y10.2.2.2.2.2.2.2.2.2.2.2.2.2.2.1),.pv (.int .i64 y10.2.2.2.2.2.2.2.2.2.2.2.2.2.2.2.1),.pv (.int .i64 y10.2.2.2.2.2.2.2.2.2.2.2.2.2.2.2.2.1),.pv (.int .i64 y10.2.2.2.2.2.2.2.2.2.2.2.2.2.2.2.2.2.1),.pv (.int .i64 y10.2.2.2.2.2.2.2.2.2.2.2.2.2.2.2.2.2.2.1),.pv (.int .i64 y10.2.2.2.2.2.2.2.2.2.2.2.2.2.2.2.2.2.2.2.1),.pv (.vs 13 (List.map bm y10.2.2.2.2.2.2.2.2.2.2.2.2.2.2.2.2.2.2.2.2.1)),.pv (.vs 13 (List.map bm y10.2.2.2.2.2.2.2.2.2.2.2.2.2.2.2.2.2.2.2.2.2.1)),.ls 7,.pv (.int .i64 y10.2.2.2.2.2.2.2.2.2.2.2.2.2.2.2.2.2.2.2.2.2.2.2.1),.pv (.vs 13 (List.map bm y10.2.2.2.2.2.2.2.2.2.2.2.2.2.2.2.2.2.2.2.2.2.2.2.2.1)),.pv (.vs 1 (List.map eS y10.2.2.2.2.2.2.2.2.2.2.2.2.2.2.2.2.2.2.2.2.2.2.2.2.2.1)),.pv (.int .i64 y10.2.2.2.2.2.2.2.2.2.2.2.2.2.2.2.2.2.2.2.2.2.2.2.2.2.2.1),.pv (.int .i64 y10.2.2.2.2.2.2.2.2.2.2.2.2.2.2.2.2.2.2.2.2.2.2.2.2.2.2.2.1),.pv (.int .i64 y10.2.2.2.2.2.2.2.2.2.2.2.2.2.2.2.2.2.2.2.2.2.2.2.2.2.2.2.2)]),upd:=[(4,some (.box 74 [.pv (.str y10.1),.pv (.vs 1 (List.map eS y10.2.1)),.pv (.str y10.2.2.1),.pv (.vs 2 (List.map ax y10.2.2.2.1)),.ls 5,.ls 6,.pv (.int .i64 y10.2.2.2.2.2.2.1),.pv (.str y10.2.2.2.2.2.2.2.1),.pv (.bool y10.2.2.2.2.2.2.2.2.1),.pv (.int .i64 y10.2.2.2.2.2.2.2.2.2.1),.pv (.str y10.2.2.2.2.2.2.2.2.2.2.1),.pv (.int .i64 y10.2.2.2.2.2.2.2.2.2.2.2.1),.pv (.int .i64 y10.2.2.2.2.2.2.2.2.2.2.2.2.1),.pv (.int .i64 y10.2.2.2.2.2.2.2.2.2.2.2.2.2.1),.pv (.int .i64 y10.2.2.2.2.2.2.2.2.2.2.2.2.2.2.1),.pv (.int .i64 y10.2.2.2.2.2.2.2.2.2.2.2.2.2.2.2.1),.pv (.int .i64 y10.2.2.2.2.2.2.2.2.2.2.2.2.2.2.2.2.1),.pv (.int .i64 y10.2.2.2.2.2.2.2.2.2.2.2.2.2.2.2.2.2.1),.pv (.int .i64 y10.2.2.2.2.2.2.2.2.2.2.2.2.2.2.2.2.2.2.1),.pv (.int .i64 y10.2.2.2.2.2.2.2.2.2.2.2.2.2.2.2.2.2.2.2.1),.pv (.vs 13 (List.map bm y10.2.2.2.2.2.2.2.2.2.2.2.2.2.2.2.2.2.2.2.2.1)),.pv (.vs 13 (List.map bm y10.2.2.2.2.2.2.2.2.2.2.2.2.2.2.2.2.2.2.2.2.2.1)),.ls 7,.pv (.int .i64 y10.2.2.2.2.2.2.2.2.2.2.2.2.2.2.2.2.2.2.2.2.2.2.2.1),.pv (.vs 13 (List.map bm y10.2.2.2.2.2.2.2.2.2.2.2.2.2.2.2.2.2.2.2.2.2.2.2.2.1)),.pv (.vs 1 (List.map eS y10.2.2.2.2.2.2.2.2.2.2.2.2.2.2.2.2.2.2.2.2.2.2.2.2.2.1)),.pv (.int .i64 y10.2.2.2.2.2.2.2.2.2.2.2.2.2.2.2.2.2.2.2.2.2.2.2.2.2.2.1),.pv (.int .i64 y10.2.2.2.2.2.2.2.2.2.2.2.2.2.2.2.2.2.2.2.2.2.2.2.2.2.2.2.1),.pv (.int .i64 y10.2.2.2.2.2.2.2.2.2.2.2.2.2.2.2.2.2.2.2.2.2.2.2.2.2.2.2.2)])),(5,some (.row 80 13 (List.map bm y10.2.2.2.2.1))),(6,some (.row 48 17 (List.map ay y10.2.2.2.2.2.1))),(7,some (.row 55 23 (cq y10.2.2.2.2.2.2.2.2.2.2.2.2.2.2.2.2.2.2.2.2.2.2.1))),(2,none),(3,none)] } (fun m h=>aX (bM rfl) (dl (args:=[.pv (.vs 3 (List.map aF a0)),.pv (.int .i64 x0),.agg [.pv (.str x1),.pv (.vs 1 (List.map eS x2)),.pv (.str x3),.pv (.vs 2 (List.map ax x4)),.ls 0,.ls 1,.pv (.int .i64 x7)],.pv (.int .i64 (ae (a2+y9)))]) [2,3] [4,5,6,7] [2,3] 9 rfl rfl (bh h.1.2.2.2.1 (bh h.1.2.2.1 (bh h.1.2.1 (bh h.1.1 cN)))) rfl rfl UW (BT h10) rfl (by decide) ⟨h.2.1.1,h.2.1.2.1,trivial⟩ rfl (by decide) ⟨.inr (qZ h.2.2.1),.inr (qZ h.2.2.2.1),.inr (qZ h.2.2.2.2.1),.inr (qZ h.2.2.2.2.2.1),trivial⟩ (by kernel_rfl) (by kernel_rfl) rfl rfl rfl rfl) rfl) ⟨⟨rfl,rfl,rfl,rfl,trivial⟩,⟨rfl,rfl,trivial⟩,⟨rfl,rfl,rfl,rfl,trivial⟩⟩ ?_
     refine aY { names:=[8],dst:=some 10,val:=some (.lp 8 0),upd:=[(8,some (.box 74 (bxv (cI zGGot_ref09))))] } (fun m h=>aX (bM rfl) (LG 8 (yQ h.2.2.1) (ps:=(cI zGGot_ref09)) rfl rE (by exact⟨rfl,trivial,rfl,trivial,trivial,trivial,rfl,rfl,rfl,rfl,rfl,rfl,rfl,rfl,rfl,rfl,rfl,rfl,rfl,rfl,trivial,trivial,trivial,rfl,trivial,trivial,rfl,rfl,rfl,trivial⟩) rfl rfl) rfl) ⟨trivial,trivial,⟨rfl,trivial⟩⟩ ?_
     refine aY { need:=[(10,.lp 8 0),(86,.agg [.pv (.str y10.1),.pv (.vs 1 (List.map eS y10.2.1)),.pv (.str y10.2.2.1),.pv (.vs 2 (List.map ax y10.2.2.2.1)),.ls 5,.ls 6,.pv (.int .i64 y10.2.2.2.2.2.2.1),.pv (.str y10.2.2.2.2.2.2.2.1),.pv (.bool y10.2.2.2.2.2.2.2.2.1),.pv (.int .i64 y10.2.2.2.2.2.2.2.2.2.1),.pv (.str y10.2.2.2.2.2.2.2.2.2.2.1),.pv (.int .i64 y10.2.2.2.2.2.2.2.2.2.2.2.1),.pv (.int .i64 y10.2.2.2.2.2.2.2.2.2.2.2.2.1),.pv (.int .i64 y10.2.2.2.2.2.2.2.2.2.2.2.2.2.1),.pv (.int .i64 y10.2.2.2.2.2.2.2.2.2.2.2.2.2.2.1),.pv (.int .i64 y10.2.2.2.2.2.2.2.2.2.2.2.2.2.2.2.1),.pv (.int .i64 y10.2.2.2.2.2.2.2.2.2.2.2.2.2.2.2.2.1),.pv (.int .i64 y10.2.2.2.2.2.2.2.2.2.2.2.2.2.2.2.2.2.1),.pv (.int .i64 y10.2.2.2.2.2.2.2.2.2.2.2.2.2.2.2.2.2.2.1),.pv (.int .i64 y10.2.2.2.2.2.2.2.2.2.2.2.2.2.2.2.2.2.2.2.1),.pv (.vs 13 (List.map bm y10.2.2.2.2.2.2.2.2.2.2.2.2.2.2.2.2.2.2.2.2.1)),.pv (.vs 13 (List.map bm y10.2.2.2.2.2.2.2.2.2.2.2.2.2.2.2.2.2.2.2.2.2.1)),.ls 7,.pv (.int .i64 y10.2.2.2.2.2.2.2.2.2.2.2.2.2.2.2.2.2.2.2.2.2.2.2.1),.pv (.vs 13 (List.map bm y10.2.2.2.2.2.2.2.2.2.2.2.2.2.2.2.2.2.2.2.2.2.2.2.2.1)),.pv (.vs 1 (List.map eS y10.2.2.2.2.2.2.2.2.2.2.2.2.2.2.2.2.2.2.2.2.2.2.2.2.2.1)),.pv (.int .i64 y10.2.2.2.2.2.2.2.2.2.2.2.2.2.2.2.2.2.2.2.2.2.2.2.2.2.2.1),.pv (.int .i64 y10.2.2.2.2.2.2.2.2.2.2.2.2.2.2.2.2.2.2.2.2.2.2.2.2.2.2.2.1),.pv (.int .i64 y10.2.2.2.2.2.2.2.2.2.2.2.2.2.2.2.2.2.2.2.2.2.2.2.2.2.2.2.2)])],hneed:=[(8,.box 74 (bxv (cI zGGot_ref09)))],upd:=[(8,some (.box 74 [.pv (.str y10.1),.pv (.vs 1 (List.map eS y10.2.1)),.pv (.str y10.2.2.1),.pv (.vs 2 (List.map ax y10.2.2.2.1)),.ls 5,.ls 6,.pv (.int .i64 y10.2.2.2.2.2.2.1),.pv (.str y10.2.2.2.2.2.2.2.1),.pv (.bool y10.2.2.2.2.2.2.2.2.1),.pv (.int .i64 y10.2.2.2.2.2.2.2.2.2.1),.pv (.str y10.2.2.2.2.2.2.2.2.2.2.1),.pv (.int .i64 y10.2.2.2.2.2.2.2.2.2.2.2.1),.pv (.int .i64 y10.2.2.2.2.2.2.2.2.2.2.2.2.1),.pv (.int .i64 y10.2.2.2.2.2.2.2.2.2.2.2.2.2.1),.pv (.int .i64 y10.2.2.2.2.2.2.2.2.2.2.2.2.2.2.1),.pv (.int .i64 y10.2.2.2.2.2.2.2.2.2.2.2.2.2.2.2.1),.pv (.int .i64 y10.2.2.2.2.2.2.2.2.2.2.2.2.2.2.2.2.1),.pv (.int .i64 y10.2.2.2.2.2.2.2.2.2.2.2.2.2.2.2.2.2.1),.pv (.int .i64 y10.2.2.2.2.2.2.2.2.2.2.2.2.2.2.2.2.2.2.1),.pv (.int .i64 y10.2.2.2.2.2.2.2.2.2.2.2.2.2.2.2.2.2.2.2.1),.pv (.vs 13 (List.map bm y10.2.2.2.2.2.2.2.2.2.2.2.2.2.2.2.2.2.2.2.2.1)),.pv (.vs 13 (List.map bm y10.2.2.2.2.2.2.2.2.2.2.2.2.2.2.2.2.2.2.2.2.2.1)),.ls 7,.pv (.int .i64 y10.2.2.2.2.2.2.2.2.2.2.2.2.2.2.2.2.2.2.2.2.2.2.2.1),.pv (.vs 13 (List.map bm y10.2.2.2.2.2.2.2.2.2.2.2.2.2.2.2.2.2.2.2.2.2.2.2.2.1)),.pv (.vs 1 (List.map eS y10.2.2.2.2.2.2.2.2.2.2.2.2.2.2.2.2.2.2.2.2.2.2.2.2.2.1)),.pv (.int .i64 y10.2.2.2.2.2.2.2.2.2.2.2.2.2.2.2.2.2.2.2.2.2.2.2.2.2.2.1),.pv (.int .i64 y10.2.2.2.2.2.2.2.2.2.2.2.2.2.2.2.2.2.2.2.2.2.2.2.2.2.2.2.1),.pv (.int .i64 y10.2.2.2.2.2.2.2.2.2.2.2.2.2.2.2.2.2.2.2.2.2.2.2.2.2.2.2.2)]))] } (fun m h=>aX (bM rfl) (pg (n:=29) rfl h.1.1 h.1.2.1 rfl h.2.1.1 (MZ Am) (by rw[QU];rfl) rfl rfl rfl) rfl) ⟨⟨rfl,rfl,trivial⟩,⟨rfl,trivial⟩,trivial⟩ ?_
     refine cY mixed rfl (by kernel_rfl) ?_;refine sC (zH 1 4 rfl) ?_;refine sC (zH 1 5 rfl) ?_;refine piz (sX 100 [pf 0 (.vs 3 (List.map aF a0)),pf 2 (.int .i64 a2),(6,some (.lp 0 0)),(7,some (.lp 1 0)),(10,some (.lp 2 0))] [bf 0 74 (cI zGGot_ref09),(1,some (.box 39 [.pv (.str x1),.pv (.vs 1 (List.map eS x2)),.pv (.str x3),.pv (.vs 2 (List.map ax x4)),.any,.any,.pv (.int .i64 x7)])),(2,some (.box 74 [.pv (.str y10.1),.pv (.vs 1 (List.map eS y10.2.1)),.pv (.str y10.2.2.1),.pv (.vs 2 (List.map ax y10.2.2.2.1)),.ls 3,.ls 4,.pv (.int .i64 y10.2.2.2.2.2.2.1),.pv (.str y10.2.2.2.2.2.2.2.1),.pv (.bool y10.2.2.2.2.2.2.2.2.1),.pv (.int .i64 y10.2.2.2.2.2.2.2.2.2.1),.pv (.str y10.2.2.2.2.2.2.2.2.2.2.1),.pv (.int .i64 y10.2.2.2.2.2.2.2.2.2.2.2.1),.pv (.int .i64 y10.2.2.2.2.2.2.2.2.2.2.2.2.1),.pv (.int .i64 y10.2.2.2.2.2.2.2.2.2.2.2.2.2.1),.pv (.int .i64 y10.2.2.2.2.2.2.2.2.2.2.2.2.2.2.1),.pv (.int .i64 y10.2.2.2.2.2.2.2.2.2.2.2.2.2.2.2.1),.pv (.int .i64 y10.2.2.2.2.2.2.2.2.2.2.2.2.2.2.2.2.1),.pv (.int .i64 y10.2.2.2.2.2.2.2.2.2.2.2.2.2.2.2.2.2.1),.pv (.int .i64 y10.2.2.2.2.2.2.2.2.2.2.2.2.2.2.2.2.2.2.1),.pv (.int .i64 y10.2.2.2.2.2.2.2.2.2.2.2.2.2.2.2.2.2.2.2.1),.pv (.vs 13 (List.map bm y10.2.2.2.2.2.2.2.2.2.2.2.2.2.2.2.2.2.2.2.2.1)),.pv (.vs 13 (List.map bm y10.2.2.2.2.2.2.2.2.2.2.2.2.2.2.2.2.2.2.2.2.2.1)),.ls 5,.pv (.int .i64 y10.2.2.2.2.2.2.2.2.2.2.2.2.2.2.2.2.2.2.2.2.2.2.2.1),.pv (.vs 13 (List.map bm y10.2.2.2.2.2.2.2.2.2.2.2.2.2.2.2.2.2.2.2.2.2.2.2.2.1)),.pv (.vs 1 (List.map eS y10.2.2.2.2.2.2.2.2.2.2.2.2.2.2.2.2.2.2.2.2.2.2.2.2.2.1)),.pv (.int .i64 y10.2.2.2.2.2.2.2.2.2.2.2.2.2.2.2.2.2.2.2.2.2.2.2.2.2.2.1),.pv (.int .i64 y10.2.2.2.2.2.2.2.2.2.2.2.2.2.2.2.2.2.2.2.2.2.2.2.2.2.2.2.1),.pv (.int .i64 y10.2.2.2.2.2.2.2.2.2.2.2.2.2.2.2.2.2.2.2.2.2.2.2.2.2.2.2.2)])),(3,some (.row 80 13 (List.map bm y10.2.2.2.2.1))),(4,some (.row 48 17 (List.map ay y10.2.2.2.2.2.1))),(5,some (.row 55 23 (cq y10.2.2.2.2.2.2.2.2.2.2.2.2.2.2.2.2.2.2.2.2.2.2.1)))] 6) [0,1,8,5,6,7] ?_;refine go8 ?_;refine cnd F (fun hb6 F=> ?_) fun hb6 F=> ?_
     ·cases F
     refine go4 ?_;refine rgp (iK (cs:=[.pv (.str y10.1),.pv (.vs 1 (List.map eS y10.2.1)),.pv (.str y10.2.2.1),.pv (.vs 2 (List.map ax y10.2.2.2.1)),.ls 3,.ls 4,.pv (.int .i64 y10.2.2.2.2.2.2.1)]) rfl rfl rfl rfl rfl gz rfl rfl) ?_;refine go6 ?_;refine bN ?_;refine piz (sX 100 [pf 0 (.vs 3 (List.map aF a0)),pf 1 (.int .i64 y10.2.2.2.2.2.2.2.2.2.2.2.2.2.2.2.2.2.2.2.2.2.2.2.2.2.2.1),pf 2 (.int .i64 a2),(6,some (.lp 0 0)),(7,some (.lp 1 0))] [bf 0 74 (cI zGGot_ref09),(1,some (.box 39 [.pv (.str y10.1),.pv (.vs 1 (List.map eS y10.2.1)),.pv (.str y10.2.2.1),.pv (.vs 2 (List.map ax y10.2.2.2.1)),.ls 2,.ls 3,.pv (.int .i64 y10.2.2.2.2.2.2.1)])),(2,some (.row 80 13 (List.map bm y10.2.2.2.2.1))),(3,some (.row 48 17 (List.map ay y10.2.2.2.2.2.1)))] 4) [0,1,3,4] ?_;refine go ?_;refine nc ?_;exact bq (ih (y10.2.2.2.2.2.2.2.2.2.2.2.2.2.2.2.2.2.2.2.2.2.2.2.2.2.2.1,y10.1,y10.2.1,y10.2.2.1,y10.2.2.2.1,y10.2.2.2.2.1,y10.2.2.2.2.2.1,y10.2.2.2.2.2.2.1) F) (bc [0,1,2,3])
    refine bu ?_;(iterate 2 refine ac ?_);cases F;exact aq _ rfl (bc [0,1,2,3])
   rintro _ rfl;have F:=hK0;obtain⟨x8,x9,x10,x11,x12,x13,x14,x15⟩:=lr0;refine go2 ?_;refine dI (xZ [(2,some (.row 80 13 (List.map bm x13)))] [] 1 4 2 (FzH.spec ⟨rfl,trivial⟩) trivial rfl rfl rfl) ?_;refine dI (xZ [(3,some (.row 48 17 (List.map ay x14)))] [] 1 5 3 (FzH.spec ⟨rfl,trivial⟩) trivial rfl rfl rfl) ?_;refine rgp (la (ah (⟨x9,x10,x11,x12,x13,x14,x15⟩:aJ)) gz) ?_;refine go2 ?_;refine rgp (bd ((cI zGGot_ref09)) (cI (⟨(⟨x9,x10,x11,x12,x13,x14,x15⟩:aJ),zGMethod,[],[],ae (x8+1),gj⟩:gx)) rE Ko) ?_;refine go3 ?_;cases F;exact dm rfl rfl (.cons _ _ _ _ _ (.agg _ _ _ _ _ 29 _ _ rfl rfl Am rfl rfl rfl) (.p _) .nil) (.inl rfl)
  cases F
 cases F
theorem KS {a0:List UInt8} {r:(List aJ)×oY} (F:Fc a0=some r):FZ 11 [.str a0] [.own 39 7 (List.map ah r.1),.p (.agg (iQ r.2))]:=by
 unfold Fc at F;refine ak (n:=65) Tryz.func11 rfl rfl rfl fun w O=> ?_;refine go2 ?_;refine rgp (al 0 (iQ gj) Ab) ?_;refine go3 ?_;obtain⟨y3,h4,F⟩:=bs F;refine rgp (cl 1 [.str a0] [.p (.vs 3 (List.map aF y3.1)),.p (.agg (iQ y3.2))] (Fn.frozen (LJ h4))) ?_;refine go ?_;(iterate 2 refine rgp (uT rfl rfl rfl rfl rfl) ?_);refine rgp (al 1 (iQ gj) Ab) ?_;refine go9 ?_;refine cnd F (fun hb5 F=> ?_) fun hb5 F=> ?_
 ·cases F
 refine go4 ?_;refine dI (iq 6 39 7 2 rfl rfl) ?_;refine go5 ?_;refine ap ?_;obtain⟨x0,F,hK0⟩:=bs F;refine bV (a0.length+64) (fun s1=>s1=(sX 65 [(3,some (.lp 0 0)),(6,some (.ls 1))] [bf 0 28 (iQ gj),(1,some (.row 39 7 (List.map ah x0)))] 2)) ?_ ?_
 ·refine bl (α:=(List aJ)×Int×Int) (fun q=>(sX 65 [(3,some (.lp 0 0)),pf 4 (.vs 3 (List.map aF y3.1)),(6,some (.ls 1)),pf 7 (.int .i64 q.2.1),pf 8 (.int .i64 q.2.2)] [bf 0 28 (iQ gj),(1,some (.row 39 7 (List.map ah q.1)))] 2)) (fun k q=>wM y3 k q.1 q.2.1 q.2.2=some x0) ([],0,0) (bc [0,2]) F (fun q h=>by cases h) ?_;clear F;rintro k ⟨x1,x2,x3⟩ F ih;refine bg ?_;refine go4 ?_;obtain⟨y0,h0,F⟩:=bs F;refine rgp (cl 2 [.vs 3 (List.map aF y3.1),.int .i64 x2] [.p (.agg (aF y0))] (ic h0)) ?_;refine rgp (kz (p:= .int .i64 y0.aa) rfl rfl zq kq rfl rfl rfl) ?_;refine go2 ?_;refine cnd F (fun hb0 F=> ?_) fun hb0 F=> ?_
  ·refine go2 ?_;refine aM ?_;refine go4 ?_;obtain⟨y1,h1,F⟩:=bs F;refine rgp (cl 2 [.vs 3 (List.map aF y3.1),.int .i64 x2,.str [99,108,97,115,115]] [.p (.bool y1)] (iZ h1)) ?_;refine go2 ?_;refine cnd F (fun hb1 F=> ?_) fun hb1 F=> ?_
   ·cases F
   refine go5 ?_;refine rgp (ky (n:=x1.length) rfl rfl rfl (List.length_map ..) gM rfl rfl) ?_;refine go2 ?_;refine cnd F (fun hb2 F=> ?_) fun hb2 F=> ?_
   ·cases F
   refine go6 ?_;obtain⟨y2,h2,F⟩:=bs F;refine rgp (cl 2 [.vs 3 (List.map aF y3.1),.int .i64 x2,.int .i64 x3] [.p (.agg (cI y2))] (Da h2)) ?_;refine rgp (al 2 (cI zGGot_ref09) rE) ?_;refine go9 ?_;refine cnd F (fun hb3 F=> ?_) fun hb3 F=> ?_
   ·cases F
   refine go5 ?_;refine rgp (la (ah y2.fC) gz) ?_;refine rgp (dU (rows:=List.map ah ([y2.fC]:List aJ)) (zs:=(ah zGClass)) rfl rfl gM tL (by exact⟨rfl,trivial,rfl,trivial,trivial,trivial,rfl,trivial⟩) rfl rfl rfl rfl rfl rfl rfl rfl) ?_;obtain⟨u0,h3,F⟩:=bs F;refine rgp (gy 3 rfl rfl rfl rfl rfl gM U1 tL rfl rfl rfl (iM (f:=ah) (g:=ah) h3) (List.map_append (f:=ah) (l₁:=x1) (l₂:=[y2.fC])).symm rfl rfl) ?_;refine go5 ?_;refine rgp (la (ah y2.fC) gz) ?_;obtain⟨y4,h5,F⟩:=bs F;refine rgp (cl 4 [.agg (ah y2.fC)] [.p (.int .i64 y4)] (sS h5)) ?_;refine go7 ?_;refine bN ?_;refine piz (sX 65 [(3,some (.lp 0 0)),pf 4 (.vs 3 (List.map aF y3.1)),(6,some (.ls 1)),pf 7 (.int .i64 y2.gJ),pf 8 (.int .i64 (ae (x3+y4)))] [bf 0 28 (iQ gj),(1,some (.row 39 7 (List.map ah (x1++[y2.fC]))))] 2) [0,3] ?_;refine go ?_;refine nc ?_;exact bq (ih ((x1++[y2.fC]),y2.gJ,ae (x3+y4)) F) (bc [0,1])
  refine bu ?_;(iterate 2 refine ac ?_);cases F;exact aq _ rfl (bc [0,1])
 rintro _ rfl;have F:=hK0;refine go3 ?_;refine rgp (bd ((iQ gj)) (iQ gj) Ab RI) ?_;refine go4 ?_;cases F;exact dm rfl rfl (.cons _ _ _ _ _ (.tmp _ _ rfl) (.own _ _ _ _ rfl Om) (.cons _ _ _ _ _ (.agg _ _ _ _ _ 2 _ _ rfl rfl NV rfl rfl rfl) (.p _) .nil)) (.inl rfl)
theorem rl {a0:List aJ} {q1:aJ→Option Bool} {r:Int} {q1_f:Nat} {q1_c:List PV} (q1_b:cT Tryz.prog q1_f=true) (q1_h:∀ (x0:aJ) (r:Bool),q1 x0=some r→FZ q1_f ([.agg (ah x0)]++q1_c) [.p (.bool r)]) (F:gm a0 q1=some r):FZ 66 [.vs 7 (List.map ah a0),.fn q1_f q1_c] [.p (.int .i64 r)]:=by
 unfold gm at F;refine ak (n:=19) Tryz.func66 rfl rfl rfl fun w O=> ?_;refine go9 ?_;obtain⟨lr0,F,hK0⟩:=bs F;refine bV ((a0.length - 0:Int).toNat+1) (fun s1=>∃ q,lr0= .next q∧s1=(sX 19 [] [] 0)) ?_ ?_
 ·refine bl (α:=Int) (fun q=>(sX 19 [pf 0 (.vs 7 (List.map ah a0)),pf 1 (.fn q1_f q1_c),pf 7 (.int .i64 (a0.length:Int)),pf 8 (.int .i64 q)] [] 0)) (fun k q=>ef a0 q1 k q=some lr0) 0 (bc []) F (fun q h=>by cases h) ?_;clear F;rintro k x1 F ih;refine bg ?_;refine go3 ?_;refine ap ?_;refine cnd F (fun hb0 F=> ?_) fun hb0 F=> ?_
  ·refine go2 ?_;refine ap ?_;refine aM ?_;refine go8 ?_;obtain⟨y0,h0,F⟩:=bs F;refine rgp (ix (bR ah h0) gM) ?_;refine rgp (lw (ah y0) gz) ?_;obtain⟨y1,h1,F⟩:=bs F;refine rgp (cJ 0 rfl (caps:=q1_c) (args:=[.agg (ah y0)]) (rs:=[.p (.bool y1)]) rfl rfl rfl q1_b (q1_h y0 _ h1) rfl rfl rfl) ?_;refine go ?_;refine cnd F (fun hb1 F=> ?_) fun hb1 F=> ?_
   ·refine go8 ?_;refine bz ?_;cases F;have F:=bW hK0;refine go ?_;cases F;exact prt
   refine go6 ?_;refine rnr ?_;exact bq (ih (ae (x1+1)) F) (bc [])
  refine bu ?_;(iterate 2 refine ac ?_);cases F;exact aq _ ⟨_,rfl,rfl⟩ (bc [])
 rintro _ ⟨⟨⟩,rfl,rfl⟩;have F:=cn hK0;clear hK0;refine go5 ?_;cases F;exact prt
theorem pJ {a0:List aJ} {q1:aJ→Option Bool} {r:Bool} {q1_f:Nat} {q1_c:List PV} (q1_b:cT Tryz.prog q1_f=true) (q1_h:∀ (x0:aJ) (r:Bool),q1 x0=some r→FZ q1_f ([.agg (ah x0)]++q1_c) [.p (.bool r)]) (F:ed a0 q1=some r):FZ 35 [.vs 7 (List.map ah a0),.fn q1_f q1_c] [.p (.bool r)]:=by
 unfold ed at F;refine ak (n:=9) Tryz.func35 rfl rfl rfl fun w O=> ?_;refine go6 ?_;obtain⟨y1,h2,F⟩:=bs F;refine rgp (cl 0 [.vs 7 (List.map ah a0),.fn q1_f q1_c] [.p (.int .i64 y1)] (rl (q1_b:=q1_b) (q1_h:=q1_h) h2)) ?_;refine go4 ?_;cases F;exact prt
theorem xi {a0:Int} {r:Bool} (F:ii a0=some r):FZ 123 [.int .u8 a0] [.p (.bool r)]:=by
 unfold ii at F;refine ak (n:=12) Tryz.func123 rfl rfl rfl fun w O=> ?_;refine go5 ?_;refine rgp (iz (k:= .u8) (m:=a0) (n:=32) rfl rfl rfl rfl rfl rfl) ?_;refine go6 ?_;rcases ie F with⟨hb1,F⟩ | ⟨hb1,F⟩
 ·(iterate 2 refine gn hb1 ?_);refine rpt hb1 ?_;refine go3 ?_;cases F;exact prt
 (iterate 2 refine aQ hb1 ?_);refine rpf hb1 ?_;refine go3 ?_;cases F;exact prt
theorem Gy {a0:Int} {r:Bool} (F:sg a0=some r):FZ 124 [.int .u8 a0] [.p (.bool r)]:=by
 unfold sg at F;refine ak (n:=6) Tryz.func124 rfl rfl rfl fun w O=> ?_;(iterate 10 refine go ?_);cases F;exact prt

theorem Ny {a0:List UInt8} {r:(List UInt8)} (F:Co a0=some r):FZ 161 [.str a0] [.p (.fn 183 [.vp (eS r)])]:=by
 unfold Co at F;refine ak (n:=4) Tryz.func161 rfl rfl rfl fun w O=> ?_;refine go ?_;refine rgp (bo 0) ?_;refine go3 ?_;refine rgp (jJ rfl rfl rfl rfl) ?_;refine go3 ?_;refine sC (jq [(0,some (.box 9 [.pv (.str a0)]))] [(2,some (.pv (.fn 183 [.vp (eS a0)])))] (FzH.spec ⟨rfl,trivial⟩) ⟨⟨_,rfl,rfl⟩,trivial⟩) ?_;cases F;exact dm rfl rfl (.cons _ _ _ _ _ (.tmp _ _ rfl) (.p _) .nil) (.inl rfl)
theorem mU {a0:List (List UInt8)} {q1:(List UInt8)→Option Bool} {r:Int} {q1_f:Nat} {q1_c:List PV} (q1_b:cT Tryz.prog q1_f=true) (q1_h:∀ (x0:List UInt8) (r:Bool),q1 x0=some r→FZ q1_f ([.str x0]++q1_c) [.p (.bool r)]) (F:eU a0 q1=some r):FZ 126 [.vs 1 (List.map eS a0),.fn q1_f q1_c] [.p (.int .i64 r)]:=by
 unfold eU at F;refine ak (n:=19) Tryz.func126 rfl rfl rfl fun w O=> ?_;refine go9 ?_;obtain⟨lr0,F,hK0⟩:=bs F;refine bV ((a0.length - 0:Int).toNat+1) (fun s1=>∃ q,lr0= .next q∧s1=(sX 19 [] [] 0)) ?_ ?_
 ·refine bl (α:=Int) (fun q=>(sX 19 [pf 0 (.vs 1 (List.map eS a0)),pf 1 (.fn q1_f q1_c),pf 7 (.int .i64 (a0.length:Int)),pf 8 (.int .i64 q)] [] 0)) (fun k q=>dA a0 q1 k q=some lr0) 0 (bc []) F (fun q h=>by cases h) ?_;clear F;rintro k x1 F ih;refine bg ?_;refine go3 ?_;refine ap ?_;refine cnd F (fun hb0 F=> ?_) fun hb0 F=> ?_
  ·refine go2 ?_;refine ap ?_;refine aM ?_;refine go8 ?_;obtain⟨y0,h0,F⟩:=bs F;refine rgp (ix (bR eS h0) dr) ?_;refine go ?_;obtain⟨y1,h1,F⟩:=bs F;refine rgp (cJ 0 rfl (caps:=q1_c) (args:=[.str y0]) (rs:=[.p (.bool y1)]) rfl rfl rfl q1_b (q1_h y0 _ h1) rfl rfl rfl) ?_;refine go ?_;refine cnd F (fun hb1 F=> ?_) fun hb1 F=> ?_
   ·refine go8 ?_;refine bz ?_;cases F;have F:=bW hK0;refine go ?_;cases F;exact prt
   refine go6 ?_;refine rnr ?_;exact bq (ih (ae (x1+1)) F) (bc [])
  refine bu ?_;(iterate 2 refine ac ?_);cases F;exact aq _ ⟨_,rfl,rfl⟩ (bc [])
 rintro _ ⟨⟨⟩,rfl,rfl⟩;have F:=cn hK0;clear hK0;refine go5 ?_;cases F;exact prt
theorem Kn {a0:List UInt8} {c0:List UInt8} {r:Bool} (F:uy a0 c0=some r):FZ 183 [.str a0,.vp (eS c0)] [.p (.bool r)]:=by
 unfold uy at F;refine ak (n:=7) Tryz.func183 rfl rfl rfl fun w O=> ?_;refine go6 ?_;refine rgp (dX rfl rfl rfl rfl rfl rfl) ?_;refine go3 ?_;cases F;exact prt
theorem JS {a0:List UInt8} {r:Int} (F:uu a0=some r):FZ 125 [.str a0] [.p (.int .i64 r)]:=by
 unfold uu at F;refine ak (n:=8) Tryz.func125 rfl rfl rfl fun w O=> ?_;refine go3 ?_;refine ap ?_;refine dh ⟨_,_,_⟩ rfl ?_;refine dk 3 [] (.pv (.vs 1 (List.map eS glob_0))) (fun m h=>⟨_,yg (l:=glob_0) (f:=eS) rfl S5 SO S7 (fun _=>rfl) rfl rfl rfl rfl,rfl⟩) ?_;refine dgo ?_;obtain⟨y1,h2,F⟩:=bs F;refine dk 5 [(4,.pv (.str a0))] (.pv (.fn 183 [.vp (eS y1)])) (fun m h=>⟨_,cJ 0 rfl (caps:=[]) (args:=[.str a0]) (rs:=[.p (.fn 183 [.vp (eS y1)])]) rfl rfl (bh h.1.1 cN) SI (Ny h2) rfl rfl rfl,rfl⟩) ?_;obtain⟨y4,h5,F⟩:=bs F;refine dk 6 [(5,.pv (.fn 183 [.vp (eS y1)])),(3,.pv (.vs 1 (List.map eS glob_0)))] (.pv (.int .i64 y4)) (fun m h=>⟨_,cJ 0 rfl (caps:=[]) (args:=[.vs 1 (List.map eS glob_0),.fn 183 [.vp (eS y1)]]) (rs:=[.p (.int .i64 y4)]) rfl rfl (bh h.1.2.1 (bh h.1.1 cN)) TV (mU (q1_f:=183) (q1_c:=[.vp (eS y1)]) (q1_b:=S0) (q1_h:=fun _ r h=>(Kn h)) h5) rfl rfl rfl,rfl⟩) ?_;refine dgo ?_;refine dk 2 [(7,.pv (.int .i64 (ae (y4+1))))] (.pv (.int .i64 (ae (y4+1)))) (fun m h=>⟨_,dC rfl h.1.1 rfl rfl,rfl⟩) ?_;refine cY mixed rfl (by kernel_rfl) ?_;refine piz (sX 8 [pf 2 (.int .i64 (ae (y4+1)))] [] 0) [] ?_;refine go2 ?_;cases F;exact prt
theorem gW {a0:List UInt8} {r:Bool} (F:iw a0=some r):FZ 97 [.str a0] [.p (.bool r)]:=by
 unfold iw at F;refine ak (n:=37) Tryz.func97 rfl rfl rfl fun w O=> ?_;refine go3 ?_;(iterate 2 refine ap ?_);obtain⟨x7,F,hK9⟩:=bs F;refine ctx (sX 37 [pf 0 (.str a0),pf 17 (.bool x7)] [] 0) ?_ ?_
 ·refine go2 ?_;refine rgp (dX rfl rfl rfl rfl rfl rfl) ?_;refine go ?_;rcases ie F with⟨hb1,F⟩ | ⟨hb1,F⟩
  ·(iterate 3 refine az hb1 ?_);refine rpt hb1 ?_;refine go ?_;(iterate 4 refine az rfl ?_);refine rpt rfl ?_;cases F;exact rcz []
  refine gn hb1 ?_;refine rgn hb1 (dz rfl rfl eu rfl rfl) ?_;refine gn hb1 ?_;refine rpf hb1 ?_;refine go ?_;rcases ie F with⟨hb2,F⟩ | ⟨hb2,F⟩
  ·(iterate 4 refine az hb2 ?_);refine rpt hb2 ?_;cases F;exact rcz []
  refine gn hb2 ?_;obtain⟨y3,h4,F⟩:=bs F;refine rgn hb2 (eH (k:= .i64) rfl rfl rfl h4 eu rfl rfl) ?_;obtain⟨y5,h6,F⟩:=bs F;refine rgn hb2 (cl 0 [.int .u8 (y3.toNat:Int)] [.p (.bool y5)] (xi h6)) ?_;refine gn hb2 ?_;refine rpf hb2 ?_;cases F;exact rcz []
 have F:=hK9;refine go ?_;refine cnd F (fun hb0 F=> ?_) fun hb0 F=> ?_
 ·refine go5 ?_;cases F;exact prt
 refine go5 ?_;obtain⟨u0,h0,F⟩:=bs F;refine rgp (MF (E:=cb) rfl rfl eu IV AH h0 rfl rfl rfl) ?_;refine go3 ?_;obtain⟨lr0,F,hK0⟩:=bs F;refine bV (((((bv a0).length:Int):Int) - (0)).toNat+1) (fun s1=>∃ q,lr0= .next q∧s1=(sX 37 [pf 0 (.str a0)] [] 0)) ?_ ?_
 ·refine bl (α:=Int) (fun q=>(sX 37 [pf 0 (.str a0),pf 19 (.vs 1 (List.map cb (bv a0))),pf 20 (.int .i64 ((bv a0).length:Int)),pf 21 (.int .i64 q)] [] 0)) (fun k q=>py a0 k q=some lr0) 0 (bc []) F (fun q h=>by cases h) ?_;clear F;rintro k x0 F ih;refine bg ?_;refine go3 ?_;refine ap ?_;refine cnd F (fun hb3 F=> ?_) fun hb3 F=> ?_
  ·refine go2 ?_;refine ap ?_;refine aM ?_;refine go ?_;obtain⟨y0,h1,F⟩:=bs F;refine rgp (ix (bR cb h1) oQ) ?_;refine go3 ?_;refine ap ?_;obtain⟨x1,F,hK1⟩:=bs F;refine ctx (sX 37 [pf 0 (.str a0),pf 19 (.vs 1 (List.map cb (bv a0))),pf 20 (.int .i64 ((bv a0).length:Int)),pf 21 (.int .i64 x0),pf 32 (.bool x1)] [] 0) ?_ ?_
   ·refine go2 ?_;obtain⟨y1,h2,F⟩:=bs F;refine rgp (cl 0 [.int .u8 y0] [.p (.bool y1)] (xi h2)) ?_;refine go2 ?_;rcases ie F with⟨hb4,F⟩ | ⟨hb4,F⟩
    ·refine gn hb4 ?_;obtain⟨y2,h3,F⟩:=bs F;refine rgn hb4 (cl 0 [.int .u8 y0] [.p (.bool y2)] (Gy h3)) ?_;refine gn hb4 ?_;refine rpt hb4 ?_;cases F;exact rcz []
    (iterate 3 refine aQ hb4 ?_);refine rpf hb4 ?_;cases F;exact rcz []
   have F:=hK1;refine go ?_;refine cnd F (fun hb5 F=> ?_) fun hb5 F=> ?_
   ·refine go7 ?_;refine bz ?_;cases F;have F:=bW hK0;refine go ?_;cases F;exact prt
   refine go6 ?_;refine rnr ?_;exact bq (ih (ae (x0+1)) F) (bc [])
  refine bu ?_;(iterate 2 refine ac ?_);cases F;exact aq _ ⟨_,rfl,rfl⟩ (bc [])
 rintro _ ⟨⟨⟩,rfl,rfl⟩;have F:=cn hK0;clear hK0;refine go3 ?_;obtain⟨y4,h5,F⟩:=bs F;refine rgp (cl 0 [.str a0] [.p (.int .i64 y4)] (JS h5)) ?_;refine go4 ?_;cases F;exact prt
theorem rk {a0:List (List UInt8)} {q1:(List UInt8)→Option Bool} {r:Bool} {q1_f:Nat} {q1_c:List PV} (q1_b:cT Tryz.prog q1_f=true) (q1_h:∀ (x0:List UInt8) (r:Bool),q1 x0=some r→FZ q1_f ([.str x0]++q1_c) [.p (.bool r)]) (F:dY a0 q1=some r):FZ 98 [.vs 1 (List.map eS a0),.fn q1_f q1_c] [.p (.bool r)]:=by
 unfold dY at F;refine ak (n:=9) Tryz.func98 rfl rfl rfl fun w O=> ?_;refine go6 ?_;obtain⟨y1,h2,F⟩:=bs F;refine rgp (cl 0 [.vs 1 (List.map eS a0),.fn q1_f q1_c] [.p (.int .i64 y1)] (mU (q1_b:=q1_b) (q1_h:=q1_h) h2)) ?_;refine go4 ?_;cases F;exact prt
theorem Ez {a0:List UInt8} {r:Bool} (F:rm a0=some r):FZ 99 [.str a0] [.p (.bool r)]:=by
 unfold rm at F;refine ak (n:=6) Tryz.func99 rfl rfl rfl fun w O=> ?_;refine go5 ?_;obtain⟨y1,h2,F⟩:=bs F;refine rgp (cl 0 [.str a0] [.p (.bool y1)] (gW h2)) ?_;refine go4 ?_;cases F;exact prt
theorem sD {a0:be} {a1:Int} {r:Bool} (F:nb a0 a1=some r):FZ 100 [.agg (ax a0),.int .i64 a1] [.p (.bool r)]:=by
 unfold nb at F;refine ak (n:=34) Tryz.func100 rfl rfl rfl fun w O=> ?_;refine go ?_;refine rgp (bo 0) ?_;refine go7 ?_;refine aM ?_;refine ap ?_;refine zM F (fun q=>(sX 34 [(2,some (.lp 0 0))] [bf 0 42 (ax a0)] 1)) ?_ ?_
 ·(iterate 3 refine aM ?_);refine ap ?_;refine aM ?_;refine ap ?_;refine aM ?_;refine go6 ?_;rcases lj F with⟨hb1,F⟩ | ⟨hb1,F⟩
  ·refine eO rfl hb1 ?_;refine bu ?_;(iterate 2 refine ac ?_);refine iI ?_;refine go7 ?_;rcases lj F with⟨hb2,F⟩ | ⟨hb2,F⟩
   ·(iterate 4 refine gn hb2 ?_);refine rpt hb2 ?_;refine go9 ?_;refine gd ?_
    replace F:=nz F
    refine go3 ?_;cases F;exact prt
   (iterate 4 refine aQ hb2 ?_);refine rpf hb2 ?_;refine go9 ?_;refine gd ?_
   replace F:=nz F
   refine go3 ?_;cases F;exact prt
  refine ez rfl hb1 ?_;refine go7 ?_;rcases lj F with⟨hb3,F⟩ | ⟨hb3,F⟩
  ·refine eO rfl hb3 ?_;refine bu ?_;(iterate 2 refine ac ?_);refine dL rfl ?_;refine ac ?_;refine iI ?_;(iterate 13 refine go ?_);refine gd ?_
   replace F:=nz F
   refine go3 ?_;cases F;exact prt
  refine ez rfl hb3 ?_;refine go7 ?_;rcases lj F with⟨hb4,F⟩ | ⟨hb4,F⟩
  ·refine eO rfl hb4 ?_;refine bu ?_;(iterate 2 refine ac ?_);refine dL rfl ?_;refine ac ?_;refine dL rfl ?_;refine ac ?_;refine iI ?_;refine go2 ?_;exact kX _ ⟨(),rfl,F⟩ (bc [0])
  refine ez rfl hb4 ?_;refine go7 ?_;rcases lj F with⟨hb5,F⟩ | ⟨hb5,F⟩
  ·refine eO rfl hb5 ?_;refine bu ?_;(iterate 2 refine ac ?_);refine dL rfl ?_;refine ac ?_;refine dL rfl ?_;refine ac ?_;refine dL rfl ?_;refine iI ?_;refine go ?_;exact kX _ ⟨(),rfl,F⟩ (bc [0])
  refine ez rfl hb5 ?_;refine go2 ?_;refine ap ?_;obtain⟨x8,F,hK0⟩:=ow F;refine ctx (sX 34 [(2,some (.lp 0 0)),pf 15 (.bool x8)] [bf 0 42 (ax a0)] 1) ?_ ?_
  ·refine go4 ?_;refine cnd F (fun hb6 F=> ?_) fun hb6 F=> ?_
   ·refine go ?_;cases F;exact pcz [0]
   refine go4 ?_;refine cnd F (fun hb7 F=> ?_) fun hb7 F=> ?_
   ·refine go ?_;cases F;exact pcz [0]
   refine go3 ?_;cases F;exact rcz [0]
  have F:=hK0;refine go ?_;rcases lj F with⟨hb0,F⟩ | ⟨hb0,F⟩
  ·refine eO rfl hb0 ?_;refine bu ?_;refine ac ?_;refine dL rfl ?_;refine ac ?_;refine dL rfl ?_;refine ac ?_;(iterate 2 refine dL rfl ?_);refine iI ?_;exact kX _ ⟨(),rfl,F⟩ (bc [0])
  refine ez rfl hb0 ?_;refine go2 ?_;refine bu ?_;refine dL rfl ?_;refine ac ?_;refine dL rfl ?_;refine ac ?_;(iterate 3 refine dL rfl ?_);refine FY ?_
  replace F:=nz F
  refine ac ?_;refine iI ?_;refine go5 ?_;cases F;exact prt
 rintro ⟨⟩ F;(iterate 12 refine go ?_);cases F;exact prt
theorem Jv {a0:aJ} {r:Bool} (F:uD a0=some r):FZ 67 [.agg (ah a0)] [.p (.bool r)]:=by
 unfold uD at F;refine ak (n:=56) Tryz.func67 rfl rfl rfl fun w O=> ?_;refine go ?_;refine rgp (bo 0) ?_;refine go8 ?_;(iterate 2 refine ap ?_);obtain⟨x0,F,hK0⟩:=bs F;refine ctx (sX 56 [(1,some (.lp 0 0)),pf 3 (.int .i64 (a0.ab.length:Int)),pf 27 (.bool x0)] [bf 0 39 (ah a0)] 1) ?_ ?_
 ·refine go3 ?_;obtain⟨y3,h4,F⟩:=bs F;refine rgp (cl 1 [.str a0.aj] [.p (.bool y3)] (gW h4)) ?_;refine go2 ?_;rcases ie F with⟨hb5,F⟩ | ⟨hb5,F⟩
  ·(iterate 2 refine az hb5 ?_);refine rpt hb5 ?_;refine go ?_;(iterate 4 refine az rfl ?_);refine rpt rfl ?_;refine go ?_;(iterate 3 refine az rfl ?_);refine rpt rfl ?_;cases F;exact rcz [0]
  (iterate 2 refine gn hb5 ?_);refine rpf hb5 ?_;refine go ?_;rcases ie F with⟨hb6,F⟩ | ⟨hb6,F⟩
  ·(iterate 4 refine az hb6 ?_);refine rpt hb6 ?_;refine go ?_;(iterate 3 refine az rfl ?_);refine rpt rfl ?_;cases F;exact rcz [0]
  (iterate 4 refine gn hb6 ?_);refine rpf hb6 ?_;refine go ?_;rcases ie F with⟨hb7,F⟩ | ⟨hb7,F⟩
  ·(iterate 3 refine az hb7 ?_);refine rpt hb7 ?_;cases F;exact rcz [0]
  (iterate 2 refine gn hb7 ?_);obtain⟨y9,h0,F⟩:=bs F;refine rgn hb7 (cl 1 [.vs 1 (List.map eS a0.ab),.fn 99 []] [.p (.bool y9)] (rk (q1_f:=99) (q1_c:=[]) (q1_b:=VZ) (q1_h:=fun _ r h=>(Ez h)) h0)) ?_;refine rpf hb7 ?_;cases F;exact rcz [0]
 have F:=hK0;refine go ?_;refine cnd F (fun hb0 F=> ?_) fun hb0 F=> ?_
 ·refine go5 ?_;cases F;exact prt
 refine go6 ?_;refine rgp (dX rfl rfl rfl rfl rfl rfl) ?_;refine go ?_;refine cnd F (fun hb1 F=> ?_) fun hb1 F=> ?_
 ·refine go9 ?_;cases F;exact prt
 refine go9 ?_;obtain⟨lr0,F,hK1⟩:=bs F;refine bV ((a0.bU.length - 0:Int).toNat+1) (fun s1=>∃ q,lr0= .next q∧s1=(sX 56 [(1,some (.lp 0 0))] [bf 0 39 (ah a0)] 1)) ?_ ?_
 ·refine bl (α:=Int) (fun q=>(sX 56 [(1,some (.lp 0 0)),pf 3 (.int .i64 (a0.ab.length:Int)),pf 36 (.vs 2 (List.map ax a0.bU)),pf 37 (.int .i64 (a0.bU.length:Int)),pf 38 (.int .i64 q)] [bf 0 39 (ah a0)] 1)) (fun k q=>nG a0 k q=some lr0) 0 (bc [0]) F (fun q h=>by cases h) ?_;clear F;rintro k x1 F ih;refine bg ?_;refine go3 ?_;refine ap ?_;refine cnd F (fun hb2 F=> ?_) fun hb2 F=> ?_
  ·refine go2 ?_;refine ap ?_;refine aM ?_;refine go ?_;obtain⟨y0,h1,F⟩:=bs F;refine rgp (ix (bR ax h1) nf) ?_;refine rgp (lw (ax y0) ir) ?_;refine rgp (al 1 (ax aB) nj) ?_;refine go6 ?_;refine aM ?_;refine ap ?_;obtain⟨x2,F,hK2⟩:=bs F;refine ctx (sX 56 [(1,some (.lp 0 0)),pf 3 (.int .i64 (a0.ab.length:Int)),(5,some (.lp 1 0)),pf 36 (.vs 2 (List.map ax a0.bU)),pf 37 (.int .i64 (a0.bU.length:Int)),pf 38 (.int .i64 x1),pf 44 (.bool x2)] [bf 0 39 (ah a0),bf 1 42 (ax y0)] 2) ?_ ?_
   ·refine go4 ?_;refine cnd F (fun hb3 F=> ?_) fun hb3 F=> ?_
    ·refine go ?_;cases F;exact pcz [0,1]
    refine go4 ?_;refine cnd F (fun hb4 F=> ?_) fun hb4 F=> ?_
    ·refine go ?_;cases F;exact pcz [0,1]
    refine go3 ?_;cases F;exact rcz [0,1]
   have F:=hK2;refine go ?_;refine cnd F (fun hb8 F=> ?_) fun hb8 F=> ?_
   ·refine go ?_;refine rgp (la (ax y0) ir) ?_;refine go ?_;obtain⟨y1,h2,F⟩:=bs F;refine rgp (cl 2 [.agg (ax y0),.int .i64 (a0.ab.length:Int)] [.p (.bool y1)] (sD h2)) ?_;refine go2 ?_;refine cnd F (fun hb9 F=> ?_) fun hb9 F=> ?_
    ·refine go8 ?_;refine bz ?_;cases F;have F:=bW hK1;refine go ?_;cases F;exact prt
    refine go7 ?_;refine rnr ?_;exact bq (ih (ae (x1+1)) F) (bc [0])
   refine go8 ?_;refine bz ?_;cases F;have F:=bW hK1;refine go ?_;cases F;exact prt
  refine bu ?_;(iterate 2 refine ac ?_);cases F;exact aq _ ⟨_,rfl,rfl⟩ (bc [0])
 rintro _ ⟨⟨⟩,rfl,rfl⟩;have F:=cn hK1;clear hK1;refine go4 ?_;obtain⟨y2,h3,F⟩:=bs F;refine rgp (cl 1 [.str a0.cO] [.p (.bool y2)] (gW h3)) ?_;refine go3 ?_;cases F;exact prt
theorem rR {a0:List dV} {q1:dV→Option Bool} {r:Int} {q1_f:Nat} {q1_c:List PV} (q1_b:cT Tryz.prog q1_f=true) (q1_h:∀ (x0:dV) (r:Bool),q1 x0=some r→FZ q1_f ([.agg (bm x0)]++q1_c) [.p (.bool r)]) (F:ia a0 q1=some r):FZ 127 [.vs 13 (List.map bm a0),.fn q1_f q1_c] [.p (.int .i64 r)]:=by
 unfold ia at F;refine ak (n:=19) Tryz.func127 rfl rfl rfl fun w O=> ?_;refine go9 ?_;obtain⟨lr0,F,hK0⟩:=bs F;refine bV ((a0.length - 0:Int).toNat+1) (fun s1=>∃ q,lr0= .next q∧s1=(sX 19 [] [] 0)) ?_ ?_
 ·refine bl (α:=Int) (fun q=>(sX 19 [pf 0 (.vs 13 (List.map bm a0)),pf 1 (.fn q1_f q1_c),pf 7 (.int .i64 (a0.length:Int)),pf 8 (.int .i64 q)] [] 0)) (fun k q=>eG a0 q1 k q=some lr0) 0 (bc []) F (fun q h=>by cases h) ?_;clear F;rintro k x1 F ih;refine bg ?_;refine go3 ?_;refine ap ?_;refine cnd F (fun hb0 F=> ?_) fun hb0 F=> ?_
  ·refine go2 ?_;refine ap ?_;refine aM ?_;refine go8 ?_;obtain⟨y0,h0,F⟩:=bs F;refine rgp (ix (bR bm h0) lu) ?_;refine rgp (lw (bm y0) rz) ?_;obtain⟨y1,h1,F⟩:=bs F;refine rgp (cJ 0 rfl (caps:=q1_c) (args:=[.agg (bm y0)]) (rs:=[.p (.bool y1)]) rfl rfl rfl q1_b (q1_h y0 _ h1) rfl rfl rfl) ?_;refine go ?_;refine cnd F (fun hb1 F=> ?_) fun hb1 F=> ?_
   ·refine go8 ?_;refine bz ?_;cases F;have F:=bW hK0;refine go ?_;cases F;exact prt
   refine go6 ?_;refine rnr ?_;exact bq (ih (ae (x1+1)) F) (bc [])
  refine bu ?_;(iterate 2 refine ac ?_);cases F;exact aq _ ⟨_,rfl,rfl⟩ (bc [])
 rintro _ ⟨⟨⟩,rfl,rfl⟩;have F:=cn hK0;clear hK0;refine go5 ?_;cases F;exact prt
theorem qm {a0:List dV} {q1:dV→Option Bool} {r:Bool} {q1_f:Nat} {q1_c:List PV} (q1_b:cT Tryz.prog q1_f=true) (q1_h:∀ (x0:dV) (r:Bool),q1 x0=some r→FZ q1_f ([.agg (bm x0)]++q1_c) [.p (.bool r)]) (F:eN a0 q1=some r):FZ 101 [.vs 13 (List.map bm a0),.fn q1_f q1_c] [.p (.bool r)]:=by
 unfold eN at F;refine ak (n:=9) Tryz.func101 rfl rfl rfl fun w O=> ?_;refine go6 ?_;obtain⟨y1,h2,F⟩:=bs F;refine rgp (cl 0 [.vs 13 (List.map bm a0),.fn q1_f q1_c] [.p (.int .i64 y1)] (rR (q1_b:=q1_b) (q1_h:=q1_h) h2)) ?_;refine go4 ?_;cases F;exact prt
theorem qF {a0:List be} {q1:be→Option Bool} {r:Int} {q1_f:Nat} {q1_c:List PV} (q1_b:cT Tryz.prog q1_f=true) (q1_h:∀ (x0:be) (r:Bool),q1 x0=some r→FZ q1_f ([.agg (ax x0)]++q1_c) [.p (.bool r)]) (F:gq a0 q1=some r):FZ 162 [.vs 2 (List.map ax a0),.fn q1_f q1_c] [.p (.int .i64 r)]:=by
 unfold gq at F;refine ak (n:=19) Tryz.func162 rfl rfl rfl fun w O=> ?_;refine go9 ?_;obtain⟨lr0,F,hK0⟩:=bs F;refine bV ((a0.length - 0:Int).toNat+1) (fun s1=>∃ q,lr0= .next q∧s1=(sX 19 [] [] 0)) ?_ ?_
 ·refine bl (α:=Int) (fun q=>(sX 19 [pf 0 (.vs 2 (List.map ax a0)),pf 1 (.fn q1_f q1_c),pf 7 (.int .i64 (a0.length:Int)),pf 8 (.int .i64 q)] [] 0)) (fun k q=>ec a0 q1 k q=some lr0) 0 (bc []) F (fun q h=>by cases h) ?_;clear F;rintro k x1 F ih;refine bg ?_;refine go3 ?_;refine ap ?_;refine cnd F (fun hb0 F=> ?_) fun hb0 F=> ?_
  ·refine go2 ?_;refine ap ?_;refine aM ?_;refine go8 ?_;obtain⟨y0,h0,F⟩:=bs F;refine rgp (ix (bR ax h0) nf) ?_;refine rgp (lw (ax y0) ir) ?_;obtain⟨y1,h1,F⟩:=bs F;refine rgp (cJ 0 rfl (caps:=q1_c) (args:=[.agg (ax y0)]) (rs:=[.p (.bool y1)]) rfl rfl rfl q1_b (q1_h y0 _ h1) rfl rfl rfl) ?_;refine go ?_;refine cnd F (fun hb1 F=> ?_) fun hb1 F=> ?_
   ·refine go8 ?_;refine bz ?_;cases F;have F:=bW hK0;refine go ?_;cases F;exact prt
   refine go6 ?_;refine rnr ?_;exact bq (ih (ae (x1+1)) F) (bc [])
  refine bu ?_;(iterate 2 refine ac ?_);cases F;exact aq _ ⟨_,rfl,rfl⟩ (bc [])
 rintro _ ⟨⟨⟩,rfl,rfl⟩;have F:=cn hK0;clear hK0;refine go5 ?_;cases F;exact prt
theorem pM {a0:List be} {q1:be→Option Bool} {r:Bool} {q1_f:Nat} {q1_c:List PV} (q1_b:cT Tryz.prog q1_f=true) (q1_h:∀ (x0:be) (r:Bool),q1 x0=some r→FZ q1_f ([.agg (ax x0)]++q1_c) [.p (.bool r)]) (F:eh a0 q1=some r):FZ 128 [.vs 2 (List.map ax a0),.fn q1_f q1_c] [.p (.bool r)]:=by
 unfold eh at F;refine ak (n:=9) Tryz.func128 rfl rfl rfl fun w O=> ?_;refine go6 ?_;obtain⟨y1,h2,F⟩:=bs F;refine rgp (cl 0 [.vs 2 (List.map ax a0),.fn q1_f q1_c] [.p (.int .i64 y1)] (qF (q1_b:=q1_b) (q1_h:=q1_h) h2)) ?_;refine go4 ?_;cases F;exact prt
theorem yW {a0:be} {r:Bool} (F:pX a0=some r):FZ 129 [.agg (ax a0)] [.p (.bool r)]:=by
 unfold pX at F;refine ak (n:=6) Tryz.func129 rfl rfl rfl fun w O=> ?_;refine go ?_;refine rgp (bo 0) ?_;refine go9 ?_;cases F;exact prt
theorem AY {a0:cj} {r:(List be)} (F:uM a0=some r):FZ 95 [.vp (br a0)] [.p (.vs 2 (List.map ax r))]:=by
 unfold uM at F;refine ak (n:=17) Tryz.func95 rfl rfl rfl fun w O=> ?_;refine go5 ?_;refine rgp (fx rfl rfl rfl rfl rfl) ?_;refine go2 ?_;refine rgp (J5 rfl rfl rfl rfl rfl) ?_;refine rgp (vn rfl rfl rfl rfl rfl) ?_;refine go5 ?_;refine rgp (fx rfl rfl rfl rfl rfl) ?_;refine go3 ?_;obtain⟨y1,h2,F⟩:=bs F;refine rgp (wq (f:=ax) (l:=(a0.aP).l) (nl:=none) (nh:=(some (ae ((if(if 3 < a0.fN then 3 else a0.fN) > 0 then(if 3 < a0.fN then 3 else a0.fN) else 0)+1)))) (nm:=(some (ae ((if(if 3 < a0.fN then 3 else a0.fN) > 0 then(if 3 < a0.fN then 3 else a0.fN) else 0)+1)))) rfl rfl rfl rfl rfl (.inr rfl) jR rfl (fun _=>rfl) rfl rfl h2 rfl rfl) ?_;refine go3 ?_;cases F;exact prt
theorem qC {a0:cj} {a1:Int} {r:Bool} (F:mQ a0 a1=some r):FZ 94 [.agg (br a0),.int .i64 a1] [.p (.bool r)]:=by
 unfold mQ at F;refine ak (n:=74) Tryz.func94 rfl rfl rfl fun w O=> ?_;refine go ?_;refine rgp (bo 0) ?_;refine go7 ?_;refine aM ?_;refine ap ?_;obtain⟨x2,F,hK4⟩:=bs F;refine ctx (sX 74 [pf 1 (.int .i64 a1),(2,some (.lp 0 0)),pf 13 (.int .i64 a0.aa),pf 14 (.bool x2)] [bf 0 45 (br a0)] 1) ?_ ?_
 ·refine go4 ?_;refine cnd F (fun hb1 F=> ?_) fun hb1 F=> ?_
  ·refine go ?_;cases F;exact pcz [0]
  refine go3 ?_;cases F;exact rcz [0]
 have F:=hK4;refine go ?_;refine cnd F (fun hb5 F=> ?_) fun hb5 F=> ?_
 ·refine go ?_;refine rgp (la (br a0) ff) ?_;refine go2 ?_;refine rgp (bd ((br mF)) (br (⟨a0.aa,[],0,(⟨aB,aB,aB,aB⟩:A4 be)⟩:cj)) sH Aj) ?_;refine rgp (vE (r:=qg a0 (⟨a0.aa,[],0,(⟨aB,aB,aB,aB⟩:A4 be)⟩:cj)) rfl rfl rfl Jd rfl rfl rfl rfl rfl) ?_;refine go5 ?_;cases F;exact prt
 refine go4 ?_;refine cnd F (fun hb6 F=> ?_) fun hb6 F=> ?_
 ·refine ap ?_;obtain⟨x0,F,hK0⟩:=bs F;refine ctx (sX 74 [pf 1 (.int .i64 a1),(2,some (.lp 0 0)),pf 37 (.bool x0)] [bf 0 45 (br a0)] 1) ?_ ?_
  ·refine go3 ?_;obtain⟨y9,h0,F⟩:=bs F;refine rgp (cl 1 [.str a0.ca] [.p (.bool y9)] (gW h0)) ?_;refine go2 ?_;rcases ie F with⟨hb0,F⟩ | ⟨hb0,F⟩
   ·(iterate 3 refine az hb0 ?_);refine rpt hb0 ?_;refine go ?_;(iterate 3 refine az rfl ?_);refine rpt rfl ?_;cases F;exact rcz [0]
   (iterate 3 refine gn hb0 ?_);refine rpf hb0 ?_;refine go ?_;rcases ie F with⟨hb2,F⟩ | ⟨hb2,F⟩
   ·(iterate 3 refine az hb2 ?_);refine rpt hb2 ?_;cases F;exact rcz [0]
   (iterate 3 refine gn hb2 ?_);refine rpf hb2 ?_;cases F;exact rcz [0]
  have F:=hK0;refine go ?_;refine cnd F (fun hb3 F=> ?_) fun hb3 F=> ?_
  ·refine go6 ?_;cases F;exact prt
  refine go4 ?_;refine dI (jq [(0,some (.box 45 (bxv (br a0))))] [(2,some (.pv (.vp (br a0))))] (FzH.spec ⟨rfl,trivial⟩) ⟨⟨_,rfl,rfl⟩,trivial⟩) ?_;obtain⟨y0,h1,F⟩:=bs F;refine rgp (cl 1 [.vp (br a0)] [.p (.vs 2 (List.map ax y0))] (AY h1)) ?_;refine go8 ?_;obtain⟨lr0,F,hK1⟩:=bs F;refine bV ((y0.length - 0:Int).toNat+1) (fun s1=>∃ q,lr0= .next q∧s1=(sX 74 [pf 2 (.vp (br a0)),pf 5 (.vs 2 (List.map ax y0))] [] 0)) ?_ ?_
  ·refine bl (α:=Int) (fun q=>(sX 74 [pf 1 (.int .i64 a1),pf 2 (.vp (br a0)),pf 5 (.vs 2 (List.map ax y0)),pf 39 (.vs 2 (List.map ax y0)),pf 40 (.int .i64 (y0.length:Int)),pf 41 (.int .i64 q)] [] 0)) (fun k q=>mB a1 y0 k q=some lr0) 0 (bc []) F (fun q h=>by cases h) ?_;clear F;rintro k x1 F ih;refine bg ?_;refine go3 ?_;refine ap ?_;refine cnd F (fun hb4 F=> ?_) fun hb4 F=> ?_
   ·refine go2 ?_;refine ap ?_;refine aM ?_;refine go ?_;obtain⟨y1,h2,F⟩:=bs F;refine rgp (ix (bR ax h2) nf) ?_;refine rgp (lw (ax y1) ir) ?_;refine rgp (al 0 (ax aB) nj) ?_;refine go3 ?_;refine rgp (la (ax y1) ir) ?_;refine go ?_;obtain⟨y2,h3,F⟩:=bs F;refine rgp (cl 1 [.agg (ax y1),.int .i64 a1] [.p (.bool y2)] (sD h3)) ?_;refine go2 ?_;refine cnd F (fun hb7 F=> ?_) fun hb7 F=> ?_
    ·refine go7 ?_;refine bz ?_;cases F;have F:=bW hK1;refine go ?_;cases F;exact prt
    refine go6 ?_;refine rnr ?_;exact bq (ih (ae (x1+1)) F) (bc [])
   refine bu ?_;(iterate 2 refine ac ?_);cases F;exact aq _ ⟨_,rfl,rfl⟩ (bc [])
  rintro _ ⟨⟨⟩,rfl,rfl⟩;have F:=cn hK1;clear hK1;refine go4 ?_;obtain⟨y3,h4,F⟩:=bs F;refine rgp (xj (nl:=(some 1)) (nh:=none) (nm:=none) rfl rfl rfl rfl rfl (.inl rfl) nf (Kv (nl:=(some 1)) (nh:=none) ax h4) rfl rfl) ?_;refine go3 ?_;obtain⟨lr1,F,hK2⟩:=bs F;refine bV ((y3.length - 0:Int).toNat+1) (fun s1=>∃ q,lr1= .next q∧s1=(sX 74 [pf 2 (.vp (br a0)),pf 5 (.vs 2 (List.map ax y0))] [] 0)) ?_ ?_
  ·refine bl (α:=Int) (fun q=>(sX 74 [pf 2 (.vp (br a0)),pf 5 (.vs 2 (List.map ax y0)),pf 51 (.vs 2 (List.map ax y3)),pf 52 (.int .i64 (y3.length:Int)),pf 53 (.int .i64 q)] [] 0)) (fun k q=>mo y3 k q=some lr1) 0 (bc []) F (fun q h=>by cases h) ?_;clear F;rintro k x3 F ih;refine bg ?_;refine go3 ?_;refine ap ?_;refine cnd F (fun hb8 F=> ?_) fun hb8 F=> ?_
   ·refine go2 ?_;refine ap ?_;refine aM ?_;refine go ?_;obtain⟨y4,h5,F⟩:=bs F;refine rgp (ix (bR ax h5) nf) ?_;refine rgp (lw (ax y4) ir) ?_;refine rgp (al 0 (ax aB) nj) ?_;refine go7 ?_;refine cnd F (fun hb9 F=> ?_) fun hb9 F=> ?_
    ·refine go7 ?_;refine bz ?_;cases F;have F:=bW hK2;refine go ?_;cases F;exact prt
    refine go6 ?_;refine rnr ?_;exact bq (ih (ae (x3+1)) F) (bc [])
   refine bu ?_;(iterate 2 refine ac ?_);cases F;exact aq _ ⟨_,rfl,rfl⟩ (bc [])
  rintro _ ⟨⟨⟩,rfl,rfl⟩;have F:=cn hK2;clear hK2;refine go6 ?_;obtain⟨y5,h6,F⟩:=bs F;refine rgp (wq (f:=ax) (l:=(a0.aP).l) (nl:=(some (y0.length:Int))) (nh:=none) (nm:=none) rfl rfl rfl rfl rfl (.inl rfl) jR rfl (fun _=>rfl) rfl rfl h6 rfl rfl) ?_;refine go3 ?_;obtain⟨lr2,F,hK3⟩:=bs F;refine bV ((y5.length - 0:Int).toNat+1) (fun s1=>∃ q,lr2= .next q∧s1=(sX 74 [] [] 0)) ?_ ?_
  ·refine bl (α:=Int) (fun q=>(sX 74 [pf 64 (.vs 2 (List.map ax y5)),pf 65 (.int .i64 (y5.length:Int)),pf 66 (.int .i64 q)] [] 0)) (fun k q=>ma y5 k q=some lr2) 0 (bc []) F (fun q h=>by cases h) ?_;clear F;rintro k x4 F ih;refine bg ?_;refine go3 ?_;refine ap ?_;refine cnd F (fun hb10 F=> ?_) fun hb10 F=> ?_
   ·refine go2 ?_;refine ap ?_;refine aM ?_;refine go ?_;obtain⟨y6,h7,F⟩:=bs F;refine rgp (ix (bR ax h7) nf) ?_;refine rgp (lw (ax y6) ir) ?_;refine rgp (al 0 (ax aB) nj) ?_;refine go3 ?_;refine rgp (la (ax y6) ir) ?_;refine rgp (bd ((ax aB)) (ax aB) nj Et) ?_;refine rgp (uN (r:=lv y6 aB) rfl rfl rfl QV rfl rfl rfl rfl rfl) ?_;refine go ?_;refine cnd F (fun hb13 F=> ?_) fun hb13 F=> ?_
    ·refine go7 ?_;refine bz ?_;cases F;have F:=bW hK3;refine go ?_;cases F;exact prt
    refine go6 ?_;refine rnr ?_;exact bq (ih (ae (x4+1)) F) (bc [])
   refine bu ?_;(iterate 2 refine ac ?_);cases F;exact aq _ ⟨_,rfl,rfl⟩ (bc [])
  rintro _ ⟨⟨⟩,rfl,rfl⟩;have F:=cn hK3;clear hK3;refine go5 ?_;cases F;exact prt
 refine go6 ?_;cases F;exact prt
theorem rB {a0:cj} {a1:Int} {r:Bool} (F:li a0 a1=some r):FZ 103 [.agg (br a0),.int .i64 a1] [.p (.bool r)]:=by
 unfold li at F;refine ak (n:=30) Tryz.func103 rfl rfl rfl fun w O=> ?_;refine go ?_;refine rgp (bo 0) ?_;refine go4 ?_;refine dI (jq [(0,some (.box 45 (bxv (br a0))))] [(2,some (.pv (.vp (br a0)))),(6,some (.pv (.vp (List.drop 3 (br a0)))))] (FzH.spec ⟨rfl,trivial⟩) ⟨⟨_,rfl,rfl⟩,⟨_,rfl,rfl⟩,trivial⟩) ?_;obtain⟨y6,h7,F⟩:=bs F;refine rgp (wq (f:=ax) (l:=(a0.aP).l) (nl:=(some 1)) (nh:=none) (nm:=none) rfl rfl rfl rfl rfl (.inl rfl) jR rfl (fun _=>rfl) rfl rfl h7 rfl rfl) ?_;obtain⟨y9,h0,F⟩:=bs F;refine rgp (cl 1 [.vs 2 (List.map ax y6),.fn 129 []] [.p (.bool y9)] (pM (q1_f:=129) (q1_c:=[]) (q1_b:=Uk) (q1_h:=fun _ r h=>(yW h)) h0)) ?_;refine go6 ?_;rcases ie F with⟨hb0,F⟩ | ⟨hb0,F⟩
 ·refine rgn hb0 (lw (br a0) ff) ?_;refine gn hb0 ?_;obtain⟨y0,h1,F⟩:=bs F;refine rgn hb0 (cl 1 [.agg (br a0),.int .i64 a1] [.p (.bool y0)] (qC h1)) ?_;refine rpt hb0 ?_;refine go ?_;rcases ie F with⟨hb1,F⟩ | ⟨hb1,F⟩
  ·refine gn hb1 ?_;refine rgn hb1 (uI (k:= .i64) (m:=0) (n:=4) rfl rfl rfl jR rfl rfl rfl rfl) ?_;(iterate 4 refine gn hb1 ?_);rcases ie F with⟨hb2,F⟩ | ⟨hb2,F⟩
   ·(iterate 5 refine az hb2 ?_);refine rgn hb1 (ba rfl rfl hb2 rfl rfl rfl) ?_;refine rpt hb1 ?_;refine go3 ?_;cases F;exact prt
   refine gn hb2 ?_;refine rgn hb2 (uI (k:= .i64) (m:=0) (n:=4) rfl rfl rfl jR rfl rfl rfl rfl) ?_;(iterate 3 refine gn hb2 ?_);refine rgn hb1 (aC rfl rfl hb2 rfl rfl rfl) ?_;refine rpt hb1 ?_;refine go3 ?_;cases F;exact prt
  (iterate 6 refine aQ hb1 ?_);refine go5 ?_;refine aQ hb1 ?_;refine rpf hb1 ?_;refine go3 ?_;cases F;exact prt
 (iterate 3 refine aQ hb0 ?_);refine rpf hb0 ?_;refine go ?_;(iterate 6 refine aQ rfl ?_);refine go5 ?_;refine aQ rfl ?_;refine rpf rfl ?_;refine go3 ?_;cases F;exact prt
theorem Fq {a0:dV} {c0:Int} {r:Bool} (F:tB a0 c0=some r):FZ 102 [.agg (bm a0),.vp (eI c0)] [.p (.bool r)]:=by
 unfold tB at F;refine ak (n:=21) Tryz.func102 rfl rfl rfl fun w O=> ?_;refine go ?_;refine rgp (bo 0) ?_;refine go8 ?_;rcases ie F with⟨hb1,F⟩ | ⟨hb1,F⟩
 ·(iterate 4 refine az hb1 ?_);refine rpt hb1 ?_;refine go ?_;(iterate 5 refine az rfl ?_);refine rpt rfl ?_;refine go3 ?_;cases F;exact prt
 (iterate 2 refine gn hb1 ?_);obtain⟨y2,h3,F⟩:=bs F;refine rgn hb1 (cl 1 [.str a0.aj] [.p (.bool y2)] (gW h3)) ?_;refine gn hb1 ?_;refine rpf hb1 ?_;refine go ?_;rcases ie F with⟨hb4,F⟩ | ⟨hb4,F⟩
 ·(iterate 5 refine az hb4 ?_);refine rpt hb4 ?_;refine go3 ?_;cases F;exact prt
 refine gn hb4 ?_;refine rgn hb4 (la (br a0.bt) ff) ?_;refine gn hb4 ?_;obtain⟨y5,h6,F⟩:=bs F;refine rgn hb4 (cl 1 [.agg (br a0.bt),.int .i64 c0] [.p (.bool y5)] (rB h6)) ?_;refine gn hb4 ?_;refine rpf hb4 ?_;refine go3 ?_;cases F;exact prt
theorem uV {a0:List dV} {a1:Int} {a2:Int} {r:Bool} (F:lU a0 a1 a2=some r):FZ 68 [.vs 13 (List.map bm a0),.int .i64 a1,.int .i64 a2] [.p (.bool r)]:=by
 unfold lU at F;refine ak (n:=17) Tryz.func68 rfl rfl rfl fun w O=> ?_;refine go ?_;refine rgp (bo 0) ?_;refine go8 ?_;rcases ie F with⟨hb1,F⟩ | ⟨hb1,F⟩
 ·refine gn hb1 ?_;refine rgn hb1 (jJ rfl rfl rfl rfl) ?_;obtain⟨y3,h4,F⟩:=bs F;refine rgn hb1 (kS 1 rfl (caps:=[]) (args:=[.vs 13 (List.map bm a0),.fn 102 [.vp (eI a2)]]) [(0,some (.box 3 [.pv (.int .i64 a2)]))] rfl rfl rfl (FzH.spec ⟨rfl,trivial⟩) rfl rfl TI (qm (q1_f:=102) (q1_c:=[.vp (eI a2)]) (q1_b:=Tj) (q1_h:=fun _ r h=>(Fq h)) h4) rfl rfl rfl) ?_;refine gn hb1 ?_;refine rpt hb1 ?_;refine go3 ?_;cases F;exact prt
 (iterate 4 refine aQ hb1 ?_);refine rpf hb1 ?_;refine go3 ?_;cases F;exact prt
theorem qp {a0:List bG} {q1:bG→Option Bool} {r:Int} {q1_f:Nat} {q1_c:List PV} (q1_b:cT Tryz.prog q1_f=true) (q1_h:∀ (x0:bG) (r:Bool),q1 x0=some r→FZ q1_f ([.agg (ay x0)]++q1_c) [.p (.bool r)]) (F:gi a0 q1=some r):FZ 104 [.vs 17 (List.map ay a0),.fn q1_f q1_c] [.p (.int .i64 r)]:=by
 unfold gi at F;refine ak (n:=19) Tryz.func104 rfl rfl rfl fun w O=> ?_;refine go9 ?_;obtain⟨lr0,F,hK0⟩:=bs F;refine bV ((a0.length - 0:Int).toNat+1) (fun s1=>∃ q,lr0= .next q∧s1=(sX 19 [] [] 0)) ?_ ?_
 ·refine bl (α:=Int) (fun q=>(sX 19 [pf 0 (.vs 17 (List.map ay a0)),pf 1 (.fn q1_f q1_c),pf 7 (.int .i64 (a0.length:Int)),pf 8 (.int .i64 q)] [] 0)) (fun k q=>dZ a0 q1 k q=some lr0) 0 (bc []) F (fun q h=>by cases h) ?_;clear F;rintro k x1 F ih;refine bg ?_;refine go3 ?_;refine ap ?_;refine cnd F (fun hb0 F=> ?_) fun hb0 F=> ?_
  ·refine go2 ?_;refine ap ?_;refine aM ?_;refine go8 ?_;obtain⟨y0,h0,F⟩:=bs F;refine rgp (ix (bR ay h0) qv) ?_;refine rgp (lw (ay y0) oX) ?_;obtain⟨y1,h1,F⟩:=bs F;refine rgp (cJ 0 rfl (caps:=q1_c) (args:=[.agg (ay y0)]) (rs:=[.p (.bool y1)]) rfl rfl rfl q1_b (q1_h y0 _ h1) rfl rfl rfl) ?_;refine go ?_;refine cnd F (fun hb1 F=> ?_) fun hb1 F=> ?_
   ·refine go8 ?_;refine bz ?_;cases F;have F:=bW hK0;refine go ?_;cases F;exact prt
   refine go6 ?_;refine rnr ?_;exact bq (ih (ae (x1+1)) F) (bc [])
  refine bu ?_;(iterate 2 refine ac ?_);cases F;exact aq _ ⟨_,rfl,rfl⟩ (bc [])
 rintro _ ⟨⟨⟩,rfl,rfl⟩;have F:=cn hK0;clear hK0;refine go5 ?_;cases F;exact prt
theorem pt {a0:List bG} {q1:bG→Option Bool} {r:Bool} {q1_f:Nat} {q1_c:List PV} (q1_b:cT Tryz.prog q1_f=true) (q1_h:∀ (x0:bG) (r:Bool),q1 x0=some r→FZ q1_f ([.agg (ay x0)]++q1_c) [.p (.bool r)]) (F:dy a0 q1=some r):FZ 69 [.vs 17 (List.map ay a0),.fn q1_f q1_c] [.p (.bool r)]:=by
 unfold dy at F;refine ak (n:=9) Tryz.func69 rfl rfl rfl fun w O=> ?_;refine go6 ?_;obtain⟨y1,h2,F⟩:=bs F;refine rgp (cl 0 [.vs 17 (List.map ay a0),.fn q1_f q1_c] [.p (.int .i64 y1)] (qp (q1_b:=q1_b) (q1_h:=q1_h) h2)) ?_;refine go4 ?_;cases F;exact prt
theorem Lj {a0:Int} {r:Int} (F:pA a0=some r):FZ 130 [.int .i64 a0] [.p (.int .i64 r)]:=by
 unfold pA at F;refine ak (n:=26) Tryz.func130 rfl rfl rfl fun w O=> ?_;refine go7 ?_;refine aM ?_;refine go4 ?_;refine cnd F (fun hb1 F=> ?_) fun hb1 F=> ?_
 ·refine go6 ?_;cases F;exact prt
 refine go4 ?_;refine cnd F (fun hb2 F=> ?_) fun hb2 F=> ?_
 ·refine go6 ?_;cases F;exact prt
 refine go4 ?_;refine cnd F (fun hb3 F=> ?_) fun hb3 F=> ?_
 ·refine go6 ?_;cases F;exact prt
 refine go4 ?_;refine cnd F (fun hb4 F=> ?_) fun hb4 F=> ?_
 ·refine go6 ?_;cases F;exact prt
 refine go4 ?_;refine cnd F (fun hb5 F=> ?_) fun hb5 F=> ?_
 ·refine go6 ?_;cases F;exact prt
 refine go4 ?_;refine cnd F (fun hb6 F=> ?_) fun hb6 F=> ?_
 ·refine go6 ?_;cases F;exact prt
 refine go4 ?_;refine cnd F (fun hb7 F=> ?_) fun hb7 F=> ?_
 ·refine go6 ?_;cases F;exact prt
 refine go4 ?_;refine cnd F (fun hb8 F=> ?_) fun hb8 F=> ?_
 ·refine go6 ?_;cases F;exact prt
 refine go4 ?_;refine cnd F (fun hb9 F=> ?_) fun hb9 F=> ?_
 ·refine go6 ?_;cases F;exact prt
 refine go4 ?_;refine cnd F (fun hb0 F=> ?_) fun hb0 F=> ?_
 ·refine go6 ?_;cases F;exact prt
 refine go4 ?_;refine cnd F (fun hb12 F=> ?_) fun hb12 F=> ?_
 ·refine go6 ?_;cases F;exact prt
 refine go7 ?_;cases F;exact prt
theorem FB {a0:aI} {a1:Int} {r:Bool} (F:sE a0 a1=some r):FZ 131 [.agg (aE a0),.int .i64 a1] [.p (.bool r)]:=by
 unfold sE at F;refine ak (n:=58) Tryz.func131 rfl rfl rfl fun w O=> ?_;refine go ?_;refine rgp (bo 0) ?_;refine go2 ?_;refine ap ?_;refine zM F (fun q=>(sX 58 [pf 1 (.int .i64 a1),(2,some (.lp 0 0))] [bf 0 55 (aE a0)] 1)) ?_ ?_
 ·refine aM ?_;refine ap ?_;obtain⟨x3,F,hK5⟩:=ow F;refine ctx (sX 58 [pf 1 (.int .i64 a1),(2,some (.lp 0 0)),pf 5 (.bool x3)] [bf 0 55 (aE a0)] 1) ?_ ?_
  ·refine go2 ?_;refine rgp (iz (k:= .i64) (m:=a1) (n:=1) rfl rfl rfl rfl rfl rfl) ?_;refine go2 ?_;rcases ie F with⟨hb1,F⟩ | ⟨hb1,F⟩
   ·(iterate 4 refine az hb1 ?_);refine go3 ?_;refine az hb1 ?_;refine rpt hb1 ?_;refine go ?_;cases F;exact rcz [0]
   refine gn hb1 ?_;refine rgn hb1 (iz (k:= .i64) (m:=a1) (n:=512) rfl rfl rfl rfl rfl rfl) ?_;(iterate 2 refine gn hb1 ?_);rcases ie F with⟨hb2,F⟩ | ⟨hb2,F⟩
   ·(iterate 2 refine gn hb2 ?_);refine rgn hb2 (dX rfl rfl rfl rfl rfl rfl) ?_;refine rgn hb1 (ba rfl rfl hb2 rfl rfl rfl) ?_;refine rpf hb1 ?_;refine go ?_;cases F;exact rcz [0]
   (iterate 3 refine aQ hb2 ?_);refine rgn hb1 (aC rfl rfl hb2 rfl rfl rfl) ?_;refine rpf hb1 ?_;refine go ?_;cases F;exact rcz [0]
  have F:=hK5;refine go ?_;rcases lj F with⟨hb6,F⟩ | ⟨hb6,F⟩
  ·refine eO rfl hb6 ?_;refine go3 ?_;refine rgp (dX rfl rfl rfl rfl rfl rfl) ?_;refine go ?_;rcases lj F with⟨hb7,F⟩ | ⟨hb7,F⟩
   ·refine eO rfl hb7 ?_;refine go5 ?_;refine gd ?_
    replace F:=nz F
    refine go ?_;cases F;exact prt
   refine ez rfl hb7 ?_;refine go2 ?_;exact kX _ ⟨(),rfl,F⟩ (bc [0])
  refine ez rfl hb6 ?_;refine go3 ?_;obtain⟨y0,h0,F⟩:=ow F;refine rgp (cl 1 [.str a0.fX] [.p (.bool y0)] (gW h0)) ?_;refine go3 ?_;rcases lj F with⟨hb0,F⟩ | ⟨hb0,F⟩
  ·refine eO rfl hb0 ?_;refine go5 ?_;refine gd ?_
   replace F:=nz F
   refine go ?_;cases F;exact prt
  refine ez rfl hb0 ?_;refine go2 ?_;exact kX _ ⟨(),rfl,F⟩ (bc [0])
 rintro ⟨⟩ F;refine go ?_;refine ap ?_;refine zM F (fun q=>(sX 58 [pf 1 (.int .i64 a1),(2,some (.lp 0 0))] [bf 0 55 (aE a0)] 1)) ?_ ?_
 ·refine aM ?_;refine go2 ?_;refine rgp (iz (k:= .i64) (m:=a1) (n:=2) rfl rfl rfl rfl rfl rfl) ?_;refine go3 ?_;rcases lj F with⟨hb3,F⟩ | ⟨hb3,F⟩
  ·refine eO rfl hb3 ?_;refine go3 ?_;refine rgp (dX rfl rfl rfl rfl rfl rfl) ?_;refine go ?_;rcases lj F with⟨hb4,F⟩ | ⟨hb4,F⟩
   ·refine eO rfl hb4 ?_;refine go5 ?_;refine gd ?_
    replace F:=nz F
    refine go ?_;cases F;exact prt
   refine ez rfl hb4 ?_;refine go2 ?_;exact kX _ ⟨(),rfl,F⟩ (bc [0])
  refine ez rfl hb3 ?_;refine ap ?_;obtain⟨x0,F,hK0⟩:=ow F;refine ctx (sX 58 [pf 1 (.int .i64 a1),(2,some (.lp 0 0)),pf 34 (.bool x0)] [bf 0 55 (aE a0)] 1) ?_ ?_
  ·refine go3 ?_;obtain⟨y1,h1,F⟩:=bs F;refine rgp (cl 1 [.str a0.fY] [.p (.bool y1)] (gW h1)) ?_;refine go2 ?_;rcases ie F with⟨hb5,F⟩ | ⟨hb5,F⟩
   ·refine gn hb5 ?_;refine rgn hb5 (iz (k:= .i64) (m:=a1) (n:=4) rfl rfl rfl rfl rfl rfl) ?_;(iterate 2 refine gn hb5 ?_);rcases ie F with⟨hb8,F⟩ | ⟨hb8,F⟩
    ·(iterate 3 refine az hb8 ?_);refine rgn hb5 (ba rfl rfl hb8 rfl rfl rfl) ?_;refine rpt hb5 ?_;refine go ?_;cases F;exact rcz [0]
    (iterate 2 refine gn hb8 ?_);refine rgn hb8 (dX rfl rfl rfl rfl rfl rfl) ?_;refine rgn hb5 (aC rfl rfl hb8 rfl rfl rfl) ?_;refine rpt hb5 ?_;refine go ?_;cases F;exact rcz [0]
   (iterate 4 refine aQ hb5 ?_);refine go3 ?_;refine aQ hb5 ?_;refine rpf hb5 ?_;refine go ?_;cases F;exact rcz [0]
  have F:=hK0;refine go ?_;rcases lj F with⟨hb9,F⟩ | ⟨hb9,F⟩
  ·refine eO rfl hb9 ?_;refine go5 ?_;refine gd ?_
   replace F:=nz F
   refine go ?_;cases F;exact prt
  refine ez rfl hb9 ?_;refine go2 ?_;exact kX _ ⟨(),rfl,F⟩ (bc [0])
 rintro ⟨⟩ F;refine go4 ?_;refine rgp (iz (k:= .i64) (m:=a1) (n:=8) rfl rfl rfl rfl rfl rfl) ?_;refine go2 ?_;refine cnd F (fun hb10 F=> ?_) fun hb10 F=> ?_
 ·refine go3 ?_;refine rgp (dX rfl rfl rfl rfl rfl rfl) ?_;refine go4 ?_;cases F;exact prt
 refine go5 ?_;obtain⟨y2,h2,F⟩:=bs F;refine rgp (cl 1 [.str a0.aj] [.p (.bool y2)] (gW h2)) ?_;refine go3 ?_;cases F;exact prt
theorem rq {a0:List au} {a1:List au} {q2:au→au→Option Bool} {r:Bool} {q2_f:Nat} {q2_c:List PV} (q2_b:cT Tryz.prog q2_f=true) (q2_h:∀ (x0:au) (x1:au) (r:Bool),q2 x0 x1=some r→FZ q2_f ([.agg (ai x0),.agg (ai x1)]++q2_c) [.p (.bool r)]) (F:gH a0 a1 q2=some r):FZ 206 [.vs 4 (cc a0),.vs 4 (cc a1),.fn q2_f q2_c] [.p (.bool r)]:=by
 unfold gH at F;refine ak (n:=32) Tryz.func206 rfl rfl rfl fun w O=> ?_;refine go6 ?_;refine rgp (bL (n:=a0.length) rfl rfl (fB aU) cG rfl rfl) ?_;refine go ?_;refine rgp (bL (n:=a1.length) rfl rfl (fB aU) cG rfl rfl) ?_;refine go2 ?_;refine cnd F (fun hb1 F=> ?_) fun hb1 F=> ?_
 ·refine go5 ?_;cases F;exact prt
 refine go5 ?_;refine rgp (bL (n:=a0.length) rfl rfl (fB aU) cG rfl rfl) ?_;refine go2 ?_;obtain⟨lr0,F,hK0⟩:=bs F;refine bV ((a0.length - 0:Int).toNat+1) (fun s1=>∃ q,lr0= .next q∧s1=(sX 32 [] [] 0)) ?_ ?_
 ·refine bl (α:=Int) (fun q=>(sX 32 [pf 1 (.vs 4 (cc a1)),pf 2 (.fn q2_f q2_c),pf 15 (.vs 4 (cc a0)),pf 16 (.int .i64 (a0.length:Int)),pf 17 (.int .i64 q)] [] 0)) (fun k q=>fW a0 a1 q2 k q=some lr0) 0 (bc []) F (fun q h=>by cases h) ?_;clear F;rintro k x2 F ih;refine bg ?_;refine go3 ?_;refine ap ?_;refine cnd F (fun hb0 F=> ?_) fun hb0 F=> ?_
  ·refine go2 ?_;refine ap ?_;refine aM ?_;refine go2 ?_;obtain⟨y0,h0,F⟩:=bs F;refine rgp (ix (gV aU h0) cG) ?_;refine rgp (lw (ai y0) da) ?_;refine rgp (al 0 (ai gv) qi) ?_;refine go6 ?_;obtain⟨y1,h1,F⟩:=bs F;refine rgp (ix (gV aU h1) cG) ?_;refine rgp (lw (ai y1) da) ?_;refine rgp (al 1 (ai gv) qi) ?_;refine go4 ?_;refine rgp (la (ai y0) da) ?_;refine rgp (la (ai y1) da) ?_;obtain⟨y2,h2,F⟩:=bs F;refine rgp (cJ 2 rfl (caps:=q2_c) (args:=[.agg (ai y0),.agg (ai y1)]) (rs:=[.p (.bool y2)]) rfl rfl rfl q2_b (q2_h y0 y1 _ h2) rfl rfl rfl) ?_;refine go2 ?_;refine cnd F (fun hb2 F=> ?_) fun hb2 F=> ?_
   ·refine go7 ?_;refine bz ?_;cases F;have F:=bW hK0;refine go ?_;cases F;exact prt
   refine go6 ?_;refine rnr ?_;exact bq (ih (ae (x2+1)) F) (bc [])
  refine bu ?_;(iterate 2 refine ac ?_);cases F;exact aq _ ⟨_,rfl,rfl⟩ (bc [])
 rintro _ ⟨⟨⟩,rfl,rfl⟩;have F:=cn hK0;clear hK0;refine go5 ?_;cases F;exact prt
theorem E7 : ∀ n:Nat,(∀ (a0:au) (a1:au) (r:Bool),po n a0 a1=some r→FZ 184 [.agg (ai a0),.agg (ai a1)] [.p (.bool r)]):=by
 intro n
 induction n with
 | zero=>exact(fun _ _ _ h=>by simp[po] at h)
 | succ n ih=>
  have expr_Same_ih:=ih;clear ih;intro a0 a1 r F;unfold po at F
  revert F expr_Same_ih
  generalize po n=expr_Same_rec
  intro expr_Same_ih F;refine ak (n:=31) Tryz.func184 rfl rfl rfl fun w O=> ?_;refine go ?_;refine rgp (bo 0) ?_;refine rgp (bo 1) ?_;refine go9 ?_;rcases ie F with⟨hb1,F⟩ | ⟨hb1,F⟩
  ·(iterate 5 refine gn hb1 ?_);refine rpt hb1 ?_;refine go ?_;rcases ie F with⟨hb2,F⟩ | ⟨hb2,F⟩
   ·(iterate 4 refine gn hb2 ?_);refine rgn hb2 (dX rfl rfl rfl rfl rfl rfl) ?_;refine rpt hb2 ?_;refine go ?_;rcases ie F with⟨hb3,F⟩ | ⟨hb3,F⟩
    ·(iterate 4 refine gn hb3 ?_);obtain⟨y6,h7,F⟩:=bs F;refine rgn hb3 (cl 2 [.vs 4 (cc a0.aZ),.vs 4 (cc a1.aZ),.fn 184 []] [.p (.bool y6)] (rq (q2_f:=184) (q2_c:=[]) (q2_b:=Ta) (q2_h:=fun _ _ r h=>(expr_Same_ih _ _ _ h)) h7)) ?_;refine rpt hb3 ?_;refine go3 ?_;cases F;exact prt
    (iterate 5 refine aQ hb3 ?_);refine rpf hb3 ?_;refine go3 ?_;cases F;exact prt
   (iterate 5 refine aQ hb2 ?_);refine rpf hb2 ?_;refine go ?_;(iterate 5 refine aQ rfl ?_);refine rpf rfl ?_;refine go3 ?_;cases F;exact prt
  (iterate 5 refine aQ hb1 ?_);refine rpf hb1 ?_;refine go ?_;(iterate 5 refine aQ rfl ?_);refine rpf rfl ?_;refine go ?_;(iterate 5 refine aQ rfl ?_);refine rpf rfl ?_;refine go3 ?_;cases F;exact prt
theorem Jb {n:Nat} {a0:au} {a1:au} {r:Bool} (F:po n a0 a1=some r):FZ 184 [.agg (ai a0),.agg (ai a1)] [.p (.bool r)]:=(E7 n) _ _ _ F

theorem zI {a0:au} {r:Bool} (F:se a0=some r):FZ 163 [.agg (ai a0)] [.p (.bool r)]:=by
 unfold se at F;refine ak (n:=6) Tryz.func163 rfl rfl rfl fun w O=> ?_;refine go ?_;refine rgp (bo 0) ?_;refine go3 ?_;refine rgp (la (ai a0) da) ?_;refine rgp (bd ((ai gv)) (ai gv) qi Kx) ?_;obtain⟨y1,h2,F⟩:=bs F;refine rgp (cl 1 [.agg (ai a0),.agg (ai gv)] [.p (.bool y1)] (Jb h2)) ?_;refine go3 ?_;cases F;exact prt
theorem rn {a0:List au} {q1:au→Option Bool} {r:Int} {q1_f:Nat} {q1_c:List PV} (q1_b:cT Tryz.prog q1_f=true) (q1_h:∀ (x0:au) (r:Bool),q1 x0=some r→FZ q1_f ([.agg (ai x0)]++q1_c) [.p (.bool r)]) (F:fh a0 q1=some r):FZ 185 [.vs 4 (cc a0),.fn q1_f q1_c] [.p (.int .i64 r)]:=by
 unfold fh at F;refine ak (n:=19) Tryz.func185 rfl rfl rfl fun w O=> ?_;refine go6 ?_;refine rgp (bL (n:=a0.length) rfl rfl (fB aU) cG rfl rfl) ?_;refine go2 ?_;obtain⟨lr0,F,hK0⟩:=bs F;refine bV ((a0.length - 0:Int).toNat+1) (fun s1=>∃ q,lr0= .next q∧s1=(sX 19 [] [] 0)) ?_ ?_
 ·refine bl (α:=Int) (fun q=>(sX 19 [pf 0 (.vs 4 (cc a0)),pf 1 (.fn q1_f q1_c),pf 7 (.int .i64 (a0.length:Int)),pf 8 (.int .i64 q)] [] 0)) (fun k q=>dq a0 q1 k q=some lr0) 0 (bc []) F (fun q h=>by cases h) ?_;clear F;rintro k x1 F ih;refine bg ?_;refine go3 ?_;refine ap ?_;refine cnd F (fun hb0 F=> ?_) fun hb0 F=> ?_
  ·refine go2 ?_;refine ap ?_;refine aM ?_;refine go8 ?_;obtain⟨y0,h0,F⟩:=bs F;refine rgp (ix (gV aU h0) cG) ?_;refine rgp (lw (ai y0) da) ?_;obtain⟨y1,h1,F⟩:=bs F;refine rgp (cJ 0 rfl (caps:=q1_c) (args:=[.agg (ai y0)]) (rs:=[.p (.bool y1)]) rfl rfl rfl q1_b (q1_h y0 _ h1) rfl rfl rfl) ?_;refine go ?_;refine cnd F (fun hb1 F=> ?_) fun hb1 F=> ?_
   ·refine go8 ?_;refine bz ?_;cases F;have F:=bW hK0;refine go ?_;cases F;exact prt
   refine go6 ?_;refine rnr ?_;exact bq (ih (ae (x1+1)) F) (bc [])
  refine bu ?_;(iterate 2 refine ac ?_);cases F;exact aq _ ⟨_,rfl,rfl⟩ (bc [])
 rintro _ ⟨⟨⟩,rfl,rfl⟩;have F:=cn hK0;clear hK0;refine go5 ?_;cases F;exact prt
theorem gA {a0:List au} {q1:au→Option Bool} {r:Bool} {q1_f:Nat} {q1_c:List PV} (q1_b:cT Tryz.prog q1_f=true) (q1_h:∀ (x0:au) (r:Bool),q1 x0=some r→FZ q1_f ([.agg (ai x0)]++q1_c) [.p (.bool r)]) (F:cD a0 q1=some r):FZ 164 [.vs 4 (cc a0),.fn q1_f q1_c] [.p (.bool r)]:=by
 unfold cD at F;refine ak (n:=9) Tryz.func164 rfl rfl rfl fun w O=> ?_;refine go6 ?_;obtain⟨y1,h2,F⟩:=bs F;refine rgp (cl 0 [.vs 4 (cc a0),.fn q1_f q1_c] [.p (.int .i64 y1)] (rn (q1_b:=q1_b) (q1_h:=q1_h) h2)) ?_;refine go4 ?_;cases F;exact prt
theorem xd : ∀ n:Nat,(∀ (a0:au) (a1:Int) (r:Bool),kG n a0 a1=some r→FZ 171 [.agg (ai a0),.int .i64 a1] [.p (.bool r)])∧(∀ (a0:au) (c0:Int) (r:Bool),lh n a0 c0=some r→FZ 190 [.agg (ai a0),.vp (eI c0)] [.p (.bool r)]):=by
 intro n
 induction n with
 | zero=>exact⟨fun _ _ _ h=>by simp[kG] at h,fun _ _ _ h=>by simp[lh] at h⟩
 | succ n ih=>
  obtain⟨expr_deep_ih,expr_deep_1_ih⟩:=ih;refine⟨?_,?_⟩
  ·intro a0 a1 r F;unfold kG at F
   revert F expr_deep_ih expr_deep_1_ih
   generalize kG n=expr_deep_rec
   generalize lh n=expr_deep_1_rec
   intro expr_deep_ih expr_deep_1_ih F;refine ak (n:=12) Tryz.func171 rfl rfl rfl fun w O=> ?_;refine go ?_;refine rgp (bo 0) ?_;refine rgp (bo 1) ?_;refine go7 ?_;refine cnd F (fun hb1 F=> ?_) fun hb1 F=> ?_
   ·refine go5 ?_;cases F;exact prt
   refine go5 ?_;refine rgp (jJ rfl rfl rfl rfl) ?_;obtain⟨y3,h4,F⟩:=bs F;refine rgp (kS 2 rfl (caps:=[]) (args:=[.vs 4 (cc a0.aZ),.fn 190 [.vp (eI a1)]]) [(1,some (.box 3 [.pv (.int .i64 a1)]))] rfl rfl rfl (FzH.spec ⟨rfl,trivial⟩) rfl rfl Pm (gA (q1_f:=190) (q1_c:=[.vp (eI a1)]) (q1_b:=Ua) (q1_h:=fun _ r h=>(expr_deep_1_ih _ _ _ h)) h4) rfl rfl rfl) ?_;refine go4 ?_;cases F;exact prt
  ·intro a0 c0 r F;unfold lh at F
   revert F expr_deep_ih expr_deep_1_ih
   generalize kG n=expr_deep_rec
   generalize lh n=expr_deep_1_rec
   intro expr_deep_ih expr_deep_1_ih F;refine ak (n:=9) Tryz.func190 rfl rfl rfl fun w O=> ?_;refine go ?_;refine rgp (bo 0) ?_;refine go3 ?_;refine rgp (la (ai a0) da) ?_;refine go2 ?_;obtain⟨y1,h2,F⟩:=bs F;refine rgp (cl 1 [.agg (ai a0),.int .i64 (ae (c0 - 1))] [.p (.bool y1)] (expr_deep_ih _ _ _ h2)) ?_;refine go4 ?_;cases F;exact prt
theorem Jl {n:Nat} {a0:au} {a1:Int} {r:Bool} (F:kG n a0 a1=some r):FZ 171 [.agg (ai a0),.int .i64 a1] [.p (.bool r)]:=(xd n).1 _ _ _ F
theorem QZ {n:Nat} {a0:au} {c0:Int} {r:Bool} (F:lh n a0 c0=some r):FZ 190 [.agg (ai a0),.vp (eI c0)] [.p (.bool r)]:=(xd n).2 _ _ _ F


theorem Lb {a0:au} {r:au} (F:zv a0=some r):FZ 172 [.agg (ai a0)] [.p (.fn 191 [.vp (ai r)])]:=by
 unfold zv at F;refine ak (n:=4) Tryz.func172 rfl rfl rfl fun w O=> ?_;refine go ?_;refine rgp (bo 0) ?_;refine go3 ?_;refine rgp (jJ rfl rfl rfl rfl) ?_;refine go3 ?_;refine sC (jq [(0,some (.box 53 (bxv (ai a0))))] [(2,some (.pv (.fn 191 [.vp (ai a0)])))] (FzH.spec ⟨rfl,trivial⟩) ⟨⟨_,rfl,rfl⟩,trivial⟩) ?_;cases F;exact dm rfl rfl (.cons _ _ _ _ _ (.tmp _ _ rfl) (.p _) .nil) (.inl rfl)
theorem rP {a0:List au} {r:(List au)} (F:gZ a0=some r):FZ 192 [.vs 4 (cc a0)] [.p (.fn 207 [.vp ((fun x=>([.vs 4 (cc x)]:List PV)) r)])]:=by
 unfold gZ at F;refine ak (n:=4) Tryz.func192 rfl rfl rfl fun w O=> ?_;refine go ?_;refine rgp (bo 0) ?_;refine go3 ?_;refine rgp (jJ rfl rfl rfl rfl) ?_;refine go3 ?_;refine sC (jq [(0,some (.box 51 [.pv (.vs 4 (cc a0))]))] [(2,some (.pv (.fn 207 [.vp ((fun x=>([.vs 4 (cc x)]:List PV)) a0)])))] (FzH.spec ⟨rfl,trivial⟩) ⟨⟨_,rfl,rfl⟩,trivial⟩) ?_;cases F;exact dm rfl rfl (.cons _ _ _ _ _ (.tmp _ _ rfl) (.p _) .nil) (.inl rfl)
theorem qE {rows:List (Int×au)} {sp:Nat} {c0:List au} (F:gu rows sp c0=some (min (sp+1) rows.length)):It dW Tryz.prog 207 2 [.vp ((fun x=>([.vs 4 (cc x)]:List PV)) c0)] none [] (rows.map (fun z:Int×au=>([.int .i64 z.1,.agg (ai z.2)]:List PV))) sp:=by
 unfold gu at F;refine DP (n:=19) Tryz.func207 rfl rfl rfl ?_;intro l c hcx;refine go2 ?_;refine rgp (bL (n:=c0.length) rfl rfl (fB aU) cG rfl rfl) ?_;refine go2 ?_;refine bN ?_;refine piz (sX 19 [pf 0 (.yld l),pf 1 (.vp ((fun x=>([.vs 4 (cc x)]:List PV)) c0)),pf 3 (.int .i64 (ae ((c0.length:Int) - 1)))] [] 0) [] ?_;refine go ?_;obtain⟨lr0,F,hK0⟩:=bs F;refine bV ((((ae ((c0.length:Int) - 1)):Int) - (0)).toNat+2) (fun s1=>∃ q,lr0= .next q∧s1=⟨19,[],[],0,[],[],q,[]⟩) ?_ ?_
 ·refine bl (α:=Nat×Int) (fun q=>⟨19,[(0,some (.pv (.yld l))),(1,some (.pv (.vp ((fun x=>([.vs 4 (cc x)]:List PV)) c0)))),(3,some (.pv (.int .i64 q.2)))],[],0,[],[],q.1,[]⟩) (fun k q=>dD c0 sp rows k q.1 q.2=some lr0) (0,ae ((c0.length:Int) - 1)) (bc []) F (fun q h=>by cases h) ?_;clear F;rintro k ⟨x0,x1⟩ F ih;refine bg ?_;refine go4 ?_;refine bN ?_;refine piz ⟨19,[(0,some (.pv (.yld l))),(1,some (.pv (.vp ((fun x=>([.vs 4 (cc x)]:List PV)) c0)))),(3,some (.pv (.int .i64 x1))),(8,some (.pv (.bool (decide (x1 ≥ 0)))))],[],0,[],[],x0,[]⟩ [] ?_;refine go ?_;refine cnd F (fun hb0 F=> ?_) fun hb0 F=> ?_
  ·refine go2 ?_;refine ap ?_;refine aM ?_;refine go5 ?_;obtain⟨y0,h0,F⟩:=bs F;refine rgp (ix (gV aU h0) cG) ?_;refine rgp (lw (ai y0) da) ?_;obtain⟨u0,h1,F⟩:=bs F;refine rgp (KG (row:=(fun z:Int×au=>([.int .i64 z.1,.agg (ai z.2)]:List PV)) (x1,y0)) hcx rfl rfl rfl rfl (Pd (fun z:Int×au=>([.int .i64 z.1,.agg (ai z.2)]:List PV)) h1) (Fk h1).2 rfl rfl) ?_;refine go ?_;refine bN ?_;refine piz ⟨19,[(0,some (.pv (.yld l))),(1,some (.pv (.vp ((fun x=>([.vs 4 (cc x)]:List PV)) c0)))),(3,some (.pv (.int .i64 x1))),(18,some (.pv (.bool (!(!(x0==sp))))))],[],0,[],[],(x0+1),[]⟩ [] ?_;refine go ?_;refine cnd F (fun hb1 F=> ?_) fun hb1 F=> ?_
   ·refine go4 ?_;refine bz ?_;cases F;have F:=bW hK0;exact CB (Jt F) rfl (.inl rfl)
   refine go7 ?_;refine rnr ?_;exact bq (ih ((x0+1),ae (x1 - 1)) F) (bc [])
  refine bu ?_;(iterate 2 refine ac ?_);cases F;exact aq _ ⟨_,rfl,rfl⟩ (bc [])
 rintro _ ⟨x2,rfl,rfl⟩;have F:=cn hK0;clear hK0;exact CB (Jt F) rfl (.inr rfl)

theorem Gf {rows:List (au)} {sp:Nat} {c0:au} (F:vl rows sp c0=some (min (sp+1) rows.length)):It dW Tryz.prog 191 1 [.vp (ai c0)] none [] (rows.map (fun z:au=>([.agg (ai z)]:List PV))) sp:=by
 unfold vl at F;refine DP (n:=38) Tryz.func191 rfl rfl rfl ?_;intro l c hcx;refine go ?_;refine rgp (lw (ai c0) da) ?_;refine rgp (NU 0 rfl (rows:=List.map ai ([c0]:List au)) (rows':=cc ([c0]:List au)) (zs:=(ai gv)) rfl rfl cG qi (by exact⟨rfl,rfl,rfl,trivial,trivial⟩) rfl rfl rfl rfl rfl rfl (aU _) rfl rfl) ?_;refine rgp (al 1 [.nils] UY) ?_;refine dI (lg 1 0 51 53 4 2 rfl rfl rfl) ?_;refine go ?_;refine bN ?_;refine piz (sX 38 [pf 0 (.yld l),(3,some (.lp 0 0))] [(0,some (.box 51 [.ls 1])),(1,some (.row 53 4 (cc [c0])))] 2) [1,0] ?_;refine go ?_;obtain⟨lr0,F,hK0⟩:=bs F;refine bV (cr c0+2) (fun s1=>∃ q,lr0= .next q∧s1=⟨38,[],[],0,[],[],q,[]⟩) ?_ ?_
 ·refine bl (α:=Nat×(List au)) (fun q=>⟨38,[(0,some (.pv (.yld l))),(3,some (.lp 0 0))],[(0,some (.box 51 [.ls 1])),(1,some (.row 53 4 (cc q.2)))],2,[],[],q.1,[]⟩) (fun k q=>mc sp rows k q.1 q.2=some lr0) (0,[c0]) (bc [0,1]) F (fun q h=>by cases h) ?_;clear F;rintro k ⟨x0,x1⟩ F ih;refine bg ?_;refine go3 ?_;refine rgp (ky (n:=x1.length) rfl rfl rfl (fB aU) cG rfl rfl) ?_;refine go ?_;refine bN ?_;refine piz ⟨38,[(0,some (.pv (.yld l))),(3,some (.lp 0 0)),(11,some (.pv (.bool (decide ((x1.length:Int) > 0)))))],[(0,some (.box 51 [.ls 1])),(1,some (.row 53 4 (cc x1)))],2,[],[],x0,[]⟩ [0,1] ?_;refine go ?_;refine cnd F (fun hb0 F=> ?_) fun hb0 F=> ?_
  ·refine go2 ?_;refine aM ?_;refine go3 ?_;refine rgp (ky (n:=x1.length) rfl rfl rfl (fB aU) cG rfl rfl) ?_;refine go ?_;obtain⟨y0,h0,F⟩:=bs F;refine rgp (pj (k:= .i64) rfl rfl rfl rfl (gV aU h0) cG rfl rfl) ?_;refine rgp (Dz (ps:=ai y0) rfl rfl rfl (WG aU h0) rfl rfl da rfl rfl) ?_;refine rgp (al 2 (ai gv) qi) ?_;refine go ?_;refine bN ?_;refine piz ⟨38,[(0,some (.pv (.yld l))),(3,some (.lp 0 0)),(4,some (.lp 2 0))],[(0,some (.box 51 [.ls 1])),(1,some (.row 53 4 (cc x1))),(2,some (.box 53 (bxv (ai y0))))],3,[],[],x0,[]⟩ [0,1,2] ?_;refine go4 ?_;refine rgp (ky (n:=x1.length) rfl rfl rfl (fB aU) cG rfl rfl) ?_;refine go ?_;obtain⟨y1,h1,F⟩:=bs F;refine rgp (Je 3 rfl rfl rfl rfl rfl cG (WN aU h1) rfl rfl) ?_;refine go ?_;refine bN ?_;refine piz ⟨38,[(0,some (.pv (.yld l))),(3,some (.lp 0 0)),(4,some (.lp 2 0))],[(0,some (.box 51 [.ls 1])),(1,some (.row 53 4 (cc y1))),(2,some (.box 53 (bxv (ai y0))))],3,[],[],x0,[]⟩ [0,3,2] ?_;refine go4 ?_;refine rgp (la (ai y0) da) ?_;obtain⟨u0,h2,F⟩:=bs F;refine rgp (KG (row:=(fun z:au=>([.agg (ai z)]:List PV)) y0) hcx rfl rfl rfl rfl (Pd (fun z:au=>([.agg (ai z)]:List PV)) h2) (Fk h2).2 rfl rfl) ?_;refine go ?_;refine bN ?_;refine piz ⟨38,[(0,some (.pv (.yld l))),(3,some (.lp 0 0)),(4,some (.lp 2 0)),(26,some (.pv (.bool (!(!(x0==sp))))))],[(0,some (.box 51 [.ls 1])),(1,some (.row 53 4 (cc y1))),(2,some (.box 53 (bxv (ai y0))))],3,[],[],(x0+1),[]⟩ [0,1,2] ?_;refine go ?_;refine cnd F (fun hb1 F=> ?_) fun hb1 F=> ?_
   ·refine go4 ?_;refine bz ?_;cases F;have F:=bW hK0;exact CB (Jt F) rfl (.inl rfl)
   refine go5 ?_;obtain⟨y2,h3,F⟩:=bs F;refine rgp (cl 3 [.vs 4 (cc y0.aZ)] [.p (.fn 207 [.vp ((fun x=>([.vs 4 (cc x)]:List PV)) y2)])] (rP h3)) ?_;refine bN ?_;refine piz ⟨38,[(0,some (.pv (.yld l))),(3,some (.lp 0 0)),(29,some (.pv (.fn 207 [.vp ((fun x=>([.vs 4 (cc x)]:List PV)) y2)])))],[(0,some (.box 51 [.ls 1])),(1,some (.row 53 4 (cc y1)))],2,[],[],(x0+1),[]⟩ [0,1] ?_;refine go ?_;refine aM ?_;refine Ap (s':=⟨38,[(0,some (.pv (.yld l))),(3,some (.lp 0 0)),(29,some (.pv (.fn 207 [.vp ((fun x=>([.vs 4 (cc x)]:List PV)) y2)])))],[(0,some (.box 51 [.ls 1])),(1,some (.row 53 4 (cc y1)))],2,[],[],(x0+1),[]⟩) (bc [0,1]) ?_;obtain⟨rows0,hR139,F⟩:=bs F;obtain⟨lr1,hL141,F⟩:=bs F;refine zE (X:=(Int×au)) (Q:=(List au)) (E:=Unit) (pre:=[.vp ((fun x=>([.vs 4 (cc x)]:List PV)) y2)]) (bx:=none) (post:=[]) (kt:=[0,3]) (psl:=[30,31]) none (fun z:Int×au=>([.int .i64 z.1,.agg (ai z.2)]:List PV)) rows0 nR y1 lr1 hL141 (fun q=>⟨38,[(0,some (.pv (.yld l))),(3,some (.lp 0 0))],[(0,some (.box 51 [.ls 1])),(1,some (.row 53 4 (cc q)))],2,[],[],(x0+1),[]⟩) (fun _=>(.ret,(sX 38 [] [] 0))) ⟨rfl,rfl⟩ Uv (fun sp=>qE (wU hR139 sp)) (fun _=>rfl) rfl rfl (by decide) rfl (fun x q=>⟨38,[(0,some (.pv (.yld l))),(3,some (.lp 0 0)),(6,some (.lp 2 0)),(30,some (.pv (.int .i64 x.1))),(31,some (.pv (.agg (ai x.2))))],[(0,some (.box 51 [.ls 1])),(1,some (.row 53 4 (cc q))),(2,some (.box 53 (bxv (ai x.2))))],3,[],[],(x0+1),[0,3]⟩) (fun q=>⟨rfl,rfl,rfl,rfl⟩) (fun z=>⟨rfl,rfl,rfl,rfl⟩) (fun z=>rfl) rfl rfl ⟨rfl,rfl,trivial⟩ ⟨⟨rfl,rfl,rfl⟩,⟨rfl,rfl,rfl⟩,trivial⟩ ?_ ?_ ?_ ?_
   ·rintro l142 c143 ⟨x2,x3⟩ x4 hc144;refine go ?_;refine rgp (al 2 (ai gv) qi) ?_;refine go ?_;refine bN ?_;exact GX (bc [0,1,2])
   ·rintro l142 c143 ⟨x2,x3⟩ x4 r145 hc144 F
    rw[nR] at F
    have hcx:=hcx.round hc144;refine aM ?_;refine Ap (xr 1) ?_;refine dh ⟨_,_,_⟩ rfl ?_;refine dgo ?_;refine aY { need:=[(6,.lp 2 0)],hneed:=[(2,.box 53 (bxv (ai x3)))],dst:=some 33,val:=some (.pv (.agg (ai x3))) } (fun m h=>aX (bM rfl) (dR (ps:=ai x3) rfl h.1.1 h.2.1.1 rfl rfl rfl da rfl rfl) rfl) ⟨⟨rfl,trivial⟩,⟨rfl,trivial⟩,trivial⟩ ?_;refine aY { need:=[(32,.ls 1)],hneed:=[(1,.row 53 4 (cc x4))],dst:=some 34,val:=some (.pv (.int .i64 (x4.length:Int))) } (fun m h=>aX (bM rfl) (ky (n:=x4.length) rfl h.1.1 h.2.1.1 (fB aU) cG rfl rfl) rfl) ⟨⟨rfl,trivial⟩,⟨rfl,trivial⟩,trivial⟩ ?_;refine dk 35 [] (.pv (.vs 4 (cc ([gv]:List au)))) (fun m h=>⟨_,Uy (zs:=(ai gv)) (rows:=cc ([gv]:List au)) rfl cG qi (by exact⟨rfl,rfl,rfl,trivial,trivial⟩) (by exact⟨rfl,rfl,rfl,trivial,trivial⟩) rfl rfl rfl rfl rfl rfl rfl,rfl⟩) ?_;obtain⟨u1,h4,F⟩:=bs F;refine aY { need:=[(32,.ls 1),(35,.pv (.vs 4 (cc ([gv]:List au))))],hneed:=[(1,.row 53 4 (cc x4))],names:=[3],dst:=some 36,val:=some (.ls 3),upd:=[(3,some (.row 53 4 (cc (x4++([gv]:List au))))),(1,none)] } (fun m h=>aX (bM rfl) (gy 3 (yQ h.2.2.1) rfl h.1.1 h.2.1.1 h.1.2.1 cG Wm qi rfl rfl rfl (WJ aU h4) (Xc aU _ _) rfl rfl) rfl) ⟨⟨rfl,rfl,trivial⟩,⟨rfl,trivial⟩,⟨rfl,trivial⟩⟩ ?_;obtain⟨y3,h5,F⟩:=bs F;refine aY { need:=[(36,.ls 3),(34,.pv (.int .i64 (x4.length:Int)))],hneed:=[(3,.row 53 4 (cc (x4++([gv]:List au))))],dst:=some 37,val:=some (.le 3 4 ((x4.length:Int):Int).toNat 0) } (fun m h=>aX (bM rfl) (pj (k:= .i64) rfl h.1.1 h.1.2.1 h.2.1.1 (gV aU h5) cG rfl rfl) rfl) ⟨⟨rfl,rfl,trivial⟩,⟨rfl,trivial⟩,trivial⟩ ?_;refine aY { need:=[(37,.le 3 4 ((x4.length:Int):Int).toNat 0),(33,.pv (.agg (ai x3)))],hneed:=[(3,.row 53 4 (cc (x4++([gv]:List au))))],upd:=[(3,some (.row 53 4 (cc ((x4++([gv]:List au)).set ((x4.length:Int):Int).toNat x3))))] } (fun m h=>aX (bM rfl) (wO (n:=4) rfl h.1.1 h.1.2.1 rfl h.2.1.1 (WG aU h5) (MZ da) (by rw[Sy];rfl) rfl (Xh aU (x4++([gv]:List au)) _ x3) rfl rfl) rfl) ⟨⟨rfl,rfl,trivial⟩,⟨rfl,trivial⟩,trivial⟩ ?_;refine aY { need:=[(3,.lp 0 0),(36,.ls 3)],hneed:=[(0,.box 51 [.ls 1])],upd:=[(0,some (.box 51 [.ls 3]))] } (fun m h=>aX (bM rfl) (pg (n:=1) rfl h.1.1 h.1.2.1 rfl h.2.1.1 (Af MU) (by rw[MU];rfl) rfl rfl rfl) rfl) ⟨⟨rfl,rfl,trivial⟩,⟨rfl,trivial⟩,trivial⟩ ?_;refine cY mixed rfl (by kernel_rfl) ?_
    refine piz ⟨38,[(0,some (.pv (.yld l))),(3,some (.lp 0 0))],[(0,some (.box 51 [.ls 1])),(1,some (.row 53 4 (cc ((x4++([gv]:List au)).set ((x4.length:Int):Int).toNat x3))))],2,[],[],(x0+1),[0,3]⟩ [0,3] ?_;refine go ?_;cases F;exact Lf ((x4++([gv]:List au)).set ((x4.length:Int):Int).toNat x3) rfl (bc [0,1])
   ·rintro x4 rfl;have F:=cn F;refine go2 ?_;refine nc ?_;exact bq (ih ((x0+1),x4) F) (bc [0,1])
   rintro ⟨⟩ rfl;have F:=bW F;cases F
  refine bu ?_;(iterate 2 refine ac ?_);cases F;exact aq _ ⟨_,rfl,rfl⟩ (bc [])
 rintro _ ⟨x5,rfl,rfl⟩;have F:=cn hK0;clear hK0;exact CB (Jt F) rfl (.inr rfl)

theorem J6 {a0:Int} {r:Int} (F:ut a0=some r):FZ 193 [.int .i64 a0] [.p (.int .i64 r)]:=by
 unfold ut at F;refine ak (n:=21) Tryz.func193 rfl rfl rfl fun w O=> ?_;refine go7 ?_;refine aM ?_;refine ap ?_;obtain⟨x5,F,hK7⟩:=bs F;refine ctx (sX 21 [pf 3 (.int .i64 a0),pf 4 (.bool x5)] [] 0) ?_ ?_
 ·refine go4 ?_;refine cnd F (fun hb1 F=> ?_) fun hb1 F=> ?_
  ·refine go ?_;cases F;exact pcz []
  refine go4 ?_;refine cnd F (fun hb2 F=> ?_) fun hb2 F=> ?_
  ·refine go ?_;cases F;exact pcz []
  refine go4 ?_;refine cnd F (fun hb3 F=> ?_) fun hb3 F=> ?_
  ·refine go ?_;cases F;exact pcz []
  refine go4 ?_;refine cnd F (fun hb4 F=> ?_) fun hb4 F=> ?_
  ·refine go ?_;cases F;exact pcz []
  refine go3 ?_;cases F;exact rcz []
 have F:=hK7;refine go ?_;refine cnd F (fun hb8 F=> ?_) fun hb8 F=> ?_
 ·refine go6 ?_;cases F;exact prt
 refine ap ?_;obtain⟨x0,F,hK0⟩:=bs F;refine ctx (sX 21 [pf 3 (.int .i64 a0),pf 10 (.bool x0)] [] 0) ?_ ?_
 ·refine go4 ?_;refine cnd F (fun hb9 F=> ?_) fun hb9 F=> ?_
  ·refine go ?_;cases F;exact pcz []
  refine go3 ?_;cases F;exact rcz []
 have F:=hK0;refine go ?_;refine cnd F (fun hb0 F=> ?_) fun hb0 F=> ?_
 ·refine go6 ?_;cases F;exact prt
 refine ap ?_;obtain⟨x1,F,hK1⟩:=bs F;refine ctx (sX 21 [pf 13 (.bool x1)] [] 0) ?_ ?_
 ·refine go4 ?_;refine cnd F (fun hb5 F=> ?_) fun hb5 F=> ?_
  ·refine go ?_;cases F;exact pcz []
  refine go4 ?_;refine cnd F (fun hb6 F=> ?_) fun hb6 F=> ?_
  ·refine go ?_;cases F;exact pcz []
  refine go4 ?_;refine cnd F (fun hb7 F=> ?_) fun hb7 F=> ?_
  ·refine go ?_;cases F;exact pcz []
  refine go4 ?_;refine cnd F (fun hb10 F=> ?_) fun hb10 F=> ?_
  ·refine go ?_;cases F;exact pcz []
  refine go4 ?_;refine cnd F (fun hb11 F=> ?_) fun hb11 F=> ?_
  ·refine go ?_;cases F;exact pcz []
  refine go4 ?_;refine cnd F (fun hb12 F=> ?_) fun hb12 F=> ?_
  ·refine go ?_;cases F;exact pcz []
  refine go3 ?_;cases F;exact rcz []
 have F:=hK1;refine go ?_;refine cnd F (fun hb20 F=> ?_) fun hb20 F=> ?_
 ·refine go6 ?_;cases F;exact prt
 refine go7 ?_;cases F;exact prt
theorem Bt {a0:au} {c0:au} {r:Bool} (F:pT a0 c0=some r):FZ 194 [.agg (ai a0),.vp (ai c0)] [.p (.bool r)]:=by
 unfold pT at F;refine ak (n:=22) Tryz.func194 rfl rfl rfl fun w O=> ?_;refine go ?_;refine rgp (bo 0) ?_;refine go7 ?_;rcases ie F with⟨hb1,F⟩ | ⟨hb1,F⟩
 ·(iterate 3 refine gn hb1 ?_);refine rpt hb1 ?_;refine go ?_;rcases ie F with⟨hb2,F⟩ | ⟨hb2,F⟩
  ·(iterate 4 refine gn hb2 ?_);rcases ie F with⟨hb3,F⟩ | ⟨hb3,F⟩
   ·(iterate 3 refine az hb3 ?_);refine rgn hb2 (ba rfl rfl hb3 rfl rfl rfl) ?_;refine rpt hb2 ?_;refine go3 ?_;cases F;exact prt
   (iterate 3 refine gn hb3 ?_);refine rgn hb2 (aC rfl rfl hb3 rfl rfl rfl) ?_;refine rpt hb2 ?_;refine go3 ?_;cases F;exact prt
  (iterate 4 refine aQ hb2 ?_);refine go3 ?_;refine aQ hb2 ?_;refine rpf hb2 ?_;refine go3 ?_;cases F;exact prt
 (iterate 3 refine aQ hb1 ?_);refine rpf hb1 ?_;refine go ?_;(iterate 4 refine aQ rfl ?_);refine go3 ?_;refine aQ rfl ?_;refine rpf rfl ?_;refine go3 ?_;cases F;exact prt
abbrev vO (a0:au):Eff:={ need:=[(24,.pv (.bool (a0.aa != 2))),(25,.lp 0 2)],hneed:=[(0,.box 53 (bxv (ai a0)))],dst:=some 26,val:=some (.pv (.str a0.aj)) }
abbrev vZ (a0:au):Eff:={ need:=[(24,.pv (.bool (a0.aa != 2))),(26,.pv (.str a0.aj))],dst:=some 27,val:=some (.pv (.bool (!(a0.aj==[])))) }
theorem Gl {a0:au} {r:Bool} (F:sr a0=some r):FZ 173 [.agg (ai a0)] [.p (.bool r)]:=by
 unfold sr at F;refine ak (n:=55) Tryz.func173 rfl rfl rfl fun w O=> ?_;refine go ?_;refine rgp (bo 0) ?_;refine go2 ?_;(iterate 2 refine ap ?_);obtain⟨x0,F,hK0⟩:=bs F;refine ctx (sX 55 [(1,some (.lp 0 0)),pf 29 (.bool x0)] [bf 0 53 (ai a0)] 1) ?_ ?_
 ·refine dh ⟨_,_,_⟩ rfl ?_;(iterate 2 refine dgo ?_);refine dk 5 [(4,.pv (.vs 4 (cc a0.aZ)))] (.pv (.int .i64 (a0.aZ.length:Int))) (fun m h=>⟨_,bL (n:=a0.aZ.length) rfl h.1.1 (fB aU) cG rfl rfl,rfl⟩) ?_;(iterate 2 refine dgo ?_);obtain⟨y3,h4,F⟩:=bs F;refine dk 8 [(7,.pv (.int .i64 a0.aa))] (.pv (.int .i64 y3)) (fun m h=>⟨_,cJ 1 rfl (caps:=[]) (args:=[.int .i64 a0.aa]) (rs:=[.p (.int .i64 y3)]) rfl rfl (bh h.1.1 cN) TB (J6 h4) rfl rfl rfl,rfl⟩) ?_;refine dk 9 [(5,.pv (.int .i64 (a0.aZ.length:Int))),(8,.pv (.int .i64 y3))] (.pv (.bool ((a0.aZ.length:Int) != y3))) (fun m h=>⟨_,jg (k:= .i64) (m:=(a0.aZ.length:Int)) (n:=y3) rfl h.1.1 h.1.2.1 rfl rfl rfl,rfl⟩) ?_;refine dgo ?_;rcases ie F with⟨hb5,F⟩ | ⟨hb5,F⟩
  ·(iterate 4 refine du hb5 ?_);(iterate 3 refine dgo ?_);refine du hb5 ?_;refine jW hb5 ?_;refine dgo ?_;(iterate 4 refine du rfl ?_);(iterate 3 refine dgo ?_);refine du rfl ?_;refine jW rfl ?_;refine cY mixed rfl (by kernel_rfl) ?_;refine piz (sX 55 [(1,some (.lp 0 0)),pf 29 (.bool true)] [bf 0 53 (ai a0)] 1) [0] ?_;cases F;exact pcz [0]
  (iterate 3 refine dgn hb5 ?_);refine dkg hb5 14 [(13,.pv (.bool (a0.aa != 1)))] (.pv (.bool (a0.aa != 1))) (fun m h=>⟨_,ga rfl h.1.2.1 rfl rfl,rfl⟩) ?_;rcases ie F with⟨hb6,F⟩ | ⟨hb6,F⟩
  ·(iterate 3 refine dgn hb6 ?_);refine dkg hb5 18 [(14,.pv (.bool (a0.aa != 1))),(17,.pv (.bool (a0.cQ != 0)))] (.pv (.bool (a0.cQ != 0))) (fun m h=>⟨_,ba rfl h.1.2.1 hb6 h.1.2.2.1 rfl rfl,rfl⟩) ?_;refine dk 19 [(10,.pv (.bool ((a0.aZ.length:Int) != y3))),(18,.pv (.bool (a0.cQ != 0)))] (.pv (.bool (a0.cQ != 0))) (fun m h=>⟨_,aC rfl h.1.1 hb5 h.1.2.1 rfl rfl,rfl⟩) ?_;refine dgo ?_;rcases ie F with⟨hb7,F⟩ | ⟨hb7,F⟩
   ·(iterate 4 refine du hb7 ?_);(iterate 3 refine dgo ?_);refine du hb7 ?_;refine jW hb7 ?_;refine cY mixed rfl (by kernel_rfl) ?_;refine piz (sX 55 [(1,some (.lp 0 0)),pf 29 (.bool true)] [bf 0 53 (ai a0)] 1) [0] ?_;cases F;exact pcz [0]
   (iterate 3 refine dgn hb7 ?_);refine dkg hb7 24 [(23,.pv (.bool (a0.aa != 2)))] (.pv (.bool (a0.aa != 2))) (fun m h=>⟨_,ga rfl h.1.2.1 rfl rfl,rfl⟩) ?_;rcases ie F with⟨hb8,F⟩ | ⟨hb8,F⟩
   ·refine dgn hb8 ?_;refine aY (vO a0) (fun m h=>aX (bZ rfl rfl rfl h.1.1 hb8) (di (v:= .pv (.str a0.aj)) rfl h.1.2.1 h.2.1.1 rfl qH rfl rfl) rfl) ⟨⟨rfl,rfl,trivial⟩,⟨rfl,trivial⟩,trivial⟩ ?_;refine aY (vZ a0) (fun m h=>aX (bZ rfl rfl rfl h.1.1 hb8) (dX rfl h.1.2.1 rfl rfl rfl rfl) rfl) ⟨⟨rfl,rfl,trivial⟩,trivial,trivial⟩ ?_;refine dkg hb7 28 [(24,.pv (.bool (a0.aa != 2))),(27,.pv (.bool (!(a0.aj==[]))))] (.pv (.bool (!(a0.aj==[])))) (fun m h=>⟨_,ba rfl h.1.2.1 hb8 h.1.2.2.1 rfl rfl,rfl⟩) ?_;refine dk 29 [(20,.pv (.bool (a0.cQ != 0))),(28,.pv (.bool (!(a0.aj==[]))))] (.pv (.bool (!(a0.aj==[])))) (fun m h=>⟨_,aC rfl h.1.1 hb7 h.1.2.1 rfl rfl,rfl⟩) ?_;refine cY mixed rfl (by kernel_rfl) ?_;refine piz (sX 55 [(1,some (.lp 0 0)),pf 29 (.bool (!(a0.aj==[])))] [bf 0 53 (ai a0)] 1) [0] ?_;cases F;exact pcz [0]
   (iterate 3 refine xc hb8 ?_);refine dkg hb7 28 [(24,.pv (.bool (a0.aa != 2)))] (.pv (.bool false)) (fun m h=>⟨_,aC rfl h.1.2.1 hb8 rfl rfl rfl,rfl⟩) ?_;refine dk 29 [(20,.pv (.bool (a0.cQ != 0))),(28,.pv (.bool false))] (.pv (.bool false)) (fun m h=>⟨_,aC rfl h.1.1 hb7 h.1.2.1 rfl rfl,rfl⟩) ?_;refine cY mixed rfl (by kernel_rfl) ?_;refine piz (sX 55 [(1,some (.lp 0 0)),pf 29 (.bool false)] [bf 0 53 (ai a0)] 1) [0] ?_;cases F;exact pcz [0]
  (iterate 3 refine xc hb6 ?_);refine dkg hb5 18 [(14,.pv (.bool (a0.aa != 1)))] (.pv (.bool false)) (fun m h=>⟨_,aC rfl h.1.2.1 hb6 rfl rfl rfl,rfl⟩) ?_;refine dk 19 [(10,.pv (.bool ((a0.aZ.length:Int) != y3))),(18,.pv (.bool false))] (.pv (.bool false)) (fun m h=>⟨_,aC rfl h.1.1 hb5 h.1.2.1 rfl rfl,rfl⟩) ?_;refine dgo ?_;(iterate 3 refine dgn rfl ?_);refine dkg rfl 24 [(23,.pv (.bool (a0.aa != 2)))] (.pv (.bool (a0.aa != 2))) (fun m h=>⟨_,ga rfl h.1.2.1 rfl rfl,rfl⟩) ?_;rcases ie F with⟨hb9,F⟩ | ⟨hb9,F⟩
  ·refine dgn hb9 ?_;refine aY (vO a0) (fun m h=>aX (bZ rfl rfl rfl h.1.1 hb9) (di (v:= .pv (.str a0.aj)) rfl h.1.2.1 h.2.1.1 rfl qH rfl rfl) rfl) ⟨⟨rfl,rfl,trivial⟩,⟨rfl,trivial⟩,trivial⟩ ?_;refine aY (vZ a0) (fun m h=>aX (bZ rfl rfl rfl h.1.1 hb9) (dX rfl h.1.2.1 rfl rfl rfl rfl) rfl) ⟨⟨rfl,rfl,trivial⟩,trivial,trivial⟩ ?_;refine dkg rfl 28 [(24,.pv (.bool (a0.aa != 2))),(27,.pv (.bool (!(a0.aj==[]))))] (.pv (.bool (!(a0.aj==[])))) (fun m h=>⟨_,ba rfl h.1.2.1 hb9 h.1.2.2.1 rfl rfl,rfl⟩) ?_;refine dk 29 [(20,.pv (.bool false)),(28,.pv (.bool (!(a0.aj==[]))))] (.pv (.bool (!(a0.aj==[])))) (fun m h=>⟨_,aC rfl h.1.1 rfl h.1.2.1 rfl rfl,rfl⟩) ?_;refine cY mixed rfl (by kernel_rfl) ?_;refine piz (sX 55 [(1,some (.lp 0 0)),pf 29 (.bool (!(a0.aj==[])))] [bf 0 53 (ai a0)] 1) [0] ?_;cases F;exact pcz [0]
  (iterate 3 refine xc hb9 ?_);refine dkg rfl 28 [(24,.pv (.bool (a0.aa != 2)))] (.pv (.bool false)) (fun m h=>⟨_,aC rfl h.1.2.1 hb9 rfl rfl rfl,rfl⟩) ?_;refine dk 29 [(20,.pv (.bool false)),(28,.pv (.bool false))] (.pv (.bool false)) (fun m h=>⟨_,aC rfl h.1.1 rfl h.1.2.1 rfl rfl,rfl⟩) ?_;refine cY mixed rfl (by kernel_rfl) ?_;refine piz (sX 55 [(1,some (.lp 0 0)),pf 29 (.bool false)] [bf 0 53 (ai a0)] 1) [0] ?_;cases F;exact pcz [0]
 have F:=hK0;refine go ?_;refine cnd F (fun hb0 F=> ?_) fun hb0 F=> ?_
 ·refine go5 ?_;cases F;exact prt
 refine go7 ?_;refine aM ?_;refine go4 ?_;refine cnd F (fun hb1 F=> ?_) fun hb1 F=> ?_
 ·refine go5 ?_;rcases ie F with⟨hb2,F⟩ | ⟨hb2,F⟩
  ·(iterate 3 refine gn hb2 ?_);refine rpt hb2 ?_;refine go5 ?_;cases F;exact prt
  (iterate 3 refine aQ hb2 ?_);refine rpf hb2 ?_;refine go5 ?_;cases F;exact prt
 refine go4 ?_;refine cnd F (fun hb3 F=> ?_) fun hb3 F=> ?_
 ·refine go3 ?_;obtain⟨y0,h0,F⟩:=bs F;refine rgp (cl 1 [.str a0.aj] [.p (.bool y0)] (gW h0)) ?_;refine go5 ?_;cases F;exact prt
 refine ap ?_;obtain⟨x1,F,hK1⟩:=bs F;refine ctx (sX 55 [(1,some (.lp 0 0)),pf 47 (.bool x1)] [bf 0 53 (ai a0)] 1) ?_ ?_
 ·refine go4 ?_;refine cnd F (fun hb4 F=> ?_) fun hb4 F=> ?_
  ·refine go ?_;cases F;exact pcz [0]
  refine go3 ?_;cases F;exact rcz [0]
 have F:=hK1;refine go ?_;refine cnd F (fun hb10 F=> ?_) fun hb10 F=> ?_
 ·refine go3 ?_;refine rgp (jJ rfl rfl rfl rfl) ?_;obtain⟨y1,h1,F⟩:=bs F;refine rgp (kS 1 rfl (caps:=[]) (args:=[.vs 4 (cc a0.aZ),.fn 194 [.vp (ai a0)]]) [(0,some (.box 53 (bxv (ai a0))))] rfl rfl rfl (FzH.spec ⟨rfl,trivial⟩) rfl rfl Pm (gA (q1_f:=194) (q1_c:=[.vp (ai a0)]) (q1_b:=Tv) (q1_h:=fun _ r h=>(Bt h)) h1) rfl rfl rfl) ?_;refine go6 ?_;cases F;exact prt
 refine go7 ?_;cases F;exact prt
theorem tN {a0:au} {r:Bool} (F:oU a0=some r):FZ 138 [.agg (ai a0)] [.p (.bool r)]:=by
 unfold oU at F;refine ak (n:=13) Tryz.func138 rfl rfl rfl fun w O=> ?_;refine go ?_;refine rgp (bo 0) ?_;refine rgp (al 1 [.bool false] Wx) ?_;refine go3 ?_;refine rgp (la (ai a0) da) ?_;obtain⟨y3,h4,F⟩:=bs F;refine rgp (cl 2 [.agg (ai a0),.int .i64 20] [.p (.bool y3)] (Jl h4)) ?_;refine go2 ?_;refine cnd F (fun hb5 F=> ?_) fun hb5 F=> ?_
 ·refine go5 ?_;cases F;exact dm rfl rfl (.cons _ _ _ _ _ (.one _ _ _ _ _ _ _ rfl rfl Ow rfl) (.p _) .nil) (.inl rfl)
 refine go4 ?_;refine rgp (la (ai a0) da) ?_;obtain⟨y8,h9,F⟩:=bs F;refine rgp (cl 2 [.agg (ai a0)] [.p (.fn 191 [.vp (ai y8)])] (Lb h9)) ?_;refine go ?_;refine aM ?_;refine Ap (s':=(sX 13 [(2,some (.lp 0 0)),pf 8 (.fn 191 [.vp (ai y8)])] [(0,some (.box 4 [.pv (.bool false)]))] 1)) (bc [1]) ?_;obtain⟨rows0,hR29,F⟩:=bs F;obtain⟨lr0,hL31,F⟩:=bs F;refine zE (X:=au) (Q:=Unit) (E:=Unit) (pre:=[.vp (ai y8)]) (bx:=none) (post:=[]) (kt:=[2]) (psl:=[9]) none (fun z:au=>([.agg (ai z)]:List PV)) rows0 oh () lr0 hL31 (fun q=>(sX 13 [(2,some (.lp 0 0))] [(0,some (.box 4 [.pv (.bool false)]))] 1)) (fun z=>(.ret,(sX 13 [(2,some (.lp 0 0))] [(0,some (.box 4 [.pv (.bool false)]))] 1))) ⟨rfl,rfl⟩ SQ (fun sp=>Gf (Nq hR29 sp)) (fun _=>rfl) rfl rfl (by decide) rfl (fun x q=>⟨13,[(2,some (.lp 0 0)),(3,some (.lp 1 0)),(9,some (.pv (.agg (ai x))))],[(0,some (.box 4 [.pv (.bool false)])),(1,some (.box 53 (bxv (ai x))))],2,[],[],0,[2]⟩) (fun q=>⟨rfl,rfl,rfl,rfl⟩) (fun z=>⟨rfl,rfl,rfl,rfl⟩) (fun z=>rfl) rfl rfl ⟨rfl,trivial⟩ ⟨⟨rfl,rfl,rfl⟩,trivial⟩ ?_ ?_ ?_ ?_
 ·rintro l32 c33 x0 ⟨⟩ hc34;refine go ?_;refine rgp (al 1 (ai gv) qi) ?_;refine go ?_;refine bN ?_;exact GX (bc [0,1])
 ·rintro l32 c33 x0 ⟨⟩ r35 hc34 F;refine aM ?_;refine go ?_;refine rgp (la (ai x0) da) ?_;obtain⟨y0,h0,F⟩:=bs F;refine rgp (cl 2 [.agg (ai x0)] [.p (.bool y0)] (Gl h0)) ?_;refine go2 ?_;refine cnd F (fun hb0 F=> ?_) fun hb0 F=> ?_
  ·refine go5 ?_;cases F;exact J1 () rfl rfl (bc [0])
  refine go2 ?_;cases F;exact Lf () rfl (bc [0])
 ·rintro ⟨⟩ rfl;have F:=cn F;refine go6 ?_;cases F;exact dm rfl rfl (.cons _ _ _ _ _ (.one _ _ _ _ _ _ _ rfl rfl Ow rfl) (.p _) .nil) (.inl rfl)
 rintro ⟨⟩ rfl;have F:=bW F
 show iv _ _ .ret _
 refine go2 ?_;cases F;exact dm rfl rfl (.cons _ _ _ _ _ (.one _ _ _ _ _ _ _ rfl rfl Ow rfl) (.p _) .nil) (.inl rfl)
theorem Eg {a0:au} {r:Bool} (F:qK a0=some r):FZ 165 [.agg (ai a0)] [.p (.bool r)]:=by
 unfold qK at F;refine ak (n:=6) Tryz.func165 rfl rfl rfl fun w O=> ?_;refine go ?_;refine rgp (bo 0) ?_;refine go3 ?_;refine rgp (la (ai a0) da) ?_;obtain⟨y1,h2,F⟩:=bs F;refine rgp (cl 1 [.agg (ai a0)] [.p (.bool y1)] (tN h2)) ?_;refine go4 ?_;cases F;exact prt
end Go.Proofs.YtjimbkljclfflaaGreatDoor
