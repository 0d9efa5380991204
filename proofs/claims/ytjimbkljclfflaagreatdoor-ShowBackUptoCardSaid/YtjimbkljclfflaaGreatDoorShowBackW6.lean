/- A part of the proof that the law ShowBack gives true for every input. -/
import Derived.Test.YtjimbkljclfflaaGreatDoorShowBackT
import Derived.Test.YtjimbkljclfflaaGreatDoorShowBackY
import Derived.Test.YtjimbkljclfflaaGreatDoorShowBackB
import Derived.Test.YtjimbkljclfflaaGreatDoorShowBackS
import Derived.Test.YtjimbkljclfflaaGreatDoorShowBackX
import Derived.Test.YtjimbkljclfflaaGreatDoorShowBackI
import Derived.Test.YtjimbkljclfflaaGreatDoorShowBackW4
import Derived.Test.YtjimbkljclfflaaGreatDoorShowBackW5
/- Each Go function computes its plain function. -/
namespace Go.Proofs.YtjimbkljclfflaaGreatDoor
open Go.RowKit Go.Abs
set_option maxRecDepth 100000
set_option maxHeartbeats 4000000
abbrev FJ (a0:ai):Eff:={ need:=[(36,pB (a0.aa != 2)),(37,.lp 0 2)],hneed:=[(0,.box 53 (bxv (ap a0)))],dst:=some 38,val:=some (pS a0.af) }
abbrev yq (a0:ai):Eff:={ need:=[(36,pB (a0.aa != 2)),(38,pS a0.af)],dst:=some 39,val:=some (pB (!(a0.af==[]))) }
abbrev Gl (a0:ai):Eff:={ need:=[(42,pB (!(a0.af==[]))),(43,.lp 0 1)],hneed:=[(0,.box 53 (bxv (ap a0)))],dst:=some 44,val:=some (pI a0.cj) }
abbrev Fy (a0:ai):Eff:={ need:=[(42,pB (!(a0.af==[]))),(44,pI a0.cj)],dst:=some 45,val:=some (pB (decide (a0.cj < 0))) }
abbrev FG (a0:ai):Eff:={ need:=[(42,pB (!(a0.af==[]))),(45,pB (decide (a0.cj < 0)))],dst:=some 46,val:=some (pB (decide (a0.cj < 0))) }
abbrev tJ (a0:ai):Eff:={ need:=[(47,pB (decide (a0.cj < 0))),(1,.lp 0 0)],dst:=some 48,val:=some (.lp 0 1) }
abbrev yx (a0:ai):Eff:={ need:=[(47,pB (decide (a0.cj < 0))),(48,.lp 0 1)],hneed:=[(0,.box 53 (bxv (ap a0)))],dst:=some 49,val:=some (pI a0.cj) }
abbrev yv (a0:ai):Eff:={ need:=[(47,pB (decide (a0.cj < 0))),(49,pI a0.cj)],dst:=some 50,val:=some (pB (decide (a0.cj > 999999999))) }
abbrev yu (a0:ai):Eff:={ need:=[(47,pB (decide (a0.cj < 0))),(50,pB (decide (a0.cj > 999999999)))],dst:=some 51,val:=some (pB (decide (a0.cj > 999999999))) }
abbrev tN (a0:ai):Eff:={ need:=[(52,pB (decide (a0.cj > 999999999))),(1,.lp 0 0)],dst:=some 53,val:=some (.lp 0 0) }
abbrev yr (a0:ai):Eff:={ need:=[(52,pB (decide (a0.cj > 999999999))),(53,.lp 0 0)],hneed:=[(0,.box 53 (bxv (ap a0)))],dst:=some 54,val:=some (pI a0.aa) }
abbrev yy (a0:ai):Eff:={ need:=[(52,pB (decide (a0.cj > 999999999))),(54,pI a0.aa)],dst:=some 55,val:=some (pB (a0.aa==2)) }
abbrev yw (a0:ai):Eff:={ need:=[(52,pB (decide (a0.cj > 999999999))),(55,pB (a0.aa==2))],dst:=some 56,val:=some (pB (a0.aa==2)) }
abbrev tP (a0:ai):Eff:={ need:=[(56,pB (a0.aa==2)),(1,.lp 0 0)],dst:=some 57,val:=some (.lp 0 2) }
abbrev yt (a0:ai):Eff:={ need:=[(56,pB (a0.aa==2)),(57,.lp 0 2)],hneed:=[(0,.box 53 (bxv (ap a0)))],dst:=some 58,val:=some (pS a0.af) }
abbrev qc (a0:ai):Eff:={ need:=[(52,pB (decide (a0.cj > 999999999))),(56,pB (a0.aa==2))],dst:=some 61,val:=some (pB false) }
abbrev yz (a0:ai):Eff:={ need:=[(52,pB (decide (a0.cj > 999999999))),(61,pB false)],dst:=some 62,val:=some (pB false) }
abbrev Fu (a0:ai):Eff:={ need:=[(42,pB false),(43,.lp 0 1)],hneed:=[(0,.box 53 (bxv (ap a0)))],dst:=some 44,val:=some (pI a0.cj) }
abbrev FY (a0:ai):Eff:={ need:=[(42,pB false),(44,pI a0.cj)],dst:=some 45,val:=some (pB (decide (a0.cj < 0))) }
abbrev FM (a0:ai):Eff:={ need:=[(42,pB false),(45,pB (decide (a0.cj < 0)))],dst:=some 46,val:=some (pB (decide (a0.cj < 0))) }
theorem Gi : ∀ n:Nat,(∀ (a0:ai) (r:Bool),li n a0=some r->FZ 198 [.agg (ap a0)] [.p (.bool r)]):=by
 intro n
 induction n with
 | zero=>exact(fun _ _ h=>by simp[li] at h)
 | succ n ih=>
  have ref06_form_ih:=ih;clear ih;intro a0 r F;unfold li at F
  revert F ref06_form_ih
  generalize li n=ref06_form_rec
  intro ref06_form_ih F;refine bM (n:=113) Tryz.func198 rfl rfl rfl fun w O=> ?_;refine ga4 ?_;(iterate 2 refine aJ ?_);obtain⟨x0,F,hK0⟩:=bs F;refine ctx (sX 113 [(1,some (.lp 0 0)),pf 62 (.bool x0)] [bf 0 53 (ap a0)] 1) ?_ ?_
  ·refine dt ⟨_,_,_⟩ rfl ?_;refine dd ?_;rcases ie F with⟨hb1,F⟩ | ⟨hb1,F⟩
   ·exact tm [0]
   refine dd ?_;rcases ie F with⟨hb2,F⟩ | ⟨hb2,F⟩
   ·exact tm [0]
   refine dd ?_;refine dkg hb2 16 [(15,.pv (.vs 4 (bR a0.az)))] (pI (a0.az.length:Int)) (fun m h=>⟨_,Ae rfl h.1.2.1 (Tc cr) jG rfl rfl,rfl⟩) ?_;refine dd ?_;obtain⟨y3,h4,F⟩:=bs F;refine dkg hb2 19 [(18,pI a0.aa)] (pI y3) (fun m h=>⟨_,dx 1 rfl (caps:=[]) (args:=[.int .i64 a0.aa]) (rs:=[.p (.int .i64 y3)]) rfl rfl (bm h.1.2.1 dM) abC (Mf h4) rfl rfl rfl,rfl⟩) ?_;refine dd ?_;rcases ie F with⟨hb5,F⟩ | ⟨hb5,F⟩
   ·exact tm [0]
   refine dd ?_;rcases ie F with⟨hb6,F⟩ | ⟨hb6,F⟩
   ·refine dd ?_;rcases ie F with⟨hb7,F⟩ | ⟨hb7,F⟩
    ·exact tm [0]
    refine dd ?_;rcases ie F with⟨hb8,F⟩ | ⟨hb8,F⟩
    ·refine dd ?_;refine bg (yq a0) (fun m h=>bq (cD rfl rfl rfl h.1.1 hb8) (dQ rfl h.1.2.1 rfl rfl rfl rfl) rfl) ⟨⟨rfl,rfl,trivial⟩,trivial,trivial⟩ ?_;refine dd ?_;rcases ie F with⟨hb9,F⟩ | ⟨hb9,F⟩
     ·exact tm [0]
     refine dd ?_;rcases ie F with⟨hb0,F⟩ | ⟨hb0,F⟩
     ·exact tm [0]
     refine dd ?_;rcases ie F with⟨hb3,F⟩ | ⟨hb3,F⟩
     ·exact tm [0]
     refine dd ?_;rcases ie F with⟨hb4,F⟩ | ⟨hb4,F⟩
     ·refine dd ?_;obtain⟨y0,h0,F⟩:=bs F;refine dkg hb4 59 [(58,pS a0.af)] (pB y0) (fun m h=>⟨_,dx 1 rfl (caps:=[]) (args:=[.str a0.af]) (rs:=[.p (.bool y0)]) rfl rfl (bm h.1.2.1 dM) Pa (ey h0) rfl rfl rfl,rfl⟩) ?_;exact tm [0]
     (iterate 4 refine zB hb4 ?_);refine bg (qc a0) (fun m h=>bq (cD rfl rfl rfl h.1.1 hb3) (dI rfl h.1.2.1 hb4 rfl rfl rfl) rfl) ⟨⟨rfl,rfl,trivial⟩,trivial,trivial⟩ ?_;refine dd ?_;refine drn ?_;refine piz (sX 113 [(1,some (.lp 0 0)),pf 62 (.bool false)] [bf 0 53 (ap a0)] 1) [0] ?_;exact tl [0]
    (iterate 3 refine zB hb8 ?_);refine dkg hb7 40 [(36,pB (a0.aa != 2))] (pB false) (fun m h=>⟨_,dI rfl h.1.2.1 hb8 rfl rfl rfl,rfl⟩) ?_;refine dd ?_;rcases ie F with⟨hb13,F⟩ | ⟨hb13,F⟩
    ·(iterate 3 refine Jq hb13 ?_);refine Za hb13 ?_;refine dd ?_;refine drn ?_;refine piz (sX 113 [(1,some (.lp 0 0)),pf 62 (.bool true)] [bf 0 53 (ap a0)] 1) [0] ?_;cases F;exact pcz [0]
    refine bg (tJ a0) (fun m h=>bq (cD rfl rfl rfl h.1.1 hb13) (gX rfl h.1.2.1 Cf rfl rfl) rfl) ⟨⟨rfl,rfl,trivial⟩,trivial,trivial⟩ ?_;refine dd ?_;rcases ie F with⟨hb14,F⟩ | ⟨hb14,F⟩
    ·(iterate 4 refine Jq hb14 ?_);refine dd ?_;refine drn ?_;refine piz (sX 113 [(1,some (.lp 0 0)),pf 62 (.bool true)] [bf 0 53 (ap a0)] 1) [0] ?_;cases F;exact pcz [0]
    refine bg (tN a0) (fun m h=>bq (cD rfl rfl rfl h.1.1 hb14) (gX rfl h.1.2.1 C8 rfl rfl) rfl) ⟨⟨rfl,rfl,trivial⟩,trivial,trivial⟩ ?_;refine dd ?_;rcases ie F with⟨hb18,F⟩ | ⟨hb18,F⟩
    ·refine bg (tP a0) (fun m h=>bq (cD rfl rfl rfl h.1.1 hb18) (gX rfl h.1.2.1 De rfl rfl) rfl) ⟨⟨rfl,rfl,trivial⟩,trivial,trivial⟩ ?_;refine dd ?_;obtain⟨y1,h1,F⟩:=bs F;refine dkg hb18 59 [(58,pS a0.af)] (pB y1) (fun m h=>⟨_,dx 1 rfl (caps:=[]) (args:=[.str a0.af]) (rs:=[.p (.bool y1)]) rfl rfl (bm h.1.2.1 dM) Pa (ey h1) rfl rfl rfl,rfl⟩) ?_;exact tm [0]
    (iterate 4 refine zB hb18 ?_);refine bg (qc a0) (fun m h=>bq (cD rfl rfl rfl h.1.1 hb14) (dI rfl h.1.2.1 hb18 rfl rfl rfl) rfl) ⟨⟨rfl,rfl,trivial⟩,trivial,trivial⟩ ?_;refine dd ?_;refine drn ?_;refine piz (sX 113 [(1,some (.lp 0 0)),pf 62 (.bool false)] [bf 0 53 (ap a0)] 1) [0] ?_;exact tl [0]
   (iterate 3 refine zB hb6 ?_);refine dkg hb5 30 [(26,pB (a0.aa != 1))] (pB false) (fun m h=>⟨_,dI rfl h.1.2.1 hb6 rfl rfl rfl,rfl⟩) ?_;refine dk 31 [(22,pB ((a0.az.length:Int) != y3)),(30,pB false)] (pB false) (fun m h=>⟨_,dI rfl h.1.1 hb5 h.1.2.1 rfl rfl,rfl⟩) ?_;refine dgo ?_;(iterate 3 refine dgn rfl ?_);refine dkg rfl 36 [(35,pB (a0.aa != 2))] (pB (a0.aa != 2)) (fun m h=>⟨_,ic rfl h.1.2.1 rfl rfl,rfl⟩) ?_;rcases ie F with⟨hb19,F⟩ | ⟨hb19,F⟩
   ·refine dgn hb19 ?_;refine bg (FJ a0) (fun m h=>bq (cD rfl rfl rfl h.1.1 hb19) (gv rfl h.1.2.1 h.2.1.1 rfl yn rfl rfl) rfl) ⟨⟨rfl,rfl,trivial⟩,⟨rfl,trivial⟩,trivial⟩ ?_;refine bg (yq a0) (fun m h=>bq (cD rfl rfl rfl h.1.1 hb19) (dQ rfl h.1.2.1 rfl rfl rfl rfl) rfl) ⟨⟨rfl,rfl,trivial⟩,trivial,trivial⟩ ?_;refine dkg rfl 40 [(36,pB (a0.aa != 2)),(39,pB (!(a0.af==[])))] (pB (!(a0.af==[]))) (fun m h=>⟨_,qt rfl h.1.2.1 hb19 h.1.2.2.1 rfl rfl,rfl⟩) ?_;refine dk 41 [(32,pB false),(40,pB (!(a0.af==[])))] (pB (!(a0.af==[]))) (fun m h=>⟨_,dI rfl h.1.1 rfl h.1.2.1 rfl rfl,rfl⟩) ?_;refine dgo ?_;rcases ie F with⟨hb25,F⟩ | ⟨hb25,F⟩
    ·exact tm [0]
    refine dgn hb25 ?_;refine bg (Gl a0) (fun m h=>bq (cD rfl rfl rfl h.1.1 hb25) (gv rfl h.1.2.1 h.2.1.1 rfl jP rfl rfl) rfl) ⟨⟨rfl,rfl,trivial⟩,⟨rfl,trivial⟩,trivial⟩ ?_;refine bg (Fy a0) (fun m h=>bq (cD rfl rfl rfl h.1.1 hb25) (sf rfl h.1.2.1 rfl rfl rfl rfl) rfl) ⟨⟨rfl,rfl,trivial⟩,trivial,trivial⟩ ?_;refine bg (FG a0) (fun m h=>bq (bQ rfl) (dI rfl h.1.1 hb25 h.1.2.1 rfl rfl) rfl) ⟨⟨rfl,rfl,trivial⟩,trivial,trivial⟩ ?_;refine dgo ?_;rcases ie F with⟨hb26,F⟩ | ⟨hb26,F⟩
    ·exact tm [0]
    refine bg (tJ a0) (fun m h=>bq (cD rfl rfl rfl h.1.1 hb26) (gX rfl h.1.2.1 Cf rfl rfl) rfl) ⟨⟨rfl,rfl,trivial⟩,trivial,trivial⟩ ?_;refine bg (yx a0) (fun m h=>bq (cD rfl rfl rfl h.1.1 hb26) (gv rfl h.1.2.1 h.2.1.1 rfl jP rfl rfl) rfl) ⟨⟨rfl,rfl,trivial⟩,⟨rfl,trivial⟩,trivial⟩ ?_;refine bg (yv a0) (fun m h=>bq (cD rfl rfl rfl h.1.1 hb26) (sf rfl h.1.2.1 rfl rfl rfl rfl) rfl) ⟨⟨rfl,rfl,trivial⟩,trivial,trivial⟩ ?_;refine bg (yu a0) (fun m h=>bq (bQ rfl) (dI rfl h.1.1 hb26 h.1.2.1 rfl rfl) rfl) ⟨⟨rfl,rfl,trivial⟩,trivial,trivial⟩ ?_;refine dgo ?_;rcases ie F with⟨hb30,F⟩ | ⟨hb30,F⟩
    ·exact tm [0]
    refine bg (tN a0) (fun m h=>bq (cD rfl rfl rfl h.1.1 hb30) (gX rfl h.1.2.1 C8 rfl rfl) rfl) ⟨⟨rfl,rfl,trivial⟩,trivial,trivial⟩ ?_;refine bg (yr a0) (fun m h=>bq (cD rfl rfl rfl h.1.1 hb30) (gv rfl h.1.2.1 h.2.1.1 rfl jP rfl rfl) rfl) ⟨⟨rfl,rfl,trivial⟩,⟨rfl,trivial⟩,trivial⟩ ?_;refine bg (yy a0) (fun m h=>bq (cD rfl rfl rfl h.1.1 hb30) (sf rfl h.1.2.1 rfl rfl rfl rfl) rfl) ⟨⟨rfl,rfl,trivial⟩,trivial,trivial⟩ ?_;refine bg (yw a0) (fun m h=>bq (cD rfl rfl rfl h.1.1 hb30) (ic rfl h.1.2.1 rfl rfl) rfl) ⟨⟨rfl,rfl,trivial⟩,trivial,trivial⟩ ?_;rcases ie F with⟨hb31,F⟩ | ⟨hb31,F⟩
    ·refine bg (tP a0) (fun m h=>bq (cD rfl rfl rfl h.1.1 hb31) (gX rfl h.1.2.1 De rfl rfl) rfl) ⟨⟨rfl,rfl,trivial⟩,trivial,trivial⟩ ?_;refine bg (yt a0) (fun m h=>bq (cD rfl rfl rfl h.1.1 hb31) (gv rfl h.1.2.1 h.2.1.1 rfl yn rfl rfl) rfl) ⟨⟨rfl,rfl,trivial⟩,⟨rfl,trivial⟩,trivial⟩ ?_;obtain⟨y2,h2,F⟩:=bs F;refine dkg hb31 59 [(58,pS a0.af)] (pB y2) (fun m h=>⟨_,dx 1 rfl (caps:=[]) (args:=[.str a0.af]) (rs:=[.p (.bool y2)]) rfl rfl (bm h.1.2.1 dM) Pa (ey h2) rfl rfl rfl,rfl⟩) ?_;exact tm [0]
    (iterate 4 refine zB hb31 ?_);refine bg (qc a0) (fun m h=>bq (cD rfl rfl rfl h.1.1 hb30) (dI rfl h.1.2.1 hb31 rfl rfl rfl) rfl) ⟨⟨rfl,rfl,trivial⟩,trivial,trivial⟩ ?_;refine bg (yz a0) (fun m h=>bq (bQ rfl) (dI rfl h.1.1 hb30 h.1.2.1 rfl rfl) rfl) ⟨⟨rfl,rfl,trivial⟩,trivial,trivial⟩ ?_;refine drn ?_;refine piz (sX 113 [(1,some (.lp 0 0)),pf 62 (.bool false)] [bf 0 53 (ap a0)] 1) [0] ?_;exact tl [0]
   (iterate 3 refine zB hb19 ?_);refine dkg rfl 40 [(36,pB (a0.aa != 2))] (pB false) (fun m h=>⟨_,dI rfl h.1.2.1 hb19 rfl rfl rfl,rfl⟩) ?_;refine dk 41 [(32,pB false),(40,pB false)] (pB false) (fun m h=>⟨_,dI rfl h.1.1 rfl h.1.2.1 rfl rfl,rfl⟩) ?_;refine dgo ?_;refine dgn rfl ?_;refine bg (Fu a0) (fun m h=>bq (cD rfl rfl rfl h.1.1 rfl) (gv rfl h.1.2.1 h.2.1.1 rfl jP rfl rfl) rfl) ⟨⟨rfl,rfl,trivial⟩,⟨rfl,trivial⟩,trivial⟩ ?_;refine bg (FY a0) (fun m h=>bq (cD rfl rfl rfl h.1.1 rfl) (sf rfl h.1.2.1 rfl rfl rfl rfl) rfl) ⟨⟨rfl,rfl,trivial⟩,trivial,trivial⟩ ?_;refine bg (FM a0) (fun m h=>bq (bQ rfl) (dI rfl h.1.1 rfl h.1.2.1 rfl rfl) rfl) ⟨⟨rfl,rfl,trivial⟩,trivial,trivial⟩ ?_;refine dgo ?_;rcases ie F with⟨hb32,F⟩ | ⟨hb32,F⟩
   ·(iterate 3 refine Jq hb32 ?_);refine Za hb32 ?_;refine dgo ?_;(iterate 4 refine Jq rfl ?_);(iterate 4 refine dgo ?_);refine Jq rfl ?_;refine Za rfl ?_;refine drn ?_;refine piz (sX 113 [(1,some (.lp 0 0)),pf 62 (.bool true)] [bf 0 53 (ap a0)] 1) [0] ?_;cases F;exact pcz [0]
   refine bg (tJ a0) (fun m h=>bq (cD rfl rfl rfl h.1.1 hb32) (gX rfl h.1.2.1 Cf rfl rfl) rfl) ⟨⟨rfl,rfl,trivial⟩,trivial,trivial⟩ ?_;refine bg (yx a0) (fun m h=>bq (cD rfl rfl rfl h.1.1 hb32) (gv rfl h.1.2.1 h.2.1.1 rfl jP rfl rfl) rfl) ⟨⟨rfl,rfl,trivial⟩,⟨rfl,trivial⟩,trivial⟩ ?_;refine bg (yv a0) (fun m h=>bq (cD rfl rfl rfl h.1.1 hb32) (sf rfl h.1.2.1 rfl rfl rfl rfl) rfl) ⟨⟨rfl,rfl,trivial⟩,trivial,trivial⟩ ?_;refine bg (yu a0) (fun m h=>bq (bQ rfl) (dI rfl h.1.1 hb32 h.1.2.1 rfl rfl) rfl) ⟨⟨rfl,rfl,trivial⟩,trivial,trivial⟩ ?_;refine dgo ?_;rcases ie F with⟨hb33,F⟩ | ⟨hb33,F⟩
   ·(iterate 4 refine Jq hb33 ?_);(iterate 4 refine dgo ?_);refine Jq hb33 ?_;refine Za hb33 ?_;refine drn ?_;refine piz (sX 113 [(1,some (.lp 0 0)),pf 62 (.bool true)] [bf 0 53 (ap a0)] 1) [0] ?_;cases F;exact pcz [0]
   refine bg (tN a0) (fun m h=>bq (cD rfl rfl rfl h.1.1 hb33) (gX rfl h.1.2.1 C8 rfl rfl) rfl) ⟨⟨rfl,rfl,trivial⟩,trivial,trivial⟩ ?_;refine bg (yr a0) (fun m h=>bq (cD rfl rfl rfl h.1.1 hb33) (gv rfl h.1.2.1 h.2.1.1 rfl jP rfl rfl) rfl) ⟨⟨rfl,rfl,trivial⟩,⟨rfl,trivial⟩,trivial⟩ ?_;refine bg (yy a0) (fun m h=>bq (cD rfl rfl rfl h.1.1 hb33) (sf rfl h.1.2.1 rfl rfl rfl rfl) rfl) ⟨⟨rfl,rfl,trivial⟩,trivial,trivial⟩ ?_;refine bg (yw a0) (fun m h=>bq (cD rfl rfl rfl h.1.1 hb33) (ic rfl h.1.2.1 rfl rfl) rfl) ⟨⟨rfl,rfl,trivial⟩,trivial,trivial⟩ ?_;rcases ie F with⟨hb34,F⟩ | ⟨hb34,F⟩
   ·refine bg (tP a0) (fun m h=>bq (cD rfl rfl rfl h.1.1 hb34) (gX rfl h.1.2.1 De rfl rfl) rfl) ⟨⟨rfl,rfl,trivial⟩,trivial,trivial⟩ ?_;refine bg (yt a0) (fun m h=>bq (cD rfl rfl rfl h.1.1 hb34) (gv rfl h.1.2.1 h.2.1.1 rfl yn rfl rfl) rfl) ⟨⟨rfl,rfl,trivial⟩,⟨rfl,trivial⟩,trivial⟩ ?_;obtain⟨y4,h3,F⟩:=bs F;refine dkg hb34 59 [(58,pS a0.af)] (pB y4) (fun m h=>⟨_,dx 1 rfl (caps:=[]) (args:=[.str a0.af]) (rs:=[.p (.bool y4)]) rfl rfl (bm h.1.2.1 dM) Pa (ey h3) rfl rfl rfl,rfl⟩) ?_;exact tm [0]
   (iterate 4 refine zB hb34 ?_);refine bg (qc a0) (fun m h=>bq (cD rfl rfl rfl h.1.1 hb33) (dI rfl h.1.2.1 hb34 rfl rfl rfl) rfl) ⟨⟨rfl,rfl,trivial⟩,trivial,trivial⟩ ?_;refine bg (yz a0) (fun m h=>bq (bQ rfl) (dI rfl h.1.1 hb33 h.1.2.1 rfl rfl) rfl) ⟨⟨rfl,rfl,trivial⟩,trivial,trivial⟩ ?_;refine drn ?_;refine piz (sX 113 [(1,some (.lp 0 0)),pf 62 (.bool false)] [bf 0 53 (ap a0)] 1) [0] ?_;exact tl [0]
  have F:=hK0;refine gg ?_;refine cq F (fun hb36 F=> ?_) fun hb36 F=> ?_
  ·exact tl []
  obtain⟨lr0,F,hK1⟩:=bs F;refine lpG (fun s1=>∃ q,lr0= .next q/\s1=(sX 113 [] [] 0)) (fun(q:Int)=>(sX 113 [(1,some (.lp 0 0)),pf 3 (.int .i64 q)] [bf 0 53 (ap a0)] 1)) (fun k q=>ni a0 ref06_form_rec k q) 0 (bG [0]) F (fun k x1 F ih=> ?_) ?_
  ·refine gg ?_;refine cq F (fun hb37 F=> ?_) fun hb37 F=> ?_
   ·obtain⟨y5,h5,F⟩:=bs F;refine ga5 ?_;refine aJ ?_;obtain⟨x2,F,hK2⟩:=bs F;refine ctx (sX 113 [(1,some (.lp 0 0)),pf 3 (.int .i64 x1),pf 112 (.bool x2)] [bf 0 53 (ap a0)] 1) ?_ ?_
    ·refine go4 ?_;obtain⟨y6,h6,F⟩:=bs F;refine rgp (ix (Dx cr h6) jG) ?_;refine rgp (lw (ap y6) dR) ?_;obtain⟨y7,h7,F⟩:=bs F;refine rgp (cl 1 [.agg (ap y6)] [.p (.bool y7)] (ref06_form_ih _ _ h7)) ?_;exact tl [0]
    have F:=hK2;refine go ?_;refine cnd F (fun hb38 F=> ?_) fun hb38 F=> ?_
    ·refine ga7 ?_;refine ba ?_;cases F;have F:=bH hK1;exact tl []
    refine gg ?_;exact aP (ih (ae (x1+1)) F) (bG [0])
   exact tl []
  rintro _ ⟨⟨⟩,rfl,rfl⟩;have F:=bW hK1;clear hK1;exact tl []
end Go.Proofs.YtjimbkljclfflaaGreatDoor
