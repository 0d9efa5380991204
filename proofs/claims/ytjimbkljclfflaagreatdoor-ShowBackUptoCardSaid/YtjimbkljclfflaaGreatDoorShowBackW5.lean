/- A part of the proof that the law ShowBack gives true for every input. -/
import Derived.Test.YtjimbkljclfflaaGreatDoorShowBackT
import Derived.Test.YtjimbkljclfflaaGreatDoorShowBackY
import Derived.Test.YtjimbkljclfflaaGreatDoorShowBackB
import Derived.Test.YtjimbkljclfflaaGreatDoorShowBackS
import Derived.Test.YtjimbkljclfflaaGreatDoorShowBackX
import Derived.Test.YtjimbkljclfflaaGreatDoorShowBackI
import Derived.Test.YtjimbkljclfflaaGreatDoorShowBackW4
/- Each Go function computes its plain function. -/
namespace Go.Proofs.YtjimbkljclfflaaGreatDoor
open Go.RowKit Go.Abs
set_option maxRecDepth 100000
set_option maxHeartbeats 4000000
theorem LU {a0:ah} {r:Bool} (F:oY a0=some r):FZ 140 [.agg (ax a0)] [.p (.bool r)]:=by
 unfold oY at F;refine fb 55 Tryz.func140 fun w O=> ?_;refine rgp (la (ax a0) ec) ?_;obtain⟨y3,h4,F⟩:=bs F;refine rq (clA 1 (KY h4)) ?_;refine iq F (fun hb5 F=> ?_) fun hb5 F=> ?_
 ·refine iq F (fun hb6 F=> ?_) fun hb6 F=> ?_
  ·refine rqn hb6 (dQ rfl rfl rfl rfl rfl rfl) ?_;refine iq F (fun hb7 F=> ?_) fun hb7 F=> ?_
   ·refine rqn hb7 (dQ rfl rfl rfl rfl rfl rfl) ?_;refine iq F (fun hb8 F=> ?_) fun hb8 F=> ?_
    ·refine rqn hb8 (dQ rfl rfl rfl rfl rfl rfl) ?_;refine iq F (fun hb9 F=> ?_) fun hb9 F=> ?_
     ·refine rgn hb9 (la (bt y3.av) fH) ?_;refine rgn hb9 (bd ((bt dY)) (bt dY) uL BR) ?_;refine rqn hb9 (xn (r:=jp y3.av dY) rfl rfl rfl Bh rfl rfl rfl rfl rfl) ?_;refine iq F (fun hb0 F=> ?_) fun hb0 F=> ?_
      ·refine rgn hb0 (la (ap y3.fE) dR) ?_;refine rgn hb0 (bd ((ap cA)) (ap cA) iZ pz) ?_;obtain⟨y0,h0,F⟩:=bs F;refine rgn hb0 (clA 2 (sx h0)) ?_;exact tl []
      exact tl []
     exact tl []
    exact tl []
   exact tl []
  exact tl []
 exact tl []
theorem zk {a0:bZ} {a1:Int} {r:Bool} (F:qK a0 a1=some r):FZ 64 [.agg (bt a0),.int .i64 a1] [.p (.bool r)]:=by
 unfold qK at F;refine bM (n:=77) Tryz.func64 rfl rfl rfl fun w O=> ?_;refine ga4 ?_;(iterate 2 refine aJ ?_);obtain⟨x2,F,hK4⟩:=bs F;refine ctq (sX 77 [pf 1 (.int .i64 a1),(2,some (.lp 0 0)),pf 14 (.bool x2)] [bf 0 45 (bt a0)] 1) ?_ ?_
 ·exact tl [0]
 have F:=hK4;refine cnd F (fun hb5 F=> ?_) fun hb5 F=> ?_
 ·refine gg ?_;refine rq (la (bt a0) fH) ?_;refine rgp (bd ((bt dY)) (bt (⟨a0.aa,[],0,(⟨aq,aq,aq,aq⟩:A4 ay)⟩:bZ)) uL BR) ?_;refine rgp (xn (r:=jp a0 (⟨a0.aa,[],0,(⟨aq,aq,aq,aq⟩:A4 ay)⟩:bZ)) rfl rfl rfl Bh rfl rfl rfl rfl rfl) ?_;exact tl []
 refine ga2 ?_;(iterate 2 refine aJ ?_);obtain⟨x0,F,hK0⟩:=bs F;refine ctq (sX 77 [pf 1 (.int .i64 a1),(2,some (.lp 0 0)),pf 38 (.bool x0)] [bf 0 45 (bt a0)] 1) ?_ ?_
 ·refine iq F (fun hb6 F=> ?_) fun hb6 F=> ?_
  ·exact tl [0]
  obtain⟨y7,h8,F⟩:=bs F;refine rgn hb6 (clA 1 (ey h8)) ?_;exact tl [0]
 have F:=hK0;refine cq F (fun hb0 F=> ?_) fun hb0 F=> ?_
 ·exact tl []
 obtain⟨lr0,F,hK1⟩:=bs F;refine lpG (fun s1=>∃ q,lr0= .next q/\s1=(sX 77 [] [] 0)) (fun(q:Int)=>(sX 77 [pf 1 (.int .i64 a1),(2,some (.lp 0 0)),pf 5 (.int .i64 q)] [bf 0 45 (bt a0)] 1)) (fun k q=>kc a0 a1 k q) 0 (bG [0]) F (fun k x1 F ih=> ?_) ?_
 ·refine gg ?_;refine cq F (fun hb1 F=> ?_) fun hb1 F=> ?_
  ·obtain⟨y0,h0,F⟩:=bs F;refine rgp (Kq rfl rfl rfl mP rfl h0 rfl rfl) ?_;refine rgp (eZ (ps:=aC y0) rfl rfl rfl (Uv rfl (fun _=>rfl) rfl h0) rfl rfl qj rfl rfl) ?_;refine ga3 ?_;refine aJ ?_;obtain⟨x3,F,hK2⟩:=bs F;refine ctq (sX 77 [pf 1 (.int .i64 a1),(2,some (.lp 0 0)),pf 5 (.int .i64 x1),pf 76 (.bool x3)] [bf 0 45 (bt a0)] 1) ?_ ?_
   ·rcases ie F with⟨hb2,F⟩ | ⟨hb2,F⟩
    ·refine rgn hb2 (la (aC y0) qj) ?_;refine rgn hb2 (bd ((aC aq)) (aC aq) vZ BN) ?_;refine rqn hb2 (mJ (r:=jx y0 aq) rfl rfl rfl Um rfl rfl rfl rfl rfl) ?_;refine iq F (fun hb3 F=> ?_) fun hb3 F=> ?_
     ·exact tl [0]
     rcases ie F with⟨hb4,F⟩ | ⟨hb4,F⟩
     ·refine rqn hb4 (la (aC y0) qj) ?_;obtain⟨y1,h1,F⟩:=bs F;refine rgn hb4 (clA 2 (vu h1)) ?_;exact tl [0]
     exact tl [0]
    refine gg ?_;rcases ie F with⟨hb7,F⟩ | ⟨hb7,F⟩
    ·refine rqn hb7 (la (aC y0) qj) ?_;obtain⟨y2,h2,F⟩:=bs F;refine rgn hb7 (clA 2 (vu h2)) ?_;exact tl [0]
    exact tl [0]
   have F:=hK2;refine cnd F (fun hb8 F=> ?_) fun hb8 F=> ?_
   ·refine ga7 ?_;refine ba ?_;cases F;have F:=bH hK1;exact tl []
   refine gg ?_;exact aP (ih (ae (x1+1)) F) (bG [0])
  exact tl []
 rintro _ ⟨⟨⟩,rfl,rfl⟩;have F:=bW hK1;clear hK1;exact tl []
theorem Jc {a0:ah} {a1:Int} {r:Bool} (F:sW a0 a1=some r):FZ 141 [.agg (ax a0),.int .i64 a1] [.p (.bool r)]:=by
 unfold sW at F;refine bM (n:=115) Tryz.func141 rfl rfl rfl fun w O=> ?_;refine ga9 ?_;refine aJ ?_;obtain⟨x0,F,hK0⟩:=bs F;refine ctx (sX 115 [pf 1 (.int .i64 a1),(2,some (.lp 0 0)),pf 5 (.int .i64 a0.aa),pf 6 (.bool x0)] [bf 0 55 (ax a0)] 1) ?_ ?_
 ·refine gg ?_;obtain⟨y3,h4,F⟩:=bs F;refine rq (clA 1 (ey h4)) ?_;refine iq F (fun hb5 F=> ?_) fun hb5 F=> ?_
  ·exact tl [0]
  refine iq F (fun hb6 F=> ?_) fun hb6 F=> ?_
  ·refine rgn hb6 (dQ rfl rfl rfl rfl rfl rfl) ?_;exact tl [0]
  exact tl [0]
 have F:=hK0;refine go ?_;refine aJ ?_;obtain⟨x1,F,hK1⟩:=bs F;refine ctx (sX 115 [pf 1 (.int .i64 a1),(2,some (.lp 0 0)),pf 5 (.int .i64 a0.aa),pf 6 (.bool x0),pf 7 (.bool x1)] [bf 0 55 (ax a0)] 1) ?_ ?_
 ·refine gg ?_;obtain⟨y0,h0,F⟩:=bs F;refine rq (clA 1 (ey h0)) ?_;refine iq F (fun hb0 F=> ?_) fun hb0 F=> ?_
  ·exact tl [0]
  refine iq F (fun hb1 F=> ?_) fun hb1 F=> ?_
  ·refine rgn rfl (dQ rfl rfl rfl rfl rfl rfl) ?_;exact tl [0]
  refine iq F (fun hb2 F=> ?_) fun hb2 F=> ?_
  ·refine rgn rfl (dQ rfl rfl rfl rfl rfl rfl) ?_;exact tl [0]
  refine iq F (fun hb3 F=> ?_) fun hb3 F=> ?_
  ·refine rgn hb3 (dQ rfl rfl rfl rfl rfl rfl) ?_;exact tl [0]
  exact tl [0]
 have F:=hK1;refine go ?_;refine aJ ?_;obtain⟨x2,F,hK2⟩:=bs F;refine ctx (sX 115 [pf 1 (.int .i64 a1),(2,some (.lp 0 0)),pf 5 (.int .i64 a0.aa),pf 6 (.bool x0),pf 7 (.bool x1),pf 8 (.bool x2)] [bf 0 55 (ax a0)] 1) ?_ ?_
 ·refine gg ?_;obtain⟨y1,h1,F⟩:=bs F;refine rgp (clA 1 (ey h1)) ?_;exact tl [0]
 have F:=hK2;refine go ?_;refine aJ ?_;obtain⟨x3,F,hK3⟩:=bs F;refine ctq (sX 115 [pf 6 (.bool x0),pf 7 (.bool x1),pf 8 (.bool x2),pf 9 (.bool x3)] [] 0) ?_ ?_
 ·refine iq F (fun hb4 F=> ?_) fun hb4 F=> ?_
  ·refine rqn hb4 (la (bt a0.av) fH) ?_;obtain⟨y2,h2,F⟩:=bs F;refine rgn hb4 (clA 1 (zk h2)) ?_;exact tl []
  exact tl []
 have F:=hK3;exact tl []
theorem Mf {a0:Int} {r:Int} (F:xG a0=some r):FZ 209 [.int .i64 a0] [.p (.int .i64 r)]:=by
 unfold xG at F;refine bM (n:=19) Tryz.func209 rfl rfl rfl fun w O=> ?_;refine ga3 ?_;(iterate 2 refine aJ ?_);obtain⟨x3,F,hK5⟩:=bs F;refine ctq (sX 19 [pf 0 (.int .i64 a0),pf 12 (.bool x3)] [] 0) ?_ ?_
 ·exact tl []
 have F:=hK5;refine cnd F (fun hb6 F=> ?_) fun hb6 F=> ?_
 ·exact tl []
 refine ga2 ?_;(iterate 2 refine aJ ?_);obtain⟨x8,F,hK0⟩:=bs F;refine ctx (sX 19 [pf 18 (.bool x8)] [] 0) ?_ ?_
 ·exact tl []
 have F:=hK0;refine go ?_;refine cnd F (fun hb0 F=> ?_) fun hb0 F=> ?_
 ·exact tl []
 exact tl []
end Go.Proofs.YtjimbkljclfflaaGreatDoor
