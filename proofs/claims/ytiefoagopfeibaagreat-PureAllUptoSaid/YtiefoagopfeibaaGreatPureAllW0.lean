/- A part of the proof that the law PureAll gives true for every input. -/
import Derived.Test.YtiefoagopfeibaaGreatPureAllT
import Derived.Test.YtiefoagopfeibaaGreatPureAllB
import Derived.Test.YtiefoagopfeibaaGreatPureAllX
import Derived.Test.YtiefoagopfeibaaGreatPureAllI
/- Each Go function computes its plain function. -/
namespace Go.Proofs.YtiefoagopfeibaaGreat
open Go.RowKit Go.Abs
set_option maxRecDepth 100000
set_option maxHeartbeats 4000000
theorem zQ {a0 : aI} {r : Int} (F : nw a0 = some r) : FZ 18 [.agg (ai a0)] [.p (.int .i64 r)] := by
 unfold nw at F;refine au (n := 45) Tryz.func18 rfl rfl rfl fun w O => ?_;refine go ?_;refine rgp (bo 0) ?_;refine go9 ?_;obtain ⟨x0, F, hK0⟩ := bs F;refine cj ((a0.ap.length - 0 : Int).toNat + 1) (fun s1 => s1 = (sX 45 [(1, some (.lp 0 0)), pf 3 (.int .i64 x0)] [bf 0 40 (ai a0)] 1)) ?_ ?_
 ·refine bu (α := Int × Int) (fun q => (sX 45 [(1, some (.lp 0 0)), pf 3 (.int .i64 q.1), pf 4 (.int .i64 q.2)] [bf 0 40 (ai a0)] 1)) (fun k q => je a0 k q.1 q.2 = some x0) (0, 0) (bm [0]) F (fun q h => by cases h) ?_;clear F;rintro k ⟨x1, x2⟩ F ih;refine bt ?_;refine go8 ?_;refine cnd F (fun hb0 F => ?_) fun hb0 F => ?_
  ·refine go2 ?_;refine aF ?_;obtain ⟨x3, F, hK1⟩ := bs F;refine ctx (sX 45 [(1, some (.lp 0 0)), pf 3 (.int .i64 x3), pf 4 (.int .i64 x2)] [bf 0 40 (ai a0)] 1) ?_ ?_
   ·refine bl ?_;refine go4 ?_;obtain ⟨y0, h0, F⟩ := bs F;refine rgp (ix (bh aY h0) fb) ?_;refine go2 ?_;refine rgp (ru (k := .i64) (m := 0) (n := 4) rfl rfl rfl re rfl rfl rfl rfl) ?_;refine go4 ?_;refine cnd F (fun hb1 F => ?_) fun hb1 F => ?_
    ·refine go4 ?_;refine cN ?_;refine piz (sX 45 [(1, some (.lp 0 0)), pf 3 (.int .i64 (ak (x1 + 1))), pf 4 (.int .i64 x2)] [bf 0 40 (ai a0)] 1) [0] ?_;refine go ?_;cases F;exact pcz [0]
    refine go2 ?_;cases F;exact pcz [0]
   have F := hK1;refine go5 ?_;refine rnr ?_;exact bv (ih (x3, ak (x2 + 1)) F) (bm [0])
  refine bR ?_;(iterate 2 refine ao ?_);cases F;exact av _ rfl (bm [0])
 rintro _ rfl;have F := hK0;refine go5 ?_;obtain ⟨x4, F, hK2⟩ := bs F;refine cj ((a0.cy.length - 0 : Int).toNat + 1) (fun s1 => s1 = (sX 45 [pf 3 (.int .i64 x4)] [] 0)) ?_ ?_
 ·refine bu (α := Int × Int) (fun q => (sX 45 [(1, some (.lp 0 0)), pf 3 (.int .i64 q.1), pf 5 (.int .i64 q.2)] [bf 0 40 (ai a0)] 1)) (fun k q => jh a0 k q.1 q.2 = some x4) (x0, 0) (bm [0]) F (fun q h => by cases h) ?_;clear F;rintro k ⟨x5, x6⟩ F ih;refine bt ?_;refine go8 ?_;refine cnd F (fun hb2 F => ?_) fun hb2 F => ?_
  ·refine go2 ?_;refine aF ?_;obtain ⟨x7, F, hK3⟩ := bs F;refine ctx (sX 45 [(1, some (.lp 0 0)), pf 3 (.int .i64 x7), pf 5 (.int .i64 x6)] [bf 0 40 (ai a0)] 1) ?_ ?_
   ·refine bl ?_;refine go4 ?_;obtain ⟨y1, h1, F⟩ := bs F;refine rgp (ix (bh aY h1) fb) ?_;refine go2 ?_;refine rgp (ru (k := .i64) (m := 0) (n := 4) rfl rfl rfl re rfl rfl rfl rfl) ?_;refine go4 ?_;refine cnd F (fun hb3 F => ?_) fun hb3 F => ?_
    ·refine go4 ?_;refine cN ?_;refine piz (sX 45 [(1, some (.lp 0 0)), pf 3 (.int .i64 (ak (x5 + 1))), pf 5 (.int .i64 x6)] [bf 0 40 (ai a0)] 1) [0] ?_;refine go ?_;cases F;exact pcz [0]
    refine go2 ?_;cases F;exact pcz [0]
   have F := hK3;refine go5 ?_;refine rnr ?_;exact bv (ih (x7, ak (x6 + 1)) F) (bm [0])
  refine bR ?_;(iterate 2 refine ao ?_);cases F;exact av _ rfl (bm [])
 rintro _ rfl;have F := hK2;refine go6 ?_;cases F;exact prt
theorem Bh : ∀ n : Nat, (∀ (a0 : cD) (a1 : Int) (r : Bool), jw n a0 a1 = some r → FZ 40 [.agg (bL a0), .int .i64 a1] [.p (.bool r)]) := by
 intro n
 induction n with
 | zero => exact (fun _ _ _ h => by simp [jw] at h)
 | succ n ih =>
  have ref10_kids_ih := ih;clear ih;intro a0 a1 r F;unfold jw at F
  revert F ref10_kids_ih
  generalize jw n = ref10_kids_rec
  intro ref10_kids_ih F;refine au (n := 29) Tryz.func40 rfl rfl rfl fun w O => ?_;refine go ?_;refine rgp (bo 0) ?_;refine go2 ?_;(iterate 2 refine aF ?_);obtain ⟨x2, F, hK4⟩ := bs F;refine ctx (sX 29 [pf 1 (.int .i64 a1), (2, some (.lp 0 0)), pf 13 (.bool x2)] [bf 0 46 (bL a0)] 1) ?_ ?_
  ·refine go4 ?_;rcases ie F with ⟨hb1, F⟩ | ⟨hb1, F⟩
   ·(iterate 4 refine aU hb1 ?_);refine rpt hb1 ?_;cases F;exact rcz [0]
   (iterate 2 refine gn hb1 ?_);refine rgn hb1 (cR (n := a0.cY.length) rfl rfl (jT cO) gk rfl rfl) ?_;refine gn hb1 ?_;refine rpf hb1 ?_;cases F;exact rcz [0]
  have F := hK4;refine go ?_;refine cnd F (fun hb5 F => ?_) fun hb5 F => ?_
  ·refine go5 ?_;cases F;exact prt
  refine go6 ?_;obtain ⟨lr0, F, hK0⟩ := bs F;refine cj ((a0.cY.length - 0 : Int).toNat + 1) (fun s1 => ∃ q, lr0 = .next q ∧ s1 = (sX 29 [] [] 0)) ?_ ?_
  ·refine bu (α := Int) (fun q => (sX 29 [pf 1 (.int .i64 a1), (2, some (.lp 0 0)), pf 5 (.int .i64 q)] [bf 0 46 (bL a0)] 1)) (fun k q => ln a0 a1 ref10_kids_rec k q = some lr0) 0 (bm [0]) F (fun q h => by cases h) ?_;clear F;rintro k x0 F ih;refine bt ?_;refine go5 ?_;refine rgp (cR (n := a0.cY.length) rfl rfl (jT cO) gk rfl rfl) ?_;refine go2 ?_;refine cnd F (fun hb0 F => ?_) fun hb0 F => ?_
   ·refine go2 ?_;refine aF ?_;refine bl ?_;refine go4 ?_;obtain ⟨y0, h0, F⟩ := bs F;refine rgp (ix (mG cO h0) gk) ?_;refine rgp (lw (bL y0) iA) ?_;refine go2 ?_;obtain ⟨y1, h1, F⟩ := bs F;refine rgp (cl 1 [.agg (bL y0), .int .i64 (ak (a1 - 1))] [.p (.bool y1)] (ref10_kids_ih _ _ _ h1)) ?_;refine go ?_;refine cnd F (fun hb2 F => ?_) fun hb2 F => ?_
    ·refine go7 ?_;refine bn ?_;cases F;have F := bU hK0;refine go ?_;cases F;exact prt
    refine go7 ?_;refine rnr ?_;exact bv (ih (ak (x0 + 1)) F) (bm [0])
   refine bR ?_;(iterate 2 refine ao ?_);cases F;exact av _ ⟨_, rfl, rfl⟩ (bm [])
  rintro _ ⟨⟨⟩, rfl, rfl⟩;have F := cd hK0;clear hK0;refine go5 ?_;cases F;exact prt
theorem xL {n : Nat} {a0 : cD} {a1 : Int} {r : Bool} (F : jw n a0 a1 = some r) : FZ 40 [.agg (bL a0), .int .i64 a1] [.p (.bool r)] := (Bh n) _ _ _ F

theorem Bq : ∀ n : Nat, (∀ (a0 : aQ) (a1 : Int) (r : Bool), iI n a0 a1 = some r → FZ 19 [.agg (aM a0), .int .i64 a1] [.p (.bool r)]) := by
 intro n
 induction n with
 | zero => exact (fun _ _ _ h => by simp [iI] at h)
 | succ n ih =>
  have ref10_much_ih := ih;clear ih;intro a0 a1 r F;unfold iI at F
  revert F ref10_much_ih
  generalize iI n = ref10_much_rec
  intro ref10_much_ih F;refine au (n := 76) Tryz.func19 rfl rfl rfl fun w O => ?_;refine go ?_;refine rgp (bo 0) ?_;refine go2 ?_;(iterate 2 refine aF ?_);obtain ⟨x7, F, hK9⟩ := bs F;refine ctx (sX 76 [pf 1 (.int .i64 a1), (2, some (.lp 0 0)), pf 32 (.bool x7)] [bf 0 48 (aM a0)] 1) ?_ ?_
  ·refine go4 ?_;rcases ie F with ⟨hb1, F⟩ | ⟨hb1, F⟩
   ·(iterate 4 refine aU hb1 ?_);refine rpt hb1 ?_;refine go ?_;(iterate 4 refine aU rfl ?_);refine rpt rfl ?_;refine go ?_;(iterate 4 refine aU rfl ?_);refine rpt rfl ?_;refine go ?_;(iterate 3 refine aU rfl ?_);refine rpt rfl ?_;cases F;exact rcz [0]
   (iterate 2 refine gn hb1 ?_);refine rgn hb1 (cR (n := a0.bM.length) rfl rfl (jT cb) dW rfl rfl) ?_;refine gn hb1 ?_;refine rpf hb1 ?_;refine go ?_;rcases ie F with ⟨hb2, F⟩ | ⟨hb2, F⟩
   ·(iterate 4 refine aU hb2 ?_);refine rpt hb2 ?_;refine go ?_;(iterate 4 refine aU rfl ?_);refine rpt rfl ?_;refine go ?_;(iterate 3 refine aU rfl ?_);refine rpt rfl ?_;cases F;exact rcz [0]
   (iterate 2 refine gn hb2 ?_);refine rgn hb2 (cR (n := a0.dp.length) rfl rfl (jT cb) dW rfl rfl) ?_;refine gn hb2 ?_;refine rpf hb2 ?_;refine go ?_;rcases ie F with ⟨hb3, F⟩ | ⟨hb3, F⟩
   ·(iterate 4 refine aU hb3 ?_);refine rpt hb3 ?_;refine go ?_;(iterate 3 refine aU rfl ?_);refine rpt rfl ?_;cases F;exact rcz [0]
   (iterate 2 refine gn hb3 ?_);refine rgn hb3 (cR (n := a0.dH.length) rfl rfl (jT cO) gk rfl rfl) ?_;refine gn hb3 ?_;refine rpf hb3 ?_;refine go ?_;rcases ie F with ⟨hb4, F⟩ | ⟨hb4, F⟩
   ·(iterate 3 refine aU hb4 ?_);refine rpt hb4 ?_;cases F;exact rcz [0]
   refine gn hb4 ?_;refine rgn hb4 (la (bL a0.fE) iA) ?_;obtain ⟨y5, h6, F⟩ := bs F;refine rgn hb4 (cl 1 [.agg (bL a0.fE), .int .i64 25] [.p (.bool y5)] (xL h6)) ?_;refine rpf hb4 ?_;cases F;exact rcz [0]
  have F := hK9;refine go ?_;refine cnd F (fun hb0 F => ?_) fun hb0 F => ?_
  ·refine go5 ?_;cases F;exact prt
  refine go6 ?_;obtain ⟨lr0, F, hK0⟩ := bs F;refine cj ((a0.dH.length - 0 : Int).toNat + 1) (fun s1 => ∃ q, lr0 = .next q ∧ s1 = (sX 76 [pf 1 (.int .i64 a1), (2, some (.lp 0 0))] [bf 0 48 (aM a0)] 1)) ?_ ?_
  ·refine bu (α := Int) (fun q => (sX 76 [pf 1 (.int .i64 a1), (2, some (.lp 0 0)), pf 5 (.int .i64 q)] [bf 0 48 (aM a0)] 1)) (fun k q => lJ a0 k q = some lr0) 0 (bm [0]) F (fun q h => by cases h) ?_;clear F;rintro k x0 F ih;refine bt ?_;refine go5 ?_;refine rgp (cR (n := a0.dH.length) rfl rfl (jT cO) gk rfl rfl) ?_;refine go2 ?_;refine cnd F (fun hb5 F => ?_) fun hb5 F => ?_
   ·refine go2 ?_;refine aF ?_;refine bl ?_;refine go4 ?_;obtain ⟨y0, h0, F⟩ := bs F;refine rgp (ix (mG cO h0) gk) ?_;refine rgp (lw (bL y0) iA) ?_;obtain ⟨y1, h1, F⟩ := bs F;refine rgp (cl 1 [.agg (bL y0), .int .i64 25] [.p (.bool y1)] (xL h1)) ?_;refine go ?_;refine cnd F (fun hb6 F => ?_) fun hb6 F => ?_
    ·refine go7 ?_;refine bn ?_;cases F;have F := bU hK0;refine go ?_;cases F;exact prt
    refine go7 ?_;refine rnr ?_;exact bv (ih (ak (x0 + 1)) F) (bm [0])
   refine bR ?_;(iterate 2 refine ao ?_);cases F;exact av _ ⟨_, rfl, rfl⟩ (bm [0])
  rintro _ ⟨⟨⟩, rfl, rfl⟩;have F := cd hK0;clear hK0;refine go5 ?_;obtain ⟨lr1, F, hK1⟩ := bs F;refine cj ((a0.bM.length - 0 : Int).toNat + 1) (fun s1 => ∃ q, lr1 = .next q ∧ s1 = (sX 76 [pf 1 (.int .i64 a1), (2, some (.lp 0 0))] [bf 0 48 (aM a0)] 1)) ?_ ?_
  ·refine bu (α := Int) (fun q => (sX 76 [pf 1 (.int .i64 a1), (2, some (.lp 0 0)), pf 6 (.int .i64 q)] [bf 0 48 (aM a0)] 1)) (fun k q => lH a0 a1 ref10_much_rec k q = some lr1) 0 (bm [0]) F (fun q h => by cases h) ?_;clear F;rintro k x1 F ih;refine bt ?_;refine go5 ?_;refine rgp (cR (n := a0.bM.length) rfl rfl (jT cb) dW rfl rfl) ?_;refine go2 ?_;refine cnd F (fun hb7 F => ?_) fun hb7 F => ?_
   ·refine go2 ?_;refine aF ?_;refine bl ?_;refine go4 ?_;obtain ⟨y2, h2, F⟩ := bs F;refine rgp (ix (mG cb h2) dW) ?_;refine rgp (lw (aM y2) eu) ?_;refine go2 ?_;obtain ⟨y3, h3, F⟩ := bs F;refine rgp (cl 1 [.agg (aM y2), .int .i64 (ak (a1 - 1))] [.p (.bool y3)] (ref10_much_ih _ _ _ h3)) ?_;refine go ?_;refine cnd F (fun hb8 F => ?_) fun hb8 F => ?_
    ·refine go7 ?_;refine bn ?_;cases F;have F := bU hK1;refine go ?_;cases F;exact prt
    refine go7 ?_;refine rnr ?_;exact bv (ih (ak (x1 + 1)) F) (bm [0])
   refine bR ?_;(iterate 2 refine ao ?_);cases F;exact av _ ⟨_, rfl, rfl⟩ (bm [0])
  rintro _ ⟨⟨⟩, rfl, rfl⟩;have F := cd hK1;clear hK1;refine go5 ?_;obtain ⟨lr2, F, hK2⟩ := bs F;refine cj ((a0.dp.length - 0 : Int).toNat + 1) (fun s1 => ∃ q, lr2 = .next q ∧ s1 = (sX 76 [] [] 0)) ?_ ?_
  ·refine bu (α := Int) (fun q => (sX 76 [pf 1 (.int .i64 a1), (2, some (.lp 0 0)), pf 7 (.int .i64 q)] [bf 0 48 (aM a0)] 1)) (fun k q => lm a0 a1 ref10_much_rec k q = some lr2) 0 (bm [0]) F (fun q h => by cases h) ?_;clear F;rintro k x2 F ih;refine bt ?_;refine go5 ?_;refine rgp (cR (n := a0.dp.length) rfl rfl (jT cb) dW rfl rfl) ?_;refine go2 ?_;refine cnd F (fun hb9 F => ?_) fun hb9 F => ?_
   ·refine go2 ?_;refine aF ?_;refine bl ?_;refine go4 ?_;obtain ⟨y4, h4, F⟩ := bs F;refine rgp (ix (mG cb h4) dW) ?_;refine rgp (lw (aM y4) eu) ?_;refine go2 ?_;obtain ⟨y6, h5, F⟩ := bs F;refine rgp (cl 1 [.agg (aM y4), .int .i64 (ak (a1 - 1))] [.p (.bool y6)] (ref10_much_ih _ _ _ h5)) ?_;refine go ?_;refine cnd F (fun hb11 F => ?_) fun hb11 F => ?_
    ·refine go7 ?_;refine bn ?_;cases F;have F := bU hK2;refine go ?_;cases F;exact prt
    refine go7 ?_;refine rnr ?_;exact bv (ih (ak (x2 + 1)) F) (bm [0])
   refine bR ?_;(iterate 2 refine ao ?_);cases F;exact av _ ⟨_, rfl, rfl⟩ (bm [])
  rintro _ ⟨⟨⟩, rfl, rfl⟩;have F := cd hK2;clear hK2;refine go5 ?_;cases F;exact prt
theorem FU {n : Nat} {a0 : aQ} {a1 : Int} {r : Bool} (F : iI n a0 a1 = some r) : FZ 19 [.agg (aM a0), .int .i64 a1] [.p (.bool r)] := (Bq n) _ _ _ F

theorem AZ : ∀ n : Nat, (∀ (a0 : aQ) (r : Int), fK n a0 = some r → FZ 20 [.agg (aM a0)] [.p (.int .i64 r)]) := by
 intro n
 induction n with
 | zero => exact (fun _ _ h => by simp [fK] at h)
 | succ n ih =>
  have ref08_Size_ih := ih;clear ih;intro a0 r F;unfold fK at F
  revert F ref08_Size_ih
  generalize fK n = ref08_Size_rec
  intro ref08_Size_ih F;refine au (n := 37) Tryz.func20 rfl rfl rfl fun w O => ?_;refine go ?_;refine rgp (bo 0) ?_;refine go9 ?_;obtain ⟨x0, F, hK0⟩ := bs F;refine cj ((a0.bM.length - 0 : Int).toNat + 1) (fun s1 => s1 = (sX 37 [(1, some (.lp 0 0)), pf 3 (.int .i64 x0)] [bf 0 48 (aM a0)] 1)) ?_ ?_
  ·refine bu (α := Int × Int) (fun q => (sX 37 [(1, some (.lp 0 0)), pf 3 (.int .i64 q.1), pf 4 (.int .i64 q.2)] [bf 0 48 (aM a0)] 1)) (fun k q => im a0 ref08_Size_rec k q.1 q.2 = some x0) (1, 0) (bm [0]) F (fun q h => by cases h) ?_;clear F;rintro k ⟨x1, x2⟩ F ih;refine bt ?_;refine go5 ?_;refine rgp (cR (n := a0.bM.length) rfl rfl (jT cb) dW rfl rfl) ?_;refine go2 ?_;refine cnd F (fun hb0 F => ?_) fun hb0 F => ?_
   ·refine go2 ?_;refine aF ?_;refine bl ?_;refine go5 ?_;obtain ⟨y0, h0, F⟩ := bs F;refine rgp (ix (mG cb h0) dW) ?_;refine rgp (lw (aM y0) eu) ?_;obtain ⟨y1, h1, F⟩ := bs F;refine rgp (cl 1 [.agg (aM y0)] [.p (.int .i64 y1)] (ref08_Size_ih _ _ h1)) ?_;refine go2 ?_;refine cN ?_;refine piz (sX 37 [(1, some (.lp 0 0)), pf 3 (.int .i64 (ak (x1 + y1))), pf 4 (.int .i64 x2)] [bf 0 48 (aM a0)] 1) [0] ?_;refine go6 ?_;refine rnr ?_;exact bv (ih (ak (x1 + y1), ak (x2 + 1)) F) (bm [0])
   refine bR ?_;(iterate 2 refine ao ?_);cases F;exact av _ rfl (bm [0])
  rintro _ rfl;have F := hK0;refine go5 ?_;obtain ⟨x3, F, hK1⟩ := bs F;refine cj ((a0.dp.length - 0 : Int).toNat + 1) (fun s1 => s1 = (sX 37 [pf 3 (.int .i64 x3)] [] 0)) ?_ ?_
  ·refine bu (α := Int × Int) (fun q => (sX 37 [(1, some (.lp 0 0)), pf 3 (.int .i64 q.1), pf 5 (.int .i64 q.2)] [bf 0 48 (aM a0)] 1)) (fun k q => iq a0 ref08_Size_rec k q.1 q.2 = some x3) (x0, 0) (bm [0]) F (fun q h => by cases h) ?_;clear F;rintro k ⟨x4, x5⟩ F ih;refine bt ?_;refine go5 ?_;refine rgp (cR (n := a0.dp.length) rfl rfl (jT cb) dW rfl rfl) ?_;refine go2 ?_;refine cnd F (fun hb1 F => ?_) fun hb1 F => ?_
   ·refine go2 ?_;refine aF ?_;refine bl ?_;refine go5 ?_;obtain ⟨y2, h2, F⟩ := bs F;refine rgp (ix (mG cb h2) dW) ?_;refine rgp (lw (aM y2) eu) ?_;obtain ⟨y3, h3, F⟩ := bs F;refine rgp (cl 1 [.agg (aM y2)] [.p (.int .i64 y3)] (ref08_Size_ih _ _ h3)) ?_;refine go2 ?_;refine cN ?_;refine piz (sX 37 [(1, some (.lp 0 0)), pf 3 (.int .i64 (ak (x4 + y3))), pf 5 (.int .i64 x5)] [bf 0 48 (aM a0)] 1) [0] ?_;refine go6 ?_;refine rnr ?_;exact bv (ih (ak (x4 + y3), ak (x5 + 1)) F) (bm [0])
   refine bR ?_;(iterate 2 refine ao ?_);cases F;exact av _ rfl (bm [])
  rintro _ rfl;have F := hK1;refine go6 ?_;cases F;exact prt
theorem tJ {n : Nat} {a0 : aQ} {r : Int} (F : fK n a0 = some r) : FZ 20 [.agg (aM a0)] [.p (.int .i64 r)] := (AZ n) _ _ F

theorem Dp {a0 : List ae} {r : Bool} (F : qJ a0 = some r) : FZ 6 [.vs 7 (List.map aa a0)] [.p (.bool r)] := by
 unfold qJ at F;refine au (n := 106) Tryz.func6 rfl rfl rfl fun w O => ?_;(iterate 10 refine go ?_);obtain ⟨lr0, F, hK0⟩ := bs F;refine cj ((a0.length - 0 : Int).toNat + 1) (fun s1 => ∃ q, lr0 = .next q ∧ s1 = (sX 106 [pf 3 (.int .i64 q)] [] 0)) ?_ ?_
 ·refine bu (α := Int × Int) (fun q => (sX 106 [pf 0 (.vs 7 (List.map aa a0)), pf 3 (.int .i64 q.1), pf 4 (.int .i64 q.2)] [] 0)) (fun k q => ke a0 k q.1 q.2 = some lr0) (0, 0) (bm []) F (fun q h => by cases h) ?_;clear F;rintro k ⟨x0, x1⟩ F ih;refine bt ?_;refine go7 ?_;refine cnd F (fun hb0 F => ?_) fun hb0 F => ?_
  ·refine go2 ?_;refine aF ?_;refine bl ?_;refine go3 ?_;obtain ⟨y0, h0, F⟩ := bs F;refine rgp (ix (bh aa h0) dV) ?_;refine rgp (lw (aa y0) eo) ?_;refine rgp (al 0 (aa zGClass) oT) ?_;refine go2 ?_;(iterate 2 refine aF ?_);obtain ⟨x2, F, hK1⟩ := bs F;refine ctx (sX 106 [pf 0 (.vs 7 (List.map aa a0)), pf 3 (.int .i64 x0), pf 4 (.int .i64 x1), (5, some (.lp 0 0)), pf 45 (.bool x2)] [bf 0 32 (aa y0)] 1) ?_ ?_
   ·refine go5 ?_;rcases ie F with ⟨hb1, F⟩ | ⟨hb1, F⟩
    ·(iterate 4 refine aU hb1 ?_);refine rpt hb1 ?_;refine go ?_;(iterate 4 refine aU rfl ?_);refine rpt rfl ?_;refine go ?_;(iterate 4 refine aU rfl ?_);refine rpt rfl ?_;refine go ?_;(iterate 4 refine aU rfl ?_);refine rpt rfl ?_;cases F;exact rcz [0]
    (iterate 4 refine gn hb1 ?_);refine rpf hb1 ?_;refine go ?_;rcases ie F with ⟨hb2, F⟩ | ⟨hb2, F⟩
    ·(iterate 4 refine aU hb2 ?_);refine rpt hb2 ?_;refine go ?_;(iterate 4 refine aU rfl ?_);refine rpt rfl ?_;refine go ?_;(iterate 4 refine aU rfl ?_);refine rpt rfl ?_;cases F;exact rcz [0]
    (iterate 4 refine gn hb2 ?_);refine rpf hb2 ?_;refine go ?_;rcases ie F with ⟨hb3, F⟩ | ⟨hb3, F⟩
    ·(iterate 4 refine aU hb3 ?_);refine rpt hb3 ?_;refine go ?_;(iterate 4 refine aU rfl ?_);refine rpt rfl ?_;cases F;exact rcz [0]
    (iterate 4 refine gn hb3 ?_);refine rpf hb3 ?_;refine go ?_;rcases ie F with ⟨hb4, F⟩ | ⟨hb4, F⟩
    ·(iterate 4 refine aU hb4 ?_);refine rpt hb4 ?_;cases F;exact rcz [0]
    (iterate 4 refine gn hb4 ?_);refine rpf hb4 ?_;cases F;exact rcz [0]
   have F := hK1;refine go ?_;refine cnd F (fun hb5 F => ?_) fun hb5 F => ?_
   ·refine go8 ?_;refine bn ?_;cases F;have F := bU hK0;refine go ?_;cases F;exact prt
   refine go5 ?_;obtain ⟨lr1, F, hK2⟩ := bs F;refine cj ((y0.ah.length - 0 : Int).toNat + 1) (fun s1 => ∃ q, lr1 = .next q ∧ s1 = (sX 106 [pf 0 (.vs 7 (List.map aa a0)), pf 3 (.int .i64 q), pf 4 (.int .i64 x1)] [] 0)) ?_ ?_
   ·refine bu (α := Int × Int) (fun q => (sX 106 [pf 0 (.vs 7 (List.map aa a0)), pf 3 (.int .i64 q.1), pf 4 (.int .i64 x1), (5, some (.lp 0 0)), pf 6 (.int .i64 q.2)] [bf 0 32 (aa y0)] 1)) (fun k q => kD y0 k q.1 q.2 = some lr1) (x0, 0) (bm [0]) F (fun q h => by cases h) ?_;clear F;rintro k ⟨x3, x4⟩ F ih;refine bt ?_;refine go8 ?_;refine cnd F (fun hb6 F => ?_) fun hb6 F => ?_
    ·refine go2 ?_;refine aF ?_;refine bl ?_;refine go4 ?_;obtain ⟨y1, h1, F⟩ := bs F;refine rgp (ix (bh ai h1) iV) ?_;refine rgp (lw (ai y1) dM) ?_;refine rgp (al 1 (ai zGMethod) pQ) ?_;refine go2 ?_;(iterate 2 refine aF ?_);obtain ⟨x5, F, hK3⟩ := bs F;refine ctx (sX 106 [pf 0 (.vs 7 (List.map aa a0)), pf 3 (.int .i64 x3), pf 4 (.int .i64 x1), (5, some (.lp 0 0)), pf 6 (.int .i64 x4), (7, some (.lp 1 0)), pf 78 (.bool x5)] [bf 0 32 (aa y0), bf 1 40 (ai y1)] 2) ?_ ?_
     ·refine go6 ?_;rcases ie F with ⟨hb7, F⟩ | ⟨hb7, F⟩
      ·(iterate 4 refine aU hb7 ?_);refine rpt hb7 ?_;refine go ?_;(iterate 4 refine aU rfl ?_);refine rpt rfl ?_;refine go ?_;(iterate 3 refine aU rfl ?_);refine rpt rfl ?_;cases F;exact rcz [0, 1]
      (iterate 4 refine gn hb7 ?_);refine rpf hb7 ?_;refine go ?_;rcases ie F with ⟨hb8, F⟩ | ⟨hb8, F⟩
      ·(iterate 4 refine aU hb8 ?_);refine rpt hb8 ?_;refine go ?_;(iterate 3 refine aU rfl ?_);refine rpt rfl ?_;cases F;exact rcz [0, 1]
      (iterate 2 refine gn hb8 ?_);refine rgn hb8 (cR (n := y1.bM.length) rfl rfl (jT cb) dW rfl rfl) ?_;refine gn hb8 ?_;refine rpf hb8 ?_;refine go ?_;rcases ie F with ⟨hb9, F⟩ | ⟨hb9, F⟩
      ·(iterate 3 refine aU hb9 ?_);refine rpt hb9 ?_;cases F;exact rcz [0, 1]
      refine rgn hb9 (la (ai y1) dM) ?_;obtain ⟨y2, h2, F⟩ := bs F;refine rgn hb9 (cl 2 [.agg (ai y1)] [.p (.int .i64 y2)] (zQ h2)) ?_;refine gn hb9 ?_;refine rpf hb9 ?_;cases F;exact rcz [0, 1]
     have F := hK3;refine go ?_;refine cnd F (fun hb10 F => ?_) fun hb10 F => ?_
     ·refine go8 ?_;refine bn ?_;cases F;have F := bU hK2;refine go3 ?_;refine bn ?_;cases F;have F := bU hK0;refine go ?_;cases F;exact prt
     refine go5 ?_;obtain ⟨lr2, F, hK4⟩ := bs F;refine cj ((y1.bM.length - 0 : Int).toNat + 1) (fun s1 => ∃ q, lr2 = .next q ∧ s1 = (sX 106 [pf 0 (.vs 7 (List.map aa a0)), pf 3 (.int .i64 q), pf 4 (.int .i64 x1), (5, some (.lp 0 0)), pf 6 (.int .i64 x4)] [bf 0 32 (aa y0)] 1)) ?_ ?_
     ·refine bu (α := Int × Int) (fun q => (sX 106 [pf 0 (.vs 7 (List.map aa a0)), pf 3 (.int .i64 q.1), pf 4 (.int .i64 x1), (5, some (.lp 0 0)), pf 6 (.int .i64 x4), (7, some (.lp 1 0)), pf 8 (.int .i64 q.2)] [bf 0 32 (aa y0), bf 1 40 (ai y1)] 2)) (fun k q => lX y1 k q.1 q.2 = some lr2) (x3, 0) (bm [0, 1]) F (fun q h => by cases h) ?_;clear F;rintro k ⟨x6, x7⟩ F ih;refine bt ?_;refine go5 ?_;refine rgp (cR (n := y1.bM.length) rfl rfl (jT cb) dW rfl rfl) ?_;refine go2 ?_;refine cnd F (fun hb11 F => ?_) fun hb11 F => ?_
      ·refine go2 ?_;refine aF ?_;refine bl ?_;(iterate 2 refine aF ?_);obtain ⟨x8, F, hK5⟩ := bs F;refine ctx (sX 106 [pf 0 (.vs 7 (List.map aa a0)), pf 3 (.int .i64 x6), pf 4 (.int .i64 x1), (5, some (.lp 0 0)), pf 6 (.int .i64 x4), (7, some (.lp 1 0)), pf 8 (.int .i64 x7), pf 95 (.bool x8)] [bf 0 32 (aa y0), bf 1 40 (ai y1)] 2) ?_ ?_
       ·refine go4 ?_;rcases ie F with ⟨hb12, F⟩ | ⟨hb12, F⟩
        ·(iterate 6 refine aU hb12 ?_);refine rpt hb12 ?_;cases F;exact rcz [0, 1]
        (iterate 3 refine gn hb12 ?_);obtain ⟨y3, h3, F⟩ := bs F;refine rgn hb12 (ix (mG cb h3) dW) ?_;refine rgn hb12 (lw (aM y3) eu) ?_;obtain ⟨y4, h4, F⟩ := bs F;refine rgn hb12 (cl 2 [.agg (aM y3), .int .i64 25] [.p (.bool y4)] (FU h4)) ?_;refine rpf hb12 ?_;cases F;exact rcz [0, 1]
       have F := hK5;refine go ?_;refine cnd F (fun hb13 F => ?_) fun hb13 F => ?_
       ·refine go8 ?_;refine bn ?_;cases F;have F := bU hK4;refine go3 ?_;refine bn ?_;cases F;have F := bU hK2;refine go3 ?_;refine bn ?_;cases F;have F := bU hK0;refine go ?_;cases F;exact prt
       refine go7 ?_;obtain ⟨y5, h5, F⟩ := bs F;refine rgp (ix (mG cb h5) dW) ?_;refine rgp (lw (aM y5) eu) ?_;obtain ⟨y6, h6, F⟩ := bs F;refine rgp (cl 2 [.agg (aM y5)] [.p (.int .i64 y6)] (tJ h6)) ?_;refine go2 ?_;refine cN ?_;refine piz (sX 106 [pf 0 (.vs 7 (List.map aa a0)), pf 3 (.int .i64 (ak (x6 + y6))), pf 4 (.int .i64 x1), (5, some (.lp 0 0)), pf 6 (.int .i64 x4), (7, some (.lp 1 0)), pf 8 (.int .i64 x7)] [bf 0 32 (aa y0), bf 1 40 (ai y1)] 2) [0, 1] ?_;refine go6 ?_;refine rnr ?_;exact bv (ih (ak (x6 + y6), ak (x7 + 1)) F) (bm [0, 1])
      refine bR ?_;(iterate 2 refine ao ?_);cases F;exact av _ ⟨_, rfl, rfl⟩ (bm [0])
     rintro _ ⟨x9, rfl, rfl⟩;have F := cd hK4;clear hK4;refine go6 ?_;refine rnr ?_;exact bv (ih (x9, ak (x4 + 1)) F) (bm [0])
    refine bR ?_;(iterate 2 refine ao ?_);cases F;exact av _ ⟨_, rfl, rfl⟩ (bm [])
   rintro _ ⟨x10, rfl, rfl⟩;have F := cd hK2;clear hK2;refine go6 ?_;refine rnr ?_;exact bv (ih (x10, ak (x1 + 1)) F) (bm [])
  refine bR ?_;(iterate 2 refine ao ?_);cases F;exact av _ ⟨_, rfl, rfl⟩ (bm [])
 rintro _ ⟨x11, rfl, rfl⟩;have F := cd hK0;clear hK0;refine go7 ?_;cases F;exact prt
theorem nz {a0 : Int} {r : Bool} (F : jG a0 = some r) : FZ 126 [.int .u8 a0] [.p (.bool r)] := by
 unfold jG at F;refine au (n := 17) Tryz.func126 rfl rfl rfl fun w O => ?_;refine go7 ?_;rcases ie F with ⟨hb1, F⟩ | ⟨hb1, F⟩
 ·(iterate 2 refine gn hb1 ?_);refine rpt hb1 ?_;refine go ?_;rcases ie F with ⟨hb2, F⟩ | ⟨hb2, F⟩
  ·(iterate 3 refine aU hb2 ?_);refine go2 ?_;refine aU hb2 ?_;refine rpt hb2 ?_;refine go3 ?_;cases F;exact prt
  (iterate 3 refine gn hb2 ?_);rcases ie F with ⟨hb3, F⟩ | ⟨hb3, F⟩
  ·(iterate 2 refine gn hb3 ?_);refine rgn hb2 (bN rfl rfl hb3 rfl rfl rfl) ?_;refine rpf hb2 ?_;refine go3 ?_;cases F;exact prt
  (iterate 2 refine bC hb3 ?_);refine rgn hb2 (aV rfl rfl hb3 rfl rfl rfl) ?_;refine rpf hb2 ?_;refine go3 ?_;cases F;exact prt
 (iterate 2 refine bC hb1 ?_);refine rpf hb1 ?_;refine go ?_;(iterate 3 refine gn rfl ?_);rcases ie F with ⟨hb4, F⟩ | ⟨hb4, F⟩
 ·(iterate 2 refine gn hb4 ?_);refine rgn rfl (bN rfl rfl hb4 rfl rfl rfl) ?_;refine rpf rfl ?_;refine go3 ?_;cases F;exact prt
 (iterate 2 refine bC hb4 ?_);refine rgn rfl (aV rfl rfl hb4 rfl rfl rfl) ?_;refine rpf rfl ?_;refine go3 ?_;cases F;exact prt
theorem Et  {r : (List (List UInt8))} (F : qM = some r) : FZ 160 [] [.p (.vs 1 (List.map eS r))] := by
 unfold qM at F;refine au (n := 2) Tryz.func160 rfl rfl rfl fun w O => ?_;refine go4 ?_;refine rgp (gH (rows := List.map eS ([[99, 108, 97, 115, 115], [101, 120, 116, 101, 110, 100, 115], [114, 101, 112], [112, 101, 101, 114], [119, 111, 114, 108, 100], [97, 110, 121], [117, 110, 105, 113, 117, 101], [112, 117, 114, 101], [118, 111, 105, 100], [105, 110, 116], [105, 102], [101, 108, 115, 101], [119, 104, 105, 108, 101], [114, 101, 116, 117, 114, 110], [110, 101, 119], [109, 111, 118, 101], [100, 101, 108, 101, 116, 101], [116, 104, 105, 115], [110, 117, 108, 108], [105, 110, 112, 117, 116], [110, 105, 108], [115, 97, 109, 101], [99, 97, 115, 116]] : List (List UInt8))) (zs := [.str []]) rfl rfl lN xM (by exact ⟨rfl, trivial⟩) rfl rfl rfl rfl rfl rfl rfl rfl) ?_;refine go3 ?_;cases F;exact prt
theorem yd {a0 : List UInt8} {r : Int} (F : pT a0 = some r) : FZ 128 [.str a0] [.p (.int .i64 r)] := by
 unfold pT at F;refine au (n := 20) Tryz.func128 rfl rfl rfl fun w O => ?_;refine go4 ?_;obtain ⟨y3, h4, F⟩ := bs F;refine rgp (cl 0 [] [.p (.vs 1 (List.map eS y3))] (Et h4)) ?_;refine go6 ?_;obtain ⟨lr0, F, hK0⟩ := bs F;refine cj ((y3.length - 0 : Int).toNat + 1) (fun s1 => ∃ q, lr0 = .next q ∧ s1 = (sX 20 [] [] 0)) ?_ ?_
 ·refine bu (α := Int) (fun q => (sX 20 [pf 0 (.str a0), pf 3 (.vs 1 (List.map eS y3)), pf 4 (.int .i64 q)] [] 0)) (fun k q => lz a0 y3 k q = some lr0) 0 (bm []) F (fun q h => by cases h) ?_;clear F;rintro k x0 F ih;refine bt ?_;refine go7 ?_;refine cnd F (fun hb0 F => ?_) fun hb0 F => ?_
  ·refine go2 ?_;refine aF ?_;refine bl ?_;refine go3 ?_;obtain ⟨y0, h0, F⟩ := bs F;refine rgp (ix (bh eS h0) lN) ?_;refine go2 ?_;refine rgp (eU rfl rfl rfl rfl rfl rfl) ?_;refine go ?_;refine cnd F (fun hb1 F => ?_) fun hb1 F => ?_
   ·refine go9 ?_;refine bn ?_;cases F;have F := bU hK0;refine go ?_;cases F;exact prt
   refine go7 ?_;refine rnr ?_;exact bv (ih (ak (x0 + 1)) F) (bm [])
  refine bR ?_;(iterate 2 refine ao ?_);cases F;exact av _ ⟨_, rfl, rfl⟩ (bm [])
 rintro _ ⟨⟨⟩, rfl, rfl⟩;have F := cd hK0;clear hK0;refine go5 ?_;cases F;exact prt
theorem ma {a0 : Int} {r : Bool} (F : jJ a0 = some r) : FZ 127 [.int .u8 a0] [.p (.bool r)] := by
 unfold jJ at F;refine au (n := 9) Tryz.func127 rfl rfl rfl fun w O => ?_;refine go7 ?_;rcases ie F with ⟨hb1, F⟩ | ⟨hb1, F⟩
 ·(iterate 2 refine gn hb1 ?_);refine rpt hb1 ?_;refine go3 ?_;cases F;exact prt
 (iterate 2 refine bC hb1 ?_);refine rpf hb1 ?_;refine go3 ?_;cases F;exact prt
theorem ff {a0 : List UInt8} {r : Bool} (F : dL a0 = some r) : FZ 171 [.str a0] [.p (.bool r)] := by
 unfold dL at F;refine au (n := 41) Tryz.func171 rfl rfl rfl fun w O => ?_;refine go3 ?_;(iterate 2 refine aF ?_);obtain ⟨x0, F, hK0⟩ := bs F;refine ctx (sX 41 [pf 0 (.str a0), pf 22 (.bool x0)] [] 0) ?_ ?_
 ·refine go2 ?_;refine rgp (gi rfl rfl gG rfl rfl) ?_;refine go2 ?_;rcases ie F with ⟨hb1, F⟩ | ⟨hb1, F⟩
  ·(iterate 3 refine aU hb1 ?_);refine rpt hb1 ?_;refine go ?_;(iterate 4 refine aU rfl ?_);refine rpt rfl ?_;refine go ?_;(iterate 3 refine aU rfl ?_);refine rpt rfl ?_;cases F;exact rcz []
  refine gn hb1 ?_;refine rgn hb1 (gi rfl rfl gG rfl rfl) ?_;refine gn hb1 ?_;refine rpf hb1 ?_;refine go ?_;rcases ie F with ⟨hb2, F⟩ | ⟨hb2, F⟩
  ·(iterate 4 refine aU hb2 ?_);refine rpt hb2 ?_;refine go ?_;(iterate 3 refine aU rfl ?_);refine rpt rfl ?_;cases F;exact rcz []
  refine gn hb2 ?_;obtain ⟨y3, h4, F⟩ := bs F;refine rgn hb2 (fq (k := .i64) rfl rfl rfl h4 gG rfl rfl) ?_;obtain ⟨y5, h6, F⟩ := bs F;refine rgn hb2 (cl 0 [.int .u8 (y3.toNat : Int)] [.p (.bool y5)] (nz h6)) ?_;refine gn hb2 ?_;refine rpf hb2 ?_;refine go ?_;rcases ie F with ⟨hb7, F⟩ | ⟨hb7, F⟩
  ·(iterate 3 refine aU hb7 ?_);refine rpt hb7 ?_;cases F;exact rcz []
  refine gn hb7 ?_;obtain ⟨y8, h9, F⟩ := bs F;refine rgn hb7 (cl 0 [.str a0] [.p (.int .i64 y8)] (yd h9)) ?_;refine gn hb7 ?_;refine rpf hb7 ?_;cases F;exact rcz []
 have F := hK0;refine go ?_;refine cnd F (fun hb0 F => ?_) fun hb0 F => ?_
 ·refine go5 ?_;cases F;exact prt
 refine go6 ?_;obtain ⟨lr0, F, hK1⟩ := bs F;refine cj ((a0.length - 0 : Int).toNat + 1) (fun s1 => ∃ q, lr0 = .next q ∧ s1 = (sX 41 [] [] 0)) ?_ ?_
 ·refine bu (α := Int) (fun q => (sX 41 [pf 0 (.str a0), pf 3 (.int .i64 q)] [] 0)) (fun k q => lB a0 k q = some lr0) 0 (bm []) F (fun q h => by cases h) ?_;clear F;rintro k x1 F ih;refine bt ?_;refine go4 ?_;refine rgp (gi rfl rfl gG rfl rfl) ?_;refine go2 ?_;refine cnd F (fun hb3 F => ?_) fun hb3 F => ?_
  ·refine go2 ?_;refine aF ?_;refine bl ?_;refine aF ?_;obtain ⟨x2, F, hK2⟩ := bs F;refine ctx (sX 41 [pf 0 (.str a0), pf 3 (.int .i64 x1), pf 40 (.bool x2)] [] 0) ?_ ?_
   ·refine go3 ?_;obtain ⟨y0, h0, F⟩ := bs F;refine rgp (fq (k := .i64) rfl rfl rfl h0 gG rfl rfl) ?_;obtain ⟨y1, h1, F⟩ := bs F;refine rgp (cl 0 [.int .u8 (y0.toNat : Int)] [.p (.bool y1)] (nz h1)) ?_;refine go2 ?_;rcases ie F with ⟨hb4, F⟩ | ⟨hb4, F⟩
    ·(iterate 2 refine gn hb4 ?_);obtain ⟨y2, h2, F⟩ := bs F;refine rgn hb4 (fq (k := .i64) rfl rfl rfl h2 gG rfl rfl) ?_;obtain ⟨y4, h3, F⟩ := bs F;refine rgn hb4 (cl 0 [.int .u8 (y2.toNat : Int)] [.p (.bool y4)] (ma h3)) ?_;refine gn hb4 ?_;refine rpt hb4 ?_;cases F;exact rcz []
    (iterate 5 refine bC hb4 ?_);refine rpf hb4 ?_;cases F;exact rcz []
   have F := hK2;refine go ?_;refine cnd F (fun hb5 F => ?_) fun hb5 F => ?_
   ·refine go7 ?_;refine bn ?_;cases F;have F := bU hK1;refine go ?_;cases F;exact prt
   refine go7 ?_;refine rnr ?_;exact bv (ih (ak (x1 + 1)) F) (bm [])
  refine bR ?_;(iterate 2 refine ao ?_);cases F;exact av _ ⟨_, rfl, rfl⟩ (bm [])
 rintro _ ⟨⟨⟩, rfl, rfl⟩;have F := cd hK1;clear hK1;refine go5 ?_;cases F;exact prt
theorem sj {a0 : bH} {a1 : Int} {r : Bool} (F : mC a0 a1 = some r) : FZ 172 [.agg (bw a0), .int .i64 a1] [.p (.bool r)] := by
 unfold mC at F;refine au (n := 51) Tryz.func172 rfl rfl rfl fun w O => ?_;refine go ?_;refine rgp (bo 0) ?_;refine go8 ?_;refine cnd F (fun hb1 F => ?_) fun hb1 F => ?_
 ·refine go5 ?_;rcases ie F with ⟨hb2, F⟩ | ⟨hb2, F⟩
  ·(iterate 4 refine gn hb2 ?_);refine rpt hb2 ?_;refine go4 ?_;cases F;exact prt
  (iterate 4 refine bC hb2 ?_);refine rpf hb2 ?_;refine go4 ?_;cases F;exact prt
 refine go8 ?_;refine cnd F (fun hb3 F => ?_) fun hb3 F => ?_
 ·refine go8 ?_;cases F;exact prt
 refine go7 ?_;rcases ie F with ⟨hb4, F⟩ | ⟨hb4, F⟩
 ·(iterate 4 refine gn hb4 ?_);rcases ie F with ⟨hb5, F⟩ | ⟨hb5, F⟩
  ·(iterate 3 refine aU hb5 ?_);refine rgn hb4 (bN rfl rfl hb5 rfl rfl rfl) ?_;refine gn hb4 ?_;(iterate 3 refine aU rfl ?_);refine rgn hb4 (bN rfl rfl rfl rfl rfl rfl) ?_;refine gn hb4 ?_;(iterate 3 refine aU rfl ?_);refine rgn hb4 (bN rfl rfl rfl rfl rfl rfl) ?_;refine gn hb4 ?_;(iterate 3 refine aU rfl ?_);refine rgn hb4 (bN rfl rfl rfl rfl rfl rfl) ?_;refine rpt hb4 ?_;refine go3 ?_;cases F;exact prt
  (iterate 3 refine gn hb5 ?_);refine rgn hb4 (aV rfl rfl hb5 rfl rfl rfl) ?_;refine gn hb4 ?_;rcases ie F with ⟨hb6, F⟩ | ⟨hb6, F⟩
  ·(iterate 3 refine aU hb6 ?_);refine rgn hb4 (bN rfl rfl hb6 rfl rfl rfl) ?_;refine gn hb4 ?_;(iterate 3 refine aU rfl ?_);refine rgn hb4 (bN rfl rfl rfl rfl rfl rfl) ?_;refine gn hb4 ?_;(iterate 3 refine aU rfl ?_);refine rgn hb4 (bN rfl rfl rfl rfl rfl rfl) ?_;refine rpt hb4 ?_;refine go3 ?_;cases F;exact prt
  (iterate 3 refine gn hb6 ?_);refine rgn hb4 (aV rfl rfl hb6 rfl rfl rfl) ?_;refine gn hb4 ?_;rcases ie F with ⟨hb7, F⟩ | ⟨hb7, F⟩
  ·(iterate 3 refine aU hb7 ?_);refine rgn hb4 (bN rfl rfl hb7 rfl rfl rfl) ?_;refine gn hb4 ?_;(iterate 3 refine aU rfl ?_);refine rgn hb4 (bN rfl rfl rfl rfl rfl rfl) ?_;refine rpt hb4 ?_;refine go3 ?_;cases F;exact prt
  (iterate 3 refine gn hb7 ?_);refine rgn hb4 (aV rfl rfl hb7 rfl rfl rfl) ?_;refine gn hb4 ?_;rcases ie F with ⟨hb8, F⟩ | ⟨hb8, F⟩
  ·(iterate 3 refine aU hb8 ?_);refine rgn hb4 (bN rfl rfl hb8 rfl rfl rfl) ?_;refine rpt hb4 ?_;refine go3 ?_;cases F;exact prt
  (iterate 3 refine gn hb8 ?_);refine rgn hb4 (aV rfl rfl hb8 rfl rfl rfl) ?_;refine rpt hb4 ?_;refine go3 ?_;cases F;exact prt
 (iterate 4 refine bC hb4 ?_);refine go3 ?_;(iterate 2 refine bC hb4 ?_);refine go3 ?_;(iterate 2 refine bC hb4 ?_);refine go3 ?_;(iterate 2 refine bC hb4 ?_);refine go3 ?_;refine bC hb4 ?_;refine rpf hb4 ?_;refine go3 ?_;cases F;exact prt
theorem Dz {a0 : aQ} {r : aQ} (F : qX a0 = some r) : FZ 176 [.agg (aM a0)] [.p (.agg (aM r))] := by
 unfold qX at F;refine au (n := 105) Tryz.func176 rfl rfl rfl fun w O => ?_;refine go ?_;refine rgp (bo 0) ?_;refine rgp (al 1 (aM gh) yw) ?_;refine go6 ?_;refine aF ?_;obtain ⟨x0, F, hK0⟩ := bs F;refine ctx (sX 105 [(1, some (.lp 0 0)), (2, some (.lp 1 0)), pf 3 (.int .i64 a0.ab)] [bf 0 48 (aM x0), bf 1 48 (aM gh)] 2) ?_ ?_
 ·refine aF ?_;obtain ⟨x6, F, hK8⟩ := bs F;refine ctx (sX 105 [(1, some (.lp 0 0)), (2, some (.lp 1 0)), pf 3 (.int .i64 a0.ab), pf 27 (.bool x6)] [bf 0 48 (aM a0), bf 1 48 (aM gh)] 2) ?_ ?_
  ·refine go4 ?_;rcases ie F with ⟨hb1, F⟩ | ⟨hb1, F⟩
   ·(iterate 2 refine aU hb1 ?_);refine rpt hb1 ?_;refine go ?_;(iterate 2 refine aU rfl ?_);refine rpt rfl ?_;refine go ?_;(iterate 2 refine aU rfl ?_);refine rpt rfl ?_;refine go ?_;(iterate 2 refine aU rfl ?_);refine rpt rfl ?_;refine go ?_;(iterate 2 refine aU rfl ?_);refine rpt rfl ?_;cases F;exact rcz [0, 1]
   (iterate 2 refine gn hb1 ?_);refine rpf hb1 ?_;refine go ?_;rcases ie F with ⟨hb2, F⟩ | ⟨hb2, F⟩
   ·(iterate 2 refine aU hb2 ?_);refine rpt hb2 ?_;refine go ?_;(iterate 2 refine aU rfl ?_);refine rpt rfl ?_;refine go ?_;(iterate 2 refine aU rfl ?_);refine rpt rfl ?_;refine go ?_;(iterate 2 refine aU rfl ?_);refine rpt rfl ?_;cases F;exact rcz [0, 1]
   (iterate 2 refine gn hb2 ?_);refine rpf hb2 ?_;refine go ?_;rcases ie F with ⟨hb3, F⟩ | ⟨hb3, F⟩
   ·(iterate 2 refine aU hb3 ?_);refine rpt hb3 ?_;refine go ?_;(iterate 2 refine aU rfl ?_);refine rpt rfl ?_;refine go ?_;(iterate 2 refine aU rfl ?_);refine rpt rfl ?_;cases F;exact rcz [0, 1]
   (iterate 2 refine gn hb3 ?_);refine rpf hb3 ?_;refine go ?_;rcases ie F with ⟨hb4, F⟩ | ⟨hb4, F⟩
   ·(iterate 2 refine aU hb4 ?_);refine rpt hb4 ?_;refine go ?_;(iterate 2 refine aU rfl ?_);refine rpt rfl ?_;cases F;exact rcz [0, 1]
   (iterate 2 refine gn hb4 ?_);refine rpf hb4 ?_;refine go ?_;rcases ie F with ⟨hb5, F⟩ | ⟨hb5, F⟩
   ·(iterate 2 refine aU hb5 ?_);refine rpt hb5 ?_;cases F;exact rcz [0, 1]
   (iterate 2 refine gn hb5 ?_);refine rpf hb5 ?_;cases F;exact rcz [0, 1]
  have F := hK8;refine go ?_;refine cnd F (fun hb9 F => ?_) fun hb9 F => ?_
  ·refine go3 ?_;cases F;exact rcz [0, 1]
  refine go ?_;cases F;exact pcz [0, 1]
 have F := hK0;refine go ?_;refine aF ?_;obtain ⟨x1, F, hK1⟩ := bs F;refine ctx (sX 105 [(1, some (.lp 0 0)), (2, some (.lp 1 0)), pf 3 (.int .i64 a0.ab)] [bf 0 48 (aM x1), bf 1 48 (aM gh)] 2) ?_ ?_
 ·refine aF ?_;obtain ⟨x2, F, hK2⟩ := bs F;refine ctx (sX 105 [(1, some (.lp 0 0)), (2, some (.lp 1 0)), pf 3 (.int .i64 a0.ab), pf 46 (.bool x2)] [bf 0 48 (aM x0), bf 1 48 (aM gh)] 2) ?_ ?_
  ·refine go4 ?_;rcases ie F with ⟨hb0, F⟩ | ⟨hb0, F⟩
   ·(iterate 2 refine aU hb0 ?_);refine rpt hb0 ?_;refine go ?_;(iterate 2 refine aU rfl ?_);refine rpt rfl ?_;refine go ?_;(iterate 2 refine aU rfl ?_);refine rpt rfl ?_;refine go ?_;(iterate 2 refine aU rfl ?_);refine rpt rfl ?_;cases F;exact rcz [0, 1]
   (iterate 2 refine gn hb0 ?_);refine rpf hb0 ?_;refine go ?_;rcases ie F with ⟨hb6, F⟩ | ⟨hb6, F⟩
   ·(iterate 2 refine aU hb6 ?_);refine rpt hb6 ?_;refine go ?_;(iterate 2 refine aU rfl ?_);refine rpt rfl ?_;refine go ?_;(iterate 2 refine aU rfl ?_);refine rpt rfl ?_;cases F;exact rcz [0, 1]
   (iterate 2 refine gn hb6 ?_);refine rpf hb6 ?_;refine go ?_;rcases ie F with ⟨hb7, F⟩ | ⟨hb7, F⟩
   ·(iterate 2 refine aU hb7 ?_);refine rpt hb7 ?_;refine go ?_;(iterate 2 refine aU rfl ?_);refine rpt rfl ?_;cases F;exact rcz [0, 1]
   (iterate 2 refine gn hb7 ?_);refine rpf hb7 ?_;refine go ?_;rcases ie F with ⟨hb8, F⟩ | ⟨hb8, F⟩
   ·(iterate 2 refine aU hb8 ?_);refine rpt hb8 ?_;cases F;exact rcz [0, 1]
   (iterate 2 refine gn hb8 ?_);refine rpf hb8 ?_;cases F;exact rcz [0, 1]
  have F := hK2;refine go ?_;refine cnd F (fun hb10 F => ?_) fun hb10 F => ?_
  ·refine go3 ?_;cases F;exact rcz [0, 1]
  refine go ?_;cases F;exact pcz [0, 1]
 have F := hK1;refine go ?_;refine aF ?_;obtain ⟨x3, F, hK3⟩ := bs F;refine ctx (sX 105 [(1, some (.lp 0 0)), (2, some (.lp 1 0)), pf 3 (.int .i64 a0.ab)] [bf 0 48 (aM x3), bf 1 48 (aM gh)] 2) ?_ ?_
 ·refine aF ?_;obtain ⟨x4, F, hK4⟩ := bs F;refine ctx (sX 105 [(1, some (.lp 0 0)), (2, some (.lp 1 0)), pf 3 (.int .i64 a0.ab), pf 57 (.bool x4)] [bf 0 48 (aM x1), bf 1 48 (aM gh)] 2) ?_ ?_
  ·refine go4 ?_;rcases ie F with ⟨hb11, F⟩ | ⟨hb11, F⟩
   ·(iterate 2 refine aU hb11 ?_);refine rpt hb11 ?_;refine go ?_;(iterate 2 refine aU rfl ?_);refine rpt rfl ?_;cases F;exact rcz [0, 1]
   (iterate 2 refine gn hb11 ?_);refine rpf hb11 ?_;refine go ?_;rcases ie F with ⟨hb12, F⟩ | ⟨hb12, F⟩
   ·(iterate 2 refine aU hb12 ?_);refine rpt hb12 ?_;cases F;exact rcz [0, 1]
   (iterate 2 refine gn hb12 ?_);refine rpf hb12 ?_;cases F;exact rcz [0, 1]
  have F := hK4;refine go ?_;refine cnd F (fun hb17 F => ?_) fun hb17 F => ?_
  ·refine go3 ?_;cases F;exact rcz [0, 1]
  refine go ?_;cases F;exact pcz [0, 1]
 have F := hK3;refine go ?_;refine aF ?_;obtain ⟨x5, F, hK5⟩ := bs F;refine ctx (sX 105 [(1, some (.lp 0 0)), (2, some (.lp 1 0)), pf 3 (.int .i64 a0.ab)] [bf 0 48 (aM x5), bf 1 48 (aM gh)] 2) ?_ ?_
 ·refine aF ?_;obtain ⟨x7, F, hK6⟩ := bs F;refine ctx (sX 105 [(1, some (.lp 0 0)), (2, some (.lp 1 0)), pf 3 (.int .i64 a0.ab), pf 64 (.bool x7)] [bf 0 48 (aM x3), bf 1 48 (aM gh)] 2) ?_ ?_
  ·refine go4 ?_;rcases ie F with ⟨hb18, F⟩ | ⟨hb18, F⟩
   ·(iterate 2 refine aU hb18 ?_);refine rpt hb18 ?_;cases F;exact rcz [0, 1]
   (iterate 2 refine gn hb18 ?_);refine rpf hb18 ?_;cases F;exact rcz [0, 1]
  have F := hK6;refine go ?_;refine cnd F (fun hb19 F => ?_) fun hb19 F => ?_
  ·refine go ?_;refine rgp (bd ((aj cT)) (aj cT) en mw) ?_;refine go2 ?_;cases F;exact rcz [0, 1]
  refine go ?_;cases F;exact pcz [0, 1]
 have F := hK5;refine go ?_;refine aF ?_;obtain ⟨x8, F, hK7⟩ := bs F;refine ctx (sX 105 [(1, some (.lp 0 0)), (2, some (.lp 1 0)), pf 3 (.int .i64 a0.ab)] [bf 0 48 (aM x8), bf 1 48 (aM gh)] 2) ?_ ?_
 ·refine aF ?_;obtain ⟨x9, F, hK9⟩ := bs F;refine ctx (sX 105 [(1, some (.lp 0 0)), (2, some (.lp 1 0)), pf 3 (.int .i64 a0.ab), pf 88 (.bool x9)] [bf 0 48 (aM x5), bf 1 48 (aM gh)] 2) ?_ ?_
  ·refine go4 ?_;rcases ie F with ⟨hb21, F⟩ | ⟨hb21, F⟩
   ·(iterate 2 refine aU hb21 ?_);refine rpt hb21 ?_;refine go ?_;(iterate 2 refine aU rfl ?_);refine rpt rfl ?_;refine go ?_;(iterate 2 refine aU rfl ?_);refine rpt rfl ?_;refine go ?_;(iterate 2 refine aU rfl ?_);refine rpt rfl ?_;refine go ?_;(iterate 2 refine aU rfl ?_);refine rpt rfl ?_;cases F;exact rcz [0, 1]
   (iterate 2 refine gn hb21 ?_);refine rpf hb21 ?_;refine go ?_;rcases ie F with ⟨hb22, F⟩ | ⟨hb22, F⟩
   ·(iterate 2 refine aU hb22 ?_);refine rpt hb22 ?_;refine go ?_;(iterate 2 refine aU rfl ?_);refine rpt rfl ?_;refine go ?_;(iterate 2 refine aU rfl ?_);refine rpt rfl ?_;refine go ?_;(iterate 2 refine aU rfl ?_);refine rpt rfl ?_;cases F;exact rcz [0, 1]
   (iterate 2 refine gn hb22 ?_);refine rpf hb22 ?_;refine go ?_;rcases ie F with ⟨hb23, F⟩ | ⟨hb23, F⟩
   ·(iterate 2 refine aU hb23 ?_);refine rpt hb23 ?_;refine go ?_;(iterate 2 refine aU rfl ?_);refine rpt rfl ?_;refine go ?_;(iterate 2 refine aU rfl ?_);refine rpt rfl ?_;cases F;exact rcz [0, 1]
   (iterate 2 refine gn hb23 ?_);refine rpf hb23 ?_;refine go ?_;rcases ie F with ⟨hb26, F⟩ | ⟨hb26, F⟩
   ·(iterate 2 refine aU hb26 ?_);refine rpt hb26 ?_;refine go ?_;(iterate 2 refine aU rfl ?_);refine rpt rfl ?_;cases F;exact rcz [0, 1]
   (iterate 2 refine gn hb26 ?_);refine rpf hb26 ?_;refine go ?_;rcases ie F with ⟨hb27, F⟩ | ⟨hb27, F⟩
   ·(iterate 2 refine aU hb27 ?_);refine rpt hb27 ?_;cases F;exact rcz [0, 1]
   (iterate 2 refine gn hb27 ?_);refine rpf hb27 ?_;cases F;exact rcz [0, 1]
  have F := hK9;refine go ?_;refine cnd F (fun hb28 F => ?_) fun hb28 F => ?_
  ·refine go ?_;refine rgp (bd ((bL si)) (bL si) JR Jm) ?_;refine go2 ?_;cases F;exact rcz [0, 1]
  refine go ?_;cases F;exact pcz [0, 1]
 have F := hK7;refine go ?_;refine aF ?_;obtain ⟨x11, F, hK10⟩ := bs F;refine ctx (sX 105 [(1, some (.lp 0 0)), (2, some (.lp 1 0)), pf 3 (.int .i64 a0.ab)] [bf 0 48 (aM x11), bf 1 48 (aM gh)] 2) ?_ ?_
 ·refine go4 ?_;refine cnd F (fun hb30 F => ?_) fun hb30 F => ?_
  ·refine go3 ?_;refine eT (ve 0 19 48 4 rfl rfl) ?_;cases F;exact rcz [0, 1]
  refine go ?_;cases F;exact pcz [0, 1]
 have F := hK10;refine go ?_;refine aF ?_;obtain ⟨x12, F, hK11⟩ := bs F;refine ctx (sX 105 [(1, some (.lp 0 0)), (2, some (.lp 1 0)), pf 3 (.int .i64 a0.ab)] [bf 0 48 (aM x12), bf 1 48 (aM gh)] 2) ?_ ?_
 ·refine aF ?_;obtain ⟨x13, F, hK13⟩ := bs F;refine ctx (sX 105 [(1, some (.lp 0 0)), (2, some (.lp 1 0)), pf 3 (.int .i64 a0.ab), pf 99 (.bool x13)] [bf 0 48 (aM x11), bf 1 48 (aM gh)] 2) ?_ ?_
  ·refine go4 ?_;rcases ie F with ⟨hb31, F⟩ | ⟨hb31, F⟩
   ·(iterate 2 refine aU hb31 ?_);refine rpt hb31 ?_;cases F;exact rcz [0, 1]
   (iterate 2 refine gn hb31 ?_);refine rpf hb31 ?_;cases F;exact rcz [0, 1]
  have F := hK13;refine go ?_;refine cnd F (fun hb32 F => ?_) fun hb32 F => ?_
  ·refine go3 ?_;refine eT (ve 0 20 48 23 rfl rfl) ?_;cases F;exact rcz [0, 1]
  refine go ?_;cases F;exact pcz [0, 1]
 have F := hK11;refine go6 ?_;refine cnd F (fun hb34 F => ?_) fun hb34 F => ?_
 ·refine go3 ?_;refine eT (ve 0 21 48 23 rfl rfl) ?_;refine go2 ?_;refine rgp (la (aM ({ x12 with dp := [] } : aQ)) eu) ?_;refine go3 ?_;cases F;exact bc rfl rfl (.cons _ _ _ _ _ (.agg _ _ _ _ _ 23 _ _ rfl rfl eu rfl rfl rfl) (.p _) .nil) (.inl rfl)
 refine go3 ?_;refine rgp (la (aM x12) eu) ?_;refine go3 ?_;cases F;exact bc rfl rfl (.cons _ _ _ _ _ (.agg _ _ _ _ _ 23 _ _ rfl rfl eu rfl rfl rfl) (.p _) .nil) (.inl rfl)
theorem AE : ∀ n : Nat, (∀ (a0 : cD) (a1 : cD) (r : Bool), ig n a0 a1 = some r → FZ 177 [.agg (bL a0), .agg (bL a1)] [.p (.bool r)]) := by
 intro n
 induction n with
 | zero => exact (fun _ _ _ h => by simp [ig] at h)
 | succ n ih =>
  have ref06_Same_ih := ih;clear ih;intro a0 a1 r F;unfold ig at F
  revert F ref06_Same_ih
  generalize ig n = ref06_Same_rec
  intro ref06_Same_ih F;refine au (n := 53) Tryz.func177 rfl rfl rfl fun w O => ?_;refine go ?_;refine rgp (bo 0) ?_;refine rgp (bo 1) ?_;refine go2 ?_;(iterate 2 refine aF ?_);obtain ⟨x4, F, hK6⟩ := bs F;refine ctx (sX 53 [(2, some (.lp 0 0)), (3, some (.lp 1 0)), pf 33 (.bool x4)] [bf 0 46 (bL a0), bf 1 46 (bL a1)] 2) ?_ ?_
  ·refine go7 ?_;rcases ie F with ⟨hb1, F⟩ | ⟨hb1, F⟩
   ·(iterate 5 refine aU hb1 ?_);refine rpt hb1 ?_;refine go ?_;(iterate 5 refine aU rfl ?_);refine rpt rfl ?_;refine go ?_;(iterate 7 refine aU rfl ?_);refine rpt rfl ?_;cases F;exact rcz [0, 1]
   (iterate 5 refine gn hb1 ?_);refine rpf hb1 ?_;refine go ?_;rcases ie F with ⟨hb2, F⟩ | ⟨hb2, F⟩
   ·(iterate 5 refine aU hb2 ?_);refine rpt hb2 ?_;refine go ?_;(iterate 7 refine aU rfl ?_);refine rpt rfl ?_;cases F;exact rcz [0, 1]
   (iterate 4 refine gn hb2 ?_);refine rgn hb2 (eU rfl rfl rfl rfl rfl rfl) ?_;refine rpf hb2 ?_;refine go ?_;rcases ie F with ⟨hb3, F⟩ | ⟨hb3, F⟩
   ·(iterate 7 refine aU hb3 ?_);refine rpt hb3 ?_;cases F;exact rcz [0, 1]
   (iterate 2 refine gn hb3 ?_);refine rgn hb3 (cR (n := a0.cY.length) rfl rfl (jT cO) gk rfl rfl) ?_;(iterate 2 refine gn hb3 ?_);refine rgn hb3 (cR (n := a1.cY.length) rfl rfl (jT cO) gk rfl rfl) ?_;refine gn hb3 ?_;refine rpf hb3 ?_;cases F;exact rcz [0, 1]
  have F := hK6;refine go ?_;refine cnd F (fun hb7 F => ?_) fun hb7 F => ?_
  ·refine go5 ?_;cases F;exact prt
  refine go6 ?_;obtain ⟨lr0, F, hK0⟩ := bs F;refine cj ((a0.cY.length - 0 : Int).toNat + 1) (fun s1 => ∃ q, lr0 = .next q ∧ s1 = (sX 53 [] [] 0)) ?_ ?_
  ·refine bu (α := Int) (fun q => (sX 53 [(2, some (.lp 0 0)), (3, some (.lp 1 0)), pf 5 (.int .i64 q)] [bf 0 46 (bL a0), bf 1 46 (bL a1)] 2)) (fun k q => lC a0 a1 ref06_Same_rec k q = some lr0) 0 (bm [0, 1]) F (fun q h => by cases h) ?_;clear F;rintro k x0 F ih;refine bt ?_;refine go5 ?_;refine rgp (cR (n := a0.cY.length) rfl rfl (jT cO) gk rfl rfl) ?_;refine go2 ?_;refine cnd F (fun hb0 F => ?_) fun hb0 F => ?_
   ·refine go2 ?_;refine aF ?_;refine bl ?_;refine aF ?_;refine dv ⟨_, _, _⟩ rfl ?_;(iterate 3 refine dgo ?_);obtain ⟨y0, h0, F⟩ := bs F;refine dk 44 [(42, .pv (.vs 4 (gD a0.cY))), (43, .pv (.int .i64 x0))] (.pv (.vp (bL y0))) (fun m h => ⟨_, cG (k := .i64) rfl h.1.1 h.1.2.1 (mG cO h0) gk rfl rfl, rfl⟩) ?_;refine dk 45 [(44, .pv (.vp (bL y0)))] (.pv (.agg (bL y0))) (fun m h => ⟨_, dw (ps := bL y0) rfl h.1.1 rfl rfl iA rfl rfl, rfl⟩) ?_;(iterate 3 refine dgo ?_);obtain ⟨y1, h1, F⟩ := bs F;refine dk 49 [(47, .pv (.vs 4 (gD a1.cY))), (48, .pv (.int .i64 x0))] (.pv (.vp (bL y1))) (fun m h => ⟨_, cG (k := .i64) rfl h.1.1 h.1.2.1 (mG cO h1) gk rfl rfl, rfl⟩) ?_;refine dk 50 [(49, .pv (.vp (bL y1)))] (.pv (.agg (bL y1))) (fun m h => ⟨_, dw (ps := bL y1) rfl h.1.1 rfl rfl iA rfl rfl, rfl⟩) ?_;obtain ⟨y2, h2, F⟩ := bs F;refine dk 51 [(50, .pv (.agg (bL y1))), (45, .pv (.agg (bL y0)))] (.pv (.bool y2)) (fun m h => ⟨_, eD 2 rfl (caps := []) (args := [.agg (bL y0), .agg (bL y1)]) (rs := [.p (.bool y2)]) rfl rfl (cA h.1.2.1 (cA h.1.1 fe)) Rr (ref06_Same_ih _ _ _ h2) rfl rfl rfl, rfl⟩) ?_;refine dk 52 [(51, .pv (.bool y2))] (.pv (.bool (!y2))) (fun m h => ⟨_, tq rfl h.1.1 rfl rfl, rfl⟩) ?_;refine dq mixed rfl (by kernel_rfl) ?_;refine piz (sX 53 [(2, some (.lp 0 0)), (3, some (.lp 1 0)), pf 5 (.int .i64 x0), pf 52 (.bool (!y2))] [bf 0 46 (bL a0), bf 1 46 (bL a1)] 2) [0, 1] ?_;refine go ?_;refine cnd F (fun hb4 F => ?_) fun hb4 F => ?_
    ·refine go7 ?_;refine bn ?_;cases F;have F := bU hK0;refine go ?_;cases F;exact prt
    refine go7 ?_;refine rnr ?_;exact bv (ih (ak (x0 + 1)) F) (bm [0, 1])
   refine bR ?_;(iterate 2 refine ao ?_);cases F;exact av _ ⟨_, rfl, rfl⟩ (bm [])
  rintro _ ⟨⟨⟩, rfl, rfl⟩;have F := cd hK0;clear hK0;refine go5 ?_;cases F;exact prt
theorem xU {n : Nat} {a0 : cD} {a1 : cD} {r : Bool} (F : ig n a0 a1 = some r) : FZ 177 [.agg (bL a0), .agg (bL a1)] [.p (.bool r)] := (AE n) _ _ _ F

theorem Gu {a0 : aQ} {r : Bool} (F : rI a0 = some r) : FZ 152 [.agg (aM a0)] [.p (.bool r)] := by
 unfold rI at F;refine au (n := 55) Tryz.func152 rfl rfl rfl fun w O => ?_;refine go ?_;refine rgp (bo 0) ?_;refine go3 ?_;refine rgp (la (aM a0) eu) ?_;obtain ⟨y3, h4, F⟩ := bs F;refine rgp (cl 1 [.agg (aM a0)] [.p (.agg (aM y3))] (Dz h4)) ?_;refine rgp (al 1 (aM gh) yw) ?_;refine go7 ?_;rcases ie F with ⟨hb5, F⟩ | ⟨hb5, F⟩
 ·(iterate 3 refine gn hb5 ?_);refine rpt hb5 ?_;refine go ?_;rcases ie F with ⟨hb6, F⟩ | ⟨hb6, F⟩
  ·(iterate 2 refine gn hb6 ?_);refine rgn hb6 (eU rfl rfl rfl rfl rfl rfl) ?_;refine rpt hb6 ?_;refine go ?_;rcases ie F with ⟨hb7, F⟩ | ⟨hb7, F⟩
   ·(iterate 2 refine gn hb7 ?_);refine rgn hb7 (eU rfl rfl rfl rfl rfl rfl) ?_;refine rpt hb7 ?_;refine go ?_;rcases ie F with ⟨hb8, F⟩ | ⟨hb8, F⟩
    ·(iterate 2 refine gn hb8 ?_);refine rgn hb8 (eU rfl rfl rfl rfl rfl rfl) ?_;refine rpt hb8 ?_;refine go ?_;rcases ie F with ⟨hb9, F⟩ | ⟨hb9, F⟩
     ·refine gn hb9 ?_;refine rgn hb9 (la (aj y3.aO) cg) ?_;refine rgn hb9 (bd ((aj cT)) (aj cT) en mw) ?_;refine rgn hb9 (uE (r := Jt y3.aO cT) rfl rfl rfl P5 rfl rfl rfl rfl rfl) ?_;refine rpt hb9 ?_;refine go ?_;rcases ie F with ⟨hb0, F⟩ | ⟨hb0, F⟩
      ·refine gn hb0 ?_;refine rgn hb0 (la (bL y3.fE) iA) ?_;refine rgn hb0 (bd ((bL si)) (bL si) JR Jm) ?_;obtain ⟨y0, h0, F⟩ := bs F;refine rgn hb0 (cl 2 [.agg (bL y3.fE), .agg (bL si)] [.p (.bool y0)] (xU h0)) ?_;refine rpt hb0 ?_;refine go ?_;rcases ie F with ⟨hb1, F⟩ | ⟨hb1, F⟩
       ·(iterate 2 refine gn hb1 ?_);refine rgn hb1 (cR (n := y3.dH.length) rfl rfl (jT cO) gk rfl rfl) ?_;(iterate 2 refine gn hb1 ?_);refine rgn hb1 (cR (n := y3.bM.length) rfl rfl (jT cb) dW rfl rfl) ?_;(iterate 3 refine gn hb1 ?_);refine rgn hb1 (cR (n := y3.dp.length) rfl rfl (jT cb) dW rfl rfl) ?_;(iterate 2 refine gn hb1 ?_);refine rpt hb1 ?_;refine go ?_;refine cN ?_;refine piz (sX 55 [pf 2 (.bool ((ak ((ak ((y3.dH.length : Int) + (y3.bM.length : Int))) + (y3.dp.length : Int))) == 0))] [] 0) [] ?_;refine go2 ?_;cases F;exact prt
       (iterate 12 refine bC hb1 ?_);refine rpf hb1 ?_;refine go ?_;refine cN ?_;refine piz (sX 55 [pf 2 (.bool false)] [] 0) [] ?_;refine go2 ?_;cases F;exact prt
      (iterate 4 refine bC hb0 ?_);refine rpf hb0 ?_;refine go ?_;(iterate 12 refine bC rfl ?_);refine rpf rfl ?_;refine go ?_;refine cN ?_;refine piz (sX 55 [pf 2 (.bool false)] [] 0) [] ?_;refine go2 ?_;cases F;exact prt
     (iterate 4 refine bC hb9 ?_);refine rpf hb9 ?_;refine go ?_;(iterate 4 refine bC rfl ?_);refine rpf rfl ?_;refine go ?_;(iterate 12 refine bC rfl ?_);refine rpf rfl ?_;refine go ?_;refine cN ?_;refine piz (sX 55 [pf 2 (.bool false)] [] 0) [] ?_;refine go2 ?_;cases F;exact prt
    (iterate 3 refine bC hb8 ?_);refine rpf hb8 ?_;refine go ?_;(iterate 4 refine bC rfl ?_);refine rpf rfl ?_;refine go ?_;(iterate 4 refine bC rfl ?_);refine rpf rfl ?_;refine go ?_;(iterate 12 refine bC rfl ?_);refine rpf rfl ?_;refine go ?_;refine cN ?_;refine piz (sX 55 [pf 2 (.bool false)] [] 0) [] ?_;refine go2 ?_;cases F;exact prt
   (iterate 3 refine bC hb7 ?_);refine rpf hb7 ?_;refine go ?_;(iterate 3 refine bC rfl ?_);refine rpf rfl ?_;refine go ?_;(iterate 4 refine bC rfl ?_);refine rpf rfl ?_;refine go ?_;(iterate 4 refine bC rfl ?_);refine rpf rfl ?_;refine go ?_;(iterate 12 refine bC rfl ?_);refine rpf rfl ?_;refine go ?_;refine cN ?_;refine piz (sX 55 [pf 2 (.bool false)] [] 0) [] ?_;refine go2 ?_;cases F;exact prt
  (iterate 3 refine bC hb6 ?_);refine rpf hb6 ?_;refine go ?_;(iterate 3 refine bC rfl ?_);refine rpf rfl ?_;refine go ?_;(iterate 3 refine bC rfl ?_);refine rpf rfl ?_;refine go ?_;(iterate 4 refine bC rfl ?_);refine rpf rfl ?_;refine go ?_;(iterate 4 refine bC rfl ?_);refine rpf rfl ?_;refine go ?_;(iterate 12 refine bC rfl ?_);refine rpf rfl ?_;refine go ?_;refine cN ?_;refine piz (sX 55 [pf 2 (.bool false)] [] 0) [] ?_;refine go2 ?_;cases F;exact prt
 (iterate 3 refine bC hb5 ?_);refine rpf hb5 ?_;refine go ?_;(iterate 3 refine bC rfl ?_);refine rpf rfl ?_;refine go ?_;(iterate 3 refine bC rfl ?_);refine rpf rfl ?_;refine go ?_;(iterate 3 refine bC rfl ?_);refine rpf rfl ?_;refine go ?_;(iterate 4 refine bC rfl ?_);refine rpf rfl ?_;refine go ?_;(iterate 4 refine bC rfl ?_);refine rpf rfl ?_;refine go ?_;(iterate 12 refine bC rfl ?_);refine rpf rfl ?_;refine go ?_;refine cN ?_;refine piz (sX 55 [pf 2 (.bool false)] [] 0) [] ?_;refine go2 ?_;cases F;exact prt
theorem wn {a0 : bV} {a1 : Int} {r : Bool} (F : kW a0 a1 = some r) : FZ 178 [.agg (aj a0), .int .i64 a1] [.p (.bool r)] := by
 unfold kW at F;refine au (n := 77) Tryz.func178 rfl rfl rfl fun w O => ?_;refine go ?_;refine rgp (bo 0) ?_;refine go2 ?_;(iterate 2 refine aF ?_);obtain ⟨x2, F, hK4⟩ := bs F;refine ctx (sX 77 [pf 1 (.int .i64 a1), (2, some (.lp 0 0)), pf 14 (.bool x2)] [bf 0 37 (aj a0)] 1) ?_ ?_
 ·refine go5 ?_;rcases ie F with ⟨hb1, F⟩ | ⟨hb1, F⟩
  ·(iterate 3 refine aU hb1 ?_);refine rpt hb1 ?_;cases F;exact rcz [0]
  (iterate 3 refine gn hb1 ?_);refine rpf hb1 ?_;cases F;exact rcz [0]
 have F := hK4;refine go ?_;refine cnd F (fun hb5 F => ?_) fun hb5 F => ?_
 ·refine go ?_;refine rgp (la (aj a0) cg) ?_;refine go2 ?_;refine rgp (bd ((aj cT)) (aj (⟨a0.ab, [], 0, (⟨am, am, am, am⟩ : A4 bH)⟩ : bV)) en mw) ?_;refine rgp (uE (r := Jt a0 (⟨a0.ab, [], 0, (⟨am, am, am, am⟩ : A4 bH)⟩ : bV)) rfl rfl rfl P5 rfl rfl rfl rfl rfl) ?_;refine go4 ?_;cases F;exact prt
 refine go2 ?_;(iterate 2 refine aF ?_);obtain ⟨x0, F, hK0⟩ := bs F;refine ctx (sX 77 [pf 1 (.int .i64 a1), (2, some (.lp 0 0)), pf 38 (.bool x0)] [bf 0 37 (aj a0)] 1) ?_ ?_
 ·refine go5 ?_;rcases ie F with ⟨hb6, F⟩ | ⟨hb6, F⟩
  ·(iterate 4 refine aU hb6 ?_);refine rpt hb6 ?_;refine go ?_;(iterate 3 refine aU rfl ?_);refine rpt rfl ?_;refine go ?_;(iterate 3 refine aU rfl ?_);refine rpt rfl ?_;cases F;exact rcz [0]
  (iterate 2 refine gn hb6 ?_);obtain ⟨y7, h8, F⟩ := bs F;refine rgn hb6 (cl 1 [.str a0.aq] [.p (.bool y7)] (ff h8)) ?_;refine gn hb6 ?_;refine rpf hb6 ?_;refine go ?_;rcases ie F with ⟨hb9, F⟩ | ⟨hb9, F⟩
  ·(iterate 3 refine aU hb9 ?_);refine rpt hb9 ?_;refine go ?_;(iterate 3 refine aU rfl ?_);refine rpt rfl ?_;cases F;exact rcz [0]
  (iterate 3 refine gn hb9 ?_);refine rpf hb9 ?_;refine go ?_;rcases ie F with ⟨hb0, F⟩ | ⟨hb0, F⟩
  ·(iterate 3 refine aU hb0 ?_);refine rpt hb0 ?_;cases F;exact rcz [0]
  (iterate 3 refine gn hb0 ?_);refine rpf hb0 ?_;cases F;exact rcz [0]
 have F := hK0;refine go ?_;refine cnd F (fun hb2 F => ?_) fun hb2 F => ?_
 ·refine go5 ?_;cases F;exact prt
 refine go6 ?_;obtain ⟨lr0, F, hK1⟩ := bs F;refine cj (((4 : Int) - (0)).toNat + 1) (fun s1 => ∃ q, lr0 = .next q ∧ s1 = (sX 77 [] [] 0)) ?_ ?_
 ·refine bu (α := Int) (fun q => (sX 77 [pf 1 (.int .i64 a1), (2, some (.lp 0 0)), pf 5 (.int .i64 q)] [bf 0 37 (aj a0)] 1)) (fun k q => ku a0 a1 k q = some lr0) 0 (bm [0]) F (fun q h => by cases h) ?_;clear F;rintro k x1 F ih;refine bt ?_;refine go5 ?_;refine cnd F (fun hb3 F => ?_) fun hb3 F => ?_
  ·refine go2 ?_;refine aF ?_;refine bl ?_;refine go3 ?_;obtain ⟨y0, h0, F⟩ := bs F;refine rgp (Fe (l := (a0.aK).l) rfl rfl rfl re rfl h0 rfl rfl) ?_;refine rgp (dn (ps := bw y0) rfl rfl rfl (MG (l := (a0.aK).l) (f := bw) rfl (fun _ => rfl) rfl h0) rfl rfl sA rfl rfl) ?_;refine rgp (al 1 (bw am) rc) ?_;refine go2 ?_;refine aF ?_;obtain ⟨x3, F, hK2⟩ := bs F;refine ctx (sX 77 [pf 1 (.int .i64 a1), (2, some (.lp 0 0)), pf 5 (.int .i64 x1), pf 76 (.bool x3)] [bf 0 37 (aj a0)] 1) ?_ ?_
   ·refine go6 ?_;rcases ie F with ⟨hb4, F⟩ | ⟨hb4, F⟩
    ·refine rgn hb4 (la (bw y0) sA) ?_;refine rgn hb4 (bd ((bw am)) (bw am) rc zp) ?_;refine rgn hb4 (JQ (r := OI y0 am) rfl rfl rfl Tp rfl rfl rfl rfl rfl) ?_;refine rpt hb4 ?_;refine go ?_;rcases ie F with ⟨hb7, F⟩ | ⟨hb7, F⟩
     ·(iterate 5 refine aU hb7 ?_);(iterate 13 refine go ?_);refine aU hb7 ?_;refine rpt hb7 ?_;cases F;exact rcz [0]
     (iterate 5 refine gn hb7 ?_);rcases ie F with ⟨hb8, F⟩ | ⟨hb8, F⟩
     ·refine rgn hb8 (la (bw y0) sA) ?_;refine gn hb8 ?_;obtain ⟨y1, h1, F⟩ := bs F;refine rgn hb8 (cl 2 [.agg (bw y0), .int .i64 a1] [.p (.bool y1)] (sj h1)) ?_;(iterate 2 refine gn hb8 ?_);rcases ie F with ⟨hb11, F⟩ | ⟨hb11, F⟩
      ·(iterate 3 refine aU hb11 ?_);refine go3 ?_;refine aU hb11 ?_;refine rgn hb8 (bN rfl rfl hb11 rfl rfl rfl) ?_;refine rgn hb7 (bN rfl rfl hb8 rfl rfl rfl) ?_;refine rpf hb7 ?_;cases F;exact rcz [0]
      (iterate 3 refine gn hb11 ?_);rcases ie F with ⟨hb12, F⟩ | ⟨hb12, F⟩
      ·(iterate 3 refine gn hb12 ?_);refine rgn hb11 (bN rfl rfl hb12 rfl rfl rfl) ?_;refine rgn hb8 (aV rfl rfl hb11 rfl rfl rfl) ?_;refine rgn hb7 (bN rfl rfl hb8 rfl rfl rfl) ?_;refine rpf hb7 ?_;cases F;exact rcz [0]
      (iterate 3 refine bC hb12 ?_);refine rgn hb11 (aV rfl rfl hb12 rfl rfl rfl) ?_;refine rgn hb8 (aV rfl rfl hb11 rfl rfl rfl) ?_;refine rgn hb7 (bN rfl rfl hb8 rfl rfl rfl) ?_;refine rpf hb7 ?_;cases F;exact rcz [0]
     (iterate 5 refine bC hb8 ?_);refine go7 ?_;refine bC hb8 ?_;refine rgn hb7 (aV rfl rfl hb8 rfl rfl rfl) ?_;refine rpf hb7 ?_;cases F;exact rcz [0]
    (iterate 3 refine bC hb4 ?_);refine rpf hb4 ?_;refine go ?_;(iterate 5 refine gn rfl ?_);rcases ie F with ⟨hb13, F⟩ | ⟨hb13, F⟩
    ·refine rgn hb13 (la (bw y0) sA) ?_;refine gn hb13 ?_;obtain ⟨y2, h2, F⟩ := bs F;refine rgn hb13 (cl 2 [.agg (bw y0), .int .i64 a1] [.p (.bool y2)] (sj h2)) ?_;(iterate 2 refine gn hb13 ?_);rcases ie F with ⟨hb15, F⟩ | ⟨hb15, F⟩
     ·(iterate 3 refine aU hb15 ?_);refine go3 ?_;refine aU hb15 ?_;refine rgn hb13 (bN rfl rfl hb15 rfl rfl rfl) ?_;refine rgn rfl (bN rfl rfl hb13 rfl rfl rfl) ?_;refine rpf rfl ?_;cases F;exact rcz [0]
     (iterate 3 refine gn hb15 ?_);rcases ie F with ⟨hb16, F⟩ | ⟨hb16, F⟩
     ·(iterate 3 refine gn hb16 ?_);refine rgn hb15 (bN rfl rfl hb16 rfl rfl rfl) ?_;refine rgn hb13 (aV rfl rfl hb15 rfl rfl rfl) ?_;refine rgn rfl (bN rfl rfl hb13 rfl rfl rfl) ?_;refine rpf rfl ?_;cases F;exact rcz [0]
     (iterate 3 refine bC hb16 ?_);refine rgn hb15 (aV rfl rfl hb16 rfl rfl rfl) ?_;refine rgn hb13 (aV rfl rfl hb15 rfl rfl rfl) ?_;refine rgn rfl (bN rfl rfl hb13 rfl rfl rfl) ?_;refine rpf rfl ?_;cases F;exact rcz [0]
    (iterate 5 refine bC hb13 ?_);refine go7 ?_;refine bC hb13 ?_;refine rgn rfl (aV rfl rfl hb13 rfl rfl rfl) ?_;refine rpf rfl ?_;cases F;exact rcz [0]
   have F := hK2;refine go ?_;refine cnd F (fun hb17 F => ?_) fun hb17 F => ?_
   ·refine go7 ?_;refine bn ?_;cases F;have F := bU hK1;refine go ?_;cases F;exact prt
   refine go7 ?_;refine rnr ?_;exact bv (ih (ak (x1 + 1)) F) (bm [0])
  refine bR ?_;(iterate 2 refine ao ?_);cases F;exact av _ ⟨_, rfl, rfl⟩ (bm [])
 rintro _ ⟨⟨⟩, rfl, rfl⟩;have F := cd hK1;clear hK1;refine go5 ?_;cases F;exact prt
theorem Ct {a0 : aQ} {a1 : Int} {r : Bool} (F : qI a0 a1 = some r) : FZ 153 [.agg (aM a0), .int .i64 a1] [.p (.bool r)] := by
 unfold qI at F;refine au (n := 115) Tryz.func153 rfl rfl rfl fun w O => ?_;refine go ?_;refine rgp (bo 0) ?_;refine go7 ?_;refine aF ?_;obtain ⟨x0, F, hK0⟩ := bs F;refine ctx (sX 115 [pf 1 (.int .i64 a1), (2, some (.lp 0 0)), pf 5 (.int .i64 a0.ab), pf 6 (.bool x0)] [bf 0 48 (aM a0)] 1) ?_ ?_
 ·refine go3 ?_;obtain ⟨y3, h4, F⟩ := bs F;refine rgp (cl 1 [.str a0.fX] [.p (.bool y3)] (ff h4)) ?_;refine go ?_;rcases ie F with ⟨hb5, F⟩ | ⟨hb5, F⟩
  ·(iterate 3 refine aU hb5 ?_);refine go3 ?_;refine aU hb5 ?_;refine rpt hb5 ?_;refine go ?_;(iterate 2 refine aU rfl ?_);refine rpt rfl ?_;refine go ?_;(iterate 2 refine aU rfl ?_);refine rpt rfl ?_;refine go ?_;(iterate 2 refine aU rfl ?_);refine rpt rfl ?_;refine go ?_;cases F;exact rcz [0]
  (iterate 3 refine gn hb5 ?_);rcases ie F with ⟨hb6, F⟩ | ⟨hb6, F⟩
  ·(iterate 2 refine gn hb6 ?_);refine rgn hb6 (eU rfl rfl rfl rfl rfl rfl) ?_;refine rgn hb5 (bN rfl rfl hb6 rfl rfl rfl) ?_;refine rpf hb5 ?_;refine go ?_;rcases ie F with ⟨hb7, F⟩ | ⟨hb7, F⟩
   ·(iterate 2 refine aU hb7 ?_);refine rpt hb7 ?_;refine go ?_;(iterate 2 refine aU rfl ?_);refine rpt rfl ?_;refine go ?_;(iterate 2 refine aU rfl ?_);refine rpt rfl ?_;refine go ?_;cases F;exact rcz [0]
   (iterate 2 refine gn hb7 ?_);refine rpf hb7 ?_;refine go ?_;rcases ie F with ⟨hb8, F⟩ | ⟨hb8, F⟩
   ·(iterate 2 refine aU hb8 ?_);refine rpt hb8 ?_;refine go ?_;(iterate 2 refine aU rfl ?_);refine rpt rfl ?_;refine go ?_;cases F;exact rcz [0]
   (iterate 2 refine gn hb8 ?_);refine rpf hb8 ?_;refine go ?_;rcases ie F with ⟨hb9, F⟩ | ⟨hb9, F⟩
   ·(iterate 2 refine aU hb9 ?_);refine rpt hb9 ?_;refine go ?_;cases F;exact rcz [0]
   (iterate 2 refine gn hb9 ?_);refine rpf hb9 ?_;refine go ?_;cases F;exact rcz [0]
  (iterate 3 refine bC hb6 ?_);refine rgn hb5 (aV rfl rfl hb6 rfl rfl rfl) ?_;refine rpf hb5 ?_;refine go ?_;(iterate 2 refine gn rfl ?_);refine rpf rfl ?_;refine go ?_;rcases ie F with ⟨hb0, F⟩ | ⟨hb0, F⟩
  ·(iterate 2 refine aU hb0 ?_);refine rpt hb0 ?_;refine go ?_;(iterate 2 refine aU rfl ?_);refine rpt rfl ?_;refine go ?_;cases F;exact rcz [0]
  (iterate 2 refine gn hb0 ?_);refine rpf hb0 ?_;refine go ?_;rcases ie F with ⟨hb1, F⟩ | ⟨hb1, F⟩
  ·(iterate 2 refine aU hb1 ?_);refine rpt hb1 ?_;refine go ?_;cases F;exact rcz [0]
  (iterate 2 refine gn hb1 ?_);refine rpf hb1 ?_;refine go ?_;cases F;exact rcz [0]
 have F := hK0;refine go ?_;refine aF ?_;obtain ⟨x1, F, hK1⟩ := bs F;refine ctx (sX 115 [pf 1 (.int .i64 a1), (2, some (.lp 0 0)), pf 5 (.int .i64 a0.ab), pf 6 (.bool x0), pf 7 (.bool x1)] [bf 0 48 (aM a0)] 1) ?_ ?_
 ·refine go3 ?_;obtain ⟨y0, h0, F⟩ := bs F;refine rgp (cl 1 [.str a0.fY] [.p (.bool y0)] (ff h0)) ?_;refine go ?_;rcases ie F with ⟨hb2, F⟩ | ⟨hb2, F⟩
  ·(iterate 3 refine aU hb2 ?_);refine go2 ?_;(iterate 2 refine aU hb2 ?_);refine go2 ?_;(iterate 2 refine aU hb2 ?_);refine go3 ?_;refine aU hb2 ?_;refine rpt hb2 ?_;refine go ?_;(iterate 2 refine aU rfl ?_);refine rpt rfl ?_;refine go ?_;(iterate 2 refine aU rfl ?_);refine rpt rfl ?_;refine go ?_;(iterate 2 refine aU rfl ?_);refine rpt rfl ?_;refine go ?_;(iterate 2 refine aU rfl ?_);refine rpt rfl ?_;refine go ?_;cases F;exact rcz [0]
  (iterate 3 refine gn hb2 ?_);rcases ie F with ⟨hb3, F⟩ | ⟨hb3, F⟩
  ·(iterate 2 refine aU hb3 ?_);refine rgn hb2 (bN rfl rfl hb3 rfl rfl rfl) ?_;refine gn hb2 ?_;(iterate 2 refine aU rfl ?_);refine rgn hb2 (bN rfl rfl rfl rfl rfl rfl) ?_;refine gn hb2 ?_;(iterate 2 refine gn rfl ?_);refine rgn rfl (eU rfl rfl rfl rfl rfl rfl) ?_;refine rgn hb2 (bN rfl rfl rfl rfl rfl rfl) ?_;refine rpf hb2 ?_;refine go ?_;rcases ie F with ⟨hb4, F⟩ | ⟨hb4, F⟩
   ·(iterate 2 refine aU hb4 ?_);refine rpt hb4 ?_;refine go ?_;(iterate 2 refine aU rfl ?_);refine rpt rfl ?_;refine go ?_;(iterate 2 refine aU rfl ?_);refine rpt rfl ?_;refine go ?_;(iterate 2 refine aU rfl ?_);refine rpt rfl ?_;refine go ?_;cases F;exact rcz [0]
   (iterate 2 refine gn hb4 ?_);refine rpf hb4 ?_;refine go ?_;rcases ie F with ⟨hb12, F⟩ | ⟨hb12, F⟩
   ·(iterate 2 refine aU hb12 ?_);refine rpt hb12 ?_;refine go ?_;(iterate 2 refine aU rfl ?_);refine rpt rfl ?_;refine go ?_;(iterate 2 refine aU rfl ?_);refine rpt rfl ?_;refine go ?_;cases F;exact rcz [0]
   (iterate 2 refine gn hb12 ?_);refine rpf hb12 ?_;refine go ?_;rcases ie F with ⟨hb13, F⟩ | ⟨hb13, F⟩
   ·(iterate 2 refine aU hb13 ?_);refine rpt hb13 ?_;refine go ?_;(iterate 2 refine aU rfl ?_);refine rpt rfl ?_;refine go ?_;cases F;exact rcz [0]
   (iterate 2 refine gn hb13 ?_);refine rpf hb13 ?_;refine go ?_;rcases ie F with ⟨hb14, F⟩ | ⟨hb14, F⟩
   ·(iterate 2 refine aU hb14 ?_);refine rpt hb14 ?_;refine go ?_;cases F;exact rcz [0]
   (iterate 2 refine gn hb14 ?_);refine rpf hb14 ?_;refine go ?_;cases F;exact rcz [0]
  (iterate 2 refine gn hb3 ?_);refine rgn hb2 (aV rfl rfl hb3 rfl rfl rfl) ?_;refine gn hb2 ?_;rcases ie F with ⟨hb15, F⟩ | ⟨hb15, F⟩
  ·(iterate 2 refine aU hb15 ?_);refine rgn hb2 (bN rfl rfl hb15 rfl rfl rfl) ?_;refine gn hb2 ?_;(iterate 2 refine gn rfl ?_);refine rgn rfl (eU rfl rfl rfl rfl rfl rfl) ?_;refine rgn hb2 (bN rfl rfl rfl rfl rfl rfl) ?_;refine rpf hb2 ?_;refine go ?_;rcases ie F with ⟨hb16, F⟩ | ⟨hb16, F⟩
   ·(iterate 2 refine aU hb16 ?_);refine rpt hb16 ?_;refine go ?_;(iterate 2 refine aU rfl ?_);refine rpt rfl ?_;refine go ?_;(iterate 2 refine aU rfl ?_);refine rpt rfl ?_;refine go ?_;(iterate 2 refine aU rfl ?_);refine rpt rfl ?_;refine go ?_;cases F;exact rcz [0]
   (iterate 2 refine gn hb16 ?_);refine rpf hb16 ?_;refine go ?_;rcases ie F with ⟨hb17, F⟩ | ⟨hb17, F⟩
   ·(iterate 2 refine aU hb17 ?_);refine rpt hb17 ?_;refine go ?_;(iterate 2 refine aU rfl ?_);refine rpt rfl ?_;refine go ?_;(iterate 2 refine aU rfl ?_);refine rpt rfl ?_;refine go ?_;cases F;exact rcz [0]
   (iterate 2 refine gn hb17 ?_);refine rpf hb17 ?_;refine go ?_;rcases ie F with ⟨hb18, F⟩ | ⟨hb18, F⟩
   ·(iterate 2 refine aU hb18 ?_);refine rpt hb18 ?_;refine go ?_;(iterate 2 refine aU rfl ?_);refine rpt rfl ?_;refine go ?_;cases F;exact rcz [0]
   (iterate 2 refine gn hb18 ?_);refine rpf hb18 ?_;refine go ?_;rcases ie F with ⟨hb38, F⟩ | ⟨hb38, F⟩
   ·(iterate 2 refine aU hb38 ?_);refine rpt hb38 ?_;refine go ?_;cases F;exact rcz [0]
   (iterate 2 refine gn hb38 ?_);refine rpf hb38 ?_;refine go ?_;cases F;exact rcz [0]
  (iterate 2 refine gn hb15 ?_);refine rgn hb2 (aV rfl rfl hb15 rfl rfl rfl) ?_;refine gn hb2 ?_;rcases ie F with ⟨hb39, F⟩ | ⟨hb39, F⟩
  ·(iterate 2 refine gn hb39 ?_);refine rgn hb39 (eU rfl rfl rfl rfl rfl rfl) ?_;refine rgn hb2 (bN rfl rfl hb39 rfl rfl rfl) ?_;refine rpf hb2 ?_;refine go ?_;rcases ie F with ⟨hb40, F⟩ | ⟨hb40, F⟩
   ·(iterate 2 refine aU hb40 ?_);refine rpt hb40 ?_;refine go ?_;(iterate 2 refine aU rfl ?_);refine rpt rfl ?_;refine go ?_;(iterate 2 refine aU rfl ?_);refine rpt rfl ?_;refine go ?_;(iterate 2 refine aU rfl ?_);refine rpt rfl ?_;refine go ?_;cases F;exact rcz [0]
   (iterate 2 refine gn hb40 ?_);refine rpf hb40 ?_;refine go ?_;rcases ie F with ⟨hb41, F⟩ | ⟨hb41, F⟩
   ·(iterate 2 refine aU hb41 ?_);refine rpt hb41 ?_;refine go ?_;(iterate 2 refine aU rfl ?_);refine rpt rfl ?_;refine go ?_;(iterate 2 refine aU rfl ?_);refine rpt rfl ?_;refine go ?_;cases F;exact rcz [0]
   (iterate 2 refine gn hb41 ?_);refine rpf hb41 ?_;refine go ?_;rcases ie F with ⟨hb42, F⟩ | ⟨hb42, F⟩
   ·(iterate 2 refine aU hb42 ?_);refine rpt hb42 ?_;refine go ?_;(iterate 2 refine aU rfl ?_);refine rpt rfl ?_;refine go ?_;cases F;exact rcz [0]
   (iterate 2 refine gn hb42 ?_);refine rpf hb42 ?_;refine go ?_;rcases ie F with ⟨hb43, F⟩ | ⟨hb43, F⟩
   ·(iterate 2 refine aU hb43 ?_);refine rpt hb43 ?_;refine go ?_;cases F;exact rcz [0]
   (iterate 2 refine gn hb43 ?_);refine rpf hb43 ?_;refine go ?_;cases F;exact rcz [0]
  (iterate 3 refine bC hb39 ?_);refine rgn hb2 (aV rfl rfl hb39 rfl rfl rfl) ?_;refine rpf hb2 ?_;refine go ?_;(iterate 2 refine gn rfl ?_);refine rpf rfl ?_;refine go ?_;rcases ie F with ⟨hb44, F⟩ | ⟨hb44, F⟩
  ·(iterate 2 refine aU hb44 ?_);refine rpt hb44 ?_;refine go ?_;(iterate 2 refine aU rfl ?_);refine rpt rfl ?_;refine go ?_;(iterate 2 refine aU rfl ?_);refine rpt rfl ?_;refine go ?_;cases F;exact rcz [0]
  (iterate 2 refine gn hb44 ?_);refine rpf hb44 ?_;refine go ?_;rcases ie F with ⟨hb48, F⟩ | ⟨hb48, F⟩
  ·(iterate 2 refine aU hb48 ?_);refine rpt hb48 ?_;refine go ?_;(iterate 2 refine aU rfl ?_);refine rpt rfl ?_;refine go ?_;cases F;exact rcz [0]
  (iterate 2 refine gn hb48 ?_);refine rpf hb48 ?_;refine go ?_;rcases ie F with ⟨hb49, F⟩ | ⟨hb49, F⟩
  ·(iterate 2 refine aU hb49 ?_);refine rpt hb49 ?_;refine go ?_;cases F;exact rcz [0]
  (iterate 2 refine gn hb49 ?_);refine rpf hb49 ?_;refine go ?_;cases F;exact rcz [0]
 have F := hK1;refine go ?_;refine aF ?_;obtain ⟨x2, F, hK2⟩ := bs F;refine ctx (sX 115 [pf 1 (.int .i64 a1), (2, some (.lp 0 0)), pf 5 (.int .i64 a0.ab), pf 6 (.bool x0), pf 7 (.bool x1), pf 8 (.bool x2)] [bf 0 48 (aM a0)] 1) ?_ ?_
 ·refine go3 ?_;obtain ⟨y1, h1, F⟩ := bs F;refine rgp (cl 1 [.str a0.ax] [.p (.bool y1)] (ff h1)) ?_;refine go ?_;rcases ie F with ⟨hb50, F⟩ | ⟨hb50, F⟩
  ·(iterate 3 refine aU hb50 ?_);refine go2 ?_;(iterate 2 refine aU hb50 ?_);refine go2 ?_;refine aU hb50 ?_;refine rpt hb50 ?_;refine go ?_;cases F;exact rcz [0]
  (iterate 3 refine gn hb50 ?_);rcases ie F with ⟨hb52, F⟩ | ⟨hb52, F⟩
  ·(iterate 2 refine gn hb52 ?_);refine rgn hb50 (bN rfl rfl hb52 rfl rfl rfl) ?_;refine gn hb50 ?_;rcases ie F with ⟨hb53, F⟩ | ⟨hb53, F⟩
   ·(iterate 2 refine gn hb53 ?_);refine rgn hb50 (bN rfl rfl hb53 rfl rfl rfl) ?_;refine rpf hb50 ?_;refine go ?_;cases F;exact rcz [0]
   (iterate 2 refine bC hb53 ?_);refine rgn hb50 (aV rfl rfl hb53 rfl rfl rfl) ?_;refine rpf hb50 ?_;refine go ?_;cases F;exact rcz [0]
  (iterate 2 refine bC hb52 ?_);refine rgn hb50 (aV rfl rfl hb52 rfl rfl rfl) ?_;refine gn hb50 ?_;(iterate 2 refine bC rfl ?_);refine rgn hb50 (aV rfl rfl rfl rfl rfl rfl) ?_;refine rpf hb50 ?_;refine go ?_;cases F;exact rcz [0]
 have F := hK2;refine go ?_;refine aF ?_;obtain ⟨x3, F, hK3⟩ := bs F;refine ctx (sX 115 [pf 6 (.bool x0), pf 7 (.bool x1), pf 8 (.bool x2), pf 9 (.bool x3)] [] 0) ?_ ?_
 ·refine go6 ?_;rcases ie F with ⟨hb57, F⟩ | ⟨hb57, F⟩
  ·refine gn hb57 ?_;refine rgn hb57 (la (aj a0.aO) cg) ?_;refine gn hb57 ?_;obtain ⟨y2, h2, F⟩ := bs F;refine rgn hb57 (cl 1 [.agg (aj a0.aO), .int .i64 a1] [.p (.bool y2)] (wn h2)) ?_;refine rpt hb57 ?_;refine go ?_;rcases ie F with ⟨hb58, F⟩ | ⟨hb58, F⟩
   ·(iterate 3 refine aU hb58 ?_);refine go2 ?_;refine aU hb58 ?_;refine rpt hb58 ?_;refine go ?_;cases F;exact rcz []
   (iterate 3 refine gn hb58 ?_);rcases ie F with ⟨hb59, F⟩ | ⟨hb59, F⟩
   ·(iterate 2 refine gn hb59 ?_);refine rgn hb58 (bN rfl rfl hb59 rfl rfl rfl) ?_;refine rpf hb58 ?_;refine go ?_;cases F;exact rcz []
   (iterate 2 refine bC hb59 ?_);refine rgn hb58 (aV rfl rfl hb59 rfl rfl rfl) ?_;refine rpf hb58 ?_;refine go ?_;cases F;exact rcz []
  (iterate 4 refine bC hb57 ?_);refine rpf hb57 ?_;refine go ?_;(iterate 3 refine gn rfl ?_);rcases ie F with ⟨hb63, F⟩ | ⟨hb63, F⟩
  ·(iterate 2 refine gn hb63 ?_);refine rgn rfl (bN rfl rfl hb63 rfl rfl rfl) ?_;refine rpf rfl ?_;refine go ?_;cases F;exact rcz []
  (iterate 2 refine bC hb63 ?_);refine rgn rfl (aV rfl rfl hb63 rfl rfl rfl) ?_;refine rpf rfl ?_;refine go ?_;cases F;exact rcz []
 have F := hK3;refine go4 ?_;rcases ie F with ⟨hb64, F⟩ | ⟨hb64, F⟩
 ·refine gn hb64 ?_;refine rpt hb64 ?_;refine go ?_;rcases ie F with ⟨hb65, F⟩ | ⟨hb65, F⟩
  ·refine gn hb65 ?_;refine rpt hb65 ?_;refine go ?_;rcases ie F with ⟨hb66, F⟩ | ⟨hb66, F⟩
   ·refine gn hb66 ?_;refine rpt hb66 ?_;refine go3 ?_;cases F;exact prt
   refine bC hb66 ?_;refine rpf hb66 ?_;refine go3 ?_;cases F;exact prt
  refine bC hb65 ?_;refine rpf hb65 ?_;refine go ?_;refine bC rfl ?_;refine rpf rfl ?_;refine go3 ?_;cases F;exact prt
 refine bC hb64 ?_;refine rpf hb64 ?_;refine go ?_;refine bC rfl ?_;refine rpf rfl ?_;refine go ?_;refine bC rfl ?_;refine rpf rfl ?_;refine go3 ?_;cases F;exact prt
theorem Gx {a0 : Int} {r : Int} (F : sh a0 = some r) : FZ 179 [.int .i64 a0] [.p (.int .i64 r)] := by
 unfold sh at F;refine au (n := 19) Tryz.func179 rfl rfl rfl fun w O => ?_;refine go3 ?_;(iterate 2 refine aF ?_);obtain ⟨x3, F, hK5⟩ := bs F;refine ctx (sX 19 [pf 0 (.int .i64 a0), pf 12 (.bool x3)] [] 0) ?_ ?_
 ·refine go4 ?_;rcases ie F with ⟨hb1, F⟩ | ⟨hb1, F⟩
  ·(iterate 2 refine gn hb1 ?_);refine rpt hb1 ?_;refine go ?_;rcases ie F with ⟨hb2, F⟩ | ⟨hb2, F⟩
   ·(iterate 2 refine aU hb2 ?_);refine rpt hb2 ?_;cases F;exact rcz []
   (iterate 2 refine gn hb2 ?_);refine rpf hb2 ?_;cases F;exact rcz []
  (iterate 2 refine bC hb1 ?_);refine rpf hb1 ?_;refine go ?_;(iterate 2 refine gn rfl ?_);refine rpf rfl ?_;cases F;exact rcz []
 have F := hK5;refine go ?_;refine cnd F (fun hb6 F => ?_) fun hb6 F => ?_
 ·refine go5 ?_;cases F;exact prt
 refine go2 ?_;(iterate 2 refine aF ?_);obtain ⟨x8, F, hK0⟩ := bs F;refine ctx (sX 19 [pf 18 (.bool x8)] [] 0) ?_ ?_
 ·refine go4 ?_;rcases ie F with ⟨hb7, F⟩ | ⟨hb7, F⟩
  ·(iterate 2 refine aU hb7 ?_);refine rpt hb7 ?_;cases F;exact rcz []
  (iterate 2 refine gn hb7 ?_);refine rpf hb7 ?_;cases F;exact rcz []
 have F := hK0;refine go ?_;refine cnd F (fun hb0 F => ?_) fun hb0 F => ?_
 ·refine go5 ?_;cases F;exact prt
 refine go6 ?_;cases F;exact prt
end Go.Proofs.YtiefoagopfeibaaGreat
