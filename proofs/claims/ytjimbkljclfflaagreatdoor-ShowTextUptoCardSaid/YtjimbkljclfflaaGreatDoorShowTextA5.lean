/- The abstract layer that the proof stands on: no condition. -/
import Derived.Test.YtjimbkljclfflaaGreatDoorShowTextA4
import Derived.Maps.GroupsBeside
import Derived.Lib.Repeat
import Derived.JoinedCond
import Derived.Deep.DeepHandedRow
/- Maps from numbers to rows of numbers: made by appending, and read when nothing is written any more. -/
namespace Go.Abs
variable {G:List (Nat×List PV)}
open Go.RowKit
open Go.WideElems (Fit)
open Go.ChangeShapes
section
variable {ro:Option Nat} {P:Program} {c:Cx G} {s:St} {o:Oper} {d:Option Nat}
end
def Wq (D:DataW Unit) (f:Int→List Int):Prop:=∀ key:Int,IntKind.i64.min≤key→key≤IntKind.i64.max→(D.atKey (.int .i64 key) .nil= .nil∧f key=[])∨D.atKey (.int .i64 key) .nil= .slice (lits .i64 (f key)) []
section
variable {ro:Option Nat} {P:Program} {c:Cx G} {s:St} {Q:Exit→Act→World→Prop}
theorem VL {id:Nat} {l:List Oper} (hm:P.follows .mixedOrders=true) (hE:∀ i o,l[i]? =some o→∀ x∈gh o,x < i) (hG:∀ o∈l,o.guard=none) (Inv:(Nat→Bool)→Act→World→Prop)
  (h0:∀ a w,Sim c s a w→Inv (fun _=>false) a w)
  (hstep:∀ (D:Nat→Bool) (i:Nat) (o:Oper) (a:Act) (w:World),l[i]? =some o→D i=false→(∀ x∈gh o,D x=true)→Inv D a w→∀ (K:Act→World→Prop) (Q:Exit→Act→World→Prop),(∀ a' w',Inv (fun j=>if j=i then true else D j) a' w'→K a' w')→o.wpIn (FF ro) 0 P a w K Q)
  (hend:∀ (D:Nat→Bool) (a:Act) (w:World),(∀ i,i < l.length→D i=true)→Inv D a w→Q .normal a w):AW ro P c (.region id l.toArray true) Q s:=by
 have key:∀ (fuel:Nat) (listed:Array Bool) (a:Act) (w:World),listed.size=l.length→
   ((List.range l.length).filter fun i=> !listed.getD i true).length≤fuel→Inv (fun i=>listed.getD i false) a w→wpAnyIn (FF ro) 0 P .any l.toArray Q fuel listed a w:=by
  have getD_tf:∀ (listed:Array Bool) (i:Nat),i < listed.size→listed.getD i true=listed.getD i false:=fun listed i hi=>by simp[hi]
  have finish:∀ (listed:Array Bool) (a:Act) (w:World),listed.size=l.length→Region.ready .any l.toArray listed=[]→Inv (fun i=>listed.getD i false) a w→Q .normal a w:=by
   intro listed a w hsz hr hs
   refine hend _ a w (fun i=> ?_) hs
   induction i using Nat.strongRecOn with
   | _ i ih=>
    intro hi
    cases hb:listed.getD i false with
    | true=>rfl
    | false=>
     exfalso
     have hmem:i∈Region.ready .any l.toArray listed:=by
      refine nC.2 ⟨by simpa using hi,by rw[getD_tf listed i (by omega)];exact hb,l[i],by simp[hi],fun e he hbd=> ?_⟩
      have hlt:=hE i l[i] (by simp[hi]) e.on (il.2 ⟨e,he,hbd,rfl⟩)
      exact ih e.on hlt (by omega)
     rw[hr] at hmem;cases hmem
  intro fuel
  induction fuel with
  | zero=>
   intro listed a w hsz hc hs
   have hr:Region.ready .any l.toArray listed=[]:=by
    rw[List.eq_nil_iff_forall_not_mem]
    intro i hi
    obtain⟨h1,h2,_⟩:=nC.1 hi
    have:i∈(List.range l.length).filter fun i=> !listed.getD i true:=List.mem_filter.2 ⟨by simpa using h1,by simp[h2]⟩
    have:=List.length_pos_of_mem this
    omega
   exact⟨hr,finish listed a w hsz hr hs⟩
  | succ fuel ih=>
   intro listed a w hsz hc hs
   refine⟨fun hr=>finish listed a w hsz hr hs,fun i hi=> ?_⟩
   obtain⟨h1,h2,o,ho,hafter⟩:=nC.1 hi
   have hil:i < l.length:=by simpa using h1
   have ho':l[i]? =some o:=by simpa using ho
   have hiF:listed.getD i false=false:=by rw[← getD_tf listed i (by omega)];exact h2
   have hset:∀ j,(listed.setIfInBounds i true).getD j false=if j=i then true else listed.getD j false:=by
    intro j
    simp only[Array.getD_eq_getD_getElem?,Array.getElem?_setIfInBounds]
    by_cases hji:j=i
    ·subst hji;simp[show j < listed.size by omega]
    ·rw[if_neg (fun e=>hji e.symm),if_neg hji]
   have hnext:∀ a' w',Inv (fun j=>if j=i then true else listed.getD j false) a' w'→wpAnyIn (FF ro) 0 P .any l.toArray Q fuel (listed.setIfInBounds i true) a' w':=by
    intro a' w' hs'
    refine ih _ a' w' (by simpa using hsz) ?_ (by rw[funext hset];exact hs')
    have hsub:((List.range l.length).filter fun j=> !(listed.setIfInBounds i true).getD j true).length+1≤((List.range l.length).filter fun j=> !listed.getD j true).length:=by
     have hg:∀ j,j < l.length→(listed.setIfInBounds i true).getD j true=if j=i then true else listed.getD j true:=by
      intro j hj
      rw[getD_tf _ j (by simp;omega),hset,getD_tf listed j (by omega)]
     have e1:((List.range l.length).filter fun j=> !(listed.setIfInBounds i true).getD j true)=((List.range l.length).filter fun j=> !listed.getD j true).filter fun j=> !(decide (j=i)):=by
      rw[List.filter_filter]
      refine List.filter_congr fun j hj=> ?_
      rw[hg j (by simpa using hj)]
      by_cases hji:j=i<;>simp[hji]
     rw[e1]
     have hmem:i∈(List.range l.length).filter fun j=> !listed.getD j true:=List.mem_filter.2 ⟨by simpa using hil,by simp[h2]⟩
     generalize ((List.range l.length).filter fun j=> !listed.getD j true)=L at hmem
     have:∀ L:List Nat,i∈L→(L.filter fun j=> !(decide (j=i))).length+1≤L.length:=by
      intro L
      induction L with
      | nil=>intro h;simp at h
      | cons x L ihL=>
       intro h
       by_cases hxi:x=i
       ·subst hxi
        have:=List.length_filter_le (fun j=> !(decide (j=x))) L
        simp;omega
       ·rcases List.mem_cons.1 h with h | h
        ·exact absurd h.symm hxi
        ·have:=ihL h
         simp[hxi];omega
     exact this L hmem
    omega
   unfold wpOpIn
   rw[ho]
   have hg0:=hG o (List.mem_of_getElem? ho')
   have hw:Region.wanted o (yielded l.toArray a.tmps)=true:=by unfold Region.wanted;rw[hg0]
   simp only[hw,if_true]
   exact hstep _ i o a w ho' hiF (fun x hx=>by
    obtain⟨e,he,hb,rfl⟩:=il.1 hx
    exact hafter e he hb) hs _ _ hnext
 rintro a w ⟨O,θ,hs⟩
 refine wpIn_region_any hm (key l.toArray.size _ a _ (by simp) ?_ ?_)
 ·have:=List.length_filter_le (fun i=> !(Array.replicate l.toArray.size false).getD i true) (List.range l.length)
  simpa using this
 ·have:(fun i=>(Array.replicate l.toArray.size false).getD i false)=fun _=>false:=by
   funext i
   simp[Array.getElem?_replicate]
   split<;>rfl
  rw[this]
  exact h0 _ _ ⟨O,θ,hs.grownNone ⟨rfl,rfl,rfl,Nat.le_refl _,fun _ _ _=>rfl⟩⟩
end
section
variable {c:Cx G} {s s':St} {O O':Nat→Prop} {θ:Nat→Option Value} {a a':Act} {w w':World}
theorem SimAt.turn {c':Cx G} (hs:SimAt c s O θ a w) (Z:Nat→Prop) (hc:c'.w0=c.w0∧c'.L=c.L∧c'.X=c.X∧c'.K=c.K∧c'.t0=c.t0)
  (hsz:w.heap.size≤w'.heap.size) (hw:w'.os=w.os∧w'.tape=w.tape∧w'.output=w.output) (hsame:∀ g,g < w.heap.size→¬ Z g→w'.heap[g]? =w.heap[g]?)
  (hZ:∀ g,Z g→O g∧c.w0.heap.size≤g∧¬ HpB s θ g∧¬ DfB a.defers g) (hO1:∀ g,O' g→O g∨w.heap.size≤g) (hO2:∀ g,O g→O' g) (hO3:∀ g,O' g→g < w'.heap.size)
  (hn:s'.n=s.n) (hhp:s'.hp=s.hp) (hnext:s'.next=s.next) (hfree:s'.free=s.free) (hkt:s'.kt=s.kt) (hdf:a'.defers=a.defers) (hts:a'.tmps.size=a.tmps.size)
  (hfr:∀ t x,look t s'.fr=some x→(look t s.fr=some x∧a'.tmps.getD t undef=a.tmps.getD t undef)∨RdA w' O' θ x (a'.tmps.getD t undef))
  (hkp:∀ t∈s.kt,a'.tmps.getD t undef=a.tmps.getD t undef) (hj:c'.J s'.ys O' (yO c' s' θ a'.defers) w'):SimAt c' s' O' θ a' w':=by
 obtain⟨hc1,hc2,hc3,hc4,hc5⟩:=hc
 have hO:∀ b,b < w.heap.size→¬ O b→¬ O' b∧w'.heap[b]? =w.heap[b]? :=fun b hb hn=>
  ⟨fun h=>(hO1 b h).elim hn (fun h=>by omega),hsame b hb (fun hz=>hn (hZ b hz).1)⟩
 have hnm:∀ id b v g,look id s.hp=some b→θ id=some v→bT v=some g→¬ Z g:=fun id b v g h1 h2 h3 hz=>(hZ g hz).2.2.1 ⟨id,b,v,h1,h2,h3⟩
 refine⟨by rw[hts,hn,hs.size],by rw[hdf];exact hs.df,fun t x hx=> ?_,fun id b hb=> ?_,fun i j bi bj vi vj g hi hj'=> ?_,fun id v hv=> ?_,fun k hk=> ?_,hs.one,hO3,?_,fun g hg=> ?_,fun g hg=> ?_,fun g hg=> ?_,fun d hd=> ?_,fun g hg hlt=> ?_,fun t ht=> ?_,hj⟩
 ·rcases hfr t x hx with⟨h1,h2⟩ | h
  ·rw[h2];exact(hs.fr t x h1).mono hsz hO (fun _ _ e=>e)
  ·exact h
 ·rw[hhp] at hb
  obtain⟨v,hv,hbo,hgv⟩:=hs.hp id b hb
  refine⟨v,hv,hbo.mono hsz hO (fun _ _ e=>e) (fun g hgg=>hsame g (hgv g hgg).2.1 (hnm id b v g hb hv hgg)),fun g hgg=> ?_⟩
  obtain⟨h1,h2,h3,h4⟩:=hgv g hgg
  exact⟨hO2 g h1,by omega,by rw[hc1,hc2];exact h3,by rw[hc3];exact h4⟩
 ·rw[hhp] at hi hj'
  exact hs.inj i j bi bj vi vj g hi hj'
 ·rw[hnext,hfree];exact hs.dom id v hv
 ·rw[hnext];rw[hfree] at hk;exact hs.flt k hk
 ·rw[hc1,hc2]
  refine⟨hw.1.trans hs.ext.os,hw.2.1.trans hs.ext.tape,hw.2.2.trans hs.ext.output,Nat.le_trans hs.ext.size hsz,fun b hb hL=> ?_⟩
  rw[hsame b (Nat.lt_of_lt_of_le hb hs.ext.size) (fun hz=>by have:=(hZ b hz).2.1;omega)]
  exact hs.ext.block b hb hL
 ·rw[hc3] at hg;exact hO2 g (hs.xo g hg)
 ·rw[hc3] at hg;rw[hc1];exact hs.xlt g hg
 ·rw[hc2] at hg;rw[hc1];exact hs.llt g hg
 ·rw[hdf] at hd
  obtain⟨D,rfl,hD,hOD,h0⟩:=hs.marks d hd
  have hlt:D < w.heap.size:=by
   rcases Nat.lt_or_ge D w.heap.size with h1 | h1
   ·exact h1
   ·rw[Array.getElem?_eq_none h1] at hD;cases hD
  exact⟨D,rfl,by rw[hsame D hlt (fun hz=>(hZ D hz).2.2.2 ⟨_,hd,rfl⟩)];exact hD,hO2 D hOD,by rw[hc1];exact h0⟩
 ·rw[hc1] at hlt
  rw[hc2,hc3]
  have:=hs.ext.size
  exact hs.oc g ((hO1 g hg).resolve_right (by omega)) hlt
 ·rw[hkt] at ht
  rw[hkp t ht,hc5];exact hs.kp t ht
end
theorem Ig {w w':World} {base e:Nat} {q:IntKind} {v:Value} {zs:List Int} (h:w.ownsInts base e q v zs) (heq:∀ g,v.ownBlock=some g→w'.heap[g]? =w.heap[g]?):w'.ownsInts base e q v zs:=by
 refine⟨⟨h.1.1,?_⟩,h.2⟩
 rcases h.1.2 with h1 | ⟨g,cap,cur,rfl,hb,hh,r⟩
 ·exact .inl h1
 ·exact .inr ⟨g,cap,cur,rfl,hb,by rw[heq g rfl];exact hh,r⟩
structure GrpAt (w:World) (Hid:Nat→Prop) (P:Program) (k e b n:Nat) (f:Int→List Int):Prop where
 own:∃ D:DataW Unit,w.ownsGroups P k (b+1) e .i64 b n D∧Wq D f
 rows:∀ es clock,w.heap[b]? =some (.map es clock)→∀ x∈es.toList,∀ g,x.val.ownBlock=some g→Hid g
 hb:Hid b
theorem GrpAt.same {w w':World} {Hid:Nat→Prop} {P:Program} {k e b n:Nat} {f:Int→List Int} (h:GrpAt w Hid P k e b n f) (heq:∀ g,Hid g→w'.heap[g]? =w.heap[g]?):GrpAt w' Hid P k e b n f:=by
 obtain⟨⟨D,⟨es,clock,hb,F,hs,rfl,hbb,hlen,hap⟩,hD⟩,hr,hh⟩:=h
 have hst:∀ x∈es.toList,∀ z,rowElem (H:=Unit) w (b+1) e .i64 x.val=some z→rowElem w' (b+1) e .i64 x.val=some z:=fun x hx z hz=>by
  obtain⟨zs,ho,rfl⟩:=rowElem_inv hz
  exact rowElem_mk (Ig ho fun g hg=>heq g (hr es clock hb x hx g hg))
 obtain⟨F1,hmap,_⟩:=F.stay hst
 refine⟨⟨_,⟨es,clock,(heq b hh).trans hb,F1,hs,rfl,hbb,fun x hx zs ho=> ?_,hap⟩,by rw[hmap];exact hD⟩,fun es' clock' hb'=> ?_,hh⟩
 ·obtain⟨y,hy⟩:=F.reads x hx
  obtain⟨z,hz,_⟩:=Go.WideElems.rd_val hy
  obtain⟨zs0,ho0,_⟩:=rowElem_inv hz
  rw[ho.unique (Ig ho0 fun g hg=>heq g (hr es clock hb x hx g hg))]
  exact hlen x hx zs0 ho0
 ·rw[heq b hh] at hb'
  exact hr es' clock' hb'
section
variable {ro:Option Nat} {P:Program} {s:St} {Q:Exit→Act→World→Prop} {all rest:List Oper} {o:Oper}
end
end Go.Abs
namespace Go.Abs
variable {G:List (Nat×List PV)}
open Go.RowKit
open Go.ChangeShapes
section
variable {P:Program}
structure Found (P:Program) (T k e b n:Nat) (f:Int→List Int) (Hid:Nat→Prop) (key:Int) (w:World) (v:Value) (zs:List Int):Prop where
 own:w.ownsInts (b+1) e .i64 v zs
 len:zs.length≤n
 fz:f key=zs
 hid:∀ g,v.ownBlock=some g→Hid g
 back:∀ (w1:World) (v':Value) (zs':List Int),w.grownBy w1 v.ownBlock→w1.ownsInts (b+1) e .i64 v' zs'→zs'.length≤n+1→zs'≠[]→(v'.ownBlock=v.ownBlock∨∃ g,v'.ownBlock=some g∧w.heap.size≤g)→
  ∃ w2,(Instr.mapUpdate T (.map (some b)) (.int .i64 key) v').run P w1= .ok () w2∧w1.grownBy w2 (some b)∧∀ Hid2:Nat→Prop,(∀ g,Hid g→Hid2 g)→(∀ g,v'.ownBlock=some g→Hid2 g)→GrpAt w2 Hid2 P k e b (n+1) (fun y=>if y=key then zs' else f y)
theorem Rh {w w1:World} (h:w.grownBy w1 none) (row:Option Nat):w.grownBy w1 row:=⟨h.os,h.tape,h.output,h.size,fun i hi _=>h.block i hi (by simp)⟩
structure RInv (P:Program) (T k e b n:Nat) (f:Int→List Int) (Hid:Nat→Prop) (key x:Int) (R:Nat→Nat) (a0:Act) (w0:World) (D:Nat→Bool) (a:Act) (w:World):Prop where
 size:a.tmps.size=a0.tmps.size
 df:a.defers=a0.defers
 off:∀ t,(∀ j,j < 8→t≠R j)→a.tmps.getD t undef=a0.tmps.getD t undef
 d0:D 0=true→a.tmps.getD (R 0) undef= .map (some b)
 d1:D 1=true→a.tmps.getD (R 1) undef= .int .i64 key
 d2:D 2=true→a.tmps.getD (R 2) undef= .map (some b)
 d3:D 3=true→a.tmps.getD (R 3) undef= .int .i64 key
 d5:D 5=true→a.tmps.getD (R 5) undef= .int .i64 x
 anc:D 7=true→D 2=true∧D 3=true∧D 4=true∧D 5=true∧D 6=true
 memA:D 7=false→w0.grownBy w none∧(D 4=true→∃ wl v zs,a.tmps.getD (R 4) undef=v∧w0.grownBy wl none∧wl.grownBy w none∧Found P T k e b n f Hid key wl v zs)∧
  (D 6=true→∃ g1,a.tmps.getD (R 6) undef= .slice (some ⟨g1,0,none⟩) 1 1∧w0.heap.size≤g1∧g1 < w.heap.size∧w.cell? ⟨g1,0,none⟩=some (.int .i64 x))
 QD:D 7=true→∃ wl v zs,w0.grownBy wl none∧wl.grownBy w v.ownBlock∧Found P T k e b n f Hid key wl v zs∧w.ownsInts (b+1) e .i64 (a.tmps.getD (R 7) undef) (zs++[x])∧
  ((a.tmps.getD (R 7) undef).ownBlock=v.ownBlock∨∃ g,(a.tmps.getD (R 7) undef).ownBlock=some g∧wl.heap.size≤g)
def Qj (D:Nat→Bool) (i:Nat):Nat→Bool:=fun j=>if j=i then true else D j
section
variable {T k e b n:Nat} {f:Int→List Int} {Hid:Nat→Prop} {key x:Int} {R:Nat→Nat} {a0 a:Act} {w0 w:World} {D:Nat→Bool}
theorem mG {i j:Nat} (h:j≠i):Qj D i j=D j:=by unfold Qj;rw[if_neg h]
theorem PX {i:Nat}:Qj D i i=true:=by unfold Qj;rw[if_pos rfl]
theorem RInv.look (h:RInv P T k e b n f Hid key x R a0 w0 D a w) (hR:∀ i,i < 8→∀ j,j < 8→R i=R j→i=j) (h7:D 7=false) (hlt:R 4 < a.tmps.size) {v:Value} {zs:List Int} (hf:Found P T k e b n f Hid key w v zs):RInv P T k e b n f Hid key x R a0 w0 (Qj D 4) (a.put (some (R 4)) v) w:=by
 have self:(a.put (some (R 4)) v).tmps.getD (R 4) undef=v:=qD hlt
 have ne:∀ j,j < 8→j≠4→(a.put (some (R 4)) v).tmps.getD (R j) undef=a.tmps.getD (R j) undef:=fun j hj hji=>iV fun e=>hji (hR 4 (by omega) j hj e).symm
 obtain⟨m1,m2,m3⟩:=h.memA h7
 refine⟨by rw[wK];exact h.size,by rw[tl];exact h.df,fun t ht=> ?_,fun hd=> ?_,fun hd=> ?_,fun hd=> ?_,fun hd=> ?_,fun hd=> ?_,fun hd=> ?_,fun hd=> ?_,fun hd=> ?_⟩
 ·rw[iV (fun e=>ht 4 (by omega) e.symm)];exact h.off t ht
 ·rw[mG (by omega)] at hd;rw[ne 0 (by omega) (by omega)];exact h.d0 hd
 ·rw[mG (by omega)] at hd;rw[ne 1 (by omega) (by omega)];exact h.d1 hd
 ·rw[mG (by omega)] at hd;rw[ne 2 (by omega) (by omega)];exact h.d2 hd
 ·rw[mG (by omega)] at hd;rw[ne 3 (by omega) (by omega)];exact h.d3 hd
 ·rw[mG (by omega)] at hd;rw[ne 5 (by omega) (by omega)];exact h.d5 hd
 ·rw[mG (by omega),h7] at hd;cases hd
 ·refine⟨m1,fun _=>⟨w,v,zs,self,m1,World.grownBy.refl w _,hf⟩,fun hd6=> ?_⟩
  rw[mG (by omega)] at hd6;rw[ne 6 (by omega) (by omega)];exact m3 hd6
 ·rw[mG (by omega),h7] at hd;cases hd
theorem RInv.grown (h:RInv P T k e b n f Hid key x R a0 w0 D a w) (hR:∀ i,i < 8→∀ j,j < 8→R i=R j→i=j) (h7:D 7=false) (h4:D 4=true) (h6:D 6=true) (h2:D 2=true) (h3:D 3=true) (h5:D 5=true) (hlt:R 7 < a.tmps.size) {S:Nat} {ty:TypeId} (hS:sliceB P S e 1=true) (hze:dd P e (.int .i64 0)) (hby:wR P e 8=true) (hn:n≤1000000000000)
  (hx1:IntKind.i64.min≤x) (hx2:x≤IntKind.i64.max) (hb1:b+1≤w.heap.size):
  ∃ v' w',(Builtin.append_ #[S,S] ty #[a.tmps.getD (R 4) undef,a.tmps.getD (R 6) undef]).run P w= .ok v' w'∧RInv P T k e b n f Hid key x R a0 w0 (Qj D 7) (a.put (some (R 7)) v') w':=by
 obtain⟨m1,m2,m3⟩:=h.memA h7
 obtain⟨wl,v,zs,q1,q2,q3,q4⟩:=m2 h4
 obtain⟨g1,p1,p2,p3,p4⟩:=m3 h6
 obtain⟨i,s1,s2,s3⟩:=jQ hS
 obtain⟨_,i',hi',hz'⟩:=pb hze w
 rw[s2] at hi';cases hi'
 have hb2:i.bytes=8:=by simpa [wR,s2] using hby
 have hrow:w.ownsInts (b+1) e .i64 v zs:=q4.own.kept q3 (by cases v.ownBlock with | none=>exact .inl rfl | some g=>exact .inr fun h=>by cases h)
 have hlen:=q4.len
 obtain⟨v',w',r1,r2,r3,_,r5⟩:=run_append_own_at (P:=P) (w:=w) (b+1) S ty e i (.int .i64 0) 1 8 s1 s2 hz' s3 hb2 rfl (by omega) v zs.length (zs.map (Value.int .i64)) hrow.1 ⟨g1,0,none⟩ 1 1 [.int .i64 x] rfl (fun j u hj=>by
  cases j with
  | succ j=>simp at hj
  | zero=>
   simp only[List.getElem?_cons_zero,Option.some.injEq] at hj
   subst hj
   simpa [Addr.add] using p4) (fun u hu=>by rw[List.mem_singleton.1 hu];rfl) (by unfold maxLen;omega) (by omega) hb1
 rw[q1,p1]
 refine⟨v',w',r1,?_⟩
 have self:(a.put (some (R 7)) v').tmps.getD (R 7) undef=v':=qD hlt
 have ne:∀ j,j < 8→j≠7→(a.put (some (R 7)) v').tmps.getD (R j) undef=a.tmps.getD (R j) undef:=fun j hj hji=>iV fun e=>hji (hR 7 (by omega) j hj e).symm
 have hwf:(Lit.int .i64 x).wf=true:=by show (decide (IntKind.i64.min≤x)&&decide (x≤IntKind.i64.max))=true;rw[Bool.and_eq_true];exact⟨decide_eq_true hx1,decide_eq_true hx2⟩
 refine⟨by rw[wK];exact h.size,by rw[tl];exact h.df,fun t ht=> ?_,fun hd=> ?_,fun hd=> ?_,fun hd=> ?_,fun hd=> ?_,fun hd=> ?_,fun hd=> ?_,fun hd=> ?_,fun hd=> ?_⟩
 ·rw[iV (fun e=>ht 7 (by omega) e.symm)];exact h.off t ht
 ·rw[mG (by omega)] at hd;rw[ne 0 (by omega) (by omega)];exact h.d0 hd
 ·rw[mG (by omega)] at hd;rw[ne 1 (by omega) (by omega)];exact h.d1 hd
 ·rw[mG (by omega)] at hd;rw[ne 2 (by omega) (by omega)];exact h.d2 hd
 ·rw[mG (by omega)] at hd;rw[ne 3 (by omega) (by omega)];exact h.d3 hd
 ·rw[mG (by omega)] at hd;rw[ne 5 (by omega) (by omega)];exact h.d5 hd
 ·refine⟨?_,?_,?_,?_,?_⟩<;>rw[mG (by omega)]<;>assumption
 ·rw[PX] at hd;cases hd
 ·refine⟨wl,v,zs,q2,(Rh q3 _).trans r3,q4,?_,?_⟩
  ·rw[self];exact hrow.appended r2 hwf
  ·rw[self]
   rcases r5 with r5 | r5
   ·exact .inl r5
   ·exact .inr ⟨_,r5,q3.size⟩
end
def AncD (l:List Oper) (D:Nat→Bool):Prop:=∀ i o,l[i]? =some o→D i=true→∀ x∈gh o,D x=true
theorem AncD.step {l:List Oper} {D:Nat→Bool} {i:Nat} {o:Oper} (h:AncD l D) (ho:l[i]? =some o) (hDe:∀ x∈gh o,D x=true):AncD l (fun j=>if j=i then true else D j):=by
 intro j o' ho' hj y hy
 show (if y=i then true else D y)=true
 by_cases e1:y=i
 ·rw[if_pos e1]
 ·rw[if_neg e1]
  by_cases e2:j=i
  ·subst e2
   rw[ho] at ho';cases ho'
   exact hDe y hy
  ·have:D j=true:=by simpa [e2] using hj
   exact h j o' ho' this y hy
structure RoundOps (T S:Nat) (R:Nat→Nat) (tm tk tx:Nat) (l:List Oper):Prop where
 len:l.length=9
 g:∀ o∈l,o.guard=none
 e:∀ i o,l[i]? =some o→∀ x∈gh o,x < i
 o0:∀ o,l[0]? =some o→o.op= .load T (.tmp tm)∧o.dst=some (R 0)
 o1:∀ o,l[1]? =some o→o.op= .move (.tmp tk)∧o.dst=some (R 1)
 o2:∀ o,l[2]? =some o→o.op= .load T (.tmp tm)∧o.dst=some (R 2)
 o3:∀ o,l[3]? =some o→o.op= .move (.tmp tk)∧o.dst=some (R 3)
 o4:∀ o,l[4]? =some o→o.op= .lookup T (.tmp (R 2)) (.tmp (R 3)) false∧o.dst=some (R 4)∧2∈gh o∧3∈gh o
 o5:∀ o,l[5]? =some o→o.op= .move (.tmp tx)∧o.dst=some (R 5)
 o6:∀ o,l[6]? =some o→o.op= .buildSlice S 1 #[(0,.tmp (R 5))]∧o.dst=some (R 6)∧5∈gh o
 o7:∀ o,l[7]? =some o→(∃ ty,o.op= .call { callee:= .builtin .append,args:= #[.tmp (R 4),.tmp (R 6)],argTypes:= #[S,S] }∧o.type=ty)∧o.dst=some (R 7)∧4∈gh o∧6∈gh o
 o8:∀ o,l[8]? =some o→o.op= .mapUpdate T (.tmp (R 0)) (.tmp (R 1)) (.tmp (R 7))∧o.dst=none∧0∈gh o∧1∈gh o∧7∈gh o
end
end Go.Abs
namespace Go.Abs
variable {G:List (Nat×List PV)}
open Go.RowKit
open Go.ChangeShapes
open Classical in
section
variable {ro:Option Nat} {P:Program} {s:St} {Q:Exit→Act→World→Prop} {all rest:List Oper} {o:Oper} {c:Cx G}
end
end Go.Abs

/- A region that draws its order, of which one operation waits for all others: it comes last. -/
namespace Go.Abs
variable {G:List (Nat×List PV)}
open Go.RowKit
section
variable {ro:Option Nat} {P:Program} {c:Cx G} {Q:Exit→Act→World→Prop} {s s':St}
theorem Gq {id n next ys:Nat} {kt:List Nat} {df:List Deferred} {l:List Oper} {ol:Oper} (es:List Eff) (m0:Mid) (hm:P.follows .mixedOrders=true) (hs0:s=m0.st n df next ys kt) (hF:rY ro P c (l++[ol]) n df next ys kt l es) (hT:yv es m0) (hB:AE l es=true)
  (hG:((l++[ol]).all fun o=>o.guard.isNone)=true) (hL:((List.range l.length).all fun i=>Nat.testBit ((P8 (l++[ol]) []).getD l.length 0) i)=true) (hE:((gh ol).all fun x=>Nat.blt x l.length)=true)
  (ho:dx ro P c ol ((fm (fun _=>true) 0 es m0).st n df next ys kt) s') (h:iv c Q .normal s'):AW ro P c (.region id (l++[ol]).toArray true) Q s:=by
 subst hs0
 obtain⟨hlen,hfact⟩:=vg hF
 obtain⟨hEdge,hClash,hNames⟩:=AZ hB
 have hg0:∀ o∈l++[ol],o.guard=none:=fun o ho=>by
  have:=List.all_eq_true.1 hG o ho
  exact Option.isNone_iff_eq_none.1 this
 have hlast:∀ i,i < l.length→Anc (l++[ol]) i l.length:=fun i hi=>
  xx (l++[ol]) i (l++[ol]) [] [] rfl rfl (by intro j h;simp at h) _ (List.all_eq_true.1 hL i (List.mem_range.2 hi))
 have hlt:∀ x∈gh ol,x < l.length:=fun x hx=>by
  have:=List.all_eq_true.1 hE x hx
  simpa [Nat.blt_eq] using this
 have hat:∀ i o,(l++[ol])[i]? =some o→(i < l.length∧l[i]? =some o)∨(i=l.length∧o=ol):=fun i o ho=>by
  rw[List.getElem?_append] at ho
  split at ho
  ·rename_i hi;exact .inl ⟨hi,ho⟩
  ·rename_i hi
   have h1:i - l.length=0:=by
    rcases Nat.eq_zero_or_pos (i - l.length) with h1 | h1
    ·exact h1
    ·rw[List.getElem?_eq_none (by simp;omega)] at ho;cases ho
   rw[h1] at ho
   simp at ho
   exact .inr ⟨by omega,ho.symm⟩
 refine VL hm (fun i o ho x hx=> ?_) hg0 (fun D a w=>(D l.length=false∧AncD l D∧Sim c ((fm D 0 es m0).st n df next ys kt) a w)∨((∀ j,j≤l.length→D j=true)∧Sim c s' a w)) ?_ ?_ ?_
 ·rcases hat i o ho with⟨_,ho⟩ | ⟨rfl,rfl⟩
  ·exact hEdge i o ho x hx
  ·exact hlt x hx
 ·intro a w hs
  exact .inl ⟨rfl,fun _ _ _ h=>(by cases h),by rw[ql];exact hs⟩
 ·intro D i o a w ho0 hiF hafter hinv K Q2 hK
  rcases hinv with⟨hDl,hd,hs⟩ | ⟨hall,_⟩
  case inr=>
   rw[hall i (by rcases hat i o ho0 with⟨h1,_⟩ | ⟨h1,_⟩<;>omega)] at hiF;cases hiF
  rcases hat i o ho0 with⟨hil,ho'⟩ | ⟨rfl,rfl⟩
  ·have down:∀ i j,Anc l i j→D j=true→D i=true:=by
    intro i j ha
    induction ha with
    | one j o e ho he hb hi=>intro hj;rw[← hi];exact hd j o ho hj e.on (il.2 ⟨e,he,hb,rfl⟩)
    | more j o e ho he hb _ ih=>intro hj;exact ih (hd j o ho hj e.on (il.2 ⟨e,he,hb,rfl⟩))
   have hafter:∀ e2∈o.after,Region.binds .any e2=true→D e2.on=true:=fun e2 he2 hb2=>hafter e2.on (il.2 ⟨e2,he2,hb2,rfl⟩)
   obtain⟨e,he⟩:∃ e,es[i]? =some e:=⟨es[i]'(by omega),List.getElem?_eq_getElem (by omega)⟩
   let D2:Nat→Bool:=fun j=>if j=i then true else D j
   have hset:∀ j,D2 j=if j=i then true else D j:=fun _=>rfl
   -- all that it waits for is listed
   have hanc:∀ j,Anc l j i→D j=true:=by
    intro j hj
    cases hj with
    | one _ o2 e2 ho2 he2 hb2 hi2=>
     rw[ho'] at ho2;cases ho2
     rw[← hi2];exact hafter e2 he2 hb2
    | more _ o2 e2 ho2 he2 hb2 h3=>
     rw[ho'] at ho2;cases ho2
     exact down j e2.on h3 (hafter e2 he2 hb2)
   -- whoever clashes with it is listed just if it stands ahead of it
   have agree:∀ j ej,es[j]? =some ej→(j≠i→fy e ej=true∧fy ej e=true)→D (0+j)=Nat.blt (0+j) (0+i):=by
    intro j ej hj hcl
    simp only[Nat.zero_add]
    by_cases hji:j=i
    ·subst hji;rw[hiF];simp[Nat.blt_eq,Bool.eq_false_iff]
    ·obtain⟨c1,c2⟩:=hcl hji
     rcases Nat.lt_or_gt_of_ne hji with hlt | hlt
     ·rw[hanc j (hClash j i ej e hlt hj he c2)]
      rw[eq_comm];simpa [Nat.blt_eq] using hlt
     ·have hA:=hClash i j e ej hlt he hj c1
      have:D j=false:=by
       cases hb:D j with
       | false=>rfl
       | true=>have:=down i j hA hb;rw[hiF] at this;cases this
      rw[this];symm;rw[Bool.eq_false_iff];simp[Nat.blt_eq];omega
   have clT:∀ (t:Nat) (a b:Eff),t∈wT a→(t∈wT b∨t∈rT b)→fy a b=true∧fy b a=true:=by
    intro t a b ha hb
    constructor
    ·simp only[fy,Bool.or_eq_true,List.any_eq_true]
     exact .inl (.inl (.inl ⟨t,ha,by simpa using hb⟩))
    ·rcases hb with hb | hb
     ·simp only[fy,Bool.or_eq_true,List.any_eq_true]
      exact .inl (.inl (.inl ⟨t,hb,by simp[ha]⟩))
     ·simp only[fy,Bool.or_eq_true,List.any_eq_true]
      exact .inl (.inl (.inr ⟨t,ha,by simpa using hb⟩))
   have clH:∀ (t:Nat) (a b:Eff),t∈wH a→(t∈wH b∨t∈rH b)→fy a b=true∧fy b a=true:=by
    intro t a b ha hb
    constructor
    ·simp only[fy,Bool.or_eq_true,List.any_eq_true]
     exact .inl (.inr ⟨t,ha,by simpa using hb⟩)
    ·rcases hb with hb | hb
     ·simp only[fy,Bool.or_eq_true,List.any_eq_true]
      exact .inl (.inr ⟨t,hb,by simp[ha]⟩)
     ·simp only[fy,Bool.or_eq_true,List.any_eq_true]
      exact .inr ⟨t,ha,by simpa using hb⟩
   have hhas0:=vq es 0 m0 hT i e he
   rw[Ax] at hhas0
   have hhas:Has e (fm D 0 es m0):=by
    refine⟨HasT.iff.2 fun t x hx=> ?_,HasH.iff.2 fun t x hx=> ?_,HasN.iff.2 fun k hk=> ?_⟩
    ·rw[tH (q:=fun j=>Nat.blt j (0+i)) es 0 m0 m0 rfl (fun j ej hj ht=>agree j ej hj fun _=>(clT t ej e ht (.inr (List.mem_map.2 ⟨_,hx,rfl⟩))).symm)]
     exact HasT.iff.1 hhas0.1 t x hx
    ·rw[tA (q:=fun j=>Nat.blt j (0+i)) es 0 m0 m0 rfl (fun j ej hj ht=>agree j ej hj fun _=>(clH t ej e ht (.inr (List.mem_map.2 ⟨_,hx,rfl⟩))).symm)]
     exact HasH.iff.1 hhas0.2.1 t x hx
    ·rw[qo (q:=fun j=>Nat.blt j (0+i)) es 0 m0 m0 Iff.rfl (fun j ej hj ht=>agree j ej hj fun _=>(clH k ej e (hNames ej (List.mem_of_getElem? hj) k ht) (.inl (hNames e (List.mem_of_getElem? he) k hk))).symm)]
     exact HasN.iff.1 hhas0.2.2 k hk
   have hstep:=hfact i o e ho' he _ hhas
   -- the state behind it
   have himp:Imp c ((e.apply (fm D 0 es m0)).st n df next ys kt) ((fm D2 0 es m0).st n df next ys kt):=by
    have later:∀ j ej,i < j→es[j]? =some ej→(fy e ej=true)→D2 (0+j)=false:=by
     intro j ej hlt hj c1
     rw[Nat.zero_add,hset,if_neg (by omega)]
     cases hb:D j with
     | false=>rfl
     | true=>have:=down i j (hClash i j e ej hlt he hj c1) hb;rw[hiF] at this;cases this
    refine EO rfl rfl rfl rfl (fun t x hx=> ?_) (fun t x hx=> ?_) (fun k hk=> ?_)
    ·by_cases ht:t∈wT e
     ·have:=xG (q:=D2) es 0 i m0 (fm D 0 es m0) e he (by simp only[Nat.zero_add];rw[hset,if_pos rfl]) ht (fun j ej hlt hj htj=>later j ej hlt hj (clT t e ej ht (.inl htj)).1)
      exact this.symm.trans hx
     ·show look t (e.apply _).fr=some x
      rw[nW ht,← hx]
      refine(tH es 0 m0 m0 rfl fun j ej hj htj=> ?_).symm
      rw[hset,if_neg (fun e'=> ?_)]
      rw[Nat.zero_add] at e';subst e'
      rw[he] at hj;cases hj
      exact ht htj
    ·by_cases ht:t∈wH e
     ·have:=sn (q:=D2) es 0 i m0 (fm D 0 es m0) e he (by simp only[Nat.zero_add];rw[hset,if_pos rfl]) ht (fun j ej hlt hj htj=>later j ej hlt hj (clH t e ej ht (.inl htj)).1)
      exact this.symm.trans hx
     ·show look t (e.apply _).hp=some x
      rw[nQ ht,← hx]
      refine(tA es 0 m0 m0 rfl fun j ej hj htj=> ?_).symm
      rw[hset,if_neg (fun e'=> ?_)]
      rw[Nat.zero_add] at e';subst e'
      rw[he] at hj;cases hj
      exact ht htj
    ·show k∈(e.apply _).free
     have hk':k∈(fm D2 0 es m0).free:=hk
     obtain⟨_,hkn⟩:=rM es 0 m0 hk'
     have hke:k ∉ e.names:=hkn i e he (by simp only[Nat.zero_add];rw[hset,if_pos rfl])
     rw[sG hke]
     refine(qo es 0 m0 m0 Iff.rfl fun j ej hj htj=> ?_).1 hk'
     rw[hset,if_neg (fun e'=> ?_)]
     rw[Nat.zero_add] at e';subst e'
     rw[he] at hj;cases hj
     exact hke htj
   have hnext:∀ a' w',Sim c ((e.apply (fm D 0 es m0)).st n df next ys kt) a' w'→K a' w':=fun a' w' hs'=>
    hK a' w' (.inl ⟨by show (if l.length=i then true else D l.length)=false;rw[if_neg (by omega)];exact hDl,hd.step ho' (fun x hx=>by
     obtain⟨e2,he2,hb2,rfl⟩:=il.1 hx
     exact hafter e2 he2 hb2),himp a' w' hs'⟩)
   obtain⟨O,θ,hsAt⟩:=hs
   rcases hstep with⟨_,hop⟩ | ⟨hg,_⟩
   ·exact hop a w ⟨O,θ,hsAt⟩ _ _ hnext
   ·have h1:=lG hsAt hg
    have h2:Region.wanted o (yielded (l++[ol]).toArray a.tmps)=true:=by unfold Region.wanted;rw[hg0 o (List.mem_of_getElem? ho0)]
    rw[h2] at h1;cases h1
  ·have down:∀ i j,Anc (l++[o]) i j→(D j=true∨j=l.length)→D i=true:=by
    have dn:∀ j o' e,(l++[o])[j]? =some o'→e∈o'.after→Region.binds .any e=true→(D j=true∨j=l.length)→D e.on=true:=by
     intro j o' e ho' he hb hj
     rcases hat j o' ho' with⟨h1,h2⟩ | ⟨rfl,rfl⟩
     ·rcases hj with hj | hj
      ·exact hd j o' h2 hj e.on (il.2 ⟨e,he,hb,rfl⟩)
      ·omega
     ·exact hafter e.on (il.2 ⟨e,he,hb,rfl⟩)
    intro i j ha
    induction ha with
    | one j o' e ho' he hb hi=>intro hj;rw[← hi];exact dn j o' e ho' he hb hj
    | more j o' e ho' he hb _ ih=>intro hj;exact ih (.inl (dn j o' e ho' he hb hj))
   have hall:∀ j,j < l.length→D j=true:=fun j hj=>down j _ (hlast j hj) (.inr rfl)
   have e1:fm D 0 es m0=fm (fun _=>true) 0 es m0:=oZ es 0 m0 fun j hj=>by rw[Nat.zero_add];exact hall j (by omega)
   rw[e1] at hs
   exact ho a w hs K Q2 fun a' w' hs'=>hK a' w' (.inr ⟨fun j hj=>by
    show (if j=l.length then true else D j)=true
    by_cases h1:j=l.length
    ·rw[if_pos h1]
    ·rw[if_neg h1];exact hall j (by omega),hs'⟩)
 ·intro D a w hall hinv
  rcases hinv with⟨hDl,_⟩ | ⟨_,hs⟩
  ·rw[hall l.length (by simp)] at hDl;cases hDl
  ·exact h a w hs
end
section
variable {ro:Option Nat} {P:Program} {c:Cx G} {Q:Exit→Act→World→Prop} {s s':St}
theorem OH {id n next ys:Nat} {kt:List Nat} {df:List Deferred} {l:List Oper} {o:Oper} {m0 m:Mid} {es:List Eff} (hm:P.follows .mixedOrders=true) (hs0:s=m0.st n df next ys kt) (ho:dx ro P c o (m.st n df next ys kt) s') (hB:AE l.dropLast es.reverse=true)
  (hG:(l.all fun o=>o.guard.isNone)=true) (hL:((List.range (l.length - 1)).all fun i=>Nat.testBit ((P8 l []).getD (l.length - 1) 0) i)=true) (hE:((gh o).all fun x=>Nat.blt x (l.length - 1))=true) (h:iv c Q .normal s'):DrW ro P c Q s id l n df next ys kt m0 es [o] m:=by
 rintro ⟨pre,h1,h2⟩ h3 h4
 subst h1
 have hF:=h2 [] [] trivial
 have hT:=h3 [] trivial
 rw[List.append_nil] at hT
 rw[List.append_nil,List.append_nil] at hF
 rw[List.dropLast_concat] at hB
 rw[show (pre++[o]).length - 1=pre.length by simp] at hL hE
 exact Gq es.reverse m0 hm hs0 hF hT hB hG hL hE (by rw[h4];exact ho) h
end
def Tu (x:List UInt8) (n:Int):Option (List UInt8):=if 0≤n∧n≤9223372036854775807∧x.length * n.toNat≤140737488355328 then some (Lib.repeatL x n.toNat) else none
theorem Qe {P:Program} {f:Nat} (h1:∀ (s:ByteArray) (c:Nat) (w:World),c≤9223372036854775807→s.size * c≤140737488355328→Calls P f #[.string s,.int .i64 c] w fun e w'=>e= .returned (.string ⟨(Lib.repeatL s.data.toList c).toArray⟩)∧Below w.heap.size w w')
  {x r:List UInt8} {n:Int} (hr:Tu x n=some r):Fn G P f [.str x,.int .i64 n] [.p (.str r)]:=by
 intro w O vs hO _ hsz hrd
 obtain⟨v0,v1,rfl⟩:=vs2 hsz
 have e0:=CY (hrd 0 _ v0 rfl rfl)
 have e1:v1= .int .i64 n:=by
  have h:=hrd 1 _ v1 rfl rfl
  cases h;rfl
 subst e0
 subst e1
 unfold Tu at hr
 split at hr
 ·rename_i hb
  obtain⟨b1,b2,b3⟩:=hb
  cases hr
  have hn:((n.toNat:Nat):Int)=n:=Int.toNat_of_nonneg b1
  have hc:=h1 ⟨x.toArray⟩ n.toNat w (by omega) (by simpa [ByteArray.size] using b3)
  rw[hn] at hc
  refine hc.mono ?_
  rintro e w' ⟨rfl,hB⟩
  refine⟨_,O,rfl,xf hB,fun _ h=>h,?_⟩
  exact Rd.str _
 ·cases hr
end Go.Abs

/- A method value: a function with its receiver; it writes through the receiver. -/
namespace Go.Abs
variable {G:List (Nat×List PV)}
open Go.RowKit
section
variable {ro:Option Nat} {P:Program} {c:Cx G} {s:St} {o:Oper} {d:Option Nat}
theorem IQ {f:Nat} {fst:List Operand} {xs:List AV} (ho:o.op= .makeFunc (.func f) fst.toArray #[]) (hx:evl s fst=some xs) (hd:o.dst=d) (hn:dOk s d=true):dx ro P c o s (s.put d (some (.mv f xs))):=
 cd hd hn (by rw[ho];intro k h;cases h) fun a w O θ hs=>by
  obtain⟨h1,h2⟩:=wm hs hx
  exact⟨.func (.func f) (fst.map a.eval).toArray #[],by simp[execOp,ho,Instr.makeFunc],.mv f xs _ (by simp[h1]) (fun i x u hx hu=>h2 i x u hx (by simpa using hu))⟩
theorem AF {fo:Operand} {xs:List Operand} {ts:Array TypeId} {f:Nat} {fst asx args:List AV} {hp hp':List (Nat×Option Blk)} {n n':Nat} {kb:List (Nat×Nat)} {rs:List AV} (L0 L1 drop:List Nat) (nx:Nat) (ho:o.op= .call { callee:= .value fo,args:=xs.toArray,argTypes:=ts }) (hf:ev s fo=some (.mv f fst)) (hx:evl s xs=some asx)
  (hcat:fst++asx=AV.mapL (fun i=>L0.getD i s.next) args) (hB:cT P f=true) (h:FnW G P f args hp n kb rs hp' n') (hn0:L0.length=n) (hnd0:L0.Nodup) (hH:SubH s.hp (fun i=>L0.getD i s.next) hp)
  (hn1:L1.length=n') (hnd1:L1.Nodup) (hfr:FrL s L0 kb 0 L1) (hk:MB hp' n'=true) (hdr:PK hp hp' (fun i=>L0.getD i s.next) (fun i=>L1.getD i 0) drop=true) (hnx:Nat.ble s.next nx=true) (hnx1:L1.all (fun x=>Nat.blt x nx)=true)
  (hd:o.dst=d) (hn:dOk s d=true):dx ro P c o s ((s.callW hp' L1 drop nx).put d (some ((NI rs).map (fun i=>L1.getD i 0)))):=by
 rintro a w ⟨O,θ,hs⟩ K Q hK
 obtain⟨e1,e2⟩:=wm hs hx
 have hfv:=iO hs hf
 have hnone:θ s.next=none:=by
  cases h:θ s.next with
  | none=>rfl
  | some v=>have:=(hs.dom _ _ h).1;omega
 have hcaps:∃ us:Array Value,a.eval fo= .func (.func f) us #[]∧us.size=fst.length∧∀ (i:Nat) (x:AV) (u:Value),fst[i]? =some x→us[i]? =some u→RdA w O θ x u:=by
  generalize hfe:a.eval fo=fv at hfv
  cases hfv with
  | mv f' fst' us h1 h2=>exact⟨us,rfl,h1,h2⟩
 obtain⟨us,hfe,hus,hcr⟩:=hcaps
 refine⟨fun f _=>trivial,?_⟩
 have hrun:(execOp a.eval o).run P w= .ok (.enter f (us++(xs.map a.eval).toArray)) w:=by
  simp[execOp,ho,resolve,Deferred.ofValue,hfe,invoke,sh hB]
 rw[Oper.semAt_plain _ _ _ (by rw[ho];intro k h;cases h),hrun]
 refine⟨fun h=>by simp[FF,Fence.wide] at h,?_⟩
 have hlen:fst.length+asx.length=args.length:=by
  have:=congrArg List.length hcat
  rw[List.length_append,AV.mapL_length] at this
  exact this
 have harg:∀ (i:Nat) (x:AV) (u:Value),(fst++asx)[i]? =some x→(us++(xs.map a.eval).toArray)[i]? =some u→RdA w O θ x u:=by
  intro i x u hx hu
  rw[List.getElem?_append] at hx
  split at hx
  ·rename_i hi
   rw[Array.getElem?_append_left (by omega)] at hu
   exact hcr i x u hx hu
  ·rename_i hi
   rw[Array.getElem?_append_right (by omega)] at hu
   refine e2 _ x u hx ?_
   rw[hus] at hu
   simpa using hu
 have hlt0:∀ i v,θ (L0.getD i s.next)=some v→L0[i]? =some (L0.getD i s.next):=by
  intro i v hv
  rw[List.getD_eq_getElem?_getD] at hv ⊢
  cases h:L0[i]? with
  | none=>rw[h] at hv;simp only[Option.getD_none] at hv;rw[hnone] at hv;cases hv
  | some y=>rfl
 have hpre:PreW w O (fun i=>θ (L0.getD i s.next)) hp n:=by
  refine⟨fun i b hb=> ?_,fun i j bi bj vi vj g hi hj hvi hvj hgi hgj=> ?_,fun i v hv=> ?_,fun i v hv=>hs.one _ v hv⟩
  ·obtain⟨v,h1,h2,h3⟩:=hs.hp _ _ (SubH.spec hH i b (eo hb))
   exact⟨v,h1,h2.ren _ (fun _ _ h=>h),fun g hg=>⟨(h3 g hg).1,(h3 g hg).2.1⟩⟩
  ·have:=hs.inj _ _ _ _ vi vj g (SubH.spec hH i bi (eo hi)) (SubH.spec hH j bj (eo hj)) hvi hvj hgi hgj
   have h1:=hlt0 i vi hvi
   have h2:=hlt0 j vj hvj
   rw[this] at h1
   exact uB hnd0 i j _ h1 h2
  ·have:=hlt0 i v hv
   have:=(List.getElem?_eq_some_iff.1 this).1
   omega
 have hcall:=h w O (fun i=>θ (L0.getD i s.next)) (us++(xs.map a.eval).toArray) hs.olt (c.JG hs.jn) hpre (by
   have:(xs.map a.eval).toArray.size=asx.length:=by simpa using e1
   rw[Array.size_append,this,hus];exact hlen) (fun i x v hx hv=>by
  refine RdA.ren (fun i=>L0.getD i s.next) (fun _ _ h=>h) (harg i (x.map _) v ?_ hv) x rfl
  rw[hcat,AV.mapL_get,hx];rfl)
 refine CallsIn.mono (callsIn_wide (n:=0 - 1).2 hcall) ?_
 rintro e w' ⟨v,O',θ',rfl,he,hO1,hO2,hO3,hpre',hnew,hkb,hr⟩
 obtain⟨O2,θ2,g1,g2,g3⟩:=zJ hs L0 L1 drop nx hn0 hH hn1 hnd1 hfr hk hdr hnx hnx1 he hO1 hO2 hO3 hpre' hnew hkb
 subst hd
 refine hK _ _ ⟨O2,θ2,g1.put _ _ _ (yK hn) (yr hn) ?_⟩
 exact(hr.mono (Nat.le_refl _) (fun b _ hn=>⟨fun h=>hn (g2 b h),rfl⟩) (fun _ _ h=>h)).mapF _ g3
end
end Go.Abs

/- Texts that are built piece by piece, where the strings.Builder is the first part of a struct, and one more value stands behind it. -/
namespace Go.Abs
variable {G:List (Nat×List PV)}
open Go.RowKit
theorem vs3 {vs:Array Value} (h:vs.size=3):∃ a b c,vs= #[a,b,c]:=by
 obtain⟨l⟩:=vs
 match l,h with
 | [a,b,c],_=>exact⟨a,b,c,rfl⟩
theorem Bc {w:World} {b:Nat} {p v e u:Value} {T:TypeId} (h:w.heap[b]? =some (.cells #[p,v,e] T (0,0))):(w.setCell ⟨b,1,none⟩ u).heap[b]? =some (.cells #[p,u,e] T (0,0)):=by
 simp[World.setCell,Array.getElem?_modify,h]
theorem JB {w:World} {b:Nat} {p v e u:Value} {T:TypeId} (h:w.heap[b]? =some (.cells #[p,v,e] T (0,0))):(w.setCell ⟨b,0,none⟩ u).heap[b]? =some (.cells #[u,v,e] T (0,0)):=by
 simp[World.setCell,Array.getElem?_modify,h]
structure BldAtE (w:World) (O:Nat→Prop) (θ:Nat→Option Value) (B:TypeId) (q:PV) (x:List Int) (g:Nat) (p v e:Value):Prop where
 t0:θ 0=some (.pointer (some ⟨g,0,none⟩))
 t1:θ 1=some v
 heap:w.heap[g]? =some (.cells #[p,v,e] B (0,0))
 self:p= .pointer none∨p= .pointer (some ⟨g,0,none⟩)
 own:ownsW w 5 1 v x.length (x.map (.int .u8))
 og:O g
 ex:Rd w O q e
 exo:e.oneCell'=true
 ov:∀ k,bT v=some k→O k∧k < w.heap.size
theorem GI {w:World} {O:Nat→Prop} {θ:Nat→Option Value} {B:TypeId} {q:PV} {x:List Int} (h:PreW w O θ [(0,some (.box B [.bp 0,.ls 1,.pv q])),(1,some (.row 5 1 (x.map fun b=>[PV.int .u8 b])))] 2):∃ g p v e,BldAtE w O θ B q x g p v e:=by
 obtain⟨v0,h0,⟨g,us,rfl,hg,hs,hc⟩,ho⟩:=h.own 0 _ rfl
 obtain⟨v1,h1,⟨us1,hw,hr⟩,ho1⟩:=h.own 1 _ rfl
 obtain⟨p,v,e,rfl⟩:=vs3 hs
 have e0:=(hc 0 _ p rfl rfl).1
 have e1:=(hc 1 _ v rfl rfl).1
 have e2:=hc 2 _ e rfl rfl
 have hv:v=v1:=by
  cases e1 with
  | ls _ _ h=>rw[h1] at h;cases h;rfl
 subst hv
 refine⟨g,p,v,e,h0,h1,hg,?_,?_,(ho g rfl).1,jv e2.1,e2.2,ho1⟩
 ·cases e0 with
  | bp0 _=>exact .inl rfl
  | bp1 _ g' h=>rw[h0] at h;cases h;exact .inr rfl
 ·have:=OM hr
  rw[← this]
  simpa using hw
theorem Mb {P:Program} {f B:Nat} {q:PV} (hB:B≠5) (xa:AV) (xv:Value) (hx:∀ (w:World) (O:Nat→Prop) (θ:Nat→Option Value) v,RdA w O θ xa v→v=xv) (news:List Int) (rs:List AV) (res:Value)
  (hres:∀ (w:World) (O:Nat→Prop) (θ:Nat→Option Value),RdA w O θ (NI rs) res)
  (raw:∀ (b n:Nat) (p v e:Value) (xs:List Value) (w:World),w.heap[b]? =some (.cells #[p,v,e] B (0,0))→(p= .pointer none∨p= .pointer (some ⟨b,0,none⟩))→ownsW w 5 1 v n xs→n+news.length≤140737488355328→
   Calls P f #[.pointer (some ⟨b,0,none⟩),xv] w fun e' w'=>e'= .returned res∧∃ v',w'.heap[b]? =some (.cells #[.pointer (some ⟨b,0,none⟩),v',e] B (0,0))∧ownsW w' 5 1 v' (n+news.length) (xs++news.map (.int .u8))∧
    (bT v'=bT v∨∃ g,bT v'=some g∧w.heap.size≤g)∧BldFr b v w w') {x:List Int} (hlen:x.length+news.length≤140737488355328):
  FnW G P f [.lp 0 0,xa] [(0,some (.box B [.bp 0,.ls 1,.pv q])),(1,some (.row 5 1 (x.map fun b=>[PV.int .u8 b])))] 2 [(0,0)] rs [(0,some (.box B [.bp 0,.ls 1,.pv q])),(1,some (.row 5 1 ((x++news).map fun b=>[PV.int .u8 b])))] 2:=by
 intro w O θ vs hO _ hpre hsz hrd
 obtain⟨g,p,v,ev,hb⟩:=GI hpre
 obtain⟨a0,a1,rfl⟩:=vs2 hsz
 have e0:=hrd 0 _ a0 rfl rfl
 have e1:=hx _ _ _ _ (hrd 1 _ a1 rfl rfl)
 subst e1
 have ha0:a0= .pointer (some ⟨g,0,none⟩):=by
  cases e0 with
  | lp _ _ g' h=>rw[hb.t0] at h;cases h;rfl
 subst ha0
 refine(raw g x.length p v ev _ w hb.heap hb.self hb.own hlen).mono ?_
 rintro e w' ⟨rfl,v',hh,hown,hblk,hfr⟩
 have hgl:g < w.heap.size:=(Array.getElem?_eq_some_iff.1 hb.heap).1
 have hnv':bT v'≠some g:=od hown hh hB
 have hv'lt:∀ k,bT v'=some k→k < w'.heap.size:=by
  intro k hk
  rcases hown.2 with⟨rfl,_⟩ | ⟨g',cap,cur,rfl,_,hg',_⟩
  ·simp[bT] at hk
  ·simp only[bT,Option.some.injEq] at hk
   subst hk
   exact(Array.getElem?_eq_some_iff.1 hg').1
 have hv'one:v'.oneCell'=true:=by
  rcases hown.2 with⟨rfl,_⟩ | ⟨g',cap,cur,rfl,_,_⟩<;>rfl
 have hex:Rd w' (fun k=>O k∨bT v'=some k) q ev:=hb.ex.mono hfr.size fun k hk hn=>by
  refine⟨?_,hfr.block k hk (fun e=>hn (e ▸ hb.og)) fun e=>hn (hb.ov k e).1⟩
  rintro (h | h)
  ·exact hn h
  ·rcases hblk with h2 | ⟨g',h2,hge⟩
   ·exact hn (hb.ov k (by rw[← h2];exact h)).1
   ·rw[h] at h2;cases h2;omega
 have hH0:pu [(0,some (.box B [.bp 0,.ls 1,.pv q])),(1,some (.row 5 1 (x.map fun b=>[PV.int .u8 b])))] θ g:=⟨0,_,_,rfl,hb.t0,rfl⟩
 have hH1:∀ k,bT v=some k→pu [(0,some (.box B [.bp 0,.ls 1,.pv q])),(1,some (.row 5 1 (x.map fun b=>[PV.int .u8 b])))] θ k:=fun k hk=>⟨1,_,_,rfl,hb.t1,hk⟩
 refine⟨res,fun k=>O k∨bT v'=some k,fun i=>if i=0 then some (.pointer (some ⟨g,0,none⟩)) else if i=1 then some v' else none,rfl,⟨hfr.os,hfr.tape,hfr.output,hfr.size,fun k hk hn=>hfr.block k hk (fun e=>hn (e ▸ hH0)) (fun e=>hn (hH1 k e))⟩,
  fun k hk _=> .inl hk,?_,?_,?_,?_,?_,hres _ _ _⟩
 ·rintro k (hk | hk)
  ·exact Nat.lt_of_lt_of_le (hO k hk) hfr.size
  ·exact hv'lt k hk
 ·rintro k (hk | hk) hlt
  ·exact hk
  ·rcases hblk with h | ⟨g',h,hge⟩
   ·exact(hb.ov k (by rw[← h];exact hk)).1
   ·rw[hk] at h;cases h;omega
 ·refine⟨fun id bk hid=> ?_,fun i j bi bj vi vj k hi hj h1 h2 h3 h4=> ?_,fun id v2 hv=> ?_,fun id v2 hv=> ?_⟩
  ·by_cases h0:id=0
   ·subst h0
    cases hid
    refine⟨_,rfl,⟨g,#[.pointer (some ⟨g,0,none⟩),v',ev],rfl,hh,rfl,fun j c u hc hu=> ?_⟩,fun k hk=> ?_⟩
    ·match j,hc,hu with
     | 0,hc,hu=>cases hc;cases hu;exact⟨.bp1 0 g rfl,rfl⟩
     | 1,hc,hu=>cases hc;cases hu;exact⟨.ls 1 _ rfl,hv'one⟩
     | 2,hc,hu=>cases hc;cases hu;exact⟨.pv _ _ hex,hb.exo⟩
    ·cases hk;exact⟨.inl hb.og,Nat.lt_of_lt_of_le hgl hfr.size⟩
   ·by_cases h1:id=1
    ·subst h1
     cases hid
     refine⟨v',rfl,⟨(x++news).map (.int .u8),?_,Oi _ _ _⟩,fun k hk=>⟨.inr hk,hv'lt k hk⟩⟩
     rw[List.length_map,List.length_append,List.map_append]
     exact hown
    ·simp[look,Nat.beq_eq,h0,h1,Ne.symm h0,Ne.symm h1] at hid
     cases id with
     | zero=>exact absurd rfl h0
     | succ id=>cases id with
      | zero=>exact absurd rfl h1
      | succ id=>simp[Nat.beq] at hid
  ·have hi2:∀ (i:Nat) (b:Blk),look i ([(0,some (.box B [.bp 0,.ls 1,.pv q])),(1,some (.row 5 1 ((x++news).map fun b=>[PV.int .u8 b])))]:List (Nat×Option Blk))=some b→i=0∨i=1:=by
    intro i b hi
    cases i with
    | zero=>exact .inl rfl
    | succ i=>cases i with
     | zero=>exact .inr rfl
     | succ i=>simp[look,Nat.beq] at hi
   rcases hi2 i bi hi with rfl | rfl<;>rcases hi2 j bj hj with rfl | rfl
   ·rfl
   ·cases h1;cases h2;cases h3;exact absurd h4 hnv'
   ·cases h1;cases h2;cases h4;exact absurd h3 hnv'
   ·rfl
  ·show id < 2
   by_cases h0:id=0
   ·omega
   ·by_cases h1:id=1
    ·omega
    ·simp[h0,h1] at hv
  ·by_cases h0:id=0
   ·subst h0;cases hv;rfl
   ·by_cases h1:id=1
    ·subst h1;cases hv;exact hv'one
    ·simp[h0,h1] at hv
 ·rintro k ⟨id,bk,v2,h1,h2,h3⟩
  by_cases h0:id=0
  ·subst h0;cases h2;cases h3;exact .inl hH0
  ·by_cases h1':id=1
   ·subst h1'
    cases h2
    rcases hblk with h | ⟨g',h,hge⟩
    ·exact .inl (hH1 k (by rw[← h];exact h3))
    ·rw[h3] at h;cases h;exact .inr hge
   ·simp[h0,h1'] at h2
 ·intro ij hij
  simp at hij
  subst hij
  simp[hb.t0]
theorem RZ {P:Program} {f B:Nat} {q:PV} (raw:∀ (b:Nat) (p v e:Value) (l:List UInt8) (w:World),w.heap[b]? =some (.cells #[p,v,e] B (0,0))→ownsW w 5 1 v l.length (Lib.byteCells l)→
   Calls P f #[.pointer (some ⟨b,0,none⟩)] w fun e' w'=>e'= .returned (.string ⟨l.toArray⟩)∧BldFr b v w w') {x:List Int} {s:List UInt8} (hs:Gv x=some s):
  FnW G P f [.lp 0 0] [(0,some (.box B [.bp 0,.ls 1,.pv q])),(1,some (.row 5 1 (x.map fun b=>[PV.int .u8 b])))] 2 [] [.pv (.str s)] [] 0:=by
 intro w O θ vs hO _ hpre hsz hrd
 obtain⟨g,p,v,ev,hb⟩:=GI hpre
 have hx:x=bv s:=by
  unfold Gv at hs
  split at hs
  ·rename_i h;cases hs;exact h
  ·cases hs
 have hown:=hb.own
 have hlx:x.length=s.length:=by rw[hx];simp[bv]
 have hc:x.map (.int .u8)=Lib.byteCells s:=by rw[hx];simp[bv,Lib.byteCells]
 rw[hlx,hc] at hown
 obtain⟨a0,rfl⟩:∃ a0,vs= #[a0]:=by
  obtain⟨l⟩:=vs
  match l,hsz with
  | [a],_=>exact⟨a,rfl⟩
 have e0:=hrd 0 _ a0 rfl rfl
 have ha0:a0= .pointer (some ⟨g,0,none⟩):=by
  cases e0 with
  | lp _ _ g' h=>rw[hb.t0] at h;cases h;rfl
 subst ha0
 refine(raw g p v ev s w hb.heap hown).mono ?_
 rintro e w' ⟨rfl,hfr⟩
 refine⟨_,O,fun _=>none,rfl,⟨hfr.os,hfr.tape,hfr.output,hfr.size,fun k hk hn=>hfr.block k hk (fun e=>hn (e ▸ ⟨0,_,_,rfl,hb.t0,rfl⟩)) (fun e=>hn ⟨1,_,_,rfl,hb.t1,e⟩)⟩,
  fun k hk _=>hk,fun k hk=>Nat.lt_of_lt_of_le (hO k hk) hfr.size,fun k hk _=>hk,⟨fun id b h=>(by simp[look] at h),fun i j bi bj vi vj k hi=>(by simp[look] at hi),fun id v h=>(by cases h),fun id v h=>(by cases h)⟩,
  fun k ⟨id,b,v,h,_⟩=>(by simp[look] at h),fun ij h=>(by cases h),.pv _ _ (.str _)⟩
end Go.Abs

/- A region that draws its order, in which an operation that reads a block may come ahead of some that write it, between them, or behind. -/
namespace Go.Abs
variable {G:List (Nat×List PV)}
open Go.RowKit
def OX (p:Nat) (qs:List Nat) (masks:List Nat) (es:List Eff):Bool:=
 (List.range es.length).all fun j=>match es[j]? with
  | some ej=>(List.range j).all fun i=>match es[i]? with
   | some ei=> !(fy ei ej)||Nat.testBit (masks.getD j 0) i||(Nat.beq i p&&qs.elem j)
   | none=>true
  | none=>true
def CG (p:Nat) (qs:List Nat) (ops:List Oper) (es:List Eff):Bool:=Fm 0 ops&&(OX p qs (P8 ops []) es&&RH es)
theorem J2 {p:Nat} {qs:List Nat} {ops:List Oper} {es:List Eff} (h:CG p qs ops es=true):(∀ i o,ops[i]? =some o→∀ x∈gh o,x < i)∧(∀ i j ei ej,i < j→es[i]? =some ei→es[j]? =some ej→fy ei ej=true→¬ (i=p∧j∈qs)→Anc ops i j)∧∀ e∈es,∀ k∈e.names,k∈wH e:=by
 simp only[CG,Bool.and_eq_true] at h
 refine⟨fun i o ho x hx=>by have:=wh ops 0 h.1 i o ho x hx;omega,fun i j ei ej hij hi hj hc hn=> ?_,fun e he k hk=>by
  have:=List.all_eq_true.1 h.2.2 e he
  have:=List.all_eq_true.1 this k hk
  simpa using this⟩
 have h2:=h.2.1
 simp only[OX,List.all_eq_true,List.mem_range] at h2
 have hjl:j < es.length:=(List.getElem?_eq_some_iff.1 hj).1
 have:=h2 j hjl
 rw[hj] at this
 simp only[List.all_eq_true,List.mem_range] at this
 have:=this i hij
 rw[hi] at this
 simp only[hc,Bool.not_true,Bool.false_or,Bool.or_eq_true,Bool.and_eq_true] at this
 rcases this with h3 | ⟨h3,h4⟩
 ·exact xx ops i ops [] [] rfl rfl (by intro j h;simp at h) j h3
 ·exact(hn ⟨Nat.eq_of_beq_eq_true h3,by simpa using h4⟩).elim
section
variable {ro:Option Nat} {P:Program} {c:Cx G} {Q:Exit→Act→World→Prop} {s s':St}
theorem Qk {id n next ys:Nat} {kt:List Nat} {df:List Deferred} {l:List Oper} (es:List Eff) (m0:Mid) (p hid:Nat) (qs:List Nat) {ep:Eff} {op:Oper} (hp:es[p]? =some ep) (hop:l[p]? =some op) (hQ:∀ q∈qs,∃ eq2 bE,es[q]? =some eq2∧p < q∧exB hid ep eq2=true∧look hid eq2.upd=some bE∧∀ m:Mid,Has { ep with hneed:=[(hid,bE)] } m→uY ro P c l op (m.st n df next ys kt) ((ep.apply m).st n df next ys kt)) (hq0:qs≠[])
   (hm:P.follows .mixedOrders=true) (hs0:s=m0.st n df next ys kt) (hF:rY ro P c l n df next ys kt l es) (hT:yv es m0) (hB:CG p qs l es=true)
  (h:iv c Q .normal ((fm (fun _=>true) 0 es m0).st n df next ys kt)):AW ro P c (.region id l.toArray true) Q s:=by
 subst hs0
 obtain⟨hlen,hfact⟩:=vg hF
 obtain⟨hEdge,hClash,hNames⟩:=J2 hB
 have hX:∀ q∈qs,∃ eq2,es[q]? =some eq2∧(∀ t∈wT ep,t ∉ wT eq2∧t ∉ rT eq2)∧∀ t∈wT eq2,t ∉ rT ep:=fun q hqm=>by
  obtain⟨eq2,bE,h1,h2,h3,h4,h5⟩:=hQ q hqm
  obtain⟨x1,x2,x3,x4,x5⟩:=Ma h3
  exact⟨eq2,h1,x4,x5⟩
 have x0:wH ep=[]∧rH ep=[hid]:=by
  cases hqs:qs with
  | nil=>exact absurd hqs hq0
  | cons q _=>
   obtain⟨eq2,bE,h1,h2,h3,h4,h5⟩:=hQ q (by rw[hqs];simp)
   obtain⟨x1,x2,x3,x4,x5⟩:=Ma h3
   exact⟨x1,x3⟩
 obtain⟨x1,x3⟩:=x0
 -- whoever waits for one that is listed ..
 have key:∀ (fuel:Nat) (listed:Array Bool) (a:Act) (w:World),listed.size=l.length→(∀ j o e,l[j]? =some o→e∈o.after→Region.binds .any e=true→listed.getD j false=true→listed.getD e.on false=true)→
   ((List.range l.length).filter fun i=> !listed.getD i true).length≤fuel→Sim c ((fm (fun i=>listed.getD i false) 0 es m0).st n df next ys kt) a w→wpAnyIn (FF ro) 0 P .any l.toArray Q fuel listed a w:=by
  have getD_tf:∀ (listed:Array Bool) (i:Nat),i < listed.size→listed.getD i true=listed.getD i false:=fun listed i hi=>by simp[hi]
  have down:∀ (listed:Array Bool),(∀ j o e,l[j]? =some o→e∈o.after→Region.binds .any e=true→listed.getD j false=true→listed.getD e.on false=true)→∀ i j,Anc l i j→listed.getD j false=true→listed.getD i false=true:=by
   intro listed hd i j ha
   induction ha with
   | one j o e ho he hb hi=>intro hj;rw[← hi];exact hd j o e ho he hb hj
   | more j o e ho he hb _ ih=>intro hj;exact ih (hd j o e ho he hb hj)
  have finish:∀ (listed:Array Bool) (a:Act) (w:World),listed.size=l.length→Region.ready .any l.toArray listed=[]→Sim c ((fm (fun i=>listed.getD i false) 0 es m0).st n df next ys kt) a w→Q .normal a w:=by
   intro listed a w hsz hr hs
   have all:∀ i,i < l.length→listed.getD i false=true:=by
    intro i
    induction i using Nat.strongRecOn with
    | _ i ih=>
     intro hi
     cases hb:listed.getD i false with
     | true=>rfl
     | false=>
      exfalso
      have hmem:i∈Region.ready .any l.toArray listed:=by
       refine nC.2 ⟨by simpa using hi,by rw[getD_tf listed i (by omega)];exact hb,l[i],by simp[hi],fun e he hbd=> ?_⟩
       have hlt:=hEdge i l[i] (by simp[hi]) e.on (il.2 ⟨e,he,hbd,rfl⟩)
       exact ih e.on hlt (by omega)
      rw[hr] at hmem;cases hmem
   refine h a w ?_
   rw[← oZ (p:=fun i=>listed.getD i false) es 0 m0 (fun j hj=>by rw[Nat.zero_add];exact all j (by omega))]
   exact hs
  intro fuel
  induction fuel with
  | zero=>
   intro listed a w hsz hd hc hs
   have hr:Region.ready .any l.toArray listed=[]:=by
    rw[List.eq_nil_iff_forall_not_mem]
    intro i hi
    obtain⟨h1,h2,_⟩:=nC.1 hi
    have:i∈(List.range l.length).filter fun i=> !listed.getD i true:=List.mem_filter.2 ⟨by simpa using h1,by simp[h2]⟩
    have:=List.length_pos_of_mem this
    omega
   exact⟨hr,finish listed a w hsz hr hs⟩
  | succ fuel ih=>
   intro listed a w hsz hd hc hs
   refine⟨fun hr=>finish listed a w hsz hr hs,fun i hi=> ?_⟩
   obtain⟨h1,h2,o,ho,hafter⟩:=nC.1 hi
   have hil:i < l.length:=by simpa using h1
   have ho':l[i]? =some o:=by simpa using ho
   have hiF:listed.getD i false=false:=by rw[← getD_tf listed i (by omega)];exact h2
   obtain⟨e,he⟩:∃ e,es[i]? =some e:=⟨es[i]'(by omega),List.getElem?_eq_getElem (by omega)⟩
   have noT:∀ j ej t,es[j]? =some ej→t∈wT ej→(t∈wT e∨t∈rT e)→¬ (i=p∧j∈qs)∧¬ (i∈qs∧j=p):=by
    intro j ej t hj ht ht2
    refine⟨?_,?_⟩
    ·rintro ⟨rfl,hm⟩
     obtain⟨eq2,hq,x4,x5⟩:=hX j hm
     rw[hp] at he;cases he
     rw[hq] at hj;cases hj
     rcases ht2 with h | h
     ·exact(x4 t h).1 ht
     ·exact x5 t ht h
    ·rintro ⟨hm,rfl⟩
     obtain⟨eq2,hq,x4,x5⟩:=hX i hm
     rw[hq] at he;cases he
     rw[hp] at hj;cases hj
     rcases ht2 with h | h
     ·exact(x4 t ht).1 h
     ·exact(x4 t ht).2 h
   have noH:∀ j ej t,es[j]? =some ej→t∈wH ej→t∈wH e→¬ (i=p∧j∈qs)∧¬ (i∈qs∧j=p):=by
    intro j ej t hj ht ht2
    refine⟨?_,?_⟩
    ·rintro ⟨rfl,_⟩
     rw[hp] at he;cases he
     rw[x1] at ht2;cases ht2
    ·rintro ⟨_,rfl⟩
     rw[hp] at hj;cases hj
     rw[x1] at ht;cases ht
   -- all that it waits for is listed
   have hanc:∀ j,Anc l j i→listed.getD j false=true:=by
    intro j hj
    cases hj with
    | one _ o2 e2 ho2 he2 hb2 hi2=>
     rw[ho'] at ho2;cases ho2
     rw[← hi2];exact hafter e2 he2 hb2
    | more _ o2 e2 ho2 he2 hb2 h3=>
     rw[ho'] at ho2;cases ho2
     exact down listed hd j e2.on h3 (hafter e2 he2 hb2)
   -- whoever clashes with it is listed just if it stands ahead of it
   have agree:∀ j ej,es[j]? =some ej→(j≠i→(fy e ej=true∧fy ej e=true)∧¬ (i=p∧j∈qs)∧¬ (i∈qs∧j=p))→listed.getD (0+j) false=Nat.blt (0+j) (0+i):=by
    intro j ej hj hcl
    simp only[Nat.zero_add]
    by_cases hji:j=i
    ·subst hji;rw[hiF];simp[Nat.blt_eq,Bool.eq_false_iff]
    ·obtain⟨⟨c1,c2⟩,nx1,nx2⟩:=hcl hji
     rcases Nat.lt_or_gt_of_ne hji with hlt | hlt
     ·rw[hanc j (hClash j i ej e hlt hj he c2 (fun h=>nx2 ⟨h.2,h.1⟩))]
      rw[eq_comm];simpa [Nat.blt_eq] using hlt
     ·have hA:=hClash i j e ej hlt he hj c1 nx1
      have:listed.getD j false=false:=by
       cases hb:listed.getD j false with
       | false=>rfl
       | true=>have:=down listed hd i j hA hb;rw[hiF] at this;cases this
      rw[this];symm;rw[Bool.eq_false_iff];simp[Nat.blt_eq];omega
   have clT:∀ (t:Nat) (a b:Eff),t∈wT a→(t∈wT b∨t∈rT b)→fy a b=true∧fy b a=true:=by
    intro t a b ha hb
    constructor
    ·simp only[fy,Bool.or_eq_true,List.any_eq_true]
     exact .inl (.inl (.inl ⟨t,ha,by simpa using hb⟩))
    ·rcases hb with hb | hb
     ·simp only[fy,Bool.or_eq_true,List.any_eq_true]
      exact .inl (.inl (.inl ⟨t,hb,by simp[ha]⟩))
     ·simp only[fy,Bool.or_eq_true,List.any_eq_true]
      exact .inl (.inl (.inr ⟨t,ha,by simpa using hb⟩))
   have clH:∀ (t:Nat) (a b:Eff),t∈wH a→(t∈wH b∨t∈rH b)→fy a b=true∧fy b a=true:=by
    intro t a b ha hb
    constructor
    ·simp only[fy,Bool.or_eq_true,List.any_eq_true]
     exact .inl (.inr ⟨t,ha,by simpa using hb⟩)
    ·rcases hb with hb | hb
     ·simp only[fy,Bool.or_eq_true,List.any_eq_true]
      exact .inl (.inr ⟨t,hb,by simp[ha]⟩)
     ·simp only[fy,Bool.or_eq_true,List.any_eq_true]
      exact .inr ⟨t,ha,by simpa using hb⟩
   have hhas0:=vq es 0 m0 hT i e he
   rw[Ax] at hhas0
   have hT':HasT (fm (fun i=>listed.getD i false) 0 es m0).fr e.need:=by
    refine HasT.iff.2 fun t x hx=> ?_
    have hr:t∈rT e:=List.mem_map.2 ⟨_,hx,rfl⟩
    rw[tH (q:=fun j=>Nat.blt j (0+i)) es 0 m0 m0 rfl (fun j ej hj ht=>agree j ej hj fun _=>⟨(clT t ej e ht (.inr hr)).symm,noT j ej t hj ht (.inr hr)⟩)]
    exact HasT.iff.1 hhas0.1 t x hx
   have hN':HasN (fm (fun i=>listed.getD i false) 0 es m0).free e.names:=by
    refine HasN.iff.2 fun k hk=> ?_
    have hw:k∈wH e:=hNames e (List.mem_of_getElem? he) k hk
    rw[qo (q:=fun j=>Nat.blt j (0+i)) es 0 m0 m0 Iff.rfl (fun j ej hj ht=>agree j ej hj fun _=>⟨(clH k ej e (hNames ej (List.mem_of_getElem? hj) k ht) (.inl hw)).symm,noH j ej k hj (hNames ej (List.mem_of_getElem? hj) k ht) hw⟩)]
    exact HasN.iff.1 hhas0.2.2 k hk
   have hstep:uY ro P c l o ((fm (fun i=>listed.getD i false) 0 es m0).st n df next ys kt) ((e.apply (fm (fun i=>listed.getD i false) 0 es m0)).st n df next ys kt):=by
    by_cases hsp:i=p∧∃ q∈qs,listed.getD q false=true
    ·obtain⟨rfl,hex⟩:=hsp
     obtain⟨q,hqm,hql,hmax⟩:∃ q∈qs,listed.getD q false=true∧∀ q'∈qs,q < q'→listed.getD q' false=false:=by
      have:∀ L:List Nat,(∃ q∈L,listed.getD q false=true)→∃ q∈L,listed.getD q false=true∧∀ q'∈L,q < q'→listed.getD q' false=false:=by
       intro L
       induction L with
       | nil=>rintro ⟨q,h,_⟩;simp at h
       | cons x L ihL=>
        rintro ⟨q,hq,hl⟩
        by_cases hL:∃ q∈L,listed.getD q false=true
        ·obtain⟨q1,h1,h2,h3⟩:=ihL hL
         by_cases hx1:listed.getD x false=true∧q1 < x
         ·refine⟨x,by simp,hx1.1,fun q' hq' hlt=> ?_⟩
          rcases List.mem_cons.1 hq' with rfl | hq'
          ·omega
          ·exact h3 q' hq' (by omega)
         ·refine⟨q1,by simp[h1],h2,fun q' hq' hlt=> ?_⟩
          rcases List.mem_cons.1 hq' with rfl | hq'
          ·cases hb:listed.getD q' false with
           | false=>rfl
           | true=>exact(hx1 ⟨hb,hlt⟩).elim
          ·exact h3 q' hq' hlt
        ·rcases List.mem_cons.1 hq with rfl | hq
         ·refine⟨q,by simp,hl,fun q' hq' hlt=> ?_⟩
          rcases List.mem_cons.1 hq' with rfl | hq'
          ·omega
          ·cases hb:listed.getD q' false with
           | false=>rfl
           | true=>exact(hL ⟨q',hq',hb⟩).elim
         ·exact(hL ⟨q,hq,hl⟩).elim
      exact this qs hex
     obtain⟨eq2,bE,hq,hpq,hx,hlook,hfact2⟩:=hQ q hqm
     rw[hp] at he;cases he
     rw[hop] at ho';cases ho'
     refine hfact2 _ ⟨hT',⟨?_,trivial⟩,hN'⟩
     have hwq:hid∈wH eq2:=by
      unfold wH
      have:=eo hlook
      exact List.mem_map.2 ⟨_,this,rfl⟩
     rw[sn (q:=fun i=>listed.getD i false) es 0 q m0 m0 eq2 hq (by simpa using hql) hwq (fun j ej hlt hj htj=>by
      rw[Nat.zero_add]
      by_cases hjm:j∈qs
      ·exact hmax j hjm hlt
      cases hb:listed.getD j false with
      | false=>rfl
      | true=>
       have hcl:fy ep ej=true:=(clH hid ej ep htj (.inr (by rw[x3];simp))).2
       have:=down listed hd i j (hClash i j ep ej (by omega) hp hj hcl (fun h=>hjm h.2)) hb
       rw[hiF] at this;cases this)]
     show look hid (eq2.upd++m0.hp)=some bE
     rcases qP hid eq2.upd m0.hp with⟨y,hy,he2⟩ | ⟨hno,_⟩
     ·rw[pG (m':=[]) hwq,List.append_nil];exact hlook
     ·exact(hno _ (eo hlook)).elim
    ·refine hfact i o e ho' he _ ⟨hT',HasH.iff.2 fun t x hx=> ?_,hN'⟩
     have hr:t∈rH e:=List.mem_map.2 ⟨_,hx,rfl⟩
     rw[tA (q:=fun j=>Nat.blt j (0+i)) es 0 m0 m0 rfl (fun j ej hj ht=>by
      by_cases hij:i=p∧j∈qs
      ·obtain⟨rfl,hjm⟩:=hij
       rw[Nat.zero_add,Nat.zero_add]
       have:listed.getD j false=false:=by
        cases hb:listed.getD j false with
        | false=>rfl
        | true=>exact(hsp ⟨rfl,j,hjm,hb⟩).elim
       obtain⟨_,_,_,hlt,_⟩:=hQ j hjm
       rw[this];symm;rw[Bool.eq_false_iff];simp[Nat.blt_eq];omega
      ·refine agree j ej hj fun _=>⟨(clH t ej e ht (.inr hr)).symm,hij,?_⟩
       rintro ⟨_,rfl⟩
       rw[hp] at hj;cases hj
       rw[x1] at ht;cases ht)]
     exact HasH.iff.1 hhas0.2.1 t x hx
   have hset:∀ j,(listed.setIfInBounds i true).getD j false=if j=i then true else listed.getD j false:=by
    intro j
    simp only[Array.getD_eq_getD_getElem?,Array.getElem?_setIfInBounds]
    by_cases hji:j=i
    ·subst hji;simp[show j < listed.size by omega]
    ·rw[if_neg (fun e=>hji e.symm),if_neg hji]
   -- the state behind it
   have himp:Imp c ((e.apply (fm (fun i=>listed.getD i false) 0 es m0)).st n df next ys kt) ((fm (fun j=>(listed.setIfInBounds i true).getD j false) 0 es m0).st n df next ys kt):=by
    have later:∀ j ej,i < j→es[j]? =some ej→(fy e ej=true)→¬ (i=p∧j∈qs)→(listed.setIfInBounds i true).getD (0+j) false=false:=by
     intro j ej hlt hj c1 nx1
     rw[Nat.zero_add,hset,if_neg (by omega)]
     cases hb:listed.getD j false with
     | false=>rfl
     | true=>have:=down listed hd i j (hClash i j e ej hlt he hj c1 nx1) hb;rw[hiF] at this;cases this
    refine EO rfl rfl rfl rfl (fun t x hx=> ?_) (fun t x hx=> ?_) (fun k hk=> ?_)
    ·by_cases ht:t∈wT e
     ·have:=xG (q:=fun j=>(listed.setIfInBounds i true).getD j false) es 0 i m0 (fm (fun i=>listed.getD i false) 0 es m0) e he (by simp only[Nat.zero_add];rw[hset,if_pos rfl]) ht (fun j ej hlt hj htj=>later j ej hlt hj (clT t e ej ht (.inl htj)).1 (noT j ej t hj htj (.inl ht)).1)
      exact this.symm.trans hx
     ·show look t (e.apply _).fr=some x
      rw[nW ht,← hx]
      refine(tH es 0 m0 m0 rfl fun j ej hj htj=> ?_).symm
      rw[hset,if_neg (fun e'=> ?_)]
      rw[Nat.zero_add] at e';subst e'
      rw[he] at hj;cases hj
      exact ht htj
    ·by_cases ht:t∈wH e
     ·have:=sn (q:=fun j=>(listed.setIfInBounds i true).getD j false) es 0 i m0 (fm (fun i=>listed.getD i false) 0 es m0) e he (by simp only[Nat.zero_add];rw[hset,if_pos rfl]) ht (fun j ej hlt hj htj=>later j ej hlt hj (clH t e ej ht (.inl htj)).1 (noH j ej t hj htj ht).1)
      exact this.symm.trans hx
     ·show look t (e.apply _).hp=some x
      rw[nQ ht,← hx]
      refine(tA es 0 m0 m0 rfl fun j ej hj htj=> ?_).symm
      rw[hset,if_neg (fun e'=> ?_)]
      rw[Nat.zero_add] at e';subst e'
      rw[he] at hj;cases hj
      exact ht htj
    ·show k∈(e.apply _).free
     have hk':k∈(fm (fun j=>(listed.setIfInBounds i true).getD j false) 0 es m0).free:=hk
     obtain⟨_,hkn⟩:=rM es 0 m0 hk'
     have hke:k ∉ e.names:=hkn i e he (by simp only[Nat.zero_add];rw[hset,if_pos rfl])
     rw[sG hke]
     refine(qo es 0 m0 m0 Iff.rfl fun j ej hj htj=> ?_).1 hk'
     rw[hset,if_neg (fun e'=> ?_)]
     rw[Nat.zero_add] at e';subst e'
     rw[he] at hj;cases hj
     exact hke htj
   have hnext:∀ a' w',Sim c ((e.apply (fm (fun i=>listed.getD i false) 0 es m0)).st n df next ys kt) a' w'→wpAnyIn (FF ro) 0 P .any l.toArray Q fuel (listed.setIfInBounds i true) a' w':=by
    intro a' w' hs'
    refine ih _ a' w' (by simpa using hsz) ?_ ?_ (himp a' w' hs')
    ·intro j o2 e2 ho2 he2 hb2 hj
     rw[hset] at hj ⊢
     by_cases hon:e2.on=i
     ·rw[if_pos hon]
     ·rw[if_neg hon]
      by_cases hji:j=i
      ·subst hji
       rw[ho'] at ho2;cases ho2
       exact hafter e2 he2 hb2
      ·rw[if_neg hji] at hj
       exact hd j o2 e2 ho2 he2 hb2 hj
    ·have hsub:((List.range l.length).filter fun j=> !(listed.setIfInBounds i true).getD j true).length+1≤((List.range l.length).filter fun j=> !listed.getD j true).length:=by
      have hg:∀ j,j < l.length→(listed.setIfInBounds i true).getD j true=if j=i then true else listed.getD j true:=by
       intro j hj
       rw[getD_tf _ j (by simp;omega),hset,getD_tf listed j (by omega)]
      have e1:((List.range l.length).filter fun j=> !(listed.setIfInBounds i true).getD j true)=((List.range l.length).filter fun j=> !listed.getD j true).filter fun j=> !(decide (j=i)):=by
       rw[List.filter_filter]
       refine List.filter_congr fun j hj=> ?_
       rw[hg j (by simpa using hj)]
       by_cases hji:j=i<;>simp[hji]
      rw[e1]
      have hmem:i∈(List.range l.length).filter fun j=> !listed.getD j true:=List.mem_filter.2 ⟨by simpa using hil,by simp[h2]⟩
      generalize ((List.range l.length).filter fun j=> !listed.getD j true)=L at hmem
      have:∀ L:List Nat,i∈L→(L.filter fun j=> !(decide (j=i))).length+1≤L.length:=by
       intro L
       induction L with
       | nil=>intro h;simp at h
       | cons x L ihL=>
        intro h
        by_cases hxi:x=i
        ·subst hxi
         have:=List.length_filter_le (fun j=> !(decide (j=x))) L
         simp;omega
        ·rcases List.mem_cons.1 h with h | h
         ·exact absurd h.symm hxi
         ·have:=ihL h
          simp[hxi];omega
      exact this L hmem
     omega
   obtain⟨O,θ,hsAt⟩:=hs
   unfold wpOpIn
   rw[ho]
   rcases hstep with⟨hg,hop⟩ | ⟨hg,hkt,heq⟩
   ·simp only[lG hsAt hg,if_true]
    exact hop a w ⟨O,θ,hsAt⟩ _ _ hnext
   ·simp only[lG hsAt hg,Bool.false_eq_true,if_false]
    refine⟨fun f _=>trivial,hnext _ _ ?_⟩
    rw[heq]
    exact⟨O,θ,hsAt.skipU _ (zf hkt)⟩
 rintro a w ⟨O,θ,hs⟩
 refine wpIn_region_any hm (key l.toArray.size _ a _ (by simp) ?_ ?_ ?_)
 ·intro j o e ho he hb hj
  simp[Array.getElem?_replicate] at hj
  split at hj<;>simp at hj
 ·have:=List.length_filter_le (fun i=> !(Array.replicate l.toArray.size false).getD i true) (List.range l.length)
  simpa using this
 ·have:fm (fun i=>(Array.replicate l.toArray.size false).getD i false) 0 es m0=m0:=by
   rw[oZ (q:=fun _=>false) es 0 m0 (fun j _=>by simp[Array.getElem?_replicate];split<;>rfl),ql]
  rw[this]
  exact⟨O,θ,hs.grownNone ⟨rfl,rfl,rfl,Nat.le_refl _,fun _ _ _=>rfl⟩⟩
def AllQ (ro:Option Nat) (P:Program) (c:Cx G) (l:List Oper) (op:Oper) (n next ys:Nat) (kt:List Nat) (df:List Deferred) (es:List Eff) (p hid:Nat) (ep:Eff):List Nat→Prop
 | []=>True
 | q::qs=>(∃ eq2 bE,es[q]? =some eq2∧Nat.blt p q=true∧exB hid ep eq2=true∧look hid eq2.upd=some bE∧∀ m:Mid,Has { ep with hneed:=[(hid,bE)] } m→uY ro P c l op (m.st n df next ys kt) ((ep.apply m).st n df next ys kt))∧AllQ ro P c l op n next ys kt df es p hid ep qs
theorem AllQ.spec {l:List Oper} {op:Oper} {n next ys:Nat} {kt:List Nat} {df:List Deferred} {es:List Eff} {p hid:Nat} {ep:Eff}:∀ {qs:List Nat},AllQ ro P c l op n next ys kt df es p hid ep qs→∀ q∈qs,∃ eq2 bE,es[q]? =some eq2∧p < q∧exB hid ep eq2=true∧look hid eq2.upd=some bE∧∀ m:Mid,Has { ep with hneed:=[(hid,bE)] } m→uY ro P c l op (m.st n df next ys kt) ((ep.apply m).st n df next ys kt)
 | q::qs,h,q',hq'=>by
  rcases List.mem_cons.1 hq' with rfl | hq'
  ·obtain⟨eq2,bE,h1,h2,h3⟩:=h.1
   exact⟨eq2,bE,h1,by simpa [Nat.blt_eq] using h2,h3⟩
  ·exact AllQ.spec h.2 q' hq'
theorem Oo {id n next ys:Nat} {kt:List Nat} {df:List Deferred} {l:List Oper} {m0 m:Mid} {es:List Eff} (p hid:Nat) (qs:List Nat) {ep:Eff} {op:Oper} (hm:P.follows .mixedOrders=true) (hs0:s=m0.st n df next ys kt) (hp:es.reverse[p]? =some ep) (hop:l[p]? =some op)
  (hq0:qs≠[]) (hQ:AllQ ro P c l op n next ys kt df es.reverse p hid ep qs) (hB:CG p qs l es.reverse=true)
  (h:iv c Q .normal (m.st n df next ys kt)):DrW ro P c Q s id l n df next ys kt m0 es [] m:=by
 rintro ⟨pre,h1,h2⟩ h3 h4
 have hF:=h2 [] [] trivial
 have hT:=h3 [] trivial
 rw[List.append_nil] at h1 hT
 rw[List.append_nil,List.append_nil,← h1] at hF
 exact Qk es.reverse m0 p hid qs hp hop hQ.spec hq0 hm hs0 hF hT hB (by rw[h4];exact h)
end
end Go.Abs

/- Parts of boxes that are looked at again. -/
namespace Go.Abs
def eqI (a b:Int):Option Unit:=if a=b then some () else none
theorem DM {a b:Int} {u:Unit} (h:eqI a b=some u):a=b:=by
 unfold eqI at h
 split at h
 ·assumption
 ·cases h
theorem Du (a:Int):eqI a a=some ():=by unfold eqI;rw[if_pos rfl]
section
variable {G:List (Nat×List PV)} {ro:Option Nat} {P:Program} {c:Cx G} {s:St} {o:Oper}
theorem MP {id nx:Nat} {b:Blk} {hp':List (Nat×Option Blk)} {drop:List Nat} {d:Option Nat} {v:Option AV} (hb:look id s.hp=some b) (h:dx ro P c o s ((s.callW hp' [id] drop nx).put d v)):
  dx ro P c o s (({ s.callW hp' [id] drop nx with free:=s.free }:St).put d v):=by
 intro a w hs
 have hf:s.free.filter (fun x=> !([id].elem x))=s.free:=by
  obtain⟨O,θ,h'⟩:=hs
  obtain⟨u,hu,_⟩:=h'.hp id b hb
  have hn:=(h'.dom id u hu).2
  refine List.filter_eq_self.2 fun x hx=> ?_
  have:x≠id:=fun e=>hn (e ▸ hx)
  simp[this]
 have e:({ s.callW hp' [id] drop nx with free:=s.free }:St)=s.callW hp' [id] drop nx:=by
  unfold St.callW
  rw[hf]
 rw[e]
 exact h a w hs
theorem Wb {id k nx:Nat} {b:Blk} {hp':List (Nat×Option Blk)} {drop:List Nat} {d:Option Nat} {v:Option AV} (hb:look id s.hp=some b) (h:dx ro P c o s ((s.callW hp' [id,k] drop nx).put d v)):
  dx ro P c o s (({ s.callW hp' [id,k] drop nx with free:=s.free.filter fun x=> !([k].elem x) }:St).put d v):=by
 intro a w hs
 have hf:s.free.filter (fun x=> !([id,k].elem x))=s.free.filter (fun x=> !([k].elem x)):=by
  obtain⟨O,θ,h'⟩:=hs
  obtain⟨u,hu,_⟩:=h'.hp id b hb
  have hn:=(h'.dom id u hu).2
  refine List.filter_congr fun x hx=> ?_
  have:x≠id:=fun e=>hn (e ▸ hx)
  simp[this]
 have e:({ s.callW hp' [id,k] drop nx with free:=s.free.filter fun x=> !([k].elem x) }:St)=s.callW hp' [id,k] drop nx:=by
  unfold St.callW
  rw[hf]
 rw[e]
 exact h a w hs
end
end Go.Abs

/- The arguments' readings with their bulk; a law's second row. -/
namespace Go.Abs
variable {G:List (Nat×List PV)}
open Go.ChangeShapes Go.WideShapes Go.ChangeAt Go.RowKit
structure Bk (H:Type) where
 bk:DataW H→Nat
 al:List (DataW H)→Nat
 str:∀ s,s.length+1≤bk (.lit (.string s))
 one:∀ d,1≤bk d
 sl:∀ e s,al e+1≤bk (.slice e s)
 ag:∀ l,al l+1≤bk (.agg l)
 nil:al []=0
 cons:∀ d l,al (d::l)=bk d+al l
def cw {α:Type} (u:α→Nat):List α→Nat
 | []=>0
 | x::l=>u x+cw u l
section
variable {H:Type} (K:Bk H) (enc:TypeId×Value→H) (P:Program) (w:World)
def qN (fuel:Nat) (T:TypeId) {α:Type} (e:α→List PV) (good:α→Prop) (u:α→Nat):Prop:=
 ∀ (cs:List Value) (x:DataW H×List MemPlace),DataW.trod enc P w 0 (fun _=>true) true fuel T cs=some x→∃ y,good y∧u y≤K.bk x.1∧Reads1 w (fun _=>False) cs (e y)
variable {K enc P w}
theorem P7 {fuel T:Nat} (h:P.underlying T=some .bool):qN K enc P w fuel T eB (fun _=>True) (fun _=>1):=fun cs x hx=>by
 obtain⟨y,h1,h2⟩:=QJ h cs x hx
 exact⟨y,h1,K.one _,h2⟩
theorem Qx {fuel T:Nat} (h:P.underlying T=some (.int .i64)):qN K enc P w fuel T eI tz (fun _=>1):=fun cs x hx=>by
 obtain⟨y,h1,h2⟩:=Uh h cs x hx
 exact⟨y,h1,K.one _,h2⟩
theorem SB {fuel T:Nat} (h:P.underlying T=some .string):qN K enc P w fuel T eS uC (fun s=>s.length+1):=fun cs x hx=>by
 obtain⟨s,rfl,rfl,hs⟩:=DataW.trod_string h hx
 refine⟨s.data.toList,by show s.data.toList.length≤maxLen;rw[Array.length_toList];exact hs,K.str _,mO ?_ rfl⟩
 have:=Rd.str (w:=w) (O:=fun _=>False) s.data.toList
 simpa using this
theorem Sq : ∀ (l:List (DataW H)) (ns:List Nat),ns.length=l.length→(∀ (i n:Nat) (d:DataW H),ns[i]? =some n→l[i]? =some d→n≤K.bk d)→cw id ns≤K.al l
 | [],[],_,_=>by rw[K.nil];exact Nat.le_refl _
 | d::l,n::ns,hl,h=>by
  rw[K.cons]
  simp only[cw,id]
  have h1:=h 0 n d rfl rfl
  have h2:=Sq l ns (by simpa using hl) (fun i n d hn hd=>h (i+1) n d (by simpa using hn) (by simpa using hd))
  omega
 | [],_::_,hl,_=>by simp at hl
 | _::_,[],hl,_=>by simp at hl
theorem Mg {α β:Type} (u:β→Nat) (f:α→β):∀ l:List α,cw u (l.map f)=cw (fun x=>u (f x)) l
 | []=>rfl
 | x::l=>by simp only[List.map_cons,cw,Mg u f l]
theorem S8 {α:Type} (u:α→Nat) (l:List α):cw id (l.map u)=cw u l:=by rw[Mg];rfl
theorem kn {fuel T E sz:Nat} {α:Type} {e:α→List PV} {good:α→Prop} {u:α→Nat} (h:P.underlying T=some (.slice E)) (hsz:P.cellsOf E=sz) (hz:Nat.blt 0 sz=true) (hlen:∀ y,(e y).length=sz) (hE:∀ n,n < fuel→qN K enc P w n E e good u):
  qN K enc P w fuel T (eL sz e) (jy good) (fun l=>cw u l+1):=fun cs x hx=>by
 -- the elements' own counts go along as a part of what is good
 have hz':0 < sz:=by simpa [Nat.blt_eq] using hz
 rcases DataW.trod_slice h hx with⟨rfl,rfl⟩ | ⟨a,len,cap,elems,rest,n,hf,rfl,rfl,_,h1,h2,h3,h4,h5⟩
 ·exact⟨[],⟨Nat.zero_le _,by simp⟩,K.one _,mO (.vs0 sz) rfl⟩
 ·have el:∀ i,i < len→∃ y cs' ei,elems[i]? =some ei∧u y≤K.bk ei.1∧good y∧w.cells? 0 (a.add (i * sz)) sz=some cs'∧Reads1 w (fun _=>False) cs' (e y):=by
   intro i hi
   have h6:=h4 i hi
   rw[hsz] at h6
   obtain⟨ei,hei⟩:∃ ei,elems[i]? =some ei:=⟨elems[i]'(by omega),List.getElem?_eq_getElem (by omega)⟩
   rw[hei] at h6
   obtain⟨cs',h7,h8⟩:=Option.bind_eq_some_iff.1 h6
   obtain⟨y,h9,h12,h13⟩:=hE n (by omega) cs' _ h8
   exact⟨y,cs',ei,hei,h12,h9,h7,h13⟩
  rcases Nat.eq_zero_or_pos len with h0 | h0
  ·subst h0
   exact⟨[],⟨Nat.zero_le _,by simp⟩,K.one _,mO (.vsz sz (some a) cap (fun e=>by cases e) h2) rfl⟩
  ·obtain⟨f,hfs⟩:∃ f:Nat→α,∀ i,i < len→∃ cs' ei,elems[i]? =some ei∧u (f i)≤K.bk ei.1∧good (f i)∧w.cells? 0 (a.add (i * sz)) sz=some cs'∧Reads1 w (fun _=>False) cs' (e (f i)):=by
    obtain⟨y0,_⟩:=el 0 h0
    refine⟨fun i=>if hi:i < len then(el i hi).choose else y0,fun i hi=> ?_⟩
    simp only[dif_pos hi]
    exact(el i hi).choose_spec
   -- the reading of the whole, by the rule without counts
   have hd:∃ y,(y=(List.range len).map f)∧Reads1 w (fun _=>False) [.slice (some a) len cap] (eL sz e y):=by
    have hsp:a.spot=none:=by
     obtain⟨cs',_,_,_,_,hc,_⟩:=hfs 0 h0
     obtain⟨_,hl,hcell⟩:=World.cells?_some hc
     have:=hcell 0 hz'
     obtain⟨v,hv⟩:∃ v,cs'[0]? =some v:=⟨cs'[0]'(by omega),List.getElem?_eq_getElem (by omega)⟩
     rw[hv] at this
     simpa [Addr.add] using World.cell?_spot this
    obtain⟨b,off,sp⟩:=a
    simp only at hsp;subst hsp
    refine⟨(List.range len).map f,rfl,mO ?_ rfl⟩
    have hL:(List.map e ((List.range len).map f)).length=len:=by simp
    have cellv:∀ k,k < len * sz→∃ v,w.cell? ⟨b,off+k,none⟩=some v∧∀ p,(e (f (k / sz)))[k % sz]? =some p→Rd w (fun _=>False) p v:=by
     intro k hk
     have hq:k / sz < len:=Nat.div_lt_of_lt_mul (by rw[Nat.mul_comm];exact hk)
     have hm:k % sz < sz:=Nat.mod_lt _ hz'
     obtain⟨cs',_,_,_,_,hc,hr⟩:=hfs (k / sz) hq
     obtain⟨_,hl,hcell⟩:=World.cells?_some hc
     have h6:=hcell (k % sz) hm
     have hv:cs'[k % sz]? =some (cs'[k % sz]'(by omega)):=List.getElem?_eq_getElem (by omega)
     refine⟨cs'[k % sz]'(by omega),?_,fun p hp=>hr.2.2 _ p _ hp hv⟩
     rw[hv] at h6
     have e1:off+k / sz * sz+k % sz=off+k:=by
      have:=Nat.div_add_mod k sz
      rw[Nat.mul_comm] at this
      omega
     simp only[Addr.add_lit] at h6
     rw[e1] at h6
     exact h6
    have hus:∃ us:Nat→Value,∀ k,k < len * sz→w.cell? ⟨b,off+k,none⟩=some (us k)∧∀ p,(e (f (k / sz)))[k % sz]? =some p→Rd w (fun _=>False) p (us k):=by
     refine⟨fun k=>if hk:k < len * sz then(cellv k hk).choose else undef,fun k hk=> ?_⟩
     simp only[dif_pos hk]
     exact(cellv k hk).choose_spec
    obtain⟨us,hus⟩:=hus
    have hb:b < w.heap.size:=by
     have h6:=(hus 0 (Nat.mul_pos h0 hz')).1
     rcases Nat.lt_or_ge b w.heap.size with h7 | h7
     ·exact h7
     ·simp[World.cell?,Array.getElem?_eq_none h7] at h6
    have:=Rd.vs (w:=w) (O:=fun _=>False) sz (List.map e ((List.range len).map f)) b off cap us (fun h=>h) hb (by rw[hL];omega) h2 (fun row hr=> ?_) (fun row hr c hc=> ?_) (fun k hk=> ?_) (fun i j row c hi hj=> ?_)
    ·rw[hL] at this;exact this
    ·obtain⟨y,_,rfl⟩:=List.mem_map.1 hr
     exact hlen y
    ·obtain⟨y,hy,rfl⟩:=List.mem_map.1 hr
     obtain⟨i,hi,rfl⟩:=List.mem_map.1 hy
     obtain⟨cs',_,_,_,_,_,hr⟩:=hfs i (by simpa using hi)
     exact hr.2.1 c hc
    ·rw[hL] at hk
     exact(hus k hk).1
    ·have hi':i < len:=by have:=(List.getElem?_eq_some_iff.1 hi).1;rw[hL] at this;exact this
     simp[hi'] at hi
     subst hi
     have hj':j < sz:=by have:=(List.getElem?_eq_some_iff.1 hj).1;rw[hlen] at this;exact this
     have h6:=(hus (i * sz+j) (qV hi' hj')).2 c
     have e1:(i * sz+j) / sz=i:=by rw[Nat.mul_comm,Nat.mul_add_div hz',Nat.div_eq_of_lt hj',Nat.add_zero]
     have e2:(i * sz+j) % sz=j:=by rw[Nat.mul_comm,Nat.mul_add_mod,Nat.mod_eq_of_lt hj']
     rw[e1,e2] at h6
     exact h6 hj
   obtain⟨y,rfl,hr⟩:=hd
   refine⟨(List.range len).map f,⟨by simp;omega,fun y hy=> ?_⟩,?_,hr⟩
   ·obtain⟨i,hi,rfl⟩:=List.mem_map.1 hy
    obtain⟨_,_,_,_,hg,_⟩:=hfs i (by simpa using hi)
    exact hg
   ·refine Nat.le_trans (Nat.succ_le_succ ?_) (K.sl _ _)
    rw[← S8]
    refine Sq _ _ (by simp[h3]) fun i n d hn hd=> ?_
    rw[List.map_map,List.getElem?_map,Option.map_eq_some_iff] at hn
    obtain⟨j,hj,rfl⟩:=hn
    have hji:j=i∧i < len:=by
     rw[List.getElem?_eq_some_iff] at hj
     obtain⟨h6,h7⟩:=hj
     simp at h6 h7
     exact⟨h7.symm,h6⟩
    obtain⟨rfl,hi⟩:=hji
    obtain⟨_,ei,h6,h7,_⟩:=hfs j hi
    rw[List.getElem?_map,h6] at hd
    simp at hd;subst hd
    exact h7
theorem pa {fuel T n:Nat} {l:List (TypeId×Nat×Nat)} {cs:List Value} {x:DataW H×List MemPlace} (h:J9 P T l n=true) (hx:DataW.trod enc P w 0 (fun _=>true) true fuel T cs=some x):
  ∃ (m:Nat) (xs:List (DataW H×List MemPlace)),m < fuel∧cs.length=n∧x.1= .agg (xs.map (·.1))∧xs.length=l.length∧∀ (i t off sz:Nat),l[i]? =some (t,off,sz)→∃ y,xs[i]? =some y∧DataW.trod enc P w 0 (fun _=>true) true m t ((cs.drop off).take sz)=some y:=by
 unfold J9 at h
 split at h
 ·rename_i fs hu
  simp only[Bool.and_eq_true,beq_iff_eq] at h
  obtain⟨rfl,rfl⟩:=h
  obtain⟨xs,m,hf,he,hl,hxs,hp⟩:=DataW.trod_struct hu hx
  refine⟨m,xs,by omega,hl,by rw[he],by simp[hxs],fun i t off sz hi=> ?_⟩
  rw[List.getElem?_map,Option.map_eq_some_iff] at hi
  obtain⟨f,hfi,he⟩:=hi
  injection he with e1 e2;injection e2 with e2 e3
  subst e1;subst e2;subst e3
  have hfi':fs[i]? =some f:=by simpa using hfi
  have hlt:i < xs.length:=by rw[hxs];exact(Array.getElem?_eq_some_iff.1 hfi').1
  exact⟨xs[i],List.getElem?_eq_getElem hlt,by rw[hp i f hfi'];exact List.getElem?_eq_getElem hlt⟩
 ·cases h
theorem VQ {xs:List (DataW H×List MemPlace)} {d:DataW H} {n:Nat} (ns:List Nat) (hd:d= .agg (xs.map (·.1))) (hl:xs.length=n) (hn:ns.length=n) (h:∀ (i n:Nat) (y:DataW H×List MemPlace),ns[i]? =some n→xs[i]? =some y→n≤K.bk y.1):cw id ns+1≤K.bk d:=by
 subst hd
 refine Nat.le_trans (Nat.succ_le_succ (Sq _ _ (by simp[hl,hn]) fun i n d hi hd=> ?_)) (K.ag _)
 rw[List.getElem?_map,Option.map_eq_some_iff] at hd
 obtain⟨y,hy,rfl⟩:=hd
 exact h i n y hi hy
def NsGe (K:Bk H) (xs:List (DataW H×List MemPlace)):Nat→List Nat→Prop
 | _,[]=>True
 | i,n::ns=>(∃ y,xs[i]? =some y∧n≤K.bk y.1)∧NsGe K xs (i+1) ns
theorem NsGe.spec {xs:List (DataW H×List MemPlace)}:∀ {ns:List Nat} {k:Nat},NsGe K xs k ns→∀ (i n:Nat) (y:DataW H×List MemPlace),ns[i]? =some n→xs[k+i]? =some y→n≤K.bk y.1
 | [],_,_,i,n,y,hi,_=>by simp at hi
 | n'::ns,k,h,i,n,y,hi,hy=>by
  cases i with
  | zero=>
   simp at hi;subst hi
   obtain⟨y',h1,h2⟩:=h.1
   rw[Nat.add_zero,h1] at hy;cases hy
   exact h2
  | succ i=>exact NsGe.spec h.2 i n y (by simpa using hi) (by rw[show k+1 + i=k+(i+1) by omega];exact hy)
theorem ww {xs:List (DataW H×List MemPlace)} {d:DataW H} {n:Nat} (ns:List Nat) (hd:d= .agg (xs.map (·.1))) (hl:xs.length=n) (hn:ns.length=n) (h:NsGe K xs 0 ns):cw id ns+1≤K.bk d:=
 VQ ns hd hl hn (fun i n y h1 h2=>h.spec i n y h1 (by rw[Nat.zero_add];exact h2))
theorem NZ {fuel T n E sz:Nat} {cs:List Value} {x:DataW H×List MemPlace} (h:Rr P T n E sz=true) (hx:DataW.trod enc P w 0 (fun _=>true) true fuel T cs=some x):
  ∃ (m:Nat) (xs:List (DataW H×List MemPlace)),m < fuel∧cs.length=n * sz∧x.1= .agg (xs.map (·.1))∧xs.length=n∧∀ i,i < n→∃ y,xs[i]? =some y∧DataW.trod enc P w 0 (fun _=>true) true m E ((cs.drop (i * sz)).take sz)=some y:=by
 unfold Rr at h
 split at h
 ·rename_i m e hu
  simp only[Bool.and_eq_true,beq_iff_eq] at h
  obtain⟨⟨rfl,rfl⟩,rfl,h4⟩:=h
  obtain⟨xs,m',hf,he,hl,hxs,hp⟩:=DataW.trod_array hu hx
  refine⟨m',xs,by omega,by rw[hl,h4],by rw[he],hxs,fun i hi=> ?_⟩
  exact⟨xs[i],List.getElem?_eq_getElem (by omega),by rw[hp i hi];exact List.getElem?_eq_getElem (by omega)⟩
 ·cases h
theorem PQ {fuel T E sz:Nat} {α:Type} {e:α→List PV} {good:α→Prop} {u:α→Nat} (h:Rr P T 4 E sz=true) (hlen:∀ y,(e y).length=sz) (hE:∀ n,n < fuel→qN K enc P w n E e good u):
  qN K enc P w fuel T (eA4 e) (fun x=>good x.a0∧good x.a1∧good x.a2∧good x.a3) (fun x=>u x.a0+(u x.a1+(u x.a2+(u x.a3+0)))+1):=fun cs x hx=>by
 obtain⟨m,xs,hm,hl,hd,hxl,hp⟩:=NZ h hx
 obtain⟨z0,k0,q0⟩:=hp 0 (by omega)
 obtain⟨z1,k1,q1⟩:=hp 1 (by omega)
 obtain⟨z2,k2,q2⟩:=hp 2 (by omega)
 obtain⟨z3,k3,q3⟩:=hp 3 (by omega)
 obtain⟨y0,g0,b0,r0⟩:=hE m hm _ _ q0
 obtain⟨y1,g1,b1,r1⟩:=hE m hm _ _ q1
 obtain⟨y2,g2,b2,r2⟩:=hE m hm _ _ q2
 obtain⟨y3,g3,b3,r3⟩:=hE m hm _ _ q3
 refine⟨⟨y0,y1,y2,y3⟩,⟨g0,g1,g2,g3⟩,ww [u y0,u y1,u y2,u y3] hd hxl rfl ⟨⟨z0,k0,b0⟩,⟨z1,k1,b1⟩,⟨z2,k2,b2⟩,⟨z3,k3,b3⟩,trivial⟩,?_⟩
 have e0:cs.drop 0=cs:=List.drop_zero
 rw[← e0]
 have:=ci (off:=0) (by simpa using r0) (hlen y0) (ci (by simpa using r1) (hlen y1) (ci (by rw[show 0+sz+sz=2 * sz by omega];exact r2) (hlen y2) (ci (by rw[show 0+sz+sz+sz=3 * sz by omega];exact r3) (hlen y3) (mg (by omega)))))
 simpa using this
theorem Sr {T:TypeId} {v:Value} {d:DataW H} {ps:List MemPlace} {α:Type} {e:α→List PV} {good:α→Prop} {u:α→Nat} (hT:∀ n,qN K enc P w n T e good u) (h:DataW.Trod enc P w 0 (fun _=>true) true T v d ps):∃ y,good y∧u y≤K.bk d∧Reads1 w (fun _=>False) v.cells.toList (e y):=by
 obtain⟨fuel,hf⟩:=h
 exact hT fuel _ _ hf
end
section
variable {H:Type} {enc:TypeId×Value→H}
end
end Go.Abs

/- A law's second row whose package variables are listed. -/
namespace Go.Abs
variable {G:List (Nat×List PV)}
open Go.ChangeShapes Go.WideShapes Go.ChangeAt Go.RowKit
section
variable {H:Type} {enc:TypeId×Value→H}
theorem FM {C:Checked} {os:Os} {f:FuncId} {fn:Func} {s:ChangeSpec} {s2:OpenSpec} {k:(H:Type)→List (DataW H)→Bool} (hk:s2.cond=some k) {F:Stop.Interp} {B:TypeId} {fresh handsOn:Bool} {L:List (String×DataW Unit)}
  (own:ownKnob C.prog.godebug=none) (started:os.Started) (noInit:C.prog.inits.idxOf? f=none) (hfn:C.prog.funcs[f]? =some fn)
  (witness:∃ (w:World) (tape:Tape) (i:Input),w.os=os∧(w.forCall tape i).Shaped C.prog∧i.vars=[]∧Input.okWide C.prog (w.forCall tape i) .any w.heap.size f i∧
   s2.preRow enc C.prog fn [] false L (w.forCall tape i).memory i.args∧({}:Assume).holds C.prog (lone (Frame.enter C.prog f i.args .normal) [] (w.forCall tape i)))
  (hl:laidOutB C.prog=true) (hr:Lk C.prog fn.params.toList=true) (hvars:s.vars=[]) (hv2:s2.vars=[]) (hres:fn.resultTypes= #[B]) (hB:C.prog.underlying B=some .bool)
  (hs:∀ ds:List (DataW H),ds.length=fn.params.size→s.fn H ds={ results:=[.lit (.bool true)],args:=ds })
  (hpost:∀ W args v W',s.post enc C.prog fn false fresh handsOn false W args v W'→(s2.at F).post enc C.prog fn false fresh handsOn false W args v W')
  (hGL:∀ W:World,laidMetH C.prog L W→GlobOk G W (fun _=>False))
  (hcall:∀ (W:World) (base:Nat) (args:Array Value) (ds:List (DataW H)) (ps:List MemPlace),(∀ (j:Nat) t v,fn.params[j]? =some t→args[j]? =some v→Value.okWide C.prog W .any base t v)→DataW.TrodAll enc C.prog W 0 (fun _=>true) true fn.params.toList args.toList ds ps→k H ds=true→∃ asx:List PV,QH W asx args∧Fn G C.prog f asx [.p (.bool true)]):
  ReturnsInHanded {} C os f .any (s2.preRow enc C.prog fn [] false L) ((s2.at F).post enc C.prog fn false fresh handsOn false):=by
 refine returnsInHanded_of_row (C:=C) (s:=s2) own started noInit hfn witness ?_
 intro W base args ds gs before hval hW _ hkk _ hL _ _
 have hkk:=hkk k hk
 have hW0:DataW.Whole enc C.prog fn.params.toList s.vars false W args.toList ds gs before:=by rw[hvars,← hv2];exact hW
 have hW':=hW0
 obtain⟨p,q,hA,hV,rfl,hfz,hnd⟩:=hW0
 have hV':gs=[]∧q=[]:=by rw[hvars] at hV;exact trodVars_none hV
 obtain⟨rfl,rfl⟩:=hV'
 rw[List.append_nil] at hkk
 obtain⟨asx,⟨h1,h2⟩,h3⟩:=hcall W base args ds p hval hA hkk
 refine(h3 W (fun _=>False) args (fun _ h=>h.elim) (hGL W hL) h1 h2).mono ?_
 rintro e W' ⟨v,O',rfl,hg,_,hrt⟩
 have hv:v= .bool true:=by
  have:Rd W' O' (.bool true) v:=hrt
  cases this;rfl
 subst hv
 have hlen:∀ {ts:List TypeId} {vs:List Value} {ds:List (DataW H)} {ps:List MemPlace},DataW.TrodAll enc C.prog W 0 (fun _=>true) true ts vs ds ps→ds.length=ts.length:=by
  intro ts
  induction ts with
  | nil=>intro vs ds ps h;obtain⟨_,rfl,_⟩:=trodAll_nil h;rfl
  | cons t ts ih=>intro vs ds ps h;obtain⟨v,vs',d,ds',p,q,rfl,rfl,rfl,h1,h2⟩:=trodAll_cons h;simp[ih h2]
 exact⟨_,rfl,hpost _ _ _ _ (QO hl hr hvars (by rw[List.append_nil] at hW';rw[List.append_nil] at *;exact hW') hA hg hres hB (hs ds (by rw[hlen hA];simp)))⟩
end
end Go.Abs

