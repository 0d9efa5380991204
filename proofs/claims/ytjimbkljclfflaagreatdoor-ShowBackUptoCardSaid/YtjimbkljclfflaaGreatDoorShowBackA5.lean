/- The abstract layer that the proof stands on: no condition. -/
import Derived.Test.YtjimbkljclfflaaGreatDoorShowBackA4
import Derived.JoinedCond
import Derived.Deep.DeepHandedRow
/- A method value: a function with its receiver; it writes through the receiver. -/
namespace Go.Abs
open List
variable {G:List (Nat×List PV)}
open Go.RowKit
section
variable {ro:Option Nat} {P:Program} {c:Cx G} {s:St} {o:Oper} {d:Option Nat}
theorem NQ {f:Nat} {fst:List Operand} {xs:List AV} (ho:o.op= .makeFunc (.func f) fst.toArray #[]) (hx:evl s fst=some xs) (hd:o.dst=d) (hn:dOk s d=true):da ro P c o s (s.put d (some (.mv f xs))):=
 ca hd hn (by rw[ho];intro k h;cases h) fun a w O θ hs=>by
  obtain⟨h1,h2⟩:=yX hs hx
  exact⟨.func (.func f) (fst.map a.eval).toArray #[],by simp[execOp,ho,Instr.makeFunc],.mv f xs _ (by simp[h1]) (fun i x u hx hu=>h2 i x u hx (by simpa using hu))⟩
theorem Eg {fo:Operand} {xs:List Operand} {ts:Array TypeId} {f:Nat} {fst asx args:List AV} {hp hp':List (Nat×Option Blk)} {n n':Nat} {kb:List (Nat×Nat)} {rs:List AV} (L0 L1 drop:List Nat) (nx:Nat) (ho:o.op= .call { callee:= .value fo,args:=xs.toArray,argTypes:=ts }) (hf:ev s fo=some (.mv f fst)) (hx:evl s xs=some asx)
  (hcat:fst++asx=AV.mapL (fun i=>L0.getD i s.next) args) (hB:cY P f=true) (h:FnW G P f args hp n kb rs hp' n') (hn0:L0.length=n) (hnd0:L0.Nodup) (hH:SubH s.hp (fun i=>L0.getD i s.next) hp)
  (hn1:L1.length=n') (hnd1:L1.Nodup) (hfr:FrL s L0 kb 0 L1) (hk:Rk hp' n'=true) (hdr:VZ hp hp' (fun i=>L0.getD i s.next) (fun i=>L1.getD i 0) drop=true) (hnx:Nat.ble s.next nx=true) (hnx1:L1.all (fun x=>Nat.blt x nx)=true)
  (hd:o.dst=d) (hn:dOk s d=true):da ro P c o s ((s.callW hp' L1 drop nx).put d (some ((Ur rs).map (fun i=>L1.getD i 0)))):=by
 rintro a w ⟨O,θ,hs⟩ K Q hK
 obtain⟨e1,e2⟩:=yX hs hx
 have hfv:=jJ hs hf
 have hnone:θ s.next=none:=by
  cases h:θ s.next with
  | none=>rfl
  | some v=>have:=(hs.dom _ _ h).1;omega
 have hcaps:∃ us:Array Value,a.eval fo= .func (.func f) us #[]/\us.size=fst.length/\∀ (i:Nat) (x:AV) (u:Value),fst[i]? =some x->us[i]? =some u->RdA w O θ x u:=by
  generalize hfe:a.eval fo=fv at hfv
  cases hfv with
  | mv f' fst' us h1 h2=>exact⟨us,rfl,h1,h2⟩
 obtain⟨us,hfe,hus,hcr⟩:=hcaps
 refine⟨fun f _=>trivial,?_⟩
 have hrun:(execOp a.eval o).run P w= .ok (.enter f (us++(xs.map a.eval).toArray)) w:=by
  simp[execOp,ho,resolve,Deferred.ofValue,hfe,invoke,vl hB]
 rw[Oper.semAt_plain _ _ _ (by rw[ho];intro k h;cases h),hrun]
 refine⟨fun h=>by simp[FF,Fence.wide] at h,?_⟩
 have hlen:fst.length+asx.length=args.length:=by
  have:=congrArg length hcat
  rw[length_append,AV.mapL_length] at this
  exact this
 have harg:∀ (i:Nat) (x:AV) (u:Value),(fst++asx)[i]? =some x->(us++(xs.map a.eval).toArray)[i]? =some u->RdA w O θ x u:=by
  intro i x u hx hu
  rw[getElem?_append] at hx
  split at hx
  ·rename_i hi
   rw[Array.getElem?_append_left (by omega)] at hu
   exact hcr i x u hx hu
  ·rename_i hi
   rw[Array.getElem?_append_right (by omega)] at hu
   refine e2 _ x u hx ?_
   rw[hus] at hu
   simpa using hu
 have hlt0:∀ i v,θ (L0.getD i s.next)=some v->L0[i]? =some (L0.getD i s.next):=by
  intro i v hv
  rw[getD_eq_getElem?_getD] at hv ⊢
  cases h:L0[i]? with
  | none=>rw[h] at hv;simp only[Option.getD_none] at hv;rw[hnone] at hv;cases hv
  | some y=>rfl
 have hpre:PreW w O (fun i=>θ (L0.getD i s.next)) hp n:=by
  refine⟨fun i b hb=> ?_,fun i j bi bj vi vj g hi hj hvi hvj hgi hgj=> ?_,fun i v hv=> ?_,fun i v hv=>hs.one _ v hv⟩
  ·obtain⟨v,h1,h2,h3⟩:=hs.hp _ _ (SubH.spec hH i b (eY hb))
   exact⟨v,h1,h2.ren _ (fun _ _ h=>h),fun g hg=>⟨(h3 g hg).1,(h3 g hg).2.1⟩⟩
  ·have:=hs.inj _ _ _ _ vi vj g (SubH.spec hH i bi (eY hi)) (SubH.spec hH j bj (eY hj)) hvi hvj hgi hgj
   have h1:=hlt0 i vi hvi
   have h2:=hlt0 j vj hvj
   rw[this] at h1
   exact xj hnd0 i j _ h1 h2
  ·have:=hlt0 i v hv
   have:=(List.getElem?_eq_some_iff.1 this).1
   omega
 have hcall:=h w O (fun i=>θ (L0.getD i s.next)) (us++(xs.map a.eval).toArray) hs.olt (c.JG hs.jn) hpre (by
   have:(xs.map a.eval).toArray.size=asx.length:=by simpa using e1
   rw[Array.size_append,this,hus];exact hlen) (fun i x v hx hv=>by
  refine RdA.ren (fun i=>L0.getD i s.next) (fun _ _ h=>h) (harg i (x.map _) v ?_ hv) x rfl
  rw[hcat,AV.mapL_get,hx];rfl)
 refine CallsIn.mono (callsIn_wide (n:=0 - 1).2 hcall) ?_
 rintro e w' ⟨v,O',θ',rfl,he,hO1,hO2,hO3,hpre',hnew,hkb,hr⟩
 obtain⟨O2,θ2,g1,g2,g3⟩:=CN hs L0 L1 drop nx hn0 hH hn1 hnd1 hfr hk hdr hnx hnx1 he hO1 hO2 hO3 hpre' hnew hkb
 subst hd
 refine hK _ _ ⟨O2,θ2,g1.put _ _ _ (BT hn) (Bm hn) ?_⟩
 exact(hr.mono (Nat.le_refl _) (fun b _ hn=>⟨fun h=>hn (g2 b h),rfl⟩) (fun _ _ h=>h)).mapF _ g3
end
end Go.Abs

/- Texts that are built piece by piece, where the strings.Builder is the first part of a struct, and one more value stands behind it. -/
namespace Go.Abs
open List
variable {G:List (Nat×List PV)}
open Go.RowKit
theorem vs3 {vs:Array Value} (h:vs.size=3):∃ a b c,vs= #[a,b,c]:=by
 obtain⟨l⟩:=vs
 match l,h with
 | [a,b,c],_=>exact⟨a,b,c,rfl⟩
theorem Fe {w:World} {b:Nat} {p v e u:Value} {T:TypeId} (h:w.heap[b]? =some (.cells #[p,v,e] T (0,0))):(w.setCell ⟨b,1,none⟩ u).heap[b]? =some (.cells #[p,u,e] T (0,0)):=by
 simp[World.setCell,Array.getElem?_modify,h]
theorem PU {w:World} {b:Nat} {p v e u:Value} {T:TypeId} (h:w.heap[b]? =some (.cells #[p,v,e] T (0,0))):(w.setCell ⟨b,0,none⟩ u).heap[b]? =some (.cells #[u,v,e] T (0,0)):=by
 simp[World.setCell,Array.getElem?_modify,h]
structure BldAtE (w:World) (O:Nat->Prop) (θ:Nat->Option Value) (B:TypeId) (q:PV) (x:List Int) (g:Nat) (p v e:Value):Prop where
 t0:θ 0=some (.pointer (some ⟨g,0,none⟩))
 t1:θ 1=some v
 heap:w.heap[g]? =some (.cells #[p,v,e] B (0,0))
 self:p= .pointer none\/p= .pointer (some ⟨g,0,none⟩)
 own:ownsW w 5 1 v x.length (x.map (.int .u8))
 og:O g
 ex:Rd w O q e
 exo:e.oneCell'=true
 ov:∀ k,bU v=some k->O k/\k < w.heap.size
theorem Nr {w:World} {O:Nat->Prop} {θ:Nat->Option Value} {B:TypeId} {q:PV} {x:List Int} (h:PreW w O θ [(0,some (.box B [.bp 0,.ls 1,.pv q])),(1,some (.row 5 1 (x.map fun b=>[PV.int .u8 b])))] 2):∃ g p v e,BldAtE w O θ B q x g p v e:=by
 obtain⟨v0,h0,⟨g,us,rfl,hg,hs,hc⟩,ho⟩:=h.own 0 _ rfl
 obtain⟨v1,h1,⟨us1,hw,hr⟩,ho1⟩:=h.own 1 _ rfl
 obtain⟨p,v,e,rfl⟩:=vs3 hs
 have e0:=(hc 0 _ p rfl rfl).1
 have e1:=(hc 1 _ v rfl rfl).1
 have e2:=hc 2 _ e rfl rfl
 have hv:v=v1:=by
  cases e1 with
  | ls _ _ h=>rw[h1] at h;cases h;rfl
 subst hv
 refine⟨g,p,v,e,h0,h1,hg,?_,?_,(ho g rfl).1,lm e2.1,e2.2,ho1⟩
 ·cases e0 with
  | bp0 _=>exact .inl rfl
  | bp1 _ g' h=>rw[h0] at h;cases h;exact .inr rfl
 ·have:=VC hr
  rw[<- this]
  simpa using hw
theorem RI {P:Program} {f B:Nat} {q:PV} (hB:B≠5) (xa:AV) (xv:Value) (hx:∀ (w:World) (O:Nat->Prop) (θ:Nat->Option Value) v,RdA w O θ xa v->v=xv) (news:List Int) (rs:List AV) (res:Value)
  (hres:∀ (w:World) (O:Nat->Prop) (θ:Nat->Option Value),RdA w O θ (Ur rs) res)
  (raw:∀ (b n:Nat) (p v e:Value) (xs:List Value) (w:World),w.heap[b]? =some (.cells #[p,v,e] B (0,0))->(p= .pointer none\/p= .pointer (some ⟨b,0,none⟩))->ownsW w 5 1 v n xs->n+news.length<=140737488355328->
   Calls P f #[.pointer (some ⟨b,0,none⟩),xv] w fun e' w'=>e'= .returned res/\∃ v',w'.heap[b]? =some (.cells #[.pointer (some ⟨b,0,none⟩),v',e] B (0,0))/\ownsW w' 5 1 v' (n+news.length) (xs++news.map (.int .u8))/\
    (bU v'=bU v\/∃ g,bU v'=some g/\w.heap.size<=g)/\BldFr b v w w') {x:List Int} (hlen:x.length+news.length<=140737488355328):
  FnW G P f [.lp 0 0,xa] [(0,some (.box B [.bp 0,.ls 1,.pv q])),(1,some (.row 5 1 (x.map fun b=>[PV.int .u8 b])))] 2 [(0,0)] rs [(0,some (.box B [.bp 0,.ls 1,.pv q])),(1,some (.row 5 1 ((x++news).map fun b=>[PV.int .u8 b])))] 2:=by
 intro w O θ vs hO _ hpre hsz hrd
 obtain⟨g,p,v,ev,hb⟩:=Nr hpre
 obtain⟨a0,a1,rfl⟩:=vs2 hsz
 have e0:=hrd 0 _ a0 rfl rfl
 have e1:=hx _ _ _ _ (hrd 1 _ a1 rfl rfl)
 subst e1
 have ha0:a0= .pointer (some ⟨g,0,none⟩):=by
  cases e0 with
  | lp _ _ g' h=>rw[hb.t0] at h;cases h;rfl
 subst ha0
 refine(raw g x.length p v ev _ w hb.heap hb.self hb.own hlen).mono ?_
 rintro e w' ⟨rfl,v',hh,hown,hblk,hfr⟩
 have hgl:g < w.heap.size:=(Array.getElem?_eq_some_iff.1 hb.heap).1
 have hnv':bU v'≠some g:=sM hown hh hB
 have hv'lt:∀ k,bU v'=some k->k < w'.heap.size:=by
  intro k hk
  rcases hown.2 with⟨rfl,_⟩ | ⟨g',cap,cur,rfl,_,hg',_⟩
  ·simp[bU] at hk
  ·simp only[bU,Option.some.injEq] at hk
   subst hk
   exact(Array.getElem?_eq_some_iff.1 hg').1
 have hv'one:v'.oneCell'=true:=by
  rcases hown.2 with⟨rfl,_⟩ | ⟨g',cap,cur,rfl,_,_⟩<;>rfl
 have hex:Rd w' (fun k=>O k\/bU v'=some k) q ev:=hb.ex.mono hfr.size fun k hk hn=>by
  refine⟨?_,hfr.block k hk (fun e=>hn (e ▸ hb.og)) fun e=>hn (hb.ov k e).1⟩
  rintro (h | h)
  ·exact hn h
  ·rcases hblk with h2 | ⟨g',h2,hge⟩
   ·exact hn (hb.ov k (by rw[<- h2];exact h)).1
   ·rw[h] at h2;cases h2;omega
 have hH0:qQ [(0,some (.box B [.bp 0,.ls 1,.pv q])),(1,some (.row 5 1 (x.map fun b=>[PV.int .u8 b])))] θ g:=⟨0,_,_,rfl,hb.t0,rfl⟩
 have hH1:∀ k,bU v=some k->qQ [(0,some (.box B [.bp 0,.ls 1,.pv q])),(1,some (.row 5 1 (x.map fun b=>[PV.int .u8 b])))] θ k:=fun k hk=>⟨1,_,_,rfl,hb.t1,hk⟩
 refine⟨res,fun k=>O k\/bU v'=some k,fun i=>if i=0 then some (.pointer (some ⟨g,0,none⟩)) else if i=1 then some v' else none,rfl,⟨hfr.os,hfr.tape,hfr.output,hfr.size,fun k hk hn=>hfr.block k hk (fun e=>hn (e ▸ hH0)) (fun e=>hn (hH1 k e))⟩,
  fun k hk _=> .inl hk,?_,?_,?_,?_,?_,hres _ _ _⟩
 ·rintro k (hk | hk)
  ·exact Nat.lt_of_lt_of_le (hO k hk) hfr.size
  ·exact hv'lt k hk
 ·rintro k (hk | hk) hlt
  ·exact hk
  ·rcases hblk with h | ⟨g',h,hge⟩
   ·exact(hb.ov k (by rw[<- h];exact hk)).1
   ·rw[hk] at h;cases h;omega
 ·refine⟨fun id bk hid=> ?_,fun i j bi bj vi vj k hi hj h1 h2 h3 h4=> ?_,fun id v2 hv=> ?_,fun id v2 hv=> ?_⟩
  ·by_cases h0:id=0
   ·subst h0
    cases hid
    refine⟨_,rfl,⟨g,#[.pointer (some ⟨g,0,none⟩),v',ev],rfl,hh,rfl,fun j c u hc hu=> ?_⟩,fun k hk=> ?_⟩
    ·match j,hc,hu with
     | 0,hc,hu=>cases hc;cases hu;exact⟨.bp1 0 g rfl,rfl⟩
     | 1,hc,hu=>cases hc;cases hu;exact⟨.ls 1 _ rfl,hv'one⟩
     | 2,hc,hu=>cases hc;cases hu;exact⟨.pv _ _ hex,hb.exo⟩
    ·cases hk;exact⟨.inl hb.og,Nat.lt_of_lt_of_le hgl hfr.size⟩
   ·by_cases h1:id=1
    ·subst h1
     cases hid
     refine⟨v',rfl,⟨(x++news).map (.int .u8),?_,VG _ _ _⟩,fun k hk=>⟨.inr hk,hv'lt k hk⟩⟩
     rw[length_map,length_append,map_append]
     exact hown
    ·simp[aX,Nat.beq_eq,h0,h1,Ne.symm h0,Ne.symm h1] at hid
     cases id with
     | zero=>exact absurd rfl h0
     | succ id=>cases id with
      | zero=>exact absurd rfl h1
      | succ id=>simp[Nat.beq] at hid
  ·have hi2:∀ (i:Nat) (b:Blk),aX i ([(0,some (.box B [.bp 0,.ls 1,.pv q])),(1,some (.row 5 1 ((x++news).map fun b=>[PV.int .u8 b])))]:List (Nat×Option Blk))=some b->i=0\/i=1:=by
    intro i b hi
    cases i with
    | zero=>exact .inl rfl
    | succ i=>cases i with
     | zero=>exact .inr rfl
     | succ i=>simp[aX,Nat.beq] at hi
   rcases hi2 i bi hi with rfl | rfl<;>rcases hi2 j bj hj with rfl | rfl
   ·rfl
   ·cases h1;cases h2;cases h3;exact absurd h4 hnv'
   ·cases h1;cases h2;cases h4;exact absurd h3 hnv'
   ·rfl
  ·show id < 2
   by_cases h0:id=0
   ·omega
   ·by_cases h1:id=1
    ·omega
    ·simp[h0,h1] at hv
  ·by_cases h0:id=0
   ·subst h0;cases hv;rfl
   ·by_cases h1:id=1
    ·subst h1;cases hv;exact hv'one
    ·simp[h0,h1] at hv
 ·rintro k ⟨id,bk,v2,h1,h2,h3⟩
  by_cases h0:id=0
  ·subst h0;cases h2;cases h3;exact .inl hH0
  ·by_cases h1':id=1
   ·subst h1'
    cases h2
    rcases hblk with h | ⟨g',h,hge⟩
    ·exact .inl (hH1 k (by rw[<- h];exact h3))
    ·rw[h3] at h;cases h;exact .inr hge
   ·simp[h0,h1'] at h2
 ·intro ij hij
  simp at hij
  subst hij
  simp[hb.t0]
theorem XJ {P:Program} {f B:Nat} {q:PV} (raw:∀ (b:Nat) (p v e:Value) (l:List UInt8) (w:World),w.heap[b]? =some (.cells #[p,v,e] B (0,0))->ownsW w 5 1 v l.length (Lib.byteCells l)->
   Calls P f #[.pointer (some ⟨b,0,none⟩)] w fun e' w'=>e'= .returned (.string ⟨l.toArray⟩)/\BldFr b v w w') {x:List Int} {s:List UInt8} (hs:LF x=some s):
  FnW G P f [.lp 0 0] [(0,some (.box B [.bp 0,.ls 1,.pv q])),(1,some (.row 5 1 (x.map fun b=>[PV.int .u8 b])))] 2 [] [.pv (.str s)] [] 0:=by
 intro w O θ vs hO _ hpre hsz hrd
 obtain⟨g,p,v,ev,hb⟩:=Nr hpre
 have hx:x=bh s:=by
  unfold LF at hs
  split at hs
  ·rename_i h;cases hs;exact h
  ·cases hs
 have hown:=hb.own
 have hlx:x.length=s.length:=by rw[hx];simp[bh]
 have hc:x.map (.int .u8)=Lib.byteCells s:=by rw[hx];simp[bh,Lib.byteCells]
 rw[hlx,hc] at hown
 obtain⟨a0,rfl⟩:∃ a0,vs= #[a0]:=by
  obtain⟨l⟩:=vs
  match l,hsz with
  | [a],_=>exact⟨a,rfl⟩
 have e0:=hrd 0 _ a0 rfl rfl
 have ha0:a0= .pointer (some ⟨g,0,none⟩):=by
  cases e0 with
  | lp _ _ g' h=>rw[hb.t0] at h;cases h;rfl
 subst ha0
 refine(raw g p v ev s w hb.heap hown).mono ?_
 rintro e w' ⟨rfl,hfr⟩
 refine⟨_,O,fun _=>none,rfl,⟨hfr.os,hfr.tape,hfr.output,hfr.size,fun k hk hn=>hfr.block k hk (fun e=>hn (e ▸ ⟨0,_,_,rfl,hb.t0,rfl⟩)) (fun e=>hn ⟨1,_,_,rfl,hb.t1,e⟩)⟩,
  fun k hk _=>hk,fun k hk=>Nat.lt_of_lt_of_le (hO k hk) hfr.size,fun k hk _=>hk,⟨fun id b h=>(by simp[aX] at h),fun i j bi bj vi vj k hi=>(by simp[aX] at hi),fun id v h=>(by cases h),fun id v h=>(by cases h)⟩,
  fun k ⟨id,b,v,h,_⟩=>(by simp[aX] at h),fun ij h=>(by cases h),.pv _ _ (.str _)⟩
end Go.Abs

/- A region that draws its order, in which an operation that reads a block may come ahead of some that write it, between them, or behind. -/
namespace Go.Abs
open List
variable {G:List (Nat×List PV)}
open Go.RowKit
def Ve (p:Nat) (qs:List Nat) (masks:List Nat) (es:List Eff):Bool:=
 (List.range es.length).all fun j=>match es[j]? with
  | some ej=>(List.range j).all fun i=>match es[i]? with
   | some ei=> !(jW ei ej)||Nat.testBit (masks.getD j 0) i||(Nat.beq i p&&qs.elem j)
   | none=>true
  | none=>true
def Pg (p:Nat) (qs:List Nat) (ops:List Oper) (es:List Eff):Bool:=JJ 0 ops&&(Ve p qs (Xd ops []) es&&XT es)
theorem Oz {p:Nat} {qs:List Nat} {ops:List Oper} {es:List Eff} (h:Pg p qs ops es=true):(∀ i o,ops[i]? =some o->∀ x∈lU o,x < i)/\(∀ i j ei ej,i < j->es[i]? =some ei->es[j]? =some ej->jW ei ej=true->¬ (i=p/\j∈qs)->Anc ops i j)/\∀ e∈es,∀ k∈e.names,k∈wH e:=by
 simp only[Pg,Bool.and_eq_true] at h
 refine⟨fun i o ho x hx=>by have:=za ops 0 h.1 i o ho x hx;omega,fun i j ei ej hij hi hj hc hn=> ?_,fun e he k hk=>by
  have:=List.all_eq_true.1 h.2.2 e he
  have:=List.all_eq_true.1 this k hk
  simpa using this⟩
 have h2:=h.2.1
 simp only[Ve,all_eq_true,mem_range] at h2
 have hjl:j < es.length:=(List.getElem?_eq_some_iff.1 hj).1
 have:=h2 j hjl
 rw[hj] at this
 simp only[all_eq_true,mem_range] at this
 have:=this i hij
 rw[hi] at this
 simp only[hc,Bool.not_true,Bool.false_or,Bool.or_eq_true,Bool.and_eq_true] at this
 rcases this with h3 | ⟨h3,h4⟩
 ·exact zJ ops i ops [] [] rfl rfl (by intro j h;simp at h) j h3
 ·exact(hn ⟨Nat.eq_of_beq_eq_true h3,by simpa using h4⟩).elim
section
variable {ro:Option Nat} {P:Program} {c:Cx G} {Q:Exit->Act->World->Prop} {s s':St}
def AllQ (ro:Option Nat) (P:Program) (c:Cx G) (l:List Oper) (op:Oper) (n next ys:Nat) (kt:List Nat) (df:List Deferred) (es:List Eff) (p hid:Nat) (ep:Eff):List Nat->Prop
 | []=>True
 | q::qs=>(∃ eq2 bE,es[q]? =some eq2/\Nat.blt p q=true/\exB hid ep eq2=true/\aX hid eq2.upd=some bE/\∀ m:Mid,Has { ep with hneed:=[(hid,bE)] } m->ya ro P c l op (m.st n df next ys kt) ((ep.apply m).st n df next ys kt))/\AllQ ro P c l op n next ys kt df es p hid ep qs
theorem AllQ.spec {l:List Oper} {op:Oper} {n next ys:Nat} {kt:List Nat} {df:List Deferred} {es:List Eff} {p hid:Nat} {ep:Eff}:∀ {qs:List Nat},AllQ ro P c l op n next ys kt df es p hid ep qs->∀ q∈qs,∃ eq2 bE,es[q]? =some eq2/\p < q/\exB hid ep eq2=true/\aX hid eq2.upd=some bE/\∀ m:Mid,Has { ep with hneed:=[(hid,bE)] } m->ya ro P c l op (m.st n df next ys kt) ((ep.apply m).st n df next ys kt)
 | q::qs,h,q',hq'=>by
  rcases List.mem_cons.1 hq' with rfl | hq'
  ·obtain⟨eq2,bE,h1,h2,h3⟩:=h.1
   exact⟨eq2,bE,h1,by simpa [Nat.blt_eq] using h2,h3⟩
  ·exact AllQ.spec h.2 q' hq'
theorem Vq {id n next ys:Nat} {kt:List Nat} {df:List Deferred} {l:List Oper} {m0 m:Mid} {es:List Eff} (p hid:Nat) (qs:List Nat) {ep:Eff} {op:Oper} (hm:P.follows .mixedOrders=true) (hs0:s=m0.st n df next ys kt) (hp:es.reverse[p]? =some ep) (hop:l[p]? =some op)
  (_hq0:qs≠[]) (hQ:AllQ ro P c l op n next ys kt df es.reverse p hid ep qs) (hB:Pg p qs l es.reverse=true)
  (h:gw c Q .normal (m.st n df next ys kt)):DrW ro P c Q s id l n df next ys kt m0 es [] m:=by
 rintro ⟨pre,h1,h2⟩ h3 h4
 have hF:=h2 [] [] trivial
 have hT:=h3 [] trivial
 rw[append_nil] at h1 hT
 rw[append_nil,append_nil,<- h1] at hF
 have ⟨b1,b2,b3⟩:=Oz hB
 exact Nb es.reverse m0 p hid qs (fun q hq=>by obtain⟨eq2,bE,r⟩:=hQ.spec q hq;exact⟨ep,op,eq2,bE,hp,hop,r⟩) hm hs0 hF hT b1 b2 b3 (by rw[h4];exact h)
end
end Go.Abs

/- Parts of boxes that are looked at again. -/
namespace Go.Abs
open List
def eqI (a b:Int):Option Unit:=if a=b then some () else none
theorem Kg {a b:Int} {u:Unit} (h:eqI a b=some u):a=b:=by
 unfold eqI at h
 split at h
 ·assumption
 ·cases h
theorem IM (a:Int):eqI a a=some ():=by unfold eqI;rw[if_pos rfl]
section
variable {G:List (Nat×List PV)} {ro:Option Nat} {P:Program} {c:Cx G} {s:St} {o:Oper}
theorem TA {id nx:Nat} {b:Blk} {hp':List (Nat×Option Blk)} {drop:List Nat} {d:Option Nat} {v:Option AV} (hb:aX id s.hp=some b) (h:da ro P c o s ((s.callW hp' [id] drop nx).put d v)):
  da ro P c o s (({ s.callW hp' [id] drop nx with free:=s.free }:St).put d v):=by
 intro a w hs
 have hf:s.free.filter (fun x=> !([id].elem x))=s.free:=by
  obtain⟨O,θ,h'⟩:=hs
  obtain⟨u,hu,_⟩:=h'.hp id b hb
  have hn:=(h'.dom id u hu).2
  refine List.filter_eq_self.2 fun x hx=> ?_
  have:x≠id:=fun e=>hn (e ▸ hx)
  simp[this]
 have e:({ s.callW hp' [id] drop nx with free:=s.free }:St)=s.callW hp' [id] drop nx:=by
  unfold St.callW
  rw[hf]
 rw[e]
 exact h a w hs
theorem adj {id k nx:Nat} {b:Blk} {hp':List (Nat×Option Blk)} {drop:List Nat} {d:Option Nat} {v:Option AV} (hb:aX id s.hp=some b) (h:da ro P c o s ((s.callW hp' [id,k] drop nx).put d v)):
  da ro P c o s (({ s.callW hp' [id,k] drop nx with free:=s.free.filter fun x=> !([k].elem x) }:St).put d v):=by
 intro a w hs
 have hf:s.free.filter (fun x=> !([id,k].elem x))=s.free.filter (fun x=> !([k].elem x)):=by
  obtain⟨O,θ,h'⟩:=hs
  obtain⟨u,hu,_⟩:=h'.hp id b hb
  have hn:=(h'.dom id u hu).2
  refine filter_congr fun x hx=> ?_
  have:x≠id:=fun e=>hn (e ▸ hx)
  simp[this]
 have e:({ s.callW hp' [id,k] drop nx with free:=s.free.filter fun x=> !([k].elem x) }:St)=s.callW hp' [id,k] drop nx:=by
  unfold St.callW
  rw[hf]
 rw[e]
 exact h a w hs
end
end Go.Abs

/- The arguments' readings with their bulk; a law's second row. -/
namespace Go.Abs
open List
variable {G:List (Nat×List PV)}
open Go.ChangeShapes Go.WideShapes Go.ChangeAt Go.RowKit
structure Bk (H:Type) where
 bk:DataW H->Nat
 al:List (DataW H)->Nat
 str:∀ s,s.length+1<=bk (.lit (.string s))
 one:∀ d,1<=bk d
 sl:∀ e s,al e+1<=bk (.slice e s)
 ag:∀ l,al l+1<=bk (.agg l)
 nil:al []=0
 cons:∀ d l,al (d::l)=bk d+al l
def cg {α:Type} (u:α->Nat):List α->Nat
 | []=>0
 | x::l=>u x+cg u l
section
variable {H:Type} (K:Bk H) (enc:TypeId×Value->H) (P:Program) (w:World)
def tc (fuel:Nat) (T:TypeId) {α:Type} (e:α->List PV) (good:α->Prop) (u:α->Nat):Prop:=
 ∀ (cs:List Value) (x:DataW H×List MemPlace),DataW.trod enc P w 0 (fun _=>true) true fuel T cs=some x->∃ y,good y/\u y<=K.bk x.1/\Reads1 w (fun _=>False) cs (e y)
variable {K enc P w}
theorem WI {fuel T:Nat} (h:P.underlying T=some .bool):tc K enc P w fuel T eB (fun _=>True) (fun _=>1):=fun cs x hx=>by
 obtain⟨y,h1,h2⟩:=Yo h cs x hx
 exact⟨y,h1,K.one _,h2⟩
theorem aam {fuel T:Nat} (h:P.underlying T=some (.int .i64)):tc K enc P w fuel T eI vD (fun _=>1):=fun cs x hx=>by
 obtain⟨y,h1,h2⟩:=abu h cs x hx
 exact⟨y,h1,K.one _,h2⟩
theorem XU {fuel T:Nat} (h:P.underlying T=some .string):tc K enc P w fuel T eS wu (fun s=>s.length+1):=fun cs x hx=>by
 obtain⟨s,rfl,rfl,hs⟩:=DataW.trod_string h hx
 refine⟨s.data.toList,by show s.data.toList.length<=maxLen;rw[Array.length_toList];exact hs,K.str _,oQ ?_ rfl⟩
 have:=Rd.str (w:=w) (O:=fun _=>False) s.data.toList
 simpa using this
theorem Yb : ∀ (l:List (DataW H)) (ns:List Nat),ns.length=l.length->(∀ (i n:Nat) (d:DataW H),ns[i]? =some n->l[i]? =some d->n<=K.bk d)->cg id ns<=K.al l
 | [],[],_,_=>by rw[K.nil];exact Nat.le_refl _
 | d::l,n::ns,hl,h=>by
  rw[K.cons]
  simp only[cg,id]
  have h1:=h 0 n d rfl rfl
  have h2:=Yb l ns (by simpa using hl) (fun i n d hn hd=>h (i+1) n d (by simpa using hn) (by simpa using hd))
  omega
 | [],_::_,hl,_=>by simp at hl
 | _::_,[],hl,_=>by simp at hl
theorem Ry {α β:Type} (u:β->Nat) (f:α->β):∀ l:List α,cg u (l.map f)=cg (fun x=>u (f x)) l
 | []=>rfl
 | x::l=>by simp only[map_cons,cg,Ry u f l]
theorem abw {α:Type} (u:α->Nat) (l:List α):cg id (l.map u)=cg u l:=by rw[Ry];rfl
theorem lC {fuel T E sz:Nat} {α:Type} {e:α->List PV} {good:α->Prop} {u:α->Nat} (h:P.underlying T=some (.slice E)) (hsz:P.cellsOf E=sz) (hz:Nat.blt 0 sz=true) (hlen:∀ y,(e y).length=sz) (hE:∀ n,n < fuel->tc K enc P w n E e good u):
  tc K enc P w fuel T (eL sz e) (kj good) (fun l=>cg u l+1):=fun cs x hx=>by
 -- the elements' own counts go along as a part of what is good
 have hz':0 < sz:=by simpa [Nat.blt_eq] using hz
 rcases DataW.trod_slice h hx with⟨rfl,rfl⟩ | ⟨a,len,cap,elems,rest,n,hf,rfl,rfl,_,h1,h2,h3,h4,h5⟩
 ·exact⟨[],⟨Nat.zero_le _,by simp⟩,K.one _,oQ (.vs0 sz) rfl⟩
 ·have el:∀ i,i < len->∃ y cs' ei,elems[i]? =some ei/\u y<=K.bk ei.1/\good y/\w.cells? 0 (a.add (i * sz)) sz=some cs'/\Reads1 w (fun _=>False) cs' (e y):=by
   intro i hi
   have h6:=h4 i hi
   rw[hsz] at h6
   obtain⟨ei,hei⟩:∃ ei,elems[i]? =some ei:=⟨elems[i]'(by omega),getElem?_eq_getElem (by omega)⟩
   rw[hei] at h6
   obtain⟨cs',h7,h8⟩:=Option.bind_eq_some_iff.1 h6
   obtain⟨y,h9,h12,h13⟩:=hE n (by omega) cs' _ h8
   exact⟨y,cs',ei,hei,h12,h9,h7,h13⟩
  rcases Nat.eq_zero_or_pos len with h0 | h0
  ·subst h0
   exact⟨[],⟨Nat.zero_le _,by simp⟩,K.one _,oQ (.vsz sz (some a) cap (fun e=>by cases e) h2) rfl⟩
  ·obtain⟨f,hfs⟩:∃ f:Nat->α,∀ i,i < len->∃ cs' ei,elems[i]? =some ei/\u (f i)<=K.bk ei.1/\good (f i)/\w.cells? 0 (a.add (i * sz)) sz=some cs'/\Reads1 w (fun _=>False) cs' (e (f i)):=by
    obtain⟨y0,_⟩:=el 0 h0
    refine⟨fun i=>if hi:i < len then(el i hi).choose else y0,fun i hi=> ?_⟩
    simp only[dif_pos hi]
    exact(el i hi).choose_spec
   -- the reading of the whole, by the rule without counts
   have hd:∃ y,(y=(List.range len).map f)/\Reads1 w (fun _=>False) [.slice (some a) len cap] (eL sz e y):=by
    have hsp:a.spot=none:=by
     obtain⟨cs',_,_,_,_,hc,_⟩:=hfs 0 h0
     obtain⟨_,hl,hcell⟩:=World.cells?_some hc
     have:=hcell 0 hz'
     obtain⟨v,hv⟩:∃ v,cs'[0]? =some v:=⟨cs'[0]'(by omega),getElem?_eq_getElem (by omega)⟩
     rw[hv] at this
     simpa [Addr.add] using World.cell?_spot this
    obtain⟨b,off,sp⟩:=a
    simp only at hsp;subst hsp
    refine⟨(List.range len).map f,rfl,oQ ?_ rfl⟩
    have hL:(map e ((List.range len).map f)).length=len:=by simp
    have cellv:∀ k,k < len * sz->∃ v,w.cell? ⟨b,off+k,none⟩=some v/\∀ p,(e (f (k / sz)))[k % sz]? =some p->Rd w (fun _=>False) p v:=by
     intro k hk
     have hq:k / sz < len:=Nat.div_lt_of_lt_mul (by rw[Nat.mul_comm];exact hk)
     have hm:k % sz < sz:=Nat.mod_lt _ hz'
     obtain⟨cs',_,_,_,_,hc,hr⟩:=hfs (k / sz) hq
     obtain⟨_,hl,hcell⟩:=World.cells?_some hc
     have h6:=hcell (k % sz) hm
     have hv:cs'[k % sz]? =some (cs'[k % sz]'(by omega)):=getElem?_eq_getElem (by omega)
     refine⟨cs'[k % sz]'(by omega),?_,fun p hp=>hr.2.2 _ p _ hp hv⟩
     rw[hv] at h6
     have e1:off+k / sz * sz+k % sz=off+k:=by
      have:=Nat.div_add_mod k sz
      rw[Nat.mul_comm] at this
      omega
     simp only[Addr.add_lit] at h6
     rw[e1] at h6
     exact h6
    have hus:∃ us:Nat->Value,∀ k,k < len * sz->w.cell? ⟨b,off+k,none⟩=some (us k)/\∀ p,(e (f (k / sz)))[k % sz]? =some p->Rd w (fun _=>False) p (us k):=by
     refine⟨fun k=>if hk:k < len * sz then(cellv k hk).choose else undef,fun k hk=> ?_⟩
     simp only[dif_pos hk]
     exact(cellv k hk).choose_spec
    obtain⟨us,hus⟩:=hus
    have hb:b < w.heap.size:=by
     have h6:=(hus 0 (Nat.mul_pos h0 hz')).1
     rcases Nat.lt_or_ge b w.heap.size with h7 | h7
     ·exact h7
     ·simp[World.cell?,Array.getElem?_eq_none h7] at h6
    have:=Rd.vs (w:=w) (O:=fun _=>False) sz (map e ((List.range len).map f)) b off cap us (fun h=>h) hb (by rw[hL];omega) h2 (fun row hr=> ?_) (fun row hr c hc=> ?_) (fun k hk=> ?_) (fun i j row c hi hj=> ?_)
    ·rw[hL] at this;exact this
    ·obtain⟨y,_,rfl⟩:=List.mem_map.1 hr
     exact hlen y
    ·obtain⟨y,hy,rfl⟩:=List.mem_map.1 hr
     obtain⟨i,hi,rfl⟩:=List.mem_map.1 hy
     obtain⟨cs',_,_,_,_,_,hr⟩:=hfs i (by simpa using hi)
     exact hr.2.1 c hc
    ·rw[hL] at hk
     exact(hus k hk).1
    ·have hi':i < len:=by have:=(List.getElem?_eq_some_iff.1 hi).1;rw[hL] at this;exact this
     simp[hi'] at hi
     subst hi
     have hj':j < sz:=by have:=(List.getElem?_eq_some_iff.1 hj).1;rw[hlen] at this;exact this
     have h6:=(hus (i * sz+j) (sI hi' hj')).2 c
     have e1:(i * sz+j) / sz=i:=by rw[Nat.mul_comm,Nat.mul_add_div hz',Nat.div_eq_of_lt hj',Nat.add_zero]
     have e2:(i * sz+j) % sz=j:=by rw[Nat.mul_comm,Nat.mul_add_mod,Nat.mod_eq_of_lt hj']
     rw[e1,e2] at h6
     exact h6 hj
   obtain⟨y,rfl,hr⟩:=hd
   refine⟨(List.range len).map f,⟨by simp;omega,fun y hy=> ?_⟩,?_,hr⟩
   ·obtain⟨i,hi,rfl⟩:=List.mem_map.1 hy
    obtain⟨_,_,_,_,hg,_⟩:=hfs i (by simpa using hi)
    exact hg
   ·refine Nat.le_trans (Nat.succ_le_succ ?_) (K.sl _ _)
    rw[<- abw]
    refine Yb _ _ (by simp[h3]) fun i n d hn hd=> ?_
    rw[map_map,getElem?_map,Option.map_eq_some_iff] at hn
    obtain⟨j,hj,rfl⟩:=hn
    have hji:j=i/\i < len:=by
     rw[List.getElem?_eq_some_iff] at hj
     obtain⟨h6,h7⟩:=hj
     simp at h6 h7
     exact⟨h7.symm,h6⟩
    obtain⟨rfl,hi⟩:=hji
    obtain⟨_,ei,h6,h7,_⟩:=hfs j hi
    rw[getElem?_map,h6] at hd
    simp at hd;subst hd
    exact h7
theorem qo {fuel T n:Nat} {l:List (TypeId×Nat×Nat)} {cs:List Value} {x:DataW H×List MemPlace} (h:NF P T l n=true) (hx:DataW.trod enc P w 0 (fun _=>true) true fuel T cs=some x):
  ∃ (m:Nat) (xs:List (DataW H×List MemPlace)),m < fuel/\cs.length=n/\x.1= .agg (xs.map (·.1))/\xs.length=l.length/\∀ (i t off sz:Nat),l[i]? =some (t,off,sz)->∃ y,xs[i]? =some y/\DataW.trod enc P w 0 (fun _=>true) true m t ((cs.drop off).take sz)=some y:=by
 unfold NF at h
 split at h
 ·rename_i fs hu
  simp only[Bool.and_eq_true,beq_iff_eq] at h
  obtain⟨rfl,rfl⟩:=h
  obtain⟨xs,m,hf,he,hl,hxs,hp⟩:=DataW.trod_struct hu hx
  refine⟨m,xs,by omega,hl,by rw[he],by simp[hxs],fun i t off sz hi=> ?_⟩
  rw[getElem?_map,Option.map_eq_some_iff] at hi
  obtain⟨f,hfi,he⟩:=hi
  injection he with e1 e2;injection e2 with e2 e3
  subst e1;subst e2;subst e3
  have hfi':fs[i]? =some f:=by simpa using hfi
  have hlt:i < xs.length:=by rw[hxs];exact(Array.getElem?_eq_some_iff.1 hfi').1
  exact⟨xs[i],getElem?_eq_getElem hlt,by rw[hp i f hfi'];exact getElem?_eq_getElem hlt⟩
 ·cases h
theorem adr {xs:List (DataW H×List MemPlace)} {d:DataW H} {n:Nat} (ns:List Nat) (hd:d= .agg (xs.map (·.1))) (hl:xs.length=n) (hn:ns.length=n) (h:∀ (i n:Nat) (y:DataW H×List MemPlace),ns[i]? =some n->xs[i]? =some y->n<=K.bk y.1):cg id ns+1<=K.bk d:=by
 subst hd
 refine Nat.le_trans (Nat.succ_le_succ (Yb _ _ (by simp[hl,hn]) fun i n d hi hd=> ?_)) (K.ag _)
 rw[getElem?_map,Option.map_eq_some_iff] at hd
 obtain⟨y,hy,rfl⟩:=hd
 exact h i n y hi hy
def NsGe (K:Bk H) (xs:List (DataW H×List MemPlace)):Nat->List Nat->Prop
 | _,[]=>True
 | i,n::ns=>(∃ y,xs[i]? =some y/\n<=K.bk y.1)/\NsGe K xs (i+1) ns
theorem NsGe.spec {xs:List (DataW H×List MemPlace)}:∀ {ns:List Nat} {k:Nat},NsGe K xs k ns->∀ (i n:Nat) (y:DataW H×List MemPlace),ns[i]? =some n->xs[k+i]? =some y->n<=K.bk y.1
 | [],_,_,i,n,y,hi,_=>by simp at hi
 | n'::ns,k,h,i,n,y,hi,hy=>by
  cases i with
  | zero=>
   simp at hi;subst hi
   obtain⟨y',h1,h2⟩:=h.1
   rw[Nat.add_zero,h1] at hy;cases hy
   exact h2
  | succ i=>exact NsGe.spec h.2 i n y (by simpa using hi) (by rw[show k+1 + i=k+(i+1) by omega];exact hy)
theorem zg {xs:List (DataW H×List MemPlace)} {d:DataW H} {n:Nat} (ns:List Nat) (hd:d= .agg (xs.map (·.1))) (hl:xs.length=n) (hn:ns.length=n) (h:NsGe K xs 0 ns):cg id ns+1<=K.bk d:=
 adr ns hd hl hn (fun i n y h1 h2=>h.spec i n y h1 (by rw[Nat.zero_add];exact h2))
theorem UG {fuel T n E sz:Nat} {cs:List Value} {x:DataW H×List MemPlace} (h:YR P T n E sz=true) (hx:DataW.trod enc P w 0 (fun _=>true) true fuel T cs=some x):
  ∃ (m:Nat) (xs:List (DataW H×List MemPlace)),m < fuel/\cs.length=n * sz/\x.1= .agg (xs.map (·.1))/\xs.length=n/\∀ i,i < n->∃ y,xs[i]? =some y/\DataW.trod enc P w 0 (fun _=>true) true m E ((cs.drop (i * sz)).take sz)=some y:=by
 unfold YR at h
 split at h
 ·rename_i m e hu
  simp only[Bool.and_eq_true,beq_iff_eq] at h
  obtain⟨⟨rfl,rfl⟩,rfl,h4⟩:=h
  obtain⟨xs,m',hf,he,hl,hxs,hp⟩:=DataW.trod_array hu hx
  refine⟨m',xs,by omega,by rw[hl,h4],by rw[he],hxs,fun i hi=> ?_⟩
  exact⟨xs[i],getElem?_eq_getElem (by omega),by rw[hp i hi];exact getElem?_eq_getElem (by omega)⟩
 ·cases h
theorem WE {fuel T E sz:Nat} {α:Type} {e:α->List PV} {good:α->Prop} {u:α->Nat} (h:YR P T 4 E sz=true) (hlen:∀ y,(e y).length=sz) (hE:∀ n,n < fuel->tc K enc P w n E e good u):
  tc K enc P w fuel T (eA4 e) (fun x=>good x.a0/\good x.a1/\good x.a2/\good x.a3) (fun x=>u x.a0+(u x.a1+(u x.a2+(u x.a3+0)))+1):=fun cs x hx=>by
 obtain⟨m,xs,hm,hl,hd,hxl,hp⟩:=UG h hx
 obtain⟨z0,k0,q0⟩:=hp 0 (by omega)
 obtain⟨z1,k1,q1⟩:=hp 1 (by omega)
 obtain⟨z2,k2,q2⟩:=hp 2 (by omega)
 obtain⟨z3,k3,q3⟩:=hp 3 (by omega)
 obtain⟨y0,g0,b0,r0⟩:=hE m hm _ _ q0
 obtain⟨y1,g1,b1,r1⟩:=hE m hm _ _ q1
 obtain⟨y2,g2,b2,r2⟩:=hE m hm _ _ q2
 obtain⟨y3,g3,b3,r3⟩:=hE m hm _ _ q3
 refine⟨⟨y0,y1,y2,y3⟩,⟨g0,g1,g2,g3⟩,zg [u y0,u y1,u y2,u y3] hd hxl rfl ⟨⟨z0,k0,b0⟩,⟨z1,k1,b1⟩,⟨z2,k2,b2⟩,⟨z3,k3,b3⟩,trivial⟩,?_⟩
 have e0:cs.drop 0=cs:=drop_zero
 rw[<- e0]
 have:=cd (off:=0) (by simpa using r0) (hlen y0) (cd (by simpa using r1) (hlen y1) (cd (by rw[show 0+sz+sz=2 * sz by omega];exact r2) (hlen y2) (cd (by rw[show 0+sz+sz+sz=3 * sz by omega];exact r3) (hlen y3) (ng (by omega)))))
 simpa using this
theorem Zg {T:TypeId} {v:Value} {d:DataW H} {ps:List MemPlace} {α:Type} {e:α->List PV} {good:α->Prop} {u:α->Nat} (hT:∀ n,tc K enc P w n T e good u) (h:DataW.Trod enc P w 0 (fun _=>true) true T v d ps):∃ y,good y/\u y<=K.bk d/\Reads1 w (fun _=>False) v.cells.toList (e y):=by
 obtain⟨fuel,hf⟩:=h
 exact hT fuel _ _ hf
end
section
variable {H:Type} {enc:TypeId×Value->H}
end
end Go.Abs

/- A law's second row whose package variables are listed. -/
namespace Go.Abs
open List
variable {G:List (Nat×List PV)}
open Go.ChangeShapes Go.WideShapes Go.ChangeAt Go.RowKit
section
variable {H:Type} {enc:TypeId×Value->H}
theorem LZ {C:Checked} {os:Os} {f:FuncId} {fn:Func} {s:ChangeSpec} {s2:OpenSpec} {k:(H:Type)->List (DataW H)->Bool} (hk:s2.cond=some k) {F:Stop.Interp} {B:TypeId} {fresh handsOn:Bool} {L:List (String×DataW Unit)}
  (own:ownKnob C.prog.godebug=none) (started:os.Started) (noInit:C.prog.inits.idxOf? f=none) (hfn:C.prog.funcs[f]? =some fn)
  (witness:∃ (w:World) (tape:Tape) (i:Input),w.os=os/\(w.forCall tape i).Shaped C.prog/\i.vars=[]/\Input.okWide C.prog (w.forCall tape i) .any w.heap.size f i/\
   s2.preRow enc C.prog fn [] false L (w.forCall tape i).memory i.args/\({}:Assume).holds C.prog (lone (Frame.enter C.prog f i.args .normal) [] (w.forCall tape i)))
  (hl:laidOutB C.prog=true) (hr:RK C.prog fn.params.toList=true) (hvars:s.vars=[]) (hv2:s2.vars=[]) (hres:fn.resultTypes= #[B]) (hB:C.prog.underlying B=some .bool)
  (hs:∀ ds:List (DataW H),ds.length=fn.params.size->s.fn H ds={ results:=[.lit (.bool true)],args:=ds })
  (hpost:∀ W args v W',s.post enc C.prog fn false fresh handsOn false W args v W'->(s2.at F).post enc C.prog fn false fresh handsOn false W args v W')
  (hGL:∀ W:World,laidMetH C.prog L W->GlobOk G W (fun _=>False))
  (hcall:∀ (W:World) (base:Nat) (args:Array Value) (ds:List (DataW H)) (ps:List MemPlace),(∀ (j:Nat) t v,fn.params[j]? =some t->args[j]? =some v->Value.okWide C.prog W .any base t v)->DataW.TrodAll enc C.prog W 0 (fun _=>true) true fn.params.toList args.toList ds ps->k H ds=true->∃ asx:List PV,aaf W asx args/\Fn G C.prog f asx [.p (.bool true)]):
  ReturnsInHanded {} C os f .any (s2.preRow enc C.prog fn [] false L) ((s2.at F).post enc C.prog fn false fresh handsOn false):=by
 refine returnsInHanded_of_row (C:=C) (s:=s2) own started noInit hfn witness ?_
 intro W base args ds gs before hval hW _ hkk _ hL _ _
 have hkk:=hkk k hk
 have hW0:DataW.Whole enc C.prog fn.params.toList s.vars false W args.toList ds gs before:=by rw[hvars,<- hv2];exact hW
 have hW':=hW0
 obtain⟨p,q,hA,hV,rfl,hfz,hnd⟩:=hW0
 have hV':gs=[]/\q=[]:=by rw[hvars] at hV;exact trodVars_none hV
 obtain⟨rfl,rfl⟩:=hV'
 rw[append_nil] at hkk
 obtain⟨asx,⟨h1,h2⟩,h3⟩:=hcall W base args ds p hval hA hkk
 refine(h3 W (fun _=>False) args (fun _ h=>h.elim) (hGL W hL) h1 h2).mono ?_
 rintro e W' ⟨v,O',rfl,hg,_,hrt⟩
 have hv:v= .bool true:=by
  have:Rd W' O' (.bool true) v:=hrt
  cases this;rfl
 subst hv
 have hlen:∀ {ts:List TypeId} {vs:List Value} {ds:List (DataW H)} {ps:List MemPlace},DataW.TrodAll enc C.prog W 0 (fun _=>true) true ts vs ds ps->ds.length=ts.length:=by
  intro ts
  induction ts with
  | nil=>intro vs ds ps h;obtain⟨_,rfl,_⟩:=trodAll_nil h;rfl
  | cons t ts ih=>intro vs ds ps h;obtain⟨v,vs',d,ds',p,q,rfl,rfl,rfl,h1,h2⟩:=trodAll_cons h;simp[ih h2]
 exact⟨_,rfl,hpost _ _ _ _ (Zc hl hr hvars (by rw[append_nil] at hW';rw[append_nil] at *;exact hW') hA hg hres hB (hs ds (by rw[hlen hA];simp)))⟩
end
end Go.Abs

/- Steps in a row, found by themselves. -/
namespace Go.Abs
open List
variable {G:List (Nat×List PV)}
open Go.RowKit
structure KP (p:Prop):Prop where
 h:p
class AgI (P:Program) (T:Nat) (n:outParam Nat):Prop where
 h:nR P T n=true
class IdxI {α:outParam Type} (rows:List (List PV)) (l:outParam (List α)) (f:outParam (α->List PV)):Prop where
 h:rows=l.map f
instance {α:Type} (l:List α) (f:α->List PV):IdxI (l.map f) l f:=⟨rfl⟩
class ZerI (P:Program) (T:Nat) (ps:outParam (List PV)):Prop where
 h:∃ z,cG P T z/\czl z.cells.toList ps=some ps
class FulI (l:List PV) (n:Nat):Prop where
 h:l.take n=l
 e:l.length=n
 o:l.all PV.one=true
class IntI (T:Nat):Prop where
 h:True
section
variable {ro:Option Nat} {P:Program} {c:Cx G} {Q:Exit->Act->World->Prop} {s s':St} {all rest:List Oper} {o:Oper}
section
variable {d:Option Nat}
theorem gix {α:Type} {T e sz:Nat} {x y:Operand} {k:IntKind} {n:Int} {rows:List (List PV)} {l:List α} {f:α->List PV} {b:α} [S:SlcI P T e sz] [I:IdxI rows l f] (ho:o.op= .indexAddr T x y) (hx:ev s x=some (.pv (.vs sz rows))) (hy:ev s y=some (.pv (.int k n))) (hr:idx l n=some b) (hd:o.dst=d) (hn:dOk s d=true):da ro P c o s (s.put d (some (.pv (.vp (f b))))):=
 iI ho hx hy (by rw[I.h];exact kR f hr) S.h hd hn
theorem gle {α:Type} {l:List α} {f:α->List PV} {rows:List (List PV)} {T e sz sz':Nat} {x:Operand} [F:SlcI P T e sz'] [I:IdxI rows l f] (ho:o.op= .call { callee:= .builtin .len,args:= #[x],argTypes:= #[T] }) (hx:ev s x=some (.pv (.vs sz rows))) (hd:o.dst=d) (hn:dOk s d=true):da ro P c o s (s.put d (some (.pv (.int .i64 l.length)))):=
 Ae (n:=l.length) ho hx (by rw[I.h,length_map]) F.h hd hn
theorem gal {T kk:Nat} {ps:List PV} [Z:ZerI P T ps] (hk:ko s kk=true) (ho:o.op= .alloc T) (hd:o.dst=d) (hn:dOk s d=true):da ro P c o s ((s.addAt kk none (.box T (ps.map .pv))).put d (some (.lp kk 0))):=by
 obtain⟨z,h1,h2⟩:=Z.h
 exact al kk ps h1 hk ho h2 hd hn
theorem glw {T n:Nat} {x:Operand} {row:List PV} [A:AgI P T n] [F:FulI row n] (ho:o.op= .load T x) (hx:ev s x=some (.pv (.vp row))) (hd:o.dst=d) (hn:dOk s d=true):da ro P c o s (s.put d (some (.pv (.agg row)))):=lw row A.h ho hx F.h F.e hd hn
end
theorem roA {j d:Nat} {want t:Bool} {d':Option Nat} (h:kJ ro P c all rest Q (s.put d' (some (.tup [])))) (hg:o.guard=some (j,want):=by exact rfl) (hj:((all[j]?).bind (·.dst))=some d:=by exact rfl) (hn:Nat.blt d s.n=true:=by exact rfl) (hl:aX d s.fr=some (.pv (.bool t)):=by exact rfl)
  (ht:t= !want:=by first | exact rfl | assumption) (hd:o.dst=d':=by exact rfl) (hk:ktB s d'=true:=by exact rfl):kJ ro P c all (o::rest) Q s:=Ia (uB hg hj hn hl ht) hd hk h
theorem gin {d:Option Nat} {op:BinOp} {T T':TypeId} {x y:Operand} {k:IntKind} {m n:Int} {r:PV} (ho:o.op= .binOp op T x y T':=by exact rfl) (_hI:IntI T:=by infer_instance) (hx:ev s x=some (.pv (.int k m)):=by exact rfl) (hy:ev s y=some (.pv (.int k n)):=by exact rfl) (hr:Eo op k m n=some r:=by exact rfl) (hd:o.dst=d:=by exact rfl) (hn:dOk s d=true:=by exact rfl):da ro P c o s (s.put d (some (.pv r))):=sf ho hx hy hr hd hn
theorem gIX {α:Type} {d:Option Nat} {T e sz:Nat} {x y:Operand} {k:IntKind} {n:Int} {rows:List (List PV)} {l:List α} {f:α->List PV} {b:α} (ho:o.op= .indexAddr T x y:=by exact rfl) (hx:ev s x=some (.pv (.vs sz rows)):=by exact rfl) (I:IdxI rows l f:=by infer_instance) (S:SlcI P T e sz:=by infer_instance) (hy:ev s y=some (.pv (.int k n)):=by exact rfl) (hr:idx l n=some b:=by with_reducible_and_instances assumption) (hd:o.dst=d:=by exact rfl) (hn:dOk s d=true:=by exact rfl):da ro P c o s (s.put d (some (.pv (.vp (f b))))):=gix ho hx hy hr hd hn
theorem gCT {d:Option Nat} {T T':Nat} {x y:Operand} {a b:List UInt8} {w:Unit} (ho:o.op= .binOp .add T x y T':=by exact rfl) (hx:ev s x=some (.pv (.str a)):=by exact rfl) (hy:ev s y=some (.pv (.str b)):=by exact rfl) (hr:dr ((a.length:Int)+(b.length:Int)) 1=some w:=by with_reducible_and_instances assumption) (hd:o.dst=d:=by exact rfl) (hn:dOk s d=true:=by exact rfl):da ro P c o s (s.put d (some (.pv (.str (a++b))))):=pj ho hx hy (ri hr) hd hn
theorem opA (ho:da ro P c o s s':=by first
 | exact Yw rfl rfl rfl rfl
 | exact Zp rfl rfl rfl rfl rfl rfl
 | exact gin
 | exact ic rfl rfl rfl rfl
 | exact ux rfl rfl rfl rfl
 | exact Ti rfl rfl rfl rfl rfl rfl rfl rfl rfl
 | exact SV rfl rfl rfl rfl rfl rfl rfl rfl rfl
 | exact YB rfl rfl rfl rfl rfl
 | exact adC rfl rfl rfl rfl
 | exact ZT rfl rfl rfl rfl
 | exact Ql rfl rfl rfl rfl
 | exact gIX
 | exact gCT
 | exact gle rfl rfl rfl rfl
 | exact glw rfl rfl rfl rfl
 | exact gal (kk:=0) rfl rfl rfl rfl
 | exact gal (kk:=1) rfl rfl rfl rfl
 | exact gal (kk:=2) rfl rfl rfl rfl
 | exact gal (kk:=3) rfl rfl rfl rfl
 | exact gal (kk:=4) rfl rfl rfl rfl
 | exact gal (kk:=5) rfl rfl rfl rfl
 | exact qt rfl rfl (by first | exact rfl | assumption) rfl rfl rfl
 | exact dI rfl rfl (by first | exact rfl | assumption) rfl rfl rfl
 | exact bo 0
 | exact bo 1
 | exact bo 2):da ro P c o s s':=ho
theorem rnA {j d:Nat} {want t:Bool} (h:kJ ro P c all rest Q s') (hg:o.guard=some (j,want):=by exact rfl) (hj:((all[j]?).bind (·.dst))=some d:=by exact rfl) (hn:Nat.blt d s.n=true:=by exact rfl) (hl:aX d s.fr=some (.pv (.bool t)):=by exact rfl) (ht:t=want:=by first | exact rfl | assumption)
  (ho:da ro P c o s s':=by exact opA):kJ ro P c all (o::rest) Q s:=ou (cD hg hj hn hl ht) ho h
theorem clA (kk:Nat) {fo:Operand} {xs:List Operand} {ts:Array TypeId} {f:Nat} {args:List PV} {rs:List Res} {ob:Option Blk} {d:Option Nat} (h:Fn G P f args rs) (hB:cY P f=true:=by kernel_rfl) (hk:ko s kk=true:=by exact rfl) (ho:o.op= .call { callee:= .value fo,args:=xs.toArray,argTypes:=ts }:=by exact rfl) (hf:ev s fo=some (.pv (.fn f [])):=by exact rfl) (hx:evl s xs=some (args.map .pv):=by exact rfl)
  (hob:qZ rs=some ob:=by exact rfl) (hd:o.dst=d:=by exact rfl) (hn:dOk s d=true:=by exact rfl):da ro P c o s ((s.addRes kk ob).put d (some (DV kk rs))):=cl kk args rs (by rw[append_nil];exact h) hB hk ho hf hx hob hd hn
theorem gA {g g':Prop} (h':g') (h:KP g'->g:=by first
 | ((with_reducible refine(?_:_->kJ _ _ _ _ _ _ _));first
  | exact fun k1=>rmv k1.h
  | exact fun k1=>roA k1.h
  | exact fun k1=>rnA k1.h
  | ((with_reducible refine(?_:_->kJ _ _ _ _ [] (Exit.then _ _) _));exact fun k1=>ci (zG k1.h))
  | exact fun k1=>rgp opA k1.h
  | exact fun k1=>rgu k1.h
  | exact fun k1=>rpA k1.h
  | exact fun k1=>rpB k1.h
  | with_reducible exact fun k1=>rnr k1.h)
 | ((with_reducible refine(?_:_->AW _ _ _ _ _ _));first
  | with_reducible exact fun k1=>aJ (zX k1.h)
  | with_reducible exact fun k1=>aJ k1.h
  | with_reducible exact fun k1=>zX k1.h
  | with_reducible exact fun k1=>UL k1.h
  | with_reducible exact fun k1=>aae k1.h
  | with_reducible exact fun k1=>uv k1.h
  | ((fail_if_success with_reducible refine(?_:_->AW _ _ _ (.block _ (.loop _)) _ _));with_reducible exact fun k1=>cI k1.h))
 | ((with_reducible refine(?_:_->gw _ _ _ _));(fail_if_success with_reducible refine(?_:_->gw _ (xw _ _ _ _ _) _ _));(fail_if_success with_reducible refine(?_:_->gw _ (bodyPostM _ _ _ _ _) _ _));(fail_if_success with_reducible refine(?_:_->gw _ (NT _ _ _ _ _ _ _ _ _ _) _ _));(fail_if_success with_reducible refine(?_:_->gw _ (Cut _ _ _) _ _));(fail_if_success with_reducible refine(?_:_->gw _ (Lp _ _ _ _) _ _));first
  | with_reducible exact fun k1=>zG k1.h
  | with_reducible exact fun k1=>vL k1.h
  | with_reducible exact fun k1=>AQ k1.h
  | with_reducible exact fun k1=>zt k1.h
  | with_reducible exact fun k1=>di k1.h)
 | with_reducible exact fun k1=>tp k1.h):g:=h ⟨h'⟩
theorem gg {g g':Prop} (h':g') (h:KP g'->g:=by
 intro k2
 repeat' (refine gA ?_)
 exact k2.h):g:=h ⟨h'⟩
theorem ga2 {g g':Prop} (h':g') (h:KP g'->g:=by intro k2;(iterate 2 refine gA ?_);exact k2.h):g:=h ⟨h'⟩
theorem ga3 {g g':Prop} (h':g') (h:KP g'->g:=by intro k2;(iterate 3 refine gA ?_);exact k2.h):g:=h ⟨h'⟩
theorem ga4 {g g':Prop} (h':g') (h:KP g'->g:=by intro k2;(iterate 4 refine gA ?_);exact k2.h):g:=h ⟨h'⟩
theorem ga5 {g g':Prop} (h':g') (h:KP g'->g:=by intro k2;(iterate 5 refine gA ?_);exact k2.h):g:=h ⟨h'⟩
theorem ga6 {g g':Prop} (h':g') (h:KP g'->g:=by intro k2;(iterate 6 refine gA ?_);exact k2.h):g:=h ⟨h'⟩
theorem ga7 {g g':Prop} (h':g') (h:KP g'->g:=by intro k2;(iterate 7 refine gA ?_);exact k2.h):g:=h ⟨h'⟩
theorem ga8 {g g':Prop} (h':g') (h:KP g'->g:=by intro k2;(iterate 8 refine gA ?_);exact k2.h):g:=h ⟨h'⟩
theorem ga9 {g g':Prop} (h':g') (h:KP g'->g:=by intro k2;(iterate 9 refine gA ?_);exact k2.h):g:=h ⟨h'⟩
theorem WH {L:List Nat} (_hL:L=L) (hF:AE s.fr s'.fr=Lz (fun i=>L.getD i s.next) s'.fr:=by kernel_rfl) (hH:AI s.hp (fun i=>L.getD i s.next) s'.hp=Mb (fun i=>L.getD i s.next) s'.hp:=by kernel_rfl)
  (hn:s'.n=s.n:=by exact rfl) (hnd:L.Nodup:=by decide) (hnext:s'.next=L.length:=by exact rfl) (hfree:s'.free=[]:=by exact rfl)
  (hids:(s'.hp.all fun x=>Nat.blt x.1 L.length)=true:=by exact rfl) (hys:s'.ys=s.ys:=by exact rfl) (hkt:s'.kt=s.kt:=by exact rfl):Imp c s s':=Dr L hn hnd hnext hfree (xR hF) (xX hH) hids hys hkt
theorem rcL (h:Imp c s s':=by exact WH hL):kJ ro P c all [] (Cut c Q (fun s=>s=s')) s:=ci (kf s' rfl h)
theorem pcL (h:Imp c s s':=by exact WH hL):gw c (Cut c Q (fun s=>s=s')) .normal s:=kf s' rfl h
theorem afy {fn:Func} {w0:World} {O0:Nat->Prop} {a T n id off t:Nat} {cells:List AV} {ps:List PV} [F:AgI P T n] (hr:fn.results=[ResultVar.cell a T].toArray) (h1:aX a s.fr=some (.lp id off)) (h2:aX id s.hp=some (.box t cells)) (h4:pvs ((cells.drop off).take n)=some ps)
  (h5:ps.length=n) (h6:(ps.all PV.one)=true) (hc:c=Fn.cx w0 O0):gw c (xw P fn w0 O0 [.p (.agg ps)]) .ret s:=oE hc hr (.cons _ _ _ _ _ (.agg _ _ _ _ _ n _ _ h1 h2 F.h h4 h5 h6) (.p _) .nil) (.inl rfl)
theorem pra {fn:Func} {w0:World} {O0:Nat->Prop} {ps:List PV} (h:gw c (xw P fn w0 O0 [.p (.agg ps)]) .ret s:=by exact afy rfl rfl rfl rfl rfl rfl rfl):gw c (xw P fn w0 O0 [.p (.agg ps)]) .ret s:=h
theorem afo {fn:Func} {w0:World} {O0:Nat->Prop} {t u:Nat} {p q:PV} (hr:fn.results=[ResultVar.tmp t,ResultVar.tmp u].toArray:=by exact rfl) (h:aX t s.fr=some (.pv p):=by exact rfl) (h':aX u s.fr=some (.pv q):=by exact rfl) (hc:c=Fn.cx w0 O0:=by exact rfl):gw c (xw P fn w0 O0 [.p p,.p q]) .ret s:=
 oE hc hr (.cons _ _ _ _ _ (.tmp _ _ h) (.p _) (.cons _ _ _ _ _ (.tmp _ _ h') (.p _) .nil)) (.inl rfl)
theorem tl {g:Prop} (L:List Nat) (h:L=L->g:=by
 intro hL
 repeat' (first | refine gA ?_ | (rcases ie F with⟨hb,F⟩ | ⟨hb,F⟩) | refine cnd F (fun hb F=> ?_) fun hb F=> ?_)
 all_goals (cases F;first | exact rcL | exact pcL | exact prt | exact pra | exact afo | exact pR _ ⟨_,rfl,rfl⟩ (WH hL) | exact pR _ rfl (WH hL) | exact mc hcx rfl .nil rfl (.inr rfl) | exact mc hcx rfl (.cons _ _ _ _ (.tmp _ _ rfl) .nil) rfl (.inl rfl))):g:=h rfl
theorem rq {g':Prop} (ho:da ro P c o s s') (h':g') (h:KP g'->kJ ro P c all rest Q s':=by
 intro k2
 repeat' (refine gA ?_)
 exact k2.h) (hg:o.guard=none:=by exact rfl):kJ ro P c all (o::rest) Q s:=ou (bQ hg) ho (h ⟨h'⟩)
theorem rqn {g':Prop} {j d:Nat} {want t:Bool} (ht:t=want) (ho:da ro P c o s s') (h':g') (h:KP g'->kJ ro P c all rest Q s':=by
 intro k2
 repeat' (refine gA ?_)
 exact k2.h) (hg:o.guard=some (j,want):=by exact rfl) (hj:((all[j]?).bind (·.dst))=some d:=by exact rfl) (hn:Nat.blt d s.n=true:=by exact rfl) (hl:aX d s.fr=some (.pv (.bool t)):=by exact rfl):kJ ro P c all (o::rest) Q s:=ou (cD hg hj hn hl ht) ho (h ⟨h'⟩)
theorem cq {β:Type} {b:Bool} {X Y:Option β} {r:β} {x y:Code} {t:Operand} {g1 g2:Prop} (hF:(if b=true then X else Y)=some r) (h1:b=true->X=some r->g1) (h2:b=false->Y=some r->g2) (ht:ev s t=some (.pv (.bool b)):=by exact rfl) (e1:b=true->KP g1->AW ro P c x Q s:=by
 intro hb k2
 repeat' (refine gA ?_)
 exact k2.h) (e2:b=false->KP g2->AW ro P c y Q s:=by
 intro hb k2
 repeat' (refine gA ?_)
 exact k2.h):AW ro P c (.cond t x y) Q s:=cnd hF (fun hb hF=>e1 hb ⟨h1 hb hF⟩) (fun hb hF=>e2 hb ⟨h2 hb hF⟩) ht
theorem fb {f:FuncId} {fn:Func} {code:Code} {args:List PV} {rs:List Res} {g:World->(Nat->Prop)->Prop} (n:Nat) (hf:P.funcs[f]? =some fn) (h':∀ w O,g w O) (hb:fn.body=some code:=by exact rfl) (hn:fn.ntmps=n:=by exact rfl) (hl:Nat.ble args.length n=true:=by exact rfl)
  (h:∀ w O,KP (g w O)->AW none P (Fn.cx (G:=G) w O) code (xw P fn w O rs) { n:=n,fr:=wi 0 args,hp:=[],next:=0 }:=by
 intro w O k2
 repeat' (refine gA ?_)
 exact k2.h):Fn G P f args rs:=bM hf hb hn hl fun w O=>h w O ⟨h' w O⟩
theorem iq {β:Type} {b:Bool} {X Y:Option β} {r:β} {g g1 g2:Prop} (hF:(if b=true then X else Y)=some r) (h1:b=true->X=some r->g1) (h2:b=false->Y=some r->g2) (e1:b=true->KP g1->g:=by
 intro hb k2
 repeat' (refine gA ?_)
 exact k2.h) (e2:b=false->KP g2->g:=by
 intro hb k2
 repeat' (refine gA ?_)
 exact k2.h):g:=by
 rcases ie hF with⟨hb,hF⟩ | ⟨hb,hF⟩
 ·exact e1 hb ⟨h1 hb hF⟩
 ·exact e2 hb ⟨h2 hb hF⟩
theorem ctq {k:Code} {g1 g2:Prop} (s1:St) (h:g1) (h2:g2) (e1:KP g1->AW ro P c k (Cut c Q (fun s'=>s'=s1)) s:=by
 intro k2
 repeat' (refine gA ?_)
 exact k2.h) (e2:KP g2->gw c Q .normal s1:=by
 intro k2
 repeat' (refine gA ?_)
 exact k2.h):AW ro P c k Q s:=ctx s1 (e1 ⟨h⟩) (e2 ⟨h2⟩)
theorem lpG {α ρ:Type} {id:Nat} {body:Code} {m:Nat} {r:ρ} (I:St->Prop) (S:α->St) (R:Nat->α -> Option ρ) (x0:α) (hi:Imp c s (S x0)) (hF:R m x0=some r) (hs:∀ n x,R (n+1) x=some r->(∀ x',R n x'=some r->Aj ro P c body (Lp c id Q I) n (S x'))->Aj ro P c body (Lp c id Q I) (n+1) (S x)) (h2:∀ s1,I s1->gw c Q .normal s1)
  (hz:∀ x,¬ R 0 x=some r:=by exact fun q h=>(by cases h)):AW ro P c (.block id (.loop body)) Q s:=Zd m I (QD S (fun k x=>R k x=some r) x0 hi hF hz hs) h2
theorem lpE {α ρ:Type} {id:Nat} {body:Code} {m:Nat} {r:ρ} (s1:St) (S:α->St) (R:Nat->α -> Option ρ) (x0:α) (hi:Imp c s (S x0)) (hF:R m x0=some r) (hs:∀ n x,R (n+1) x=some r->(∀ x',R n x'=some r->Aj ro P c body (Lp c id Q (fun s=>s=s1)) n (S x'))->Aj ro P c body (Lp c id Q (fun s=>s=s1)) (n+1) (S x)) (h2:gw c Q .normal s1)
  (hz:∀ x,¬ R 0 x=some r:=by exact fun q h=>(by cases h)):AW ro P c (.block id (.loop body)) Q s:=Zd m (fun s=>s=s1) (QD S (fun k x=>R k x=some r) x0 hi hF hz hs) (fun _ e=>e ▸ h2)
end
end Go.Abs

/- Regions that draw their order: steps that find their rule themselves. -/
namespace Go.Abs
open List
variable {G:List (Nat×List PV)}
open Go.RowKit
section
variable {ro:Option Nat} {P:Program} {c:Cx G} {Q:Exit->Act->World->Prop} {s:St} {id n next ys:Nat} {kt:List Nat} {df:List Deferred} {l rest:List Oper} {o:Oper} {m0 m:Mid} {es:List Eff} {e:Eff}
def OpD (ro:Option Nat) (P:Program) (c:Cx G) (n:Nat) (df:List Deferred) (next ys:Nat) (kt:List Nat) (o:Oper) (m:Mid) (e:Eff):Prop:=(∀ m':Mid,Has e m'->da ro P c o (m'.st n df next ys kt) ((e.apply m').st n df next ys kt))/\Has e m
abbrev eR (nd:List (Nat×AV)) (d:Nat) (v:AV):Eff:=⟨nd,[],[],some d,some v,[]⟩
section
variable {d t u T T':Nat} {v:AV} (hd:o.dst=some d) (hk:dOk (m.st n df next ys kt) (some d)=true)
include hd hk
theorem omv (ho:o.op= .move (.tmp t)) (hl:aX t m.fr=some v):OpD ro P c n df next ys kt o m (eR [(t,v)] d v):=⟨fun m' h=>ic (s:=m'.st n df next ys kt) ho h.1.1 hd hk,⟨hl,trivial⟩,trivial,trivial⟩
theorem oas (ho:o.op= .assign (.tmp t)) (hl:aX t m.fr=some v):OpD ro P c n df next ys kt o m (eR [(t,v)] d v):=⟨fun m' h=>ux (s:=m'.st n df next ys kt) ho h.1.1 hd hk,⟨hl,trivial⟩,trivial,trivial⟩
theorem ofl {f off i k:Nat} [F:FldI P T f off] (ho:o.op= .fieldAddr T (.tmp t) f) (hl:aX t m.fr=some (.lp i k)):OpD ro P c n df next ys kt o m (eR [(t,.lp i k)] d (.lp i (k+off))):=⟨fun m' h=>gX (s:=m'.st n df next ys kt) ho h.1.1 F.h hd hk,⟨hl,trivial⟩,trivial,trivial⟩
theorem ofv {f off:Nat} {row:List PV} [F:FldI P T f off] (ho:o.op= .fieldAddr T (.tmp t) f) (hl:aX t m.fr=some (.pv (.vp row))):OpD ro P c n df next ys kt o m (eR [(t,.pv (.vp row))] d (.pv (.vp (row.drop off)))):=⟨fun m' h=>qL (s:=m'.st n df next ys kt) ho h.1.1 F.h hd hk,⟨hl,trivial⟩,trivial,trivial⟩
theorem old {i k tt:Nat} {cells:List AV} [F:OneI P T] (ho:o.op= .load T (.tmp t)) (hl:aX t m.fr=some (.lp i k)) (hh:aX i m.hp=some (.box tt cells)) (hc:cells[k]? =some v):OpD ro P c n df next ys kt o m ⟨[(t,.lp i k)],[(i,.box tt cells)],[],some d,some v,[]⟩:=
 ⟨fun m' h=>gv (s:=m'.st n df next ys kt) ho h.1.1 h.2.1.1 hc F.h hd hk,⟨hl,trivial⟩,⟨hh,trivial⟩,trivial⟩
theorem olv {row:List PV} {p:PV} [F:OneI P T] (ho:o.op= .load T (.tmp t)) (hl:aX t m.fr=some (.pv (.vp row))) (hp:row[0]? =some p):OpD ro P c n df next ys kt o m (eR [(t,.pv (.vp row))] d (.pv p)):=⟨fun m' h=>yd (s:=m'.st n df next ys kt) ho h.1.1 hp F.h hd hk,⟨hl,trivial⟩,trivial,trivial⟩
theorem olw {N:Nat} {row:List PV} [A:AgI P T N] [F:FulI row N] (ho:o.op= .load T (.tmp t)) (hl:aX t m.fr=some (.pv (.vp row))):OpD ro P c n df next ys kt o m (eR [(t,.pv (.vp row))] d (.pv (.agg row))):=⟨fun m' h=>ru (s:=m'.st n df next ys kt) ho h.1.1 F.h F.e A.h hd hk,⟨hl,trivial⟩,trivial,trivial⟩
theorem oia {op:BinOp} {k:IntKind} {a b:Int} {r:PV} {y:Value} (ho:o.op= .binOp op T (.tmp t) (.const y) T') (hl:aX t m.fr=some (.pv (.int k a))) (hy:cv y=some (.int k b)) (hr:Eo op k a b=some r):OpD ro P c n df next ys kt o m (eR [(t,.pv (.int k a))] d (.pv r)):=
 ⟨fun m' h=>sf (s:=m'.st n df next ys kt) ho h.1.1 (show ev _ (.const y)=_ by simp only[ev,hy,Option.map_some]) hr hd hk,⟨hl,trivial⟩,trivial,trivial⟩
theorem oib {op:BinOp} {k:IntKind} {a b:Int} {r:PV} (ho:o.op= .binOp op T (.tmp t) (.tmp u) T') (hl:aX t m.fr=some (.pv (.int k a))) (hy:aX u m.fr=some (.pv (.int k b))) (hr:Eo op k a b=some r):OpD ro P c n df next ys kt o m (eR [(t,.pv (.int k a)),(u,.pv (.int k b))] d (.pv r)):=
 ⟨fun m' h=>sf (s:=m'.st n df next ys kt) ho h.1.1 h.1.2.1 hr hd hk,⟨hl,hy,trivial⟩,trivial,trivial⟩
theorem oix {α:Type} {e sz:Nat} {k:IntKind} {i:Int} {rows:List (List PV)} {q:List α} {f:α->List PV} {b:α} [S:SlcI P T e sz] [I:IdxI rows q f] (ho:o.op= .indexAddr T (.tmp t) (.tmp u)) (hl:aX t m.fr=some (.pv (.vs sz rows))) (hy:aX u m.fr=some (.pv (.int k i))) (hr:idx q i=some b):
  OpD ro P c n df next ys kt o m (eR [(t,.pv (.vs sz rows)),(u,.pv (.int k i))] d (.pv (.vp (f b)))):=⟨fun m' h=>iI (s:=m'.st n df next ys kt) ho h.1.1 h.1.2.1 (by rw[I.h];exact kR f hr) S.h hd hk,⟨hl,hy,trivial⟩,trivial,trivial⟩
theorem ono {b:Bool} (ho:o.op= .unOp .not T (.tmp t)) (hl:aX t m.fr=some (.pv (.bool b))):OpD ro P c n df next ys kt o m (eR [(t,.pv (.bool b))] d (.pv (.bool (!b)))):=⟨fun m' h=>Ql (s:=m'.st n df next ys kt) ho h.1.1 hd hk,⟨hl,trivial⟩,trivial,trivial⟩
theorem opt {b:Bool} {z:Operand} (ho:o.op= .pick (.tmp t) (.tmp u) z) (hl:aX t m.fr=some (.pv (.bool b))) (hb:b=true) (hy:aX u m.fr=some v):OpD ro P c n df next ys kt o m (eR [(t,.pv (.bool b)),(u,v)] d v):=⟨fun m' h=>qt (s:=m'.st n df next ys kt) ho h.1.1 hb h.1.2.1 hd hk,⟨hl,hy,trivial⟩,trivial,trivial⟩
theorem opf {b:Bool} {z:Operand} (ho:o.op= .pick (.tmp t) z (.tmp u)) (hl:aX t m.fr=some (.pv (.bool b))) (hb:b=false) (hy:aX u m.fr=some v):OpD ro P c n df next ys kt o m (eR [(t,.pv (.bool b)),(u,v)] d v):=⟨fun m' h=>dI (s:=m'.st n df next ys kt) ho h.1.1 hb h.1.2.1 hd hk,⟨hl,hy,trivial⟩,trivial,trivial⟩
theorem oct {a b:List UInt8} {w:Unit} (ho:o.op= .binOp .add T (.tmp t) (.tmp u) T') (hl:aX t m.fr=some (.pv (.str a))) (hy:aX u m.fr=some (.pv (.str b))) (hr:dr ((a.length:Int)+(b.length:Int)) 1=some w):OpD ro P c n df next ys kt o m (eR [(t,.pv (.str a)),(u,.pv (.str b))] d (.pv (.str (a++b)))):=
 ⟨fun m' h=>pj (s:=m'.st n df next ys kt) ho h.1.1 h.1.2.1 (ri hr) hd hk,⟨hl,hy,trivial⟩,trivial,trivial⟩
theorem ocl {x:Value} {a b:List UInt8} {w:Unit} (ho:o.op= .binOp .add T (.const x) (.tmp u) T') (hl:cv x=some (.str a)) (hy:aX u m.fr=some (.pv (.str b))) (hr:dr ((a.length:Int)+(b.length:Int)) 1=some w):OpD ro P c n df next ys kt o m (eR [(u,.pv (.str b))] d (.pv (.str (a++b)))):=
 ⟨fun m' h=>pj (s:=m'.st n df next ys kt) ho (show ev _ (.const x)=_ by simp only[ev,hl,Option.map_some]) h.1.1 (ri hr) hd hk,⟨hy,trivial⟩,trivial,trivial⟩
theorem ocr {x:Value} {a b:List UInt8} {w:Unit} (ho:o.op= .binOp .add T (.tmp u) (.const x) T') (hl:cv x=some (.str b)) (hy:aX u m.fr=some (.pv (.str a))) (hr:dr ((a.length:Int)+(b.length:Int)) 1=some w):OpD ro P c n df next ys kt o m (eR [(u,.pv (.str a))] d (.pv (.str (a++b)))):=
 ⟨fun m' h=>pj (s:=m'.st n df next ys kt) ho h.1.1 (show ev _ (.const x)=_ by simp only[ev,hl,Option.map_some]) (ri hr) hd hk,⟨hy,trivial⟩,trivial,trivial⟩
end
theorem oiA {d t T T':Nat} {op:BinOp} {k:IntKind} {a b:Int} {r:PV} {y:Value} (ho:o.op= .binOp op T (.tmp t) (.const y) T':=by exact rfl) (_hI:IntI T:=by infer_instance) (hd:o.dst=some d:=by exact rfl) (hk:dOk (m.st n df next ys kt) (some d)=true:=by exact rfl) (hl:aX t m.fr=some (.pv (.int k a)):=by exact rfl) (hy:cv y=some (.int k b):=by exact rfl) (hr:Eo op k a b=some r:=by exact rfl):OpD ro P c n df next ys kt o m (eR [(t,.pv (.int k a))] d (.pv r)):=oia hd hk ho hl hy hr
theorem oiB {d t u T T':Nat} {op:BinOp} {k:IntKind} {a b:Int} {r:PV} (ho:o.op= .binOp op T (.tmp t) (.tmp u) T':=by exact rfl) (_hI:IntI T:=by infer_instance) (hd:o.dst=some d:=by exact rfl) (hk:dOk (m.st n df next ys kt) (some d)=true:=by exact rfl) (hl:aX t m.fr=some (.pv (.int k a)):=by exact rfl) (hy:aX u m.fr=some (.pv (.int k b)):=by exact rfl) (hr:Eo op k a b=some r:=by exact rfl):OpD ro P c n df next ys kt o m (eR [(t,.pv (.int k a)),(u,.pv (.int k b))] d (.pv r)):=oib hd hk ho hl hy hr
theorem oCT {d t u T T':Nat} {a b:List UInt8} {w:Unit} (ho:o.op= .binOp .add T (.tmp t) (.tmp u) T':=by exact rfl) (hl:aX t m.fr=some (.pv (.str a)):=by exact rfl) (hy:aX u m.fr=some (.pv (.str b)):=by exact rfl) (hr:dr ((a.length:Int)+(b.length:Int)) 1=some w:=by with_reducible_and_instances assumption) (hd:o.dst=some d:=by exact rfl) (hk:dOk (m.st n df next ys kt) (some d)=true:=by exact rfl):OpD ro P c n df next ys kt o m (eR [(t,.pv (.str a)),(u,.pv (.str b))] d (.pv (.str (a++b)))):=oct hd hk ho hl hy hr
theorem oCL {d u T T':Nat} {x:Value} {a b:List UInt8} {w:Unit} (ho:o.op= .binOp .add T (.const x) (.tmp u) T':=by exact rfl) (hl:cv x=some (.str a):=by exact rfl) (hy:aX u m.fr=some (.pv (.str b)):=by exact rfl) (hr:dr ((a.length:Int)+(b.length:Int)) 1=some w:=by with_reducible_and_instances assumption) (hd:o.dst=some d:=by exact rfl) (hk:dOk (m.st n df next ys kt) (some d)=true:=by exact rfl):OpD ro P c n df next ys kt o m (eR [(u,.pv (.str b))] d (.pv (.str (a++b)))):=ocl hd hk ho hl hy hr
theorem oCR {d u T T':Nat} {x:Value} {a b:List UInt8} {w:Unit} (ho:o.op= .binOp .add T (.tmp u) (.const x) T':=by exact rfl) (hl:cv x=some (.str b):=by exact rfl) (hy:aX u m.fr=some (.pv (.str a)):=by exact rfl) (hr:dr ((a.length:Int)+(b.length:Int)) 1=some w:=by with_reducible_and_instances assumption) (hd:o.dst=some d:=by exact rfl) (hk:dOk (m.st n df next ys kt) (some d)=true:=by exact rfl):OpD ro P c n df next ys kt o m (eR [(u,.pv (.str a))] d (.pv (.str (a++b)))):=ocr hd hk ho hl hy hr
theorem oIX {α:Type} {d t u T e sz:Nat} {k:IntKind} {i:Int} {rows:List (List PV)} {q:List α} {f:α->List PV} {b:α} (ho:o.op= .indexAddr T (.tmp t) (.tmp u):=by exact rfl) (hl:aX t m.fr=some (.pv (.vs sz rows)):=by exact rfl) (I:IdxI rows q f:=by infer_instance) (S:SlcI P T e sz:=by infer_instance) (hy:aX u m.fr=some (.pv (.int k i)):=by exact rfl) (hr:idx q i=some b:=by with_reducible_and_instances assumption) (hd:o.dst=some d:=by exact rfl) (hk:dOk (m.st n df next ys kt) (some d)=true:=by exact rfl):
  OpD ro P c n df next ys kt o m (eR [(t,.pv (.vs sz rows)),(u,.pv (.int k i))] d (.pv (.vp (f b)))):=oix hd hk ho hl hy hr
theorem opD (h:OpD ro P c n df next ys kt o m e:=by first
 | exact omv rfl rfl rfl rfl
 | exact ofl rfl rfl rfl rfl
 | exact old rfl rfl rfl rfl rfl rfl
 | exact oiA
 | exact oas rfl rfl rfl rfl
 | exact ofv rfl rfl rfl rfl
 | exact olv rfl rfl rfl rfl rfl
 | exact olw rfl rfl rfl rfl
 | exact oiB
 | exact ono rfl rfl rfl rfl
 | exact oIX
 | exact opt rfl rfl rfl rfl (by first | exact rfl | assumption) rfl
 | exact opf rfl rfl rfl rfl (by first | exact rfl | assumption) rfl
 | exact oCT
 | exact oCL
 | exact oCR):OpD ro P c n df next ys kt o m e:=h
theorem dNo (h:DrW ro P c Q s id l n df next ys kt m0 (e::es) rest (e.apply m)) (hg:o.guard=none:=by exact rfl) (ho:OpD ro P c n df next ys kt o m e:=by exact opD):DrW ro P c Q s id l n df next ys kt m0 es (o::rest) m:=bg e (fun m' h'=>bq (bQ hg) (ho.1 m' h') rfl) ho.2 h
theorem dNg {j dg:Nat} {want b:Bool} (h:DrW ro P c Q s id l n df next ys kt m0 (⟨(dg,.pv (.bool b))::e.need,e.hneed,e.names,e.dst,e.val,e.upd⟩::es) rest (e.apply m)) (hg:o.guard=some (j,want):=by exact rfl) (hj:((l[j]?).bind (·.dst))=some dg:=by exact rfl) (hn:Nat.blt dg n=true:=by exact rfl) (hgl:aX dg m.fr=some (.pv (.bool b)):=by exact rfl)
  (hb:b=want:=by first | exact rfl | assumption) (ho:OpD ro P c n df next ys kt o m e:=by exact opD):DrW ro P c Q s id l n df next ys kt m0 es (o::rest) m:=bg ⟨(dg,.pv (.bool b))::e.need,e.hneed,e.names,e.dst,e.val,e.upd⟩ (fun m' h'=>bq (cD hg hj hn h'.1.1 hb) (ho.1 m' ⟨h'.1.2,h'.2⟩) rfl) ⟨⟨hgl,ho.2.1⟩,ho.2.2⟩ h
theorem dof {j d:Nat} {want t:Bool} (h:DrW ro P c Q s id l n df next ys kt m0 ({ need:=[(d,.pv (.bool t))],dst:=o.dst,val:=some (.tup []) }::es) rest (({ need:=[(d,.pv (.bool t))],dst:=o.dst,val:=some (.tup []) }:Eff).apply m)) (hg:o.guard=some (j,want):=by exact rfl) (hj:((l[j]?).bind (·.dst))=some d:=by exact rfl) (hn:Nat.blt d n=true:=by exact rfl)
  (hl:aX d m.fr=some (.pv (.bool t)):=by exact rfl) (ht:t= !want:=by first | exact rfl | assumption) (hk:ktB (m.st n df next ys kt) o.dst=true:=by exact rfl):DrW ro P c Q s id l n df next ys kt m0 es (o::rest) m:=
 bg { need:=[(d,.pv (.bool t))],dst:=o.dst,val:=some (.tup []) } (fun m' h=>BZ (uB hg hj hn h.1.1 ht) hk (by cases o.dst<;>rfl)) ⟨⟨hl,trivial⟩,trivial,trivial⟩ h
theorem dpt {t d:Nat} {v:AV} {y z:Operand} {b:Bool} (h:DrW ro P c Q s id l n df next ys kt m0 ({ need:=[(t,.pv (.bool b))],dst:=some d,val:=some v }::es) rest (({ need:=[(t,.pv (.bool b))],dst:=some d,val:=some v }:Eff).apply m)) (hg:o.guard=none:=by exact rfl) (ho:o.op= .pick (.tmp t) y z:=by exact rfl) (hd:o.dst=some d:=by exact rfl)
  (hl:aX t m.fr=some (.pv (.bool b)):=by exact rfl) (hb:b=true:=by first | exact rfl | assumption) (hy:∀ m':Mid,ev (m'.st n df next ys kt) y=some v:=by exact fun _=>rfl) (hk:dOk (m.st n df next ys kt) (some d)=true:=by exact rfl):DrW ro P c Q s id l n df next ys kt m0 es (o::rest) m:=Za hb h hg ho hd hl hy hk
theorem dpf {t d:Nat} {v:AV} {y z:Operand} {b:Bool} (h:DrW ro P c Q s id l n df next ys kt m0 ({ need:=[(t,.pv (.bool b))],dst:=some d,val:=some v }::es) rest (({ need:=[(t,.pv (.bool b))],dst:=some d,val:=some v }:Eff).apply m)) (hg:o.guard=none:=by exact rfl) (ho:o.op= .pick (.tmp t) y z:=by exact rfl) (hd:o.dst=some d:=by exact rfl)
  (hl:aX t m.fr=some (.pv (.bool b)):=by exact rfl) (hb:b=false:=by first | exact rfl | assumption) (hy:∀ m':Mid,ev (m'.st n df next ys kt) z=some v:=by exact fun _=>rfl) (hk:dOk (m.st n df next ys kt) (some d)=true:=by exact rfl):DrW ro P c Q s id l n df next ys kt m0 es (o::rest) m:=afF hb h hg ho hd hl hy hk
theorem dA {g g':Prop} (h':g') (h:KP g'->g:=by first
 | exact fun k1=>dNo k1.h
 | exact fun k1=>dru k1.h
 | exact fun k1=>dof k1.h
 | exact fun k1=>dNg k1.h
 | exact fun k1=>dpt k1.h
 | exact fun k1=>dpf k1.h):g:=h ⟨h'⟩
theorem dd {g g':Prop} (h':g') (h:KP g'->g:=by
 intro k2
 repeat' (refine dA ?_)
 exact k2.h):g:=h ⟨h'⟩
theorem drn (h:gw c Q .normal (m.st n df next ys kt)) (hm:P.follows .mixedOrders=true:=by exact mixed) (hs0:s=m0.st n df next ys kt:=by exact rfl) (hB:Bv l es.reverse=true:=by kernel_rfl):DrW ro P c Q s id l n df next ys kt m0 es [] m:=aef hm hs0 hB h
theorem tm {g:Prop} (L:List Nat) (h:L=L->g:=by
 intro hL
 repeat' (first | refine gA ?_ | refine dA ?_ | refine drn ?_ | refine dt ⟨_,_,_⟩ rfl ?_ | (rcases ie F with⟨hb,F⟩ | ⟨hb,F⟩) | refine cnd F (fun hb F=> ?_) fun hb F=> ?_)
 all_goals (cases F;first | exact rcL | exact pcL | exact prt | exact pra | exact afo | exact pR _ ⟨_,rfl,rfl⟩ (WH hL) | exact pR _ rfl (WH hL) | exact mc hcx rfl .nil rfl (.inr rfl) | exact mc hcx rfl (.cons _ _ _ _ (.tmp _ _ rfl) .nil) rfl (.inl rfl))):g:=h rfl
end
end Go.Abs

