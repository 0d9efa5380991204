/- The abstract layer that the proof stands on: no condition. -/
import Derived.Test.YtjimbkljclfflaaGreatDoorShowBackA2
import Derived.RangeFuncRecord
import Derived.Lib.Bytealg
import Derived.Laws.Externs
import Derived.Maps.Own
import Derived.Maps.OwnSet
/- A range over a function: the iterator's contract; the caller's rule. -/
namespace Go.Abs
open List
variable {G:List (Nat×List PV)}
open Go.RowKit
structure Rel (O I:Nat->Prop) (w:World) (O':Nat->Prop) (w':World):Prop where
 os:w'.os=w.os
 tape:w'.tape=w.tape
 output:w'.output=w.output
 size:w.heap.size<=w'.heap.size
 block:∀ b,b < w.heap.size->(¬ O b\/I b)->w'.heap[b]? =w.heap[b]?
 o1:∀ g,O' g->O g\/w.heap.size<=g
 o2:∀ g,O g->I g->O' g
 olt:∀ g,O' g->g < w'.heap.size
def U1 (P:Program) (l:Nat) (m:Nat) (rows:List (List PV)) (sp:Nat) (J:Nat->(Nat->Prop)->(Nat->Prop)->World->Prop):Prop:=
 ∀ (k:Nat) (row:List PV) (W:World) (O I:Nat->Prop) (us:Array Value),J k O I W->rows[k]? =some row->k<=sp->row.length=m->us.size=m->
  (∀ (i:Nat) (p:PV) (u:Value),row[i]? =some p->us[i]? =some u->Rd W O p u)->(∀ g,O g->g < W.heap.size)->(∀ g,I g->O g)->
  ∃ fn tmps assign body,(Instr.yield l us).run P W= .ok (.round l fn tmps assign body) W/\
   RoundIn (FF none) 0 P l fn tmps assign body W fun e W'=>∃ O',e= .returned (.bool (!(k==sp)))/\J (k+1) O' I W'/\Rel O I W O' W'
def aat (w:World) (O I:Nat->Prop) (pre:List PV) (bx:Option (TypeId×List PV)) (post:List PV) (vs:Array Value):Prop:=
 match bx with
 | none=>vs.size=pre.length/\∀ (i:Nat) (p:PV) (v:Value),pre[i]? =some p->vs[i]? =some v->Rd w O p v
 | some (t,cells)=>vs.size=pre.length+1 + post.length/\(∀ (i:Nat) (p:PV) (v:Value),pre[i]? =some p->vs[i]? =some v->Rd w O p v)/\
  (∀ (i:Nat) (p:PV) (v:Value),post[i]? =some p->vs[pre.length+1 + i]? =some v->Rd w O p v)/\
  ∃ g,vs[pre.length]? =some (.pointer (some ⟨g,0,none⟩))/\BlkOk w O (fun _=>none) (.pointer (some ⟨g,0,none⟩)) (.box t (cells.map .pv))/\O g/\I g
def It (G:List (Nat×List PV)) (P:Program) (f:FuncId) (m:Nat) (pre:List PV) (bx:Option (TypeId×List PV)) (post:List PV) (rows:List (List PV)) (sp:Nat):Prop:=
 ∀ (l:Nat) (J:Nat->(Nat->Prop)->(Nat->Prop)->World->Prop) (_:∀ {k:Nat} {O I:Nat->Prop} {w:World} {O' I':Nat->Prop} {w':World},J k O I w->Stp O I w O' I' w'->J k O' I' w') (_:∀ {k:Nat} {O I:Nat->Prop} {w:World},J k O I w->GlobOk G w O)
  (w:World) (O I:Nat->Prop) (vs:Array Value),(∀ g,O g->g < w.heap.size)->(∀ g,I g->O g)->aat w O I pre bx post vs->U1 P l m rows sp J->J 0 O I w->
  Calls P f (#[.func (.yield l) #[] #[]]++vs) w fun e w'=>∃ v O' I',e= .returned v/\J (min (sp+1) rows.length) O' I' w'
structure ItCx (P:Program) (l m:Nat) (rows:List (List PV)) (sp:Nat) (c:Cx G):Prop where
 y:U1 P l m rows sp c.J
 xk:∀ g,c.X g->c.K g
section
variable {ro:Option Nat} {P:Program} {c:Cx G} {s s':St} {o:Oper} {d:Option Nat}
theorem Rel.stp_hp {O I:Nat->Prop} {w:World} {O':Nat->Prop} {w':World} (h:Rel O I w O' w'):∀ b,b < w.heap.size->¬ O b->¬ O' b/\w'.heap[b]? =w.heap[b]? :=
 fun b hb hn=>⟨fun h2=>by rcases h.o1 b h2 with h3 | h3;exact hn h3;omega,h.block b hb (.inl hn)⟩
theorem Rn {fo:Operand} {xs:List Operand} {ts:Array TypeId} {l m sp:Nat} {rows:List (List PV)} {row:List PV} (hc:ItCx P l m rows sp c) (ho:o.op= .call { callee:= .value fo,args:=xs.toArray,argTypes:=ts }) (hf:ev s fo=some (.pv (.yld l))) (hx:evl s xs=some (row.map .pv))
  (hm:row.length=m) (hr:rows[s.ys]? =some row) (hsp:s.ys<=sp) (hd:o.dst=d) (hn:dOk s d=true):da ro P c o s ({ s with ys:=s.ys+1 }.put d (some (.pv (.bool (!(s.ys==sp)))))):=by
 rintro a w ⟨O,θ,hs⟩ K Q hK
 obtain⟨e1,e2⟩:=yX hs hx
 have hfv:=ug hs hf
 generalize hfa:a.eval fo=fv at hfv
 cases hfv with
 | yld=>
  refine⟨fun f _=>trivial,?_⟩
  have hus:((xs.map a.eval).toArray).size=m:=by have:=e1;simp at this;simp[this,hm]
  have hI:c.J s.ys O (fun g=>Ce c s θ a.defers g/\O g) w:=c.Jst hs.jn ⟨rfl,rfl,rfl,Nat.le_refl _,fun _ _ _=>rfl,fun g h=> .inl h,fun g h _=>h,hs.olt,fun g h=> .inl h.1⟩
  obtain⟨fn,tmps,assign,body,hy,hround⟩:=hc.y s.ys row w O _ (xs.map a.eval).toArray hI hr hsp hm hus (fun i p u hp hu=>by
   exact lm (e2 i (.pv p) u (by rw[getElem?_map,hp];rfl) (by simpa using hu))) hs.olt (fun g h=>h.2)
  have hrun:(execOp a.eval o).run P w= .ok (.round l fn tmps assign body) w:=by
   simp[execOp,ho,resolve,Deferred.ofValue,hfa,invoke,hy]
  rw[Oper.semAt_plain _ _ _ (by rw[ho];intro k h;cases h),hrun]
  refine⟨fun h=>by simp[FF,Fence.wide] at h,?_⟩
  refine RoundIn.mono (R:=fun e W'=>∃ O',e= .returned (.bool (!(s.ys==sp)))/\c.J (s.ys+1) O' (fun g=>Ce c s θ a.defers g/\O g) W'/\Rel O (fun g=>Ce c s θ a.defers g/\O g) w O' W') hround ?_
  rintro e w' ⟨O',rfl,hJ,hrel⟩
  have hO:=hrel.stp_hp
  have hmine:∀ g,Ce c s θ a.defers g->O g:=by
   intro g hg
   rcases hg with hg | ⟨id,b,v,h1,h2,h3⟩ | ⟨d',h1,h2⟩
   ·exact hs.xo g (c.KX g hg)
   ·obtain⟨v',hv',_,hgv⟩:=hs.hp id b h1
    rw[h2] at hv';cases hv'
    exact(hgv g h3).1
   ·obtain⟨D,rfl,_,hOD,_⟩:=hs.marks d' h1
    cases h2;exact hOD
  have h1:SimAt c { s with ys:=s.ys+1 } O' θ a w':=by
   refine⟨hs.size,hs.df,fun t x hx=>(hs.fr t x hx).mono hrel.size hO (fun _ _ e=>e),fun id b hb=> ?_,hs.inj,hs.dom,hs.flt,hs.one,hrel.olt,⟨hrel.os.trans hs.ext.os,hrel.tape.trans hs.ext.tape,hrel.output.trans hs.ext.output,Nat.le_trans hs.ext.size hrel.size,fun b hb hL=> ?_⟩,fun g hg=>hrel.o2 g (hs.xo g hg) ⟨.inl (hc.xk g hg),hs.xo g hg⟩,hs.xlt,hs.llt,fun d' hd'=> ?_,fun g hg hlt=> ?_,hs.kp,c.Jst hJ ⟨rfl,rfl,rfl,Nat.le_refl _,fun _ _ _=>rfl,fun g h=> .inl h,fun g h _=>h,hrel.olt,fun g h=> .inl ⟨h,hmine g h⟩⟩⟩
   ·obtain⟨v,hv,hbo,hgv⟩:=hs.hp id b hb
    refine⟨v,hv,hbo.mono hrel.size hO (fun _ _ e=>e) (fun g hgg=>hrel.block g (hgv g hgg).2.1 (.inr ⟨.inr (.inl ⟨id,b,v,hb,hv,hgg⟩),(hgv g hgg).1⟩)),fun g hgg=> ?_⟩
    obtain⟨g1,g2,g3⟩:=hgv g hgg
    exact⟨hrel.o2 g g1 ⟨.inr (.inl ⟨id,b,v,hb,hv,hgg⟩),g1⟩,Nat.lt_of_lt_of_le g2 hrel.size,g3⟩
   ·rw[<- hs.ext.block b hb hL]
    refine hrel.block b (Nat.lt_of_lt_of_le hb hs.ext.size) ?_
    by_cases hOb:O b
    ·right
     rcases hs.oc b hOb hb with hX | hL2
     ·exact⟨.inl (hc.xk b hX),hOb⟩
     ·exact absurd hL2 hL
    ·exact .inl hOb
   ·obtain⟨D,rfl,hD,hOD,h0⟩:=hs.marks d' hd'
    have hlt:D < w.heap.size:=by
     rcases Nat.lt_or_ge D w.heap.size with h1 | h1
     ·exact h1
     ·rw[Array.getElem?_eq_none h1] at hD;cases hD
    have hm':Ce c s θ a.defers D:= .inr (.inr ⟨_,hd',rfl⟩)
    exact⟨D,rfl,by rw[hrel.block D hlt (.inr ⟨hm',hOD⟩)];exact hD,hrel.o2 D hOD ⟨hm',hOD⟩,h0⟩
   ·rcases hrel.o1 g hg with h | h
    ·exact hs.oc g h hlt
    ·have:=hs.ext.size;omega
  subst hd
  exact hK _ _ ⟨O',θ,h1.put _ _ _ (BT (s:=s) hn) (Bm (s:=s) hn) (.pv _ _ (.bool _))⟩
def Xz (P:Program) (fn:Func) (c:Cx G) (k:Nat):Exit->Act->World->Prop:=
 bodyPostM (FF none) 0 P fn fun e w'=>∃ v O' I',e= .returned v/\c.J k O' I' w'
theorem GL {fn:Func} {k:Nat} {e:Exit} (hk:s.ys=k) (hr:fn.results= #[]) (he:e= .ret\/e= .normal):gw c (Xz P fn c k) e s:=by
 rintro a w ⟨O,θ,hs⟩
 have key:LeavesInM (FF none) 0 P fn a.tmps (fun e w'=>∃ v O' I',e= .returned v/\c.J k O' I' w') a.defers .returning w:=by
  refine uj a.defers a w rfl hs fun a' w' ht hs2=> ?_
  exact⟨_,zl (rvs:=[]) (us:=[]) hr (by simp),_,O,Ce c s θ a'.defers,rfl,by rw[<- hk];exact hs2.jn⟩
 rcases he with rfl | rfl
 ·exact key
 ·exact key
def adv (l:Nat) (pre:List PV) (bx:Option (TypeId×List PV)) (post:List PV):List (Nat×Option AV):=
 (0,some (.pv (.yld l)))::match bx with
  | none=>wi 1 pre
  | some _=>(pre.length+1,some (.lp 0 0))::(wi 1 pre++wi (pre.length+2) post)
def WG : Option (TypeId×List PV)->List (Nat×Option Blk)
 | none=>[]
 | some (t,cells)=>[(0,some (.box t (cells.map .pv)))]
def acR : Option (TypeId×List PV)->Nat
 | none=>0
 | some _=>1
theorem vz {α:Type} (t:Nat) (x:α):∀ (l m:List (Nat×Option α)),aX t (l++m)=some x->aX t l=some x\/aX t m=some x
 | [],m,h=> .inr h
 | (k,y)::l,m,h=>by
  simp only[cons_append,dH] at h ⊢
  split at h
  ·rename_i e;rw[if_pos e];exact .inl h
  ·rename_i e;rw[if_neg e];exact vz t x l m h
theorem IU {f:FuncId} {fn:Func} {code:Code} {n m:Nat} {pre post:List PV} {bx:Option (TypeId×List PV)} {rows:List (List PV)} {sp:Nat} (hf:P.funcs[f]? =some fn) (hb:fn.body=some code) (hn:fn.ntmps=n) (hl:Nat.ble (pre.length+post.length+2) n=true)
  (h:∀ l (c:Cx G),ItCx P l m rows sp c->AW none P c code (Xz P fn c (min (sp+1) rows.length)) { n:=n,fr:=adv l pre bx post,hp:=WG bx,next:=acR bx }):It G P f m pre bx post rows sp:=by
 intro l J Jst JG w O I vs hO hI hargs hy hJ
 refine(callsIn_wide (n:=0)).1 (callsIn_of_wp_marks (F:=FF none) hf hb trivial ?_)
 have hl':pre.length+post.length+2<=n:=Nat.le_of_ble_eq_true hl
 let c:Cx G:={ w0:=w,L:=O,X:=fun _=>False,K:=fun _=>False,J:=J,Jst:=Jst,JG:=JG,KX:=fun _ h=>h,t0:= #[] }
 have hvs:vs.size<=pre.length+1 + post.length:=by
  cases bx with
  | none=>have:=hargs.1;omega
  | some b=>obtain⟨t,cells⟩:=b;have:=hargs.1;omega
 refine h l c ⟨hy,fun g hg=>hg⟩ _ w ?_
 have hget:∀ t,t < vs.size->(#[Value.func (.yield l) #[] #[]]++vs++Array.replicate (fn.ntmps - (#[Value.func (.yield l) #[] #[]]++vs).size) undef).getD (t+1) undef=vs.getD t undef:=by
  intro t ht
  simp[Array.getElem?_append,ht]
 have hsize:(#[Value.func (.yield l) #[] #[]]++vs++Array.replicate (fn.ntmps - (#[Value.func (.yield l) #[] #[]]++vs).size) undef).size=n:=by simp[hn];omega
 have hget0:(#[Value.func (.yield l) #[] #[]]++vs++Array.replicate (fn.ntmps - (#[Value.func (.yield l) #[] #[]]++vs).size) undef).getD 0 undef= .func (.yield l) #[] #[]:=by
  simp[Array.getElem?_append]
 generalize (#[Value.func (.yield l) #[] #[]]++vs++Array.replicate (fn.ntmps - (#[Value.func (.yield l) #[] #[]]++vs).size) undef)=tm at hget hsize hget0
 have hargsfr:∀ (ps:List PV) (k:Nat) (θ:Nat->Option Value),(∀ (i:Nat) (p:PV) (v:Value),ps[i]? =some p->vs[k+i]? =some v->Rd w O p v)->k+ps.length<=vs.size->∀ t x,aX t (wi (k+1) ps)=some x->RdA w O θ x (tm.getD t undef):=by
  intro ps k θ hps hk t x hx
  obtain⟨p,rfl,h1,h2⟩:=yK ps (k+1) t x hx
  have hlt:t - (k+1) < ps.length:=(List.getElem?_eq_some_iff.1 h2).1
  have ht:t - 1 < vs.size:=by omega
  have:=hget (t - 1) ht
  rw[show t - 1+1=t by omega] at this
  rw[this]
  have hv:vs[t - 1]? =some vs[t - 1]:=by simp[ht]
  rw[show vs.getD (t - 1) undef=vs[t - 1] by simp[ht]]
  exact .pv _ _ (hps _ p _ h2 (by rw[show k+(t - (k+1))=t - 1 by omega];exact hv))
 cases bx with
 | none=>
  obtain⟨h1,h2⟩:=hargs
  refine⟨O,fun _=>none,hsize,.nil,?_,fun id b hb=>(by simp[WG,aX] at hb),fun i j bi bj vi vj g hi=>(by simp[WG,aX] at hi),fun id v hv=>(by cases hv),fun k hk=>(by cases hk),fun id v hv=>(by cases hv),hO,⟨rfl,rfl,rfl,Nat.le_refl _,fun _ _ _=>rfl⟩,fun g hg=>hg.elim,fun g hg=>hg.elim,hO,fun d hd=>(by cases hd),fun g hg _=> .inr hg,fun t ht=>(by cases ht),?_⟩
  ·intro t x hx
   simp only[adv,dH] at hx
   split at hx
   ·rename_i e;subst e;cases hx;rw[hget0];exact .pv _ _ (.yld l)
   ·exact hargsfr pre 0 _ (fun i p v hp hv=>h2 i p v hp (by simpa using hv)) (by omega) t x hx
  ·refine Jst hJ ⟨rfl,rfl,rfl,Nat.le_refl _,fun _ _ _=>rfl,fun g h=> .inl h,fun g h _=>h,hO,fun g hI=> ?_⟩
   rcases hI with hI | ⟨id,b,v,h1,_⟩ | ⟨d,hd,_⟩
   ·exact hI.elim
   ·simp[WG,aX] at h1
   ·cases hd
 | some b=>
  obtain⟨t,cells⟩:=b
  obtain⟨h1,h2,h3,g,h4,h5,h6,h7⟩:=hargs
  have hp0:vs.getD pre.length undef= .pointer (some ⟨g,0,none⟩):=by simp[h4]
  have hlk:∀ id b,aX id (WG (some (t,cells)))=some b->id=0/\b= .box t (cells.map .pv):=by
   intro id b hb
   simp only[WG,dH] at hb
   split at hb
   ·rename_i e;cases hb;exact⟨e.symm,rfl⟩
   ·simp[aX] at hb
  refine⟨O,fun i=>if i=0 then some (.pointer (some ⟨g,0,none⟩)) else none,hsize,.nil,?_,fun id b hb=> ?_,fun i j bi bj vi vj g hi hj _ _ _ _=>by rw[(hlk i bi hi).1,(hlk j bj hj).1],fun id v hv=> ?_,fun k hk=>(by cases hk),fun id v hv=> ?_,hO,⟨rfl,rfl,rfl,Nat.le_refl _,fun _ _ _=>rfl⟩,fun g hg=>hg.elim,fun g hg=>hg.elim,hO,fun d hd=>(by cases hd),fun g hg _=> .inr hg,fun t ht=>(by cases ht),?_⟩
  ·intro t' x hx
   simp only[adv,dH] at hx
   split at hx
   ·rename_i e;subst e;cases hx;rw[hget0];exact .pv _ _ (.yld l)
   ·split at hx
    ·rename_i e;subst e;cases hx
     rw[hget _ (by omega),hp0]
     exact .lp _ _ g (by simp)
    ·rcases vz _ _ _ _ hx with hx | hx
     ·exact hargsfr pre 0 _ (fun i p v hp hv=>h2 i p v hp (by simpa using hv)) (by omega) t' x hx
     ·exact hargsfr post (pre.length+1) _ h3 (by omega) t' x hx
  ·obtain⟨rfl,rfl⟩:=hlk id b hb
   refine⟨.pointer (some ⟨g,0,none⟩),by simp,?_,fun g' hg'=> ?_⟩
   ·exact h5.mono (Nat.le_refl _) (fun b _ hn=>⟨hn,rfl⟩) (fun _ _ h=>by cases h) (fun _ _=>rfl)
   ·cases hg'
    exact⟨h6,hO g h6,fun h=>absurd h6 h,fun h=>h⟩
  ·split at hv
   ·rename_i e;subst e;exact⟨Nat.zero_lt_one,by simp⟩
   ·cases hv
  ·split at hv
   ·cases hv;rfl
   ·cases hv
  ·refine Jst hJ ⟨rfl,rfl,rfl,Nat.le_refl _,fun _ _ _=>rfl,fun g h=> .inl h,fun g h _=>h,hO,fun g' hI=> ?_⟩
   rcases hI with hI | ⟨id,b,v,q1,q2,q3⟩ | ⟨d,hd,_⟩
   ·exact hI.elim
   ·obtain⟨rfl,rfl⟩:=hlk id b q1
    simp at q2;subst q2;cases q3
    exact .inl h7
   ·cases hd
end
end Go.Abs

/- A range over a function: the caller's rule. -/
namespace Go.Abs
open List
variable {G:List (Nat×List PV)}
open Go.RowKit
section
variable {X Q E:Type}
def DQ (B:X->Q -> Option (Ctl E Q)):List X->Q -> Option (Ctl E Q)
 | [],q=>some (.next q)
 | x::xs,q=>Option.bind (B x q) fun r=>Ctl.elim r (fun e=>some (.stop e)) (fun q'=>DQ B xs q')
theorem KZ (B:X->Q -> Option (Ctl E Q)):∀ (rows:List X) (q0:Q) (lr:Ctl E Q),DQ B rows q0=some lr->∃ (sp:Nat) (tr:Nat->Ctl E Q),tr 0= .next q0/\tr (min (sp+1) rows.length)=lr/\
  ∀ k,k < min (sp+1) rows.length->∃ x q,rows[k]? =some x/\tr k= .next q/\B x q=some (tr (k+1))/\((k==sp)=true->∃ e,tr (k+1)= .stop e)/\((k==sp)=false->∃ q',tr (k+1)= .next q')
 | [],q0,lr,h=>by
  simp only[DQ,Option.some.injEq] at h
  subst h
  exact⟨0,fun _=> .next q0,rfl,by simp,fun k hk=>by simp at hk⟩
 | x::xs,q0,lr,h=>by
  simp only[DQ] at h
  obtain⟨r,hr,h⟩:=bind_some h
  cases r with
  | stop e=>
   simp only[Ctl.elim,Option.some.injEq] at h
   subst h
   refine⟨0,fun k=>if k=0 then .next q0 else .stop e,rfl,by simp,fun k hk=> ?_⟩
   have:k=0:=by simp at hk;omega
   subst this
   exact⟨x,q0,rfl,rfl,by simpa using hr,fun _=>⟨e,rfl⟩,fun h=>by simp at h⟩
  | next q'=>
   simp only[Ctl.elim] at h
   obtain⟨sp,tr,h0,h1,h2⟩:=KZ B xs q' lr h
   have hm:min (sp+1 + 1) (x::xs).length=min (sp+1) xs.length+1:=by simp only[length_cons];omega
   refine⟨sp+1,fun k=>match k with | 0=> .next q0 | k+1=>tr k,rfl,by rw[hm];exact h1,fun k hk=> ?_⟩
   cases k with
   | zero=>exact⟨x,q0,rfl,rfl,by show B x q0=some (tr 0);rw[h0];exact hr,fun h=>by simp at h,fun _=>⟨q',h0⟩⟩
   | succ k=>
    obtain⟨x',q2,k1,k2,k3,k4,k5⟩:=h2 k (by omega)
    refine⟨x',q2,by simpa using k1,k2,k3,fun h=>k4 (by simpa using h),fun h=>k5 (by simpa using h)⟩
end
def L9 : List Nat->List PV->List (Nat×Option AV)
 | t::ts,p::ps=>(t,some (.pv p))::L9 ts ps
 | _,_=>[]
def St.round (s:St) (ps:List Nat) (row:List PV) (kt:List Nat):St:={ s with fr:=L9 ps row++s.fr,kt:=kt }
def St.kept (s:St) (kt:List Nat):St:={ s with kt:=kt }
def Im {Q E:Type} (c:Cx G) (S:Q->St) (SE:E->Exit×St) (kt:List Nat) (r:Ctl E Q):Exit->Act->World->Prop
 | .normal,a,w=>∃ q,r= .next q/\Sim c ((S q).kept kt) a w
 | .ret,a,w=>∃ e,r= .stop e/\(SE e).1= .ret/\Sim c ((SE e).2.kept kt) a w
 | .exit id,a,w=>∃ e,r= .stop e/\(SE e).1= .exit id/\Sim c ((SE e).2.kept kt) a w
 | _,_,_=>False
def aaq (kt:List Nat):List (Nat×Option AV)->Bool
 | []=>true
 | (t,some _)::l=>kt.elem t&&aaq kt l
 | (_,none)::l=>aaq kt l
theorem zY {kt:List Nat}:∀ {l:List (Nat×Option AV)},aaq kt l=true->∀ t x,aX t l=some x->t∈kt
 | [],_,t,x,h=>by simp[aX] at h
 | (k,none)::l,h,t,x,hx=>by
  rw[dH] at hx
  split at hx
  ·cases hx
  ·exact zY (l:=l) h t x hx
 | (k,some y)::l,h,t,x,hx=>by
  simp only[aaq,Bool.and_eq_true] at h
  rw[dH] at hx
  split at hx
  ·rename_i e;subst e;simpa using h.1
  ·exact zY h.2 t x hx
structure LpSt (s:St) (kk:List Nat) (s1:St):Prop where
 n:s1.n=s.n
 kt:s1.kt=s.kt
 free:s1.free=[]
 fr:aaq kk s1.fr=true
structure CxR (c c':Cx G):Prop where
 J:c'.J=c.J
 xk:(∀ g,c.X g->c.K g)->∀ g,c'.X g->c'.K g
def LessF (fr:List (Nat×Option AV)):List (Nat×Option AV)->Prop
 | []=>True
 | (_,none)::l=>LessF fr l
 | (t,some x)::l=>aX t fr=some x/\LessF fr l
theorem LessF.spec {fr:List (Nat×Option AV)}:∀ {l:List (Nat×Option AV)},LessF fr l->∀ t x,(t,some x)∈l->aX t fr=some x
 | (_,none)::l,h,t,x,hm=>by
  rcases List.mem_cons.1 hm with h1 | h1
  ·cases h1
  ·exact LessF.spec (l:=l) h t x h1
 | (t',some x')::l,h,t,x,hm=>by
  rcases List.mem_cons.1 hm with h1 | h1
  ·cases h1;exact h.1
  ·exact LessF.spec (l:=l) h.2 t x h1
def neB : Option Nat->Nat->Bool
 | none,_=>true
 | some k,id=> !Nat.beq k id
def LessH (hp:List (Nat×Option Blk)) (nx:Nat) (kk:Option Nat):List (Nat×Option Blk)->Prop
 | []=>True
 | (_,none)::l=>LessH hp nx kk l
 | (id,some b)::l=>(aX id hp=some b/\Nat.blt id nx=true/\neB kk id=true)/\LessH hp nx kk l
theorem LessH.spec {hp:List (Nat×Option Blk)} {nx:Nat} {kk:Option Nat}:∀ {l:List (Nat×Option Blk)},LessH hp nx kk l->∀ t x,(t,some x)∈l->aX t hp=some x/\t < nx/\kk≠some t
 | (_,none)::l,h,t,x,hm=>by
  rcases List.mem_cons.1 hm with h1 | h1
  ·cases h1
  ·exact LessH.spec (l:=l) h t x h1
 | (t',some x')::l,h,t,x,hm=>by
  rcases List.mem_cons.1 hm with h1 | h1
  ·cases h1
   obtain⟨h1,h2,h3⟩:=h.1
   refine⟨h1,by simpa [Nat.blt_eq] using h2,?_⟩
   rintro rfl
   simp[neB] at h3
  ·exact LessH.spec (l:=l) h.2 t x h1
structure RSt (c:Cx G) (s1:St) (O I:Nat->Prop) (θ:Nat->Option Value) (a1:Act) (w:World) (l:Nat) (rec:Loop):Prop where
 sim:SimAt c s1 O θ a1 w
 jn:c.J s1.ys O (fun g=>Ce c s1 θ a1.defers g\/I g\/g=l) w
 apart:∀ g,HpB s1 θ g\/DfB a1.defers g\/g=l->¬ I g
 ix:∀ g,I g->¬ c.X g
 ol:O l
 hl:w.heap[l]? =some (.loop rec)
 lw:c.w0.heap.size<=l
theorem xu {w:World} {g:Nat} {o:Obj} (h:w.heap[g]? =some o):g < w.heap.size:=by
 rcases Nat.lt_or_ge g w.heap.size with h1 | h1
 ·exact h1
 ·rw[Array.getElem?_eq_none h1] at h;cases h
section
variable {c:Cx G} {s1:St} {O I:Nat->Prop} {θ:Nat->Option Value} {a1:Act} {w:World} {l:Nat} {rec:Loop}
theorem RSt.hp_lt (h:RSt c s1 O I θ a1 w l rec) {g:Nat} (hg:HpB s1 θ g\/DfB a1.defers g\/g=l):g < w.heap.size/\O g:=by
 rcases hg with⟨id,b,v,h1,h2,h3⟩ | ⟨d,h1,h2⟩ | rfl
 ·obtain⟨v',hv',_,hgv⟩:=h.sim.hp id b h1
  rw[h2] at hv';cases hv'
  exact⟨(hgv g h3).2.1,(hgv g h3).1⟩
 ·obtain⟨D,rfl,hD,hOD,_⟩:=h.sim.marks d h1
  cases h2;exact⟨xu hD,hOD⟩
 ·exact⟨xu h.hl,h.ol⟩
theorem RSt.stp (h:RSt c s1 O I θ a1 w l rec) {O' I':Nat->Prop} {w':World} (hs:Stp O I w O' I' w'):RSt c s1 O' I' θ a1 w' l rec:=by
 have hO:∀ b,b < w.heap.size->¬ O b->¬ O' b/\w'.heap[b]? =w.heap[b]? :=fun b hb hn=>⟨fun h2=>by rcases hs.o1 b h2 with h3 | h3;exact hn h3;omega,hs.block b hb (.inr hn)⟩
 have hkeep:∀ g,HpB s1 θ g\/DfB a1.defers g\/g=l->w'.heap[g]? =w.heap[g]? /\O' g:=fun g hg=>⟨hs.block g (h.hp_lt hg).1 (.inl (h.apart g hg)),hs.o2 g (h.hp_lt hg).2 (h.apart g hg)⟩
 have hj2:c.J s1.ys O' (fun g=>Ce c s1 θ a1.defers g\/I' g\/g=l) w':=by
  refine c.Jst h.jn ⟨hs.os,hs.tape,hs.output,hs.size,fun b hb hn=>hs.block b hb ?_,hs.o1,fun g h1 h2=>hs.o2 g h1 (fun h3=>h2 (.inr (.inl h3))),hs.olt,fun g hg=> ?_⟩
  ·rcases hn with hn | hn
   ·exact .inl fun h3=>hn (.inr (.inl h3))
   ·exact .inr hn
  ·rcases hg with hg | hg | hg
   ·exact .inl (.inl hg)
   ·rcases hs.i1 g hg with h3 | h3
    ·exact .inl (.inr (.inl h3))
    ·exact .inr h3
   ·exact .inl (.inr (.inr hg))
 have hsim:=h.sim
 refine⟨⟨hsim.size,hsim.df,fun t x hx=>(hsim.fr t x hx).mono hs.size hO (fun _ _ e=>e),fun id b hb=> ?_,hsim.inj,hsim.dom,hsim.flt,hsim.one,hs.olt,⟨hs.os.trans hsim.ext.os,hs.tape.trans hsim.ext.tape,hs.output.trans hsim.ext.output,Nat.le_trans hsim.ext.size hs.size,fun b hb hL=> ?_⟩,fun g hg=>hs.o2 g (hsim.xo g hg) (fun hI=>h.ix g hI hg),hsim.xlt,hsim.llt,fun d hd=> ?_,fun g hg hlt=> ?_,hsim.kp,?_⟩,hj2,?_,?_,(hkeep l (.inr (.inr rfl))).2,?_,h.lw⟩
 ·obtain⟨v,hv,hbo,hgv⟩:=hsim.hp id b hb
  refine⟨v,hv,hbo.mono hs.size hO (fun _ _ e=>e) (fun g hgg=>(hkeep g (.inl ⟨id,b,v,hb,hv,hgg⟩)).1),fun g hgg=> ?_⟩
  exact⟨(hkeep g (.inl ⟨id,b,v,hb,hv,hgg⟩)).2,Nat.lt_of_lt_of_le (hgv g hgg).2.1 hs.size,(hgv g hgg).2.2⟩
 ·rw[<- hsim.ext.block b hb hL]
  refine hs.block b (Nat.lt_of_lt_of_le hb hsim.ext.size) ?_
  by_cases hOb:O b
  ·rcases hsim.oc b hOb hb with hX | hL2
   ·exact .inl fun hI=>h.ix b hI hX
   ·exact absurd hL2 hL
  ·exact .inr hOb
 ·obtain⟨D,rfl,hD,hOD,h0⟩:=hsim.marks d hd
  have:=hkeep D (.inr (.inl ⟨_,hd,rfl⟩))
  exact⟨D,rfl,by rw[this.1];exact hD,this.2,h0⟩
 ·rcases hs.o1 g hg with h1 | h1
  ·exact hsim.oc g h1 hlt
  ·have:=hsim.ext.size;omega
 ·exact c.Jst hj2 ⟨rfl,rfl,rfl,Nat.le_refl _,fun _ _ _=>rfl,fun g h=> .inl h,fun g h _=>h,hs.olt,fun g hg=> .inl (.inl hg)⟩
 ·intro g hg hI
  rcases hs.i1 g hI with h1 | h1
  ·exact h.apart g hg h1
  ·have:=(h.hp_lt hg).1;omega
 ·intro g hI hX
  rcases hs.i1 g hI with h1 | h1
  ·exact h.ix g h1 hX
  ·have:=hsim.xlt g hX;have:=hsim.ext.size;omega
 ·rw[(hkeep l (.inr (.inr rfl))).1];exact h.hl
theorem RSt.turn (h:RSt c s1 O I θ a1 w l rec) (rec':Loop):RSt c s1 O I θ a1 (w.putObj l (.loop rec')) l rec':=by
 have hne:∀ (g:Nat) (ob:Obj),w.heap[g]? =some ob->abv ob=true->(w.putObj l (.loop rec')).heap[g]? =w.heap[g]? :=fun g ob hg ho=>World.putObj_heap_other (fun e=>by subst e;rw[h.hl] at hg;cases hg;cases ho)
 have hO:∀ b,b < w.heap.size->¬ O b->¬ O b/\(w.putObj l (.loop rec')).heap[b]? =w.heap[b]? :=fun b hb hn=>⟨hn,World.putObj_heap_other (fun e=>hn (e ▸ h.ol))⟩
 have hsz:w.heap.size<=(w.putObj l (.loop rec')).heap.size:=by simp
 have hj2:c.J s1.ys O (fun g=>Ce c s1 θ a1.defers g\/I g\/g=l) (w.putObj l (.loop rec')):=by
  refine c.Jst h.jn ⟨rfl,rfl,rfl,hsz,fun b hb hn=>World.putObj_heap_other (fun e=> ?_),fun g h=> .inl h,fun g h _=>h,fun g hg=>by simpa using h.sim.olt g hg,fun g hg=> .inl hg⟩
  subst e
  rcases hn with hn | hn
  ·exact hn (.inr (.inr rfl))
  ·exact hn h.ol
 have hsim:=h.sim
 refine⟨⟨hsim.size,hsim.df,fun t x hx=>(hsim.fr t x hx).mono hsz hO (fun _ _ e=>e),fun id b hb=> ?_,hsim.inj,hsim.dom,hsim.flt,hsim.one,fun g hg=>by simpa using hsim.olt g hg,⟨hsim.ext.os,hsim.ext.tape,hsim.ext.output,by simpa using hsim.ext.size,fun b hb hL=> ?_⟩,hsim.xo,hsim.xlt,hsim.llt,fun d hd=> ?_,hsim.oc,hsim.kp,?_⟩,hj2,h.apart,h.ix,h.ol,World.putObj_heap_same (xu h.hl),h.lw⟩
 ·obtain⟨v,hv,hbo,hgv⟩:=hsim.hp id b hb
  exact⟨v,hv,hbo.mono hsz hO (fun _ _ e=>e) (fun g hgg=>by obtain⟨ob,hh,ho⟩:=hbo.cells hgg;exact hne g ob hh ho),fun g hgg=>by simpa using hgv g hgg⟩
 ·rw[World.putObj_heap_other (by have:=h.lw;omega)]
  exact hsim.ext.block b hb hL
 ·obtain⟨D,rfl,hD,hOD,h0⟩:=hsim.marks d hd
  exact⟨D,rfl,by rw[World.putObj_heap_other (fun e=>by subst e;rw[h.hl] at hD;cases hD)];exact hD,hOD,h0⟩
 ·exact c.Jst hj2 ⟨rfl,rfl,rfl,Nat.le_refl _,fun _ _ _=>rfl,fun g h=> .inl h,fun g h _=>h,fun g hg=>by simpa using hsim.olt g hg,fun g hg=> .inl (.inl hg)⟩
end
end Go.Abs

/- A range over a function: one round; the statement. -/
namespace Go.Abs
open List
variable {G:List (Nat×List PV)}
open Go.RowKit
theorem Zr (ps:List Nat):∀ (us:List Value) (tm:Array Value),us.length=ps.length->ps.Nodup->
  ((ps.zip us).foldl (fun tm (t,u)=>tm.setIfInBounds t u) tm).size=tm.size/\(∀ t,t ∉ ps->((ps.zip us).foldl (fun tm (t,u)=>tm.setIfInBounds t u) tm).getD t undef=tm.getD t undef)/\
  ∀ (i t:Nat) (u:Value),ps[i]? =some t->us[i]? =some u->t < tm.size->((ps.zip us).foldl (fun tm (t,u)=>tm.setIfInBounds t u) tm).getD t undef=u:=by
 induction ps with
 | nil=>intro us tm _ _;exact⟨rfl,fun _ _=>rfl,fun i t u h=>by simp at h⟩
 | cons p ps ih=>
  intro us tm hl hnd
  cases us with
  | nil=>simp at hl
  | cons u us=>
   simp only[zip_cons_cons,foldl_cons]
   obtain⟨h1,h2,h3⟩:=ih us (tm.setIfInBounds p u) (by simpa using hl) (List.nodup_cons.1 hnd).2
   refine⟨by rw[h1];simp,fun t ht=> ?_,fun i t v hi hv hlt=> ?_⟩
   ·rw[h2 t (fun h=>ht (mem_cons_of_mem _ h))]
    have hne:p≠t:=fun e=>ht (by simp[e])
    simp[Array.getElem?_setIfInBounds_ne hne]
   ·cases i with
    | zero=>
     simp at hi hv;subst hi;subst hv
     rw[h2 p (List.nodup_cons.1 hnd).1]
     simp[hlt]
    | succ i=>
     exact h3 i t v (by simpa using hi) (by simpa using hv) (by simpa using hlt)
theorem Ng : ∀ (ps:List Nat) (row:List PV) (t:Nat) (x:AV),aX t (L9 ps row)=some x->∃ (i:Nat) (p:PV),x= .pv p/\ps[i]? =some t/\row[i]? =some p
 | [],row,t,x,h=>by simp[L9,aX] at h
 | _::_,[],t,x,h=>by simp[L9,aX] at h
 | t'::ps,p::row,t,x,h=>by
  simp only[L9,dH] at h
  split at h
  ·rename_i e;subst e;cases h;exact⟨0,p,rfl,rfl,rfl⟩
  ·obtain⟨i,q,h1,h2,h3⟩:=Ng ps row t x h
   exact⟨i+1,q,h1,by simpa using h2,by simpa using h3⟩
theorem XY {ps:List Nat} {row:List PV} {t:Nat} (h:∀ (i t':Nat),ps[i]? =some t'->i < row.length->t'≠t) (l:List (Nat×Option AV)):aX t (L9 ps row++l)=aX t l:=by
 induction ps generalizing row with
 | nil=>rfl
 | cons p ps ih=>
  cases row with
  | nil=>rfl
  | cons q row=>
   simp only[L9,cons_append,dH]
   rw[if_neg (h 0 p rfl (by simp))]
   exact ih fun i t' hi hl=>h (i+1) t' (by simpa using hi) (by simpa using hl)
section
variable {X Q E:Type} {P:Program} {c:Cx G}
def Bt : Exit->Option Code
 | .ret=>some .ret
 | .exit id=>some (.exit id)
 | _=>none
def lM (fn:FuncId) (tmps:Array Value) (ps:Array Tmp) (asg body:Code) (D:Nat) (st:LoopState) (pe:Option Code):Loop:=
 { state:=st,pending:=pe,fn,tmps,params:=ps,assign:=asg,body,defers:=D }
def adE (c:Cx G) (s1:St):Exit->Act->World->Prop
 | .normal,a,w=>Sim c s1 a w
 | _,_,_=>False
theorem MC {c:Cx G} {s s1:St} (hi:Imp c s s1):gw c (adE c s1) .normal s:=fun a w hs=>hi a w hs
def RTr (c:Cx G) (S:Q->St) (SE:E->Exit×St) (a1:Act) (l:Nat) (rec:LoopState->Option Code->Loop) (r:Ctl E Q) (O I:Nat->Prop) (w:World):Prop:=
 match r with
 | .next q=>∃ θ,RSt c (S q) O I θ a1 w l (rec .ready none)
 | .stop e=>∃ θ,RSt c (SE e).2 O I θ a1 w l (rec .done (Bt (SE e).1))
theorem SimAt.turned {c:Cx G} {s:St} {O:Nat->Prop} {θ:Nat->Option Value} {a:Act} {w:World} {l:Nat} {rec rec':Loop} (hs:SimAt c s O θ a w) (hl:w.heap[l]? =some (.loop rec)) (hX:c.X l) (hK:c.K l):
  SimAt { c with w0:=c.w0.putObj l (.loop rec') } s O θ a (w.putObj l (.loop rec')):=by
 have hol:=hs.xo l hX
 have hlt:=hs.xlt l hX
 have hO:∀ b,b < w.heap.size->¬ O b->¬ O b/\(w.putObj l (.loop rec')).heap[b]? =w.heap[b]? :=fun b hb hn=>⟨hn,World.putObj_heap_other (fun e=>hn (e ▸ hol))⟩
 have hsz:w.heap.size<=(w.putObj l (.loop rec')).heap.size:=by simp
 refine⟨hs.size,hs.df,fun t x hx=>(hs.fr t x hx).mono hsz hO (fun _ _ e=>e),fun id b hb=> ?_,hs.inj,hs.dom,hs.flt,hs.one,fun g hg=>by simpa using hs.olt g hg,⟨hs.ext.os,hs.ext.tape,hs.ext.output,by simpa using hs.ext.size,fun b hb hL=> ?_⟩,hs.xo,fun g hg=>by simpa using hs.xlt g hg,fun g hg=>by simpa using hs.llt g hg,fun d hd=> ?_,fun g hg hlt=>hs.oc g hg (by simpa using hlt),hs.kp,?_⟩
 ·obtain⟨v,hv,hbo,hgv⟩:=hs.hp id b hb
  exact⟨v,hv,hbo.mono hsz hO (fun _ _ e=>e) (fun g hgg=>World.putObj_heap_other (fun e=>by obtain⟨_,hh,ho⟩:=hbo.cells hgg;rw[e,hl] at hh;cases hh;cases ho)),fun g hgg=>by simpa using hgv g hgg⟩
 ·by_cases hbl:b=l
  ·subst hbl
   rw[World.putObj_heap_same (xu hl),World.putObj_heap_same hlt]
  ·rw[World.putObj_heap_other hbl,World.putObj_heap_other hbl]
   exact hs.ext.block b (by simpa using hb) hL
 ·obtain⟨D,rfl,hD,hOD,h0⟩:=hs.marks d hd
  exact⟨D,rfl,by rw[World.putObj_heap_other (fun e=>by subst e;rw[hl] at hD;cases hD)];exact hD,hOD,by simpa using h0⟩
 ·refine c.Jst hs.jn ⟨rfl,rfl,rfl,hsz,fun b hb hn=>World.putObj_heap_other (fun e=> ?_),fun g h=> .inl h,fun g h _=>h,fun g hg=>by simpa using hs.olt g hg,fun g hg=> .inl hg⟩
  subst e
  rcases hn with hn | hn
  ·exact hn (.inl hK)
  ·exact hn hol
theorem Yy {s:St} {kt psl:List Nat} {ps:Array Tmp} {asg body:Code} {fn:FuncId} {a0 a1:Act} {D l:Nat} {S:Q->St} {SE:E->Exit×St} {q:Q} {r:Ctl E Q} {row:List PV} {W:World} {O I:Nat->Prop} {us:Array Value} (SA:St)
  (hpsl:ps=psl.toArray) (hnd:psl.Nodup) (hkp:(psl.all fun t=> !kt.elem t&&Nat.blt t s.n)=true)
  (hS:∀ q,LpSt s kt (S q)) (hSE:∀ e,LpSt s kt (SE e).2)
  (ha:a1.tmps=a0.tmps) (hsz:a0.tmps.size=s.n) (husz:us.size=psl.length)
  (hrd:∀ (i:Nat) (p:PV) (u:Value),row[i]? =some p->us[i]? =some u->Rd W O p u) (hIO:∀ g,I g->O g)
  (h:∃ θ,RSt c (S q) O I θ a1 W l (lM fn a0.tmps ps asg body D .ready none))
  (hasg:∀ c',CxR c c'->AW (some l) P c' asg (adE c' SA) ((S q).round psl row kt))
  (hbody:∀ c',CxR c c'->AW (some l) P c' body (Im c' S SE kt r) SA):
  ∃ fn' tmps assign body',(Instr.yield l us).run P W= .ok (.round l fn' tmps assign body') W/\
   RoundIn (FF none) 0 P l fn' tmps assign body' W fun e W'=>∃ O',e= .returned (.bool (match r with | .next _=>true | .stop _=>false))/\RTr c S SE a1 l (lM fn a0.tmps ps asg body D) r O' I W'/\Rel O I W O' W':=by
 subst hpsl
 obtain⟨θ,h⟩:=h
 have hy:=run_yield (P:=P) (args:=us) h.hl (by simp[lM,husz])
 have hfold:(psl.toArray.zip us).foldl (fun tm (t,u)=>tm.setIfInBounds t u) a0.tmps=(psl.zip us.toList).foldl (fun tm (t,u)=>tm.setIfInBounds t u) a0.tmps:=by
  rw[<- Array.foldl_toList]
  simp[Array.toList_zip]
 have hul:us.toList.length=psl.length:=by simpa using husz
 obtain⟨f1,f2,f3⟩:=Zr psl us.toList a0.tmps hul hnd
 rw[<- hfold] at f1 f2 f3
 refine⟨fn,_,asg,body,hy,roundIn_of_wpIn trivial ?_⟩
 simp only[lM]
 generalize (psl.toArray.zip us).foldl (fun tm (t,u)=>tm.setIfInBounds t u) a0.tmps=tm at f1 f2 f3 ⊢
 have h2:=h.turn { (lM fn a0.tmps psl.toArray asg body D .ready none) with state:= .busy }
 have hWs:(W.putObj l (.loop { (lM fn a0.tmps psl.toArray asg body D .ready none) with state:= .busy })).heap.size=W.heap.size:=by simp
 have hWb:∀ b,b≠l->(W.putObj l (.loop { (lM fn a0.tmps psl.toArray asg body D .ready none) with state:= .busy })).heap[b]? =W.heap[b]? :=fun b hb=>World.putObj_heap_other hb
 have hWos:(W.putObj l (.loop { (lM fn a0.tmps psl.toArray asg body D .ready none) with state:= .busy })).os=W.os/\(W.putObj l (.loop { (lM fn a0.tmps psl.toArray asg body D .ready none) with state:= .busy })).tape=W.tape/\(W.putObj l (.loop { (lM fn a0.tmps psl.toArray asg body D .ready none) with state:= .busy })).output=W.output:=⟨rfl,rfl,rfl⟩
 generalize hW2:W.putObj l (.loop { (lM fn a0.tmps psl.toArray asg body D .ready none) with state:= .busy })=W2 at *
 have hs:=h2.sim
 let c':Cx G:={ w0:=W2,L:=fun g=>O g/\¬ (c.X g\/I g\/DfB a1.defers g\/g=l),X:=fun g=>c.X g\/I g\/DfB a1.defers g\/g=l,K:=fun g=>c.K g\/I g\/DfB a1.defers g\/g=l,J:=c.J,Jst:=c.Jst,JG:=c.JG,KX:=fun g hg=>hg.elim (fun h=> .inl (c.KX g h)) (fun h=> .inr h),t0:=a0.tmps }
 have hXO:∀ g,c'.X g->O g:=by
  intro g hg
  rcases hg with hg | hg | hg | hg
  ·exact hs.xo g hg
  ·exact hIO g hg
  ·exact(h2.hp_lt (.inr (.inl hg))).2
  ·exact(h2.hp_lt (.inr (.inr hg))).2
 have hpsk:∀ (i t:Nat),psl[i]? =some t->t ∉ kt/\t < s.n:=by
  intro i t hi
  have:=List.all_eq_true.1 hkp t (mem_of_getElem? hi)
  simpa [Nat.blt_eq] using this
 have hcells:∀ g,HpB (S q) θ g->¬ c'.X g:=by
  rintro g ⟨id,b,v,q1,q2,q3⟩ hX
  obtain⟨v',hv',hbo,hgv⟩:=hs.hp id b q1
  rw[q2] at hv';cases hv'
  obtain⟨_,hcl,hmb⟩:=hbo.cells q3
  rcases hX with hX | hX | ⟨d,hd,hd2⟩ | hX
  ·exact(hgv g q3).2.2.2 hX
  ·exact h2.apart g (.inl ⟨id,b,v,q1,q2,q3⟩) hX
  ·obtain⟨D',rfl,hD',_⟩:=hs.marks d hd
   cases hd2;rw[hD'] at hcl;cases hcl;cases hmb
  ·subst hX;rw[h2.hl] at hcl;cases hcl;cases hmb
 let c1:Cx G:={ c' with w0:=W }
 have hXlt:∀ g,c'.X g->g < W.heap.size:=fun g hg=>by rw[<- hWs];exact hs.olt g (hXO g hg)
 have hstart:Sim c1 ((S q).round psl row kt) { tmps:=tm,defers:=[] } W:=by
  refine⟨O,θ,by show tm.size=(S q).n;rw[f1,hsz,(hS q).n],.nil,fun t x hx=> ?_,fun id b hb=> ?_,h.sim.inj,h.sim.dom,h.sim.flt,h.sim.one,h.sim.olt,⟨rfl,rfl,rfl,Nat.le_refl _,fun _ _ _=>rfl⟩,hXO,fun g hg=>h.sim.olt g (hXO g hg),fun g hg=>h.sim.olt g hg.1,fun d hd=>(by cases hd),fun g hg _=> ?_,fun t ht=> ?_,?_⟩
  ·by_cases hps:∃ i:Nat,psl[i]? =some t
   ·obtain⟨i,hi⟩:=hps
    have hx':aX t (L9 psl row++(S q).fr)=some x:=hx
    rcases vz _ _ _ _ hx' with hx2 | hx2
    ·obtain⟨j,p,rfl,hj,hp⟩:=Ng _ _ _ _ hx2
     have hju:j < us.toList.length:=by rw[hul];exact(List.getElem?_eq_some_iff.1 hj).1
     have hu:us.toList[j]? =some us.toList[j]:=getElem?_eq_getElem hju
     show RdA W O θ (.pv p) (tm.getD t undef)
     rw[f3 j t us.toList[j] hj hu (by rw[hsz];exact(hpsk j t hj).2)]
     exact .pv _ _ (hrd j p _ hp (by simp))
    ·exact absurd (zY (hS q).fr t x hx2) (hpsk i t hi).1
   ·have hx':aX t (L9 psl row++(S q).fr)=some x:=hx
    rw[XY (ps:=psl) (row:=row) (t:=t) (fun i t' hi _ e=>hps ⟨i,by rw[<- e];exact hi⟩)] at hx'
    show RdA W O θ x (tm.getD t undef)
    rw[f2 t (fun hm=>hps (by obtain⟨i,hi⟩:=getElem?_of_mem hm;exact⟨i,hi⟩)),<- ha]
    exact h.sim.fr t x hx'
  ·obtain⟨v,hv,hbo,hgv⟩:=h.sim.hp id b hb
   refine⟨v,hv,hbo,fun g hgg=> ?_⟩
   have hX:=hcells g ⟨id,b,v,hb,hv,hgg⟩
   exact⟨(hgv g hgg).1,(hgv g hgg).2.1,fun hL=>absurd ⟨(hgv g hgg).1,hX⟩ hL,hX⟩
  ·by_cases hX:c'.X g
   ·exact .inl hX
   ·exact .inr ⟨hg,hX⟩
  ·have:t ∉ psl:=fun hm=>by obtain⟨i,hi⟩:=getElem?_of_mem hm;exact(hpsk i t hi).1 ht
   exact f2 t this
  ·refine c.Jst h.jn ⟨rfl,rfl,rfl,Nat.le_refl _,fun _ _ _=>rfl,fun g h=> .inl h,fun g h _=>h,h.sim.olt,fun g hg=> .inl ?_⟩
   rcases hg with(hg | hg | hg | hg) | hg | ⟨d,hd,_⟩
   ·exact .inl (.inl hg)
   ·exact .inr (.inl hg)
   ·exact .inl (.inr (.inr hg))
   ·exact .inr (.inr hg)
   ·exact .inl (.inr (.inl hg))
   ·cases hd
 have hcx:CxR c c':=⟨rfl,fun hxk g hg=>by
  rcases hg with hg | hg
  ·exact .inl (hxk g hg)
  ·exact .inr hg⟩
 -- behind the body
 have after:∀ (s2:St) (a2:Act) (W3:World),s2=s2->LpSt s kt s2->Sim c' (s2.kept kt) a2 W3->∃ O' θ',Rel O I W O' W3/\RSt c s2 O' I θ' a1 W3 l { (lM fn a0.tmps psl.toArray asg body D .ready none) with state:= .busy }:=by
  rintro s2 a2 W3 - hs2 ⟨O',θ',h3⟩
  have hsz3:W2.heap.size<=W3.heap.size:=h3.ext.size
  have hLX:∀ g,c'.L g->O g/\¬ c'.X g:=fun g hg=>hg
  have hXs:∀ g,c'.X g->W3.heap[g]? =W2.heap[g]? /\O' g:=fun g hg=>⟨h3.ext.block g (hs.olt g (hXO g hg)) (fun hL=>(hLX g hL).2 hg),h3.xo g hg⟩
  have hO'O:∀ g,O' g->g < W2.heap.size->O g:=fun g hg hlt=>by
   rcases h3.oc g hg hlt with hX | hL
   ·exact hXO g hX
   ·exact hL.1
  refine⟨O',θ',⟨h3.ext.os.trans hWos.1,h3.ext.tape.trans hWos.2.1,h3.ext.output.trans hWos.2.2,by rw[<- hWs];exact hsz3,fun b hb hn=> ?_,fun g hg=> ?_,fun g _ hI=>(hXs g (.inr (.inl hI))).2,h3.olt⟩,?_⟩
  ·have hb2:W3.heap[b]? =W2.heap[b]? :=h3.ext.block b (by rw[hWs];exact hb) (fun hL=>by
    rcases hn with hn | hn
    ·exact hn (hLX b hL).1
    ·exact(hLX b hL).2 (.inr (.inl hn)))
   rw[hb2]
   refine hWb b (fun e=> ?_)
   subst e
   rcases hn with hn | hn
   ·exact hn h.ol
   ·exact h.apart b (.inr (.inr rfl)) hn
  ·rcases Nat.lt_or_ge g W2.heap.size with hlt | hge
   ·exact .inl (hO'O g hg hlt)
   ·exact .inr (by rw[<- hWs];exact hge)
  ·have hj2:c.J s2.ys O' (fun g=>Ce c s2 θ' a1.defers g\/I g\/g=l) W3:=by
    refine c.Jst h3.jn ⟨rfl,rfl,rfl,Nat.le_refl _,fun _ _ _=>rfl,fun g h=> .inl h,fun g h _=>h,h3.olt,fun g hg=> .inl ?_⟩
    rcases hg with(hg | hg | hg) | hg | hg
    ·exact .inl (.inl hg)
    ·exact .inr (.inl hg)
    ·exact .inl (.inr (.inr (.inl hg)))
    ·exact .inl (.inr (.inl hg))
    ·exact .inl (.inr (.inr (.inr hg)))
   have hhpX:∀ g,HpB s2 θ' g->¬ c'.X g/\(¬ c.L g->c.w0.heap.size<=g)/\O' g:=by
    rintro g ⟨id,b,v,q1,q2,q3⟩
    obtain⟨v',hv',hbo,hgv⟩:=h3.hp id b q1
    rw[q2] at hv';cases hv'
    obtain⟨g1,g2,g3,g4⟩:=hgv g q3
    refine⟨g4,fun hcL=> ?_,g1⟩
    rcases Nat.lt_or_ge g c.w0.heap.size with hlt | hge
    ·exfalso
     have hlt2:g < W2.heap.size:=Nat.lt_of_lt_of_le hlt hs.ext.size
     rcases hs.oc g (hO'O g g1 hlt2) hlt with hX | hL
     ·exact g4 (.inl hX)
     ·exact hcL hL
    ·exact hge
   refine⟨⟨by rw[ha,hsz,hs2.n],hs.df,fun t x hx=> ?_,fun id b hb=> ?_,h3.inj,h3.dom,h3.flt,h3.one,h3.olt,⟨h3.ext.os.trans hs.ext.os,h3.ext.tape.trans hs.ext.tape,h3.ext.output.trans hs.ext.output,Nat.le_trans hs.ext.size hsz3,fun b hb hL=> ?_⟩,fun g hg=>(hXs g (.inl hg)).2,hs.xlt,hs.llt,fun d hd=> ?_,fun g hg hlt=>hs.oc g (hO'O g hg (Nat.lt_of_lt_of_le hlt hs.ext.size)) hlt,?_,?_⟩,hj2,?_,h2.ix,(hXs l (.inr (.inr (.inr rfl)))).2,?_,h2.lw⟩
   ·have hk:=h3.kp t (zY hs2.fr t x hx)
    have:a2.tmps.getD t undef=a0.tmps.getD t undef:=hk
    rw[ha,<- this]
    exact h3.fr t x hx
   ·obtain⟨v,hv,hbo,hgv⟩:=h3.hp id b hb
    refine⟨v,hv,hbo,fun g hgg=> ?_⟩
    obtain⟨q1,q2,q3⟩:=hhpX g ⟨id,b,v,hb,hv,hgg⟩
    exact⟨q3,(hgv g hgg).2.1,q2,fun hX=>q1 (.inl hX)⟩
   ·rw[<- hs.ext.block b hb hL]
    refine h3.ext.block b (Nat.lt_of_lt_of_le hb hs.ext.size) (fun hL2=> ?_)
    rcases hs.oc b (hLX b hL2).1 hb with hX | hL3
    ·exact(hLX b hL2).2 (.inl hX)
    ·exact hL hL3
   ·obtain⟨D',rfl,hD',hOD',h0⟩:=hs.marks d hd
    have hX:c'.X D':= .inr (.inr (.inl ⟨_,hd,rfl⟩))
    exact⟨D',rfl,by rw[(hXs D' hX).1];exact hD',(hXs D' hX).2,h0⟩
   ·intro t ht
    rw[hs2.kt] at ht
    exact hs.kp t (by rw[(hS q).kt];exact ht)
   ·exact c.Jst hj2 ⟨rfl,rfl,rfl,Nat.le_refl _,fun _ _ _=>rfl,fun g h=> .inl h,fun g h _=>h,h3.olt,fun g hg=> .inl (.inl hg)⟩
   ·intro g hg hI
    rcases hg with hg | hg | hg
    ·exact(hhpX g hg).1 (.inr (.inl hI))
    ·exact h2.apart g (.inr (.inl hg)) hI
    ·exact h2.apart g (.inr (.inr hg)) hI
   ·rw[(hXs l (.inr (.inr (.inr rfl)))).1];exact h2.hl
 have fin:∀ (s2:St) (a2:Act) (W3:World) (jump:Option Code),LpSt s kt s2->Sim c' (s2.kept kt) a2 W3->∃ O',(Instr.endRound l jump).run P W3= .ok (.bool jump.isNone) (W3.putObj l (.loop (lM fn a0.tmps psl.toArray asg body D (if jump.isNone then .ready else .done) jump)))/\
   Rel O I W O' (W3.putObj l (.loop (lM fn a0.tmps psl.toArray asg body D (if jump.isNone then .ready else .done) jump)))/\∃ θ',RSt c s2 O' I θ' a1 (W3.putObj l (.loop (lM fn a0.tmps psl.toArray asg body D (if jump.isNone then .ready else .done) jump))) l (lM fn a0.tmps psl.toArray asg body D (if jump.isNone then .ready else .done) jump):=by
  intro s2 a2 W3 jump hs2 h3
  obtain⟨O',θ',hrel,hst⟩:=after s2 a2 W3 rfl hs2 h3
  refine⟨O',run_endRound jump hst.hl,⟨hrel.os,hrel.tape,hrel.output,by simpa using hrel.size,fun b hb hn=> ?_,hrel.o1,hrel.o2,fun g hg=>by simpa using hrel.olt g hg⟩,θ',hst.turn _⟩
  rw[World.putObj_heap_other (fun e=> ?_)]
  ·exact hrel.block b hb hn
  ·subst e
   rcases hn with hn | hn
   ·exact hn h.ol
   ·exact h.apart b (.inr (.inr rfl)) hn
 have hcx1:CxR c c1:=⟨rfl,hcx.xk⟩
 refine wpIn_mono (hasg c1 hcx1 _ _ hstart) ?_
 rintro e aA WA hA
 cases e with
 | exit id=>exact hA.elim
 | ret=>exact hA.elim
 | goto t=>exact hA.elim
 | panic ch=>exact hA.elim
 | outgrown=>exact hA.elim
 | normal=>
 obtain⟨OA,θA,hsA⟩:=hA
 have hXl:c1.X l:= .inr (.inr (.inr rfl))
 have hlA:WA.heap[l]? =some (.loop (lM fn a0.tmps psl.toArray asg body D .ready none)):=by
  rw[hsA.ext.block l (xu h.hl) (fun hL=>hL.2 hXl)];exact h.hl
 refine⟨_,run_beginRound hlA rfl,?_⟩
 have hsB:=hsA.turned (rec':={ (lM fn a0.tmps psl.toArray asg body D .ready none) with state:= .busy }) hlA hXl (.inr (.inr (.inr rfl)))
 have hc'':({ c1 with w0:=c1.w0.putObj l (.loop { (lM fn a0.tmps psl.toArray asg body D .ready none) with state:= .busy }) }:Cx G)=c':=by
  show ({ c' with w0:=W.putObj l (.loop { (lM fn a0.tmps psl.toArray asg body D .ready none) with state:= .busy }) }:Cx G)=c'
  rw[hW2]
 rw[hc''] at hsB
 refine wpIn_mono (hbody c' hcx _ _ ⟨OA,θA,hsB⟩) ?_
 rintro e a2 W3 hp
 cases e with
 | normal=>
  obtain⟨q',rfl,hs3⟩:=hp
  obtain⟨O',k1,k2,k3⟩:=fin _ a2 W3 none (hS q') hs3
  exact⟨_,_,k1,O',rfl,k3,k2⟩
 | ret=>
  obtain⟨e',rfl,he,hs3⟩:=hp
  obtain⟨O',k1,k2,k3⟩:=fin _ a2 W3 (some .ret) (hSE e') hs3
  exact⟨_,_,k1,O',rfl,by simpa [RTr,he,Bt] using k3,k2⟩
 | exit id=>
  obtain⟨e',rfl,he,hs3⟩:=hp
  obtain⟨O',k1,k2,k3⟩:=fin _ a2 W3 (some (.exit id)) (hSE e') hs3
  exact⟨_,_,k1,O',rfl,by simpa [RTr,he,Bt] using k3,k2⟩
 | goto t=>exact hp.elim
 | panic ch=>exact hp.elim
 | outgrown=>exact hp.elim
def GOk (s:St) (g:Operand) (f:Nat) (pre:List PV) (bx:Option (TypeId×List PV)) (post:List PV):Option Nat->Prop
 | none=>bx=none/\ev s g=some (.pv (.fn f pre))
 | some kk=>∃ t cells,bx=some (t,cells)/\ev s g=some (.fn f (pre.map .pv++(.lp kk 0::post.map .pv)))/\aX kk s.hp=some (.box t (cells.map .pv))
theorem Cd {s:St} {kt psl:List Nat} {g:Operand} {ps:Array Tmp} {asg body:Code} {f m:Nat} {pre post:List PV} {bx:Option (TypeId×List PV)} {Qp:Exit->Act->World->Prop} (kk:Option Nat) (e:X->List PV) (rows:List X) (B:X->Q -> Option (Ctl E Q)) (q0:Q) (lr:Ctl E Q) (hL:DQ B rows q0=some lr)
  (S:Q->St) (SE:E->Exit×St) (hg:GOk s g f pre bx post kk) (hB:cY P f=true) (hit:∀ sp,It G P f m pre bx post (rows.map e) sp) (_hem:∀ x,(e x).length=m)
  (hpsl:ps=psl.toArray) (hm:psl.length=m) (hnd:psl.Nodup) (hkp:(psl.all fun t=> !kt.elem t&&Nat.blt t s.n)=true) (SA:X->Q -> St) (hS:∀ q,LpSt s kt (S q)) (hSE:∀ e,LpSt s kt (SE e).2) (hjm:∀ e,(Bt (SE e).1).isSome=true)
  (hys:(S q0).ys=s.ys) (hnx:(S q0).next=s.next) (hF:LessF s.fr (S q0).fr) (hH:LessH s.hp (S q0).next kk (S q0).hp)
  (hasg:∀ l c' x q,CxR c c'->AW (some l) P c' asg (adE c' (SA x q)) ((S q).round psl (e x) kt))
  (hbody:∀ l c' x q r,CxR c c'->B x q=some r->AW (some l) P c' body (Im c' S SE kt r) (SA x q))
  (hN:∀ q,lr= .next q->gw c Qp .normal (S q)) (hE:∀ e,lr= .stop e->gw c Qp (SE e).1 (SE e).2):AW none P c (.rangeFunc g ps asg body) Qp s:=by
 rintro a0 w ⟨O,θ,hs⟩
 obtain⟨sp,tr,t0,t1,t2⟩:=KZ B rows q0 lr hL
 refine wpIn_rangeFunc ?_
 intro fn _
 -- the closure
 have hclo:∃ us:Array Value,a0.eval g= .func (.func f) #[] us/\∃ I0:Nat->Prop,(∀ g,I0 g->O g/\g < w.heap.size/\¬ c.X g)/\aat w O I0 pre bx post us/\∀ g,I0 g->∃ k b v,kk=some k/\aX k s.hp=some b/\θ k=some v/\bU v=some g:=by
  cases kk with
  | none=>
   obtain⟨rfl,hv⟩:=hg
   have:=ug hs hv
   generalize a0.eval g=v at this
   cases this with
   | fn _ _ us hn hh=>exact⟨us,rfl,fun _=>False,fun _ h=>h.elim,⟨hn,hh⟩,fun _ h=>h.elim⟩
  | some k=>
   obtain⟨t,cells,rfl,hv,hk⟩:=hg
   have:=jJ hs hv
   generalize a0.eval g=v at this
   cases this with
   | fn _ _ us hn hh=>
    obtain⟨v',hv',hb,hgv⟩:=hs.hp k _ hk
    obtain⟨gb,us',rfl,b1,b2,b3⟩:=hb
    obtain⟨g1,g2,g3,g4⟩:=hgv gb rfl
    have hlen:us.size=pre.length+1 + post.length:=by rw[hn];simp;omega
    have hu:us[pre.length]? =some us[pre.length]:=by simp
    have hmid:=hh pre.length (.lp k 0) _ (by simp) hu
    generalize us[pre.length]=up at hmid hu
    cases hmid with
    | lp _ _ g' hmid=>
     rw[hv'] at hmid;cases hmid
     refine⟨us,rfl,fun g=>g=gb,fun g hg=>hg ▸ ⟨g1,g2,g4⟩,⟨hlen,fun i p u hp hu=> ?_,fun i p u hp hu=> ?_,gb,hu,⟨gb,us',rfl,b1,b2,fun j x u hx hu=> ?_⟩,g1,rfl⟩,fun g hg=>⟨k,_,_,rfl,hk,hv',by rw[hg];rfl⟩⟩
     ·have hi:i < pre.length:=(List.getElem?_eq_some_iff.1 hp).1
      exact lm (hh i (.pv p) u (by rw[getElem?_append_left (by simpa using hi),getElem?_map,hp];rfl) hu)
     ·refine lm (hh _ (.pv p) u ?_ hu)
      rw[getElem?_append_right (by simp;omega)]
      simp only[length_map]
      rw[show pre.length+1 + i - pre.length=i+1 by omega,getElem?_cons_succ,getElem?_map,hp];rfl
     ·have:=b3 j x u hx hu
      simp only[getElem?_map,Option.map_eq_some_iff] at hx
      obtain⟨q,hq,rfl⟩:=hx
      exact⟨.pv _ _ (lm this.1),this.2⟩
 obtain⟨us,hga,I0,hI0,hargs,hI0k⟩:=hclo
 obtain⟨rec,hrec⟩:∃ rec:LoopState->Option Code->Loop,rec=lM fn a0.tmps ps asg body w.heap.size:=⟨_,rfl⟩
 obtain⟨W1,hW1⟩:∃ W1,(w.alloc (.deferred (some []))).alloc (.loop (rec .ready none))=W1:=⟨_,rfl⟩
 have hsz1:W1.heap.size=w.heap.size+2:=by rw[<- hW1];simp
 have hL1:W1.heap[w.heap.size+1]? =some (.loop (rec .ready none)):=by
  rw[<- hW1];have:=World.alloc_heap_new (w.alloc (.deferred (some []))) (.loop (rec .ready none));rwa [World.size_alloc] at this
 have hK1:W1.heap[w.heap.size]? =some (.deferred (some [])):=by
  rw[<- hW1];exact(Below.heap_alloc _ _ _ (by simp)).trans (World.alloc_heap_new w _)
 have hold:∀ b,b < w.heap.size->W1.heap[b]? =w.heap[b]? :=by
  intro b hb
  rw[<- hW1]
  exact(Below.heap_alloc _ _ _ (by simp;omega)).trans (Below.heap_alloc _ _ _ (by omega))
 have hW1os:W1.os=w.os/\W1.tape=w.tape/\W1.output=w.output:=by rw[<- hW1];exact⟨rfl,rfl,rfl⟩
 refine⟨w.heap.size+1,[{ target:= .collected w.heap.size,args:= #[] }],W1,{ target:= .fn (.func f) us,args:= #[.func (.yield (w.heap.size+1)) #[] #[]] },W1,f,
  #[.func (.yield (w.heap.size+1)) #[] #[]]++us,W1,?_,?_,?_,?_,fun h=>by simp[FF,Fence.wide] at h,?_⟩
 ·rw[<- hW1,hrec];exact run_enterLoop_outer _ _ _ _ _
 ·simp only[resolve,hga]
  simp[go_sem]
 ·intro f' _;trivial
 ·simp[invoke,go_sem,vl hB]
 let a1:Act:={ a0 with defers:=[{ target:= .collected w.heap.size,args:= #[] }]++a0.defers }
 let O1:Nat->Prop:=fun g=>O g\/g=w.heap.size\/g=w.heap.size+1
 have hO1:∀ b,b < w.heap.size->¬ O b->¬ O1 b/\W1.heap[b]? =w.heap[b]? :=fun b hb hn=>⟨fun h=>by
  rcases h with h | h | h
  ·exact hn h
  ·omega
  ·omega,hold b hb⟩
 have hle:w.heap.size<=W1.heap.size:=by omega
 have hltO1:∀ g,O1 g->g < W1.heap.size:=fun g hg=>by
  rcases hg with h | h | h
  ·have:=hs.olt g h;omega
  ·omega
  ·omega
 have hlook:∀ id b,aX id (S q0).hp=some b->aX id s.hp=some b/\id < (S q0).next/\kk≠some id:=fun id b hb=>hH.spec id b (eY hb)
 -- the values of the frame speak of names that are left
 have hj0:c.J s.ys O1 (fun g=>Ce c s θ a1.defers g\/g=w.heap.size+1) W1:=by
  refine c.Jst hs.jn ⟨hW1os.1,hW1os.2.1,hW1os.2.2,hle,fun b hb _=>hold b hb,fun g hg=> ?_,fun g h _=> .inl h,hltO1,fun g hg=> ?_⟩
  ·rcases hg with h | h | h
   ·exact .inl h
   ·exact .inr (by omega)
   ·exact .inr (by omega)
  ·rcases hg with(h | h | ⟨d,h,h2⟩) | h
   ·exact .inl (.inl h)
   ·exact .inl (.inr (.inl h))
   ·rcases List.mem_cons.1 h with h3 | h3
    ·subst h3;cases h2;exact .inr (Nat.le_refl _)
    ·exact .inl (.inr (.inr ⟨d,h3,h2⟩))
   ·exact .inr (by omega)
 have hI0m:∀ g,I0 g->Ce c s θ a1.defers g:=fun g hg=>by
  obtain⟨k,b,v,_,h2,h3,h4⟩:=hI0k g hg
  exact .inr (.inl ⟨k,b,v,h2,h3,h4⟩)
 have hst0:RSt c (S q0) O1 I0 θ a1 W1 (w.heap.size+1) (rec .ready none):=by
  have hj2:c.J (S q0).ys O1 (fun g=>Ce c (S q0) θ a1.defers g\/I0 g\/g=w.heap.size+1) W1:=by
   rw[hys]
   refine c.Jst hj0 ⟨rfl,rfl,rfl,Nat.le_refl _,fun _ _ _=>rfl,fun g h=> .inl h,fun g h _=>h,hltO1,fun g hg=> .inl ?_⟩
   rcases hg with(h | ⟨id,b,v,h1,h2,h3⟩ | h) | h | h
   ·exact .inl (.inl h)
   ·exact .inl (.inr (.inl ⟨id,b,v,(hlook id b h1).1,h2,h3⟩))
   ·exact .inl (.inr (.inr h))
   ·exact .inl (hI0m g h)
   ·exact .inr h
  refine⟨⟨hs.size.trans (hS q0).n.symm,?_,fun t x hx=>(hs.fr t x (hF.spec t x (eY hx))).mono hle hO1 (fun _ _ e=>e),fun id b hb=> ?_,fun i j bi bj vi vj g hi hj=>hs.inj i j bi bj vi vj g (hlook i bi hi).1 (hlook j bj hj).1,fun id v hv=>⟨by rw[hnx];exact(hs.dom id v hv).1,by rw[(hS q0).free];simp⟩,fun k hk=>by rw[(hS q0).free] at hk;simp at hk,hs.one,hltO1,⟨hW1os.1.trans hs.ext.os,hW1os.2.1.trans hs.ext.tape,hW1os.2.2.trans hs.ext.output,Nat.le_trans hs.ext.size hle,fun b hb hL=> ?_⟩,fun g hg=> .inl (hs.xo g hg),hs.xlt,hs.llt,fun d hd=> ?_,fun g hg hlt=> ?_,?_,?_⟩,hj2,?_,fun g hg=>(hI0 g hg).2.2,.inr (.inr rfl),hL1,Nat.le_succ_of_le hs.ext.size⟩
  ·refine List.nodup_cons.2 ⟨fun hm=> ?_,hs.df⟩
   obtain⟨D,he,hD,_⟩:=hs.marks _ hm
   cases he
   have:=xu hD;omega
  ·obtain⟨h1,_,h3⟩:=hlook id b hb
   obtain⟨v,hv,hbo,hgv⟩:=hs.hp id b h1
   exact⟨v,hv,hbo.mono hle hO1 (fun _ _ e=>e) (fun g hgg=>hold g (hgv g hgg).2.1),fun g hgg=>⟨.inl (hgv g hgg).1,Nat.lt_of_lt_of_le (hgv g hgg).2.1 hle,(hgv g hgg).2.2⟩⟩
  ·rw[hold b (Nat.lt_of_lt_of_le hb hs.ext.size)];exact hs.ext.block b hb hL
  ·rcases List.mem_cons.1 hd with h | h
   ·subst h;exact⟨_,rfl,hK1,.inr (.inl rfl),hs.ext.size⟩
   ·obtain⟨D,rfl,hD,hOD,h0⟩:=hs.marks d h
    exact⟨D,rfl,by rw[hold D (xu hD)];exact hD,.inl hOD,h0⟩
  ·rcases hg with h | h | h
   ·exact hs.oc g h hlt
   ·have:=hs.ext.size;omega
   ·have:=hs.ext.size;omega
  ·intro t ht
   rw[(hS q0).kt] at ht
   exact hs.kp t ht
  ·exact c.Jst hj2 ⟨rfl,rfl,rfl,Nat.le_refl _,fun _ _ _=>rfl,fun g h=> .inl h,fun g h _=>h,hltO1,fun g hg=> .inl (.inl hg)⟩
  ·intro g hg hI
   obtain⟨k,b,v,h1,h2,h3,h4⟩:=hI0k g hI
   have hglt:=(hI0 g hI).2.1
   rcases hg with⟨id,b',v',q1,q2,q3⟩ | ⟨d,hd,hd2⟩ | rfl
   ·obtain⟨r1,_,r3⟩:=hlook id b' q1
    have:=hs.inj id k b' b v' v g r1 h2 q2 h3 q3 h4
    subst this
    exact r3 h1
   ·obtain⟨v2,hv2,hbo,_⟩:=hs.hp k b h2
    rw[h3] at hv2;cases hv2
    obtain⟨_,hcl,hmb⟩:=hbo.cells h4
    rcases List.mem_cons.1 hd with h | h
    ·subst h;cases hd2;omega
    ·obtain⟨D,rfl,hD,_⟩:=hs.marks d h
     cases hd2;rw[hD] at hcl;cases hcl;cases hmb
   ·omega
 have hJst:∀ {k:Nat} {O I:Nat->Prop} {w':World} {O' I':Nat->Prop} {w'':World},RTr c S SE a1 (w.heap.size+1) rec (tr k) O I w'->Stp O I w' O' I' w''->RTr c S SE a1 (w.heap.size+1) rec (tr k) O' I' w'':=by
  intro k O2 I2 w2 O3 I3 w3 h hstp
  generalize tr k=r at h ⊢
  cases r with
  | next q=>obtain⟨θ,h⟩:=h;exact⟨θ,h.stp hstp⟩
  | stop e=>obtain⟨θ,h⟩:=h;exact⟨θ,h.stp hstp⟩
 subst hrec
 have hJG:∀ (k:Nat) {O I:Nat->Prop} {w':World},RTr c S SE a1 (w.heap.size+1) (lM fn a0.tmps ps asg body w.heap.size) (tr k) O I w'->GlobOk G w' O:=by
  intro k O I w' h
  unfold RTr at h
  split at h
  ·obtain⟨θ,h⟩:=h;exact c.JG h.jn
  ·obtain⟨θ,h⟩:=h;exact c.JG h.jn
 have hcall:=hit sp (w.heap.size+1) (fun k O I W=>k<=min (sp+1) rows.length/\RTr c S SE a1 (w.heap.size+1) (lM fn a0.tmps ps asg body w.heap.size) (tr k) O I W) (fun h hstp=>⟨h.1,hJst h.2 hstp⟩) (fun {k O I W} h=>hJG k h.2) W1 O1 I0 us hltO1 (fun g hg=> .inl (hI0 g hg).1) ?_ ?_ ⟨Nat.zero_le _,by rw[t0];exact⟨θ,hst0⟩⟩
 ·refine CallsIn.mono (callsIn_wide (n:=0 - 1).2 hcall) ?_
  rintro e' w' ⟨v,O',I',rfl,-,hR⟩
  rw[length_map,t1] at hR
  cases lr with
  | next q=>
   obtain⟨θ',hR⟩:=hR
   have hT:=hR.turn { lM fn a0.tmps ps asg body w.heap.size .ready none with state:= .exhausted }
   exact⟨none,_,run_endLoop (P:=P) hR.hl (by simp[lM]),hN q rfl a1 _ ⟨O',θ',hT.sim⟩⟩
  | stop ee=>
   obtain⟨θ',hR⟩:=hR
   have hT:=hR.turn { lM fn a0.tmps ps asg body w.heap.size .done (Bt (SE ee).1) with state:= .exhausted }
   refine⟨Bt (SE ee).1,_,run_endLoop (P:=P) hR.hl (by simp[lM]),?_⟩
   have hp:=hE ee rfl a1 _ ⟨O',θ',hT.sim⟩
   have hj:=hjm ee
   simp only[lM] at hp ⊢
   generalize (SE ee).1=x at hp hj ⊢
   cases x with
   | ret=>exact wpIn_ret hp
   | exit id=>exact wpIn_exit hp
   | _=>simp[Bt] at hj
 ·have rdm:∀ {p:PV} {v:Value},Rd w O p v->Rd W1 O1 p v:=fun h=>h.mono hle hO1
  cases bx with
  | none=>exact⟨hargs.1,fun i p v hp hv=>rdm (hargs.2 i p v hp hv)⟩
  | some b=>
   obtain⟨t,cells⟩:=b
   obtain⟨h1,h2,h3,g,h4,h5,h6,h7⟩:=hargs
   exact⟨h1,fun i p v hp hv=>rdm (h2 i p v hp hv),fun i p v hp hv=>rdm (h3 i p v hp hv),g,h4,h5.mono hle hO1 (fun _ _ h=>by cases h) (fun g' hg'=>hold g' (by cases hg';exact(hI0 g h7).2.1)),.inl h6,h7⟩
 ·rintro k row W O2 I2 us2 ⟨hk,hR⟩ hrow hksp hrl husz hrd hO2 hI2
  have hklt:k < min (sp+1) rows.length:=by
   have:=(List.getElem?_eq_some_iff.1 hrow).1
   simp at this;omega
  obtain⟨x,q,k1,k2,k3,k4,k5⟩:=t2 k hklt
  have:row=e x:=by rw[getElem?_map,k1] at hrow;simpa using hrow.symm
  subst this
  rw[k2] at hR
  obtain⟨θ2,hR⟩:=hR
  obtain⟨fn2,tmps2,assign2,body2,r1,r2⟩:=Yy (P:=P) (s:=s) (kt:=kt) (psl:=psl) (a0:=a0) (a1:=a1) (S:=S) (SE:=SE) (q:=q) (r:=tr (k+1)) (row:=e x) (D:=w.heap.size) (fn:=fn) (SA x q) hpsl hnd hkp hS hSE rfl hs.size (by rw[husz,hm]) hrd hI2 ⟨θ2,hR⟩ (fun c' hc'=>hasg _ c' x q hc') (fun c' hc'=>hbody _ c' x q _ hc' k3)
  refine⟨fn2,tmps2,assign2,body2,r1,RoundIn.mono r2 ?_⟩
  rintro e' W' ⟨O',rfl,hT,hrel⟩
  refine⟨O',?_,⟨hklt,hT⟩,hrel⟩
  cases hb:k==sp with
  | true=>obtain⟨ee,he⟩:=k4 hb;rw[he];rfl
  | false=>obtain⟨q',hq⟩:=k5 hb;rw[hq];rfl
end
end Go.Abs
namespace Go.Abs
open List
variable {G:List (Nat×List PV)}
section
variable {P:Program} {c c':Cx G} {s:St}
theorem ItCx.round {l m sp:Nat} {rows:List (List PV)} (h:ItCx P l m rows sp c) (hc:CxR c c'):ItCx P l m rows sp c':=⟨by rw[hc.J];exact h.y,hc.xk h.xk⟩
theorem RR {Q E:Type} {S:Q->St} {SE:E->Exit×St} {kt:List Nat} {r:Ctl E Q} (q:Q) (hr:r= .next q) (hi:Imp c s ((S q).kept kt)):gw c (Im c S SE kt r) .normal s:=fun a w hs=>⟨q,hr,hi a w hs⟩
theorem Oo {Q E:Type} {S:Q->St} {SE:E->Exit×St} {kt:List Nat} {r:Ctl E Q} (e:E) (hr:r= .stop e) (he:(SE e).1= .ret) (hi:Imp c s ((SE e).2.kept kt)):gw c (Im c S SE kt r) .ret s:=fun a w hs=>⟨e,hr,he,hi a w hs⟩
noncomputable def yck {X:Type} (rows:List X) (sp k:Nat) (x:X):Option Unit:=
 haveI:=Classical.propDecidable (rows[k]? =some x/\k<=sp)
 if rows[k]? =some x/\k<=sp then some () else none
theorem JL {X:Type} {rows:List X} {sp k:Nat} {x:X} {u:Unit} (h:yck rows sp k x=some u):rows[k]? =some x/\k<=sp:=by
 unfold yck at h
 split at h
 ·assumption
 ·cases h
theorem We {X:Type} {rows:List X} {sp k:Nat} {x:X} {u:Unit} (e:X->List PV) (h:yck rows sp k x=some u):(rows.map e)[k]? =some (e x):=by rw[getElem?_map,(JL h).1];rfl
theorem aag {X:Type} {rows:List X} {sp k:Nat} {x:X} (h1:rows[k]? =some x) (h2:k<=sp):yck rows sp k x=some ():=by unfold yck;rw[if_pos ⟨h1,h2⟩]
theorem PJ {k sp:Nat} {X:Type} {e:X->List PV} {rows:List X} (h:some k=some (min (sp+1) rows.length)):k=min (sp+1) (rows.map e).length:=by rw[length_map];exact Option.some.inj h
end
end Go.Abs
namespace Go.Abs
open List
variable {G:List (Nat×List PV)}
end Go.Abs
namespace Go.Abs
open List
variable {G:List (Nat×List PV)}
theorem vsR {α:Type} {f:α->List PV} {g:List α->List (List PV)} {w:World} {O:Nat->Prop} {cs:List Value} {sz:Nat} {l:List α} (hm:∀ l,g l=l.map f) (h:Reads1 w O cs (eL sz f l)):Reads1 w O cs [.vs sz (g l)]:=by rw[hm];exact h
end Go.Abs

/- Functions of the library that have no body. -/
namespace Go.Abs
open List
variable {G:List (Nat×List PV)}
open Go.RowKit
section
variable {ro:Option Nat} {P:Program} {c:Cx G} {s:St} {o:Oper} {d:Option Nat}
end
end Go.Abs

/- Maps of the call's own, from strings to numbers. -/
namespace Go.Abs
open List
variable {G:List (Nat×List PV)}
open Go.RowKit
section
variable {ro:Option Nat} {P:Program} {c:Cx G} {s:St} {o:Oper} {d:Option Nat}
end
end Go.Abs

/- Arrays: slices of them, elements at whatever place; slices without spare places. -/
namespace Go.Abs
open List
variable {G:List (Nat×List PV)}
open Go.RowKit
theorem acV {w:World} {O:Nat->Prop} {sz:Nat} {rows:List (List PV)} {ad:Option Addr} {cap L H m:Nat} (hv:Rd w O (.vs sz rows) (.slice ad rows.length cap)) (hLH:L<=H) (hHr:H<=rows.length) (hm':m=H\/m=cap) (hcap:rows.length<=cap):
  Rd w O (.vs sz ((rows.take H).drop L)) (.slice (if m=L then ad else ad.map (·.add (L * sz))) (H - L) (m - L)):=by
 have hlen:((rows.take H).drop L).length=H - L:=by simp;omega
 rcases Fh hv with⟨ad0,cap0,h,hrr,hz0,hz1⟩ | ⟨b,off,cap',us,h,q1,q2,q3,q4,q5,q6,q7,q8⟩
 ·subst hrr
  injection h with h1' h2' h3'
  subst h1';subst h3'
  simp at hHr
  subst hHr
  have:L=0:=by omega
  subst this
  simp only[take_nil,drop_nil,Nat.sub_zero]
  by_cases hm0:m=0
  ·rw[if_pos hm0,hm0]
   exact .vsz _ _ _ (fun _=>rfl) (Nat.zero_le _)
  ·rw[if_neg hm0]
   have hmc:m=cap:=by rcases hm' with h | h;exact absurd h hm0;exact h
   exact .vsz _ _ _ (fun e=>by rw[hmc];exact hz0 (by simpa using e)) (by rw[hmc];exact hz1)
 ·injection h with h1' h2' h3'
  subst h1';subst h3'
  have hmH:H<=m:=by rcases hm' with h | h<;>omega
  have hgo:Rd w O (.vs sz ((rows.take H).drop L)) (.slice (some ⟨b,off+(if m=L then 0 else L * sz),none⟩) (H - L) (m - L)):=by
   rw[<- hlen]
   refine .vs sz _ b _ _ (fun k=>us (L * sz+k)) q1 q2 (by rw[hlen];omega) (by rcases hm' with h | h<;>omega) (fun row hr=>q5 row (mem_of_mem_take (mem_of_mem_drop hr))) (fun row hr=>q6 row (mem_of_mem_take (mem_of_mem_drop hr))) (fun k hk=> ?_) (fun i j row x hi hj=> ?_)
   ·rw[hlen] at hk
    have hml:m≠L:=fun e=>by
     have:H - L=0:=by omega
     rw[this] at hk;simp at hk
    rw[if_neg hml,Nat.add_assoc]
    refine q7 _ ?_
    have:(L+(H - L)) * sz<=rows.length * sz:=Nat.mul_le_mul_right _ (by omega)
    rw[Nat.add_mul] at this
    omega
   ·rw[getElem?_drop,getElem?_take] at hi
    split at hi
    ·have:=q8 (L+i) j row x hi hj
     rw[Nat.add_mul,Nat.add_assoc] at this
     exact this
    ·cases hi
  by_cases hml:m=L
  ·rw[if_pos hml] at hgo ⊢
   simpa using hgo
  ·rw[if_neg hml] at hgo ⊢
   simpa [Addr.add_lit] using hgo
theorem aaa {w:World} {O:Nat->Prop} {row:List PV} {b off n sz:Nat} {α:Type} {f:α->List PV} {l:List α} (h:Rd w O (.vp row) (.pointer (some ⟨b,off,none⟩))) (hrow:row.take (n * sz)=(l.map f).flatten) (hf:∀ z,(f z).length=sz) (hl:l.length=n) (hn:n<=maxLen):
  Rd w O (.vs sz (l.map f)) (.slice (some ⟨b,off,none⟩) (l.map f).length n):=by
 obtain⟨b',off',us,hv,h1,h2,h3,h4,h5⟩:=Ko h
 injection hv with hv;injection hv with hv;injection hv with e1 e2;subst e1;subst e2
 have hfl:((l.map f).flatten).length=n * sz:=by
  rw[nY (sz:=sz) (fun row hr=>by obtain⟨z,_,rfl⟩:=List.mem_map.1 hr;exact hf z),length_map,hl]
 have hge:∀ k,k < n * sz->k < row.length:=by
  intro k hk
  have:=congrArg length hrow
  rw[hfl,length_take] at this
  omega
 have hmem:∀ p∈(l.map f).flatten,p∈row:=fun p hp=>by rw[<- hrow] at hp;exact mem_of_mem_take hp
 refine .vs sz _ b off n us h1 h2 (by simp[hl]) hn (fun r hr=> ?_) (fun r hr x hx=>h3 x (hmem x (List.mem_flatten.2 ⟨r,hr,hx⟩))) (fun k hk=> ?_) (fun i j r x hi hj=> ?_)
 ·obtain⟨z,_,rfl⟩:=List.mem_map.1 hr;exact hf z
 ·rw[length_map,hl] at hk
  exact h4 k (hge k hk)
 ·refine h5 _ x ?_
  have hr:r.length=sz:=by obtain⟨z,_,rfl⟩:=List.mem_map.1 (mem_of_getElem? hi);exact hf z
  have hjs:j < sz:=by rw[<- hr];exact(List.getElem?_eq_some_iff.1 hj).1
  have hin:i < n:=by have:=(List.getElem?_eq_some_iff.1 hi).1;rw[length_map,hl] at this;exact this
  have e:=sQ (rows:=l.map f) (sz:=sz) (fun row hr=>by obtain⟨z,_,rfl⟩:=List.mem_map.1 hr;exact hf z) i j r hi hjs
  rw[hj,<- hrow,getElem?_take,if_pos (sI hin hjs)] at e
  exact e
section
variable {ro:Option Nat} {P:Program} {c:Cx G} {s s':St} {o:Oper} {d:Option Nat}
theorem yF {T n e sz:Nat} {x:Operand} {lo hi mx:Option Operand} {row:List PV} {α:Type} {f:α->List PV} {l r:List α} {nl nh nm:Option Int} (ho:o.op= .slice T x lo hi mx) (hx:ev s x=some (.pv (.vp row))) (hlo:evo s lo=some nl) (hhi:evo s hi=some nh) (hmx:evo s mx=some nm) (hm:nm=none\/nm=nh)
  (ht:tQ P T n e sz=true) (hrow:row.take (n * sz)=(l.map f).flatten) (hf:∀ z,(f z).length=sz) (hl:l.length=n) (hnm:Nat.ble n maxLen=true) (hr:jK l (nl.getD 0) (nh.getD l.length)=some r) (hd:o.dst=d) (hn:dOk s d=true):da ro P c o s (s.put d (some (.pv (.vs sz (r.map f))))):=
 ca hd hn (by rw[ho];intro k h;cases h) fun a w O θ hs=>by
  obtain⟨h1,h2,h3,rfl⟩:=wX hr
  obtain⟨i,t1,t2,t3⟩:=zz ht
  have hv:=ug hs hx
  obtain⟨b,off,_,he,_⟩:=Ko hv
  rw[he] at hv
  have hv2:=aaa hv hrow hf hl (Nat.le_of_ble_eq_true hnm)
  have run:∃ m:Nat,(m=(nh.getD l.length).toNat\/m=n)/\(execOp a.eval o).run P w= .ok (.value (.slice (some (if m=(nl.getD 0).toNat then⟨b,off,none⟩ else(⟨b,off,none⟩:Addr).add ((nl.getD 0).toNat * sz))) ((nh.getD l.length).toNat - (nl.getD 0).toNat) (m - (nl.getD 0).toNat))) w:=by
   rcases zh hs hlo with⟨rfl,rfl⟩ | ⟨yl,kl,ml,rfl,rfl,e1⟩<;>rcases zh hs hhi with⟨rfl,rfl⟩ | ⟨yh,kh,mh,rfl,rfl,e2⟩<;>rcases zh hs hmx with⟨rfl,rfl⟩ | ⟨ym,km,mm,rfl,rfl,e3⟩
   ·exact⟨n,.inr rfl,by simp[execOp,ho,he,Instr.sliceAt,run_underlying t1,Instr.sureAddr,Instr.sliceBounds,sizeOf,typeInfo,t2,t3,hl]⟩
   ·simp at hm
   ·simp only[Option.getD_some,Option.getD_none] at h1 h2 h3 ⊢
    have b1:=co (P:=P) (w:=w) (k:=kh) (y:=n) (code:= .sliceAlen) (show 0<=mh by omega) (by omega)
    exact⟨n,.inr rfl,by simp[execOp,ho,he,Instr.sliceAt,run_underlying t1,Instr.sureAddr,Instr.sliceBounds,sizeOf,typeInfo,t2,t3,e2,b1]⟩
   ·simp only[Option.getD_some,Option.getD_none,reduceCtorEq,false_or,Option.some.injEq] at h1 h2 h3 hm ⊢
    subst hm
    have b0:=co (P:=P) (w:=w) (k:=km) (y:=n) (code:= .slice3Alen) (show 0<=mm by omega) (by omega)
    have b1:=co (P:=P) (w:=w) (k:=kh) (y:=mm.toNat) (code:= .slice3B) (show 0<=mm by omega) (by omega)
    exact⟨mm.toNat,.inl rfl,by simp[execOp,ho,he,Instr.sliceAt,run_underlying t1,Instr.sureAddr,Instr.sliceBounds,sizeOf,typeInfo,t2,t3,e2,e3,b0,b1]⟩
   ·simp only[Option.getD_some,Option.getD_none] at h1 h2 h3 ⊢
    have b1:=co (P:=P) (w:=w) (k:=kl) (y:=n) (code:= .sliceB) h1 (by omega)
    exact⟨n,.inr rfl,by simp[execOp,ho,he,Instr.sliceAt,run_underlying t1,Instr.sureAddr,Instr.sliceBounds,sizeOf,typeInfo,t2,t3,e1,b1,hl]⟩
   ·simp at hm
   ·simp only[Option.getD_some] at h1 h2 h3 ⊢
    have b1:=co (P:=P) (w:=w) (k:=kh) (y:=n) (code:= .sliceAlen) (show 0<=mh by omega) (by omega)
    have b2:=co (P:=P) (w:=w) (k:=kl) (y:=mh.toNat) (code:= .sliceB) h1 (by omega)
    exact⟨n,.inr rfl,by simp[execOp,ho,he,Instr.sliceAt,run_underlying t1,Instr.sureAddr,Instr.sliceBounds,sizeOf,typeInfo,t2,t3,e1,e2,b1,b2]⟩
   ·simp only[Option.getD_some,reduceCtorEq,false_or,Option.some.injEq] at h1 h2 h3 hm ⊢
    subst hm
    have b0:=co (P:=P) (w:=w) (k:=km) (y:=n) (code:= .slice3Alen) (show 0<=mm by omega) (by omega)
    have b1:=co (P:=P) (w:=w) (k:=kh) (y:=mm.toNat) (code:= .slice3B) (show 0<=mm by omega) (by omega)
    have b2:=co (P:=P) (w:=w) (k:=kl) (y:=mm.toNat) (code:= .slice3C) h1 (by omega)
    exact⟨mm.toNat,.inl rfl,by simp[execOp,ho,he,Instr.sliceAt,run_underlying t1,Instr.sureAddr,Instr.sliceBounds,sizeOf,typeInfo,t2,t3,e1,e2,e3,b0,b1,b2]⟩
  obtain⟨m,hm',hrun⟩:=run
  refine⟨_,hrun,.pv _ _ ?_⟩
  have hc:=acV (L:=(nl.getD 0).toNat) (H:=(nh.getD l.length).toNat) (m:=m) hv2 (by omega) (by rw[length_map];omega) hm' (by rw[length_map];omega)
  rw[<- map_take,<- map_drop] at hc
  by_cases hml:m=(nl.getD 0).toNat
  ·rw[if_pos hml] at hc ⊢;exact hc
  ·rw[if_neg hml] at hc ⊢;exact hc
theorem NU {T n:Nat} {x y:Operand} {id k:Nat} {t:TypeId} {cells cells':List AV} {v:AV} (ho:o.op= .store T x y) (hx:ev s x=some (.lp id k)) (hy:ev s y=some v) (hc:v.cellish=true)
  (hb:aX id s.hp=some (.box t cells)) (hT:(qT P T||nR P T n)=true) (hn1:v.cells.length=(bif qT P T then 1 else n)) (hfit:k+v.cells.length<=cells.length) (hs':splice cells k v.cells=cells') (hd:o.dst=d) (hk:ktB s d=true):
  da ro P c o s ((s.setBlk id (some (.box t cells'))).put d none):=by
 subst hs'
 exact kZ ho hx hy hc hb hT hn1 (Nat.ble_eq_true_of_le hfit) hd hk
end
def A4.set {α:Type} (x:A4 α):Nat->α -> A4 α
 | 0,v=>⟨v,x.a1,x.a2,x.a3⟩
 | 1,v=>⟨x.a0,v,x.a2,x.a3⟩
 | 2,v=>⟨x.a0,x.a1,v,x.a3⟩
 | _,v=>⟨x.a0,x.a1,x.a2,v⟩
theorem YC {α:Type} {x:A4 α} {i:Int} {z:α} (h:idx x.l i=some z):i.toNat=0\/i.toNat=1\/i.toNat=2\/i.toNat=3:=by
 obtain⟨h0,_,h1⟩:=rM h;have:(x.l.length:Int)=4:=rfl;omega
end Go.Abs

/- Functions as values, with what they compute. -/
namespace Go.Abs
open List
variable {G:List (Nat×List PV)}
open Go.RowKit
end Go.Abs
namespace Go.Abs
open List
variable {G:List (Nat×List PV)}
end Go.Abs

/- Functions that are handed boxes of the caller's, to write into them. -/
namespace Go.Abs
open List
variable {G:List (Nat×List PV)}
open Go.RowKit
theorem RdA.mapF {w:World} {O:Nat->Prop} {θ θ':Nat->Option Value} (ρ:Nat->Nat) (hθ:∀ i v,θ i=some v->θ' (ρ i)=some v):
  ∀ {x:AV} {v:Value},RdA w O θ x v->RdA w O θ' (x.map ρ) v:=by
 intro x v h
 induction h with
 | pv p v h=>exact .pv _ v h
 | ls id v h=>exact .ls _ v (hθ _ _ h)
 | le id sz i off g n cap h=>exact .le _ _ _ _ g n cap (hθ _ _ h)
 | lp id off g h=>exact .lp _ _ g (hθ _ _ h)
 | ra id m g n cap h h0=>exact .ra _ _ g n cap (hθ _ _ h) h0
 | aw id off n g h=>exact .aw _ _ _ g (hθ _ _ h)
 | sp id sz r v0 v h hc=>exact .sp _ _ _ v0 v (hθ _ _ h) hc
 | bp0 id=>exact .bp0 _
 | any v=>exact .any v
 | bp1 id g h=>exact .bp1 _ g (hθ _ _ h)
 | cs sz rows v h hc=>exact .cs _ _ v h hc
 | fn f caps us hn h ih=>
  refine .fn _ _ us (by rw[hn,AV.mapL_length]) fun i c u hc hu=> ?_
  rw[AV.mapL_get,Option.map_eq_some_iff] at hc
  obtain⟨c',hc',rfl⟩:=hc
  exact ih i c' u hc' hu
 | mv f fst us hn h ih=>
  refine .mv _ _ us (by rw[hn,AV.mapL_length]) fun i c u hc hu=> ?_
  rw[AV.mapL_get,Option.map_eq_some_iff] at hc
  obtain⟨c',hc',rfl⟩:=hc
  exact ih i c' u hc' hu
 | tup xs us hn h ih=>
  refine .tup _ us (by rw[hn,AV.mapL_length]) fun i c u hc hu=> ?_
  rw[AV.mapL_get,Option.map_eq_some_iff] at hc
  obtain⟨c',hc',rfl⟩:=hc
  exact ih i c' u hc' hu
 | agg xs us hn h1 h ih=>
  refine .agg _ us (by rw[hn,AV.mapL_length]) h1 fun i c u hc hu=> ?_
  rw[AV.mapL_get,Option.map_eq_some_iff] at hc
  obtain⟨c',hc',rfl⟩:=hc
  exact ih i c' u hc' hu
theorem BlkOk.mapF {w:World} {O:Nat->Prop} {θ θ':Nat->Option Value} (ρ:Nat->Nat) (hθ:∀ i v,θ i=some v->θ' (ρ i)=some v) {v:Value} {b:Blk} (h:BlkOk w O θ v b):BlkOk w O θ' v (b.map ρ):=by
 cases b with
 | row e sz rows=>exact h
 | box t cells=>
  obtain⟨g,us,rfl,h1,h2,h3⟩:=h
  refine⟨g,us,rfl,h1,by rw[AV.mapL_length];exact h2,fun j c u hc hu=> ?_⟩
  rw[AV.mapL_get,Option.map_eq_some_iff] at hc
  obtain⟨c',hc',rfl⟩:=hc
  exact⟨(h3 j c' u hc' hu).1.mapF ρ hθ,(h3 j c' u hc' hu).2⟩
 | dict P t n m=>exact h
 | dictE P t n m key id2=>
  obtain⟨b,st,rfl,h4,h5⟩:=h
  exact⟨b,st,rfl,hθ _ _ h4,h5⟩
def qQ (hp:List (Nat×Option Blk)) (θ:Nat->Option Value) (g:Nat):Prop:=∃ id b v,aX id hp=some b/\θ id=some v/\bU v=some g
structure PreW (w:World) (O:Nat->Prop) (θ:Nat->Option Value) (hp:List (Nat×Option Blk)) (n:Nat):Prop where
 own:∀ id b,aX id hp=some b->∃ v,θ id=some v/\BlkOk w O θ v b/\∀ g,bU v=some g->O g/\g < w.heap.size
 inj:∀ i j bi bj vi vj g,aX i hp=some bi->aX j hp=some bj->θ i=some vi->θ j=some vj->bU vi=some g->bU vj=some g->i=j
 dom:∀ id v,θ id=some v->id < n
 one:∀ id v,θ id=some v->v.oneCell'=true
def Ur : List AV->AV
 | [x]=>x
 | xs=> .tup xs
def FnW (G:List (Nat×List PV)) (P:Program) (f:FuncId) (args:List AV) (hp:List (Nat×Option Blk)) (n:Nat) (kb:List (Nat×Nat)) (rs:List AV) (hp':List (Nat×Option Blk)) (n':Nat):Prop:=
 ∀ (w:World) (O:Nat->Prop) (θ:Nat->Option Value) (vs:Array Value),(∀ g,O g->g < w.heap.size)->GlobOk G w O->PreW w O θ hp n->vs.size=args.length->
  (∀ (i:Nat) (x:AV) (v:Value),args[i]? =some x->vs[i]? =some v->RdA w O θ x v)->
  Calls P f vs w fun e w'=>∃ v O' θ',e= .returned v/\Ext (qQ hp θ) w w'/\(∀ g,O g->¬ qQ hp θ g->O' g)/\(∀ g,O' g->g < w'.heap.size)/\
   (∀ g,O' g->g < w.heap.size->O g)/\
   PreW w' O' θ' hp' n'/\(∀ g,qQ hp' θ' g->qQ hp θ g\/w.heap.size<=g)/\(∀ ij∈kb,θ' ij.2=θ ij.1)/\RdA w' O' θ' (Ur rs) v
def FnW.cx (w:World) (O:Nat->Prop) (hp:List (Nat×Option Blk)) (θ:Nat->Option Value) (t0:Array Value):Cx G:=
 { w0:=w,L:=qQ hp θ,X:=fun g=>O g/\¬ qQ hp θ g,K:=fun _=>False,J:=fun _ O _ w=>GlobOk G w O,Jst:=fun h s=>h.stp s,JG:=fun h=>h,KX:=fun _ h=>h.elim,t0:=t0 }
def NT (P:Program) (fn:Func) (w:World) (O:Nat->Prop) (θ:Nat->Option Value) (hp:List (Nat×Option Blk)) (kb:List (Nat×Nat)) (rs:List AV) (hp':List (Nat×Option Blk)) (n':Nat):Exit->Act->World->Prop:=
 bodyPostM (FF none) 0 P fn fun e w'=>∃ v O' θ',e= .returned v/\Ext (qQ hp θ) w w'/\(∀ g,O g->¬ qQ hp θ g->O' g)/\(∀ g,O' g->g < w'.heap.size)/\
   (∀ g,O' g->g < w.heap.size->O g)/\
   PreW w' O' θ' hp' n'/\(∀ g,qQ hp' θ' g->qQ hp θ g\/w.heap.size<=g)/\(∀ ij∈kb,θ' ij.2=θ ij.1)/\RdA w' O' θ' (Ur rs) v
def CI : Nat->List AV->List (Nat×Option AV)
 | _,[]=>[]
 | i,p::ps=>(i,some p)::CI (i+1) ps
theorem Dj : ∀ (ps:List AV) (k t:Nat) (x:AV),aX t (CI k ps)=some x->k<=t/\ps[t - k]? =some x
 | [],k,t,x,h=>by simp[CI,aX] at h
 | p::ps,k,t,x,h=>by
  simp only[CI,dH] at h
  split at h
  ·rename_i e;subst e;cases h;exact⟨Nat.le_refl _,by simp⟩
  ·obtain⟨h2,h3⟩:=Dj ps (k+1) t x h
   refine⟨by omega,?_⟩
   rw[show t - k=(t - (k+1))+1 by omega,getElem?_cons_succ]
   exact h3
structure WCx (c:Cx G) (w:World) (O:Nat->Prop) (θ:Nat->Option Value) (hp:List (Nat×Option Blk)) (args:List AV):Prop where
 cx:c=FnW.cx w O hp θ c.t0
 bo:∀ g,qQ hp θ g->O g
 rd:∀ (i:Nat) (x:AV),args[i]? =some x->RdA w O θ x (c.t0.getD i undef)
theorem iB {P:Program} {f:FuncId} {fn:Func} {code:Code} {n m n':Nat} {args:List AV} {hp hp':List (Nat×Option Blk)} {kb:List (Nat×Nat)} {rs:List AV} (kt:List Nat) (hf:P.funcs[f]? =some fn) (hb:fn.body=some code) (hn:fn.ntmps=n) (hl:Nat.ble args.length n=true)
  (h:∀ (c:Cx G) w O θ,WCx c w O θ hp args->AW none P c code (NT P fn w O θ hp kb rs hp' n') { n:=n,fr:=CI 0 args,hp:=hp,next:=m,kt:=kt }):FnW G P f args hp m kb rs hp' n':=by
 intro w O θ vs hO hglob hpre hsz hrd
 refine(callsIn_wide (n:=0)).1 (callsIn_of_wp_marks (F:=FF none) hf hb trivial ?_)
 have hl':args.length<=n:=Nat.le_of_ble_eq_true hl
 have htm:∀ (i:Nat) (x:AV),args[i]? =some x->RdA w O θ x ((vs++Array.replicate (fn.ntmps - vs.size) undef).getD i undef):=by
  intro t x hp'
  have ht:t < vs.size:=by rw[hsz];exact(List.getElem?_eq_some_iff.1 hp').1
  have hv:vs[t]? =some vs[t]:=by simp[ht]
  have:(vs++Array.replicate (fn.ntmps - vs.size) undef).getD t undef=vs[t]:=by
   simp[Array.getElem?_append,ht]
  rw[this]
  exact hrd t x _ hp' hv
 refine h (FnW.cx w O hp θ (vs++Array.replicate (fn.ntmps - vs.size) undef)) w O θ ⟨rfl,fun g ⟨id,b,v,q1,q2,q3⟩=>(by obtain⟨v',h4,_,h5⟩:=hpre.own id b q1;rw[q2] at h4;cases h4;exact(h5 g q3).1),htm⟩ _ w ⟨O,θ,?_⟩
 refine⟨by simp[hn];omega,.nil,?_,fun id b hb=> ?_,hpre.inj,fun id v hv=>⟨hpre.dom id v hv,by simp⟩,fun k hk=>(by cases hk),hpre.one,hO,⟨rfl,rfl,rfl,Nat.le_refl _,fun _ _ _=>rfl⟩,fun g hg=>hg.1,fun g hg=>hO g hg.1,fun g hg=> ?_,fun d hd=>(by cases hd),fun g hg _=> ?_,fun t ht=>rfl,hglob⟩
 ·intro t x hx
  obtain⟨_,hp⟩:=Dj args 0 t x hx
  exact htm t x (by simpa using hp)
 ·obtain⟨v,hv,hbo,hg⟩:=hpre.own id b hb
  exact⟨v,hv,hbo,fun g hgg=>⟨(hg g hgg).1,(hg g hgg).2,fun hL=>(hL ⟨id,b,v,hb,hv,hgg⟩).elim,fun hX=>hX.2 ⟨id,b,v,hb,hv,hgg⟩⟩⟩
 ·obtain⟨id,b,v,h1,h2,h3⟩:=hg
  obtain⟨v',h4,_,h5⟩:=hpre.own id b h1
  rw[h2] at h4;cases h4
  exact(h5 g h3).2
 ·by_cases hh:qQ hp θ g
  ·exact .inr hh
  ·exact .inl ⟨hg,hh⟩
mutual
def Fq : AV->AV->List (Nat×Nat)
 | .lp i _,.lp j _=>[(i,j)]
 | .ls i,.ls j=>[(i,j)]
 | .fn _ xs,.fn _ ys=>kbL xs ys
 | .mv _ xs,.mv _ ys=>kbL xs ys
 | _,_=>[]
def kbL : List AV->List AV->List (Nat×Nat)
 | x::xs,y::ys=>Fq x y++kbL xs ys
 | _,_=>[]
end
theorem aaU {w w':World} {O O':Nat->Prop} {θ θ':Nat->Option Value}:∀ {x:AV} {v:Value},RdA w O θ x v->∀ {y:AV},RdA w' O' θ' y v->∀ ij∈Fq x y,θ' ij.2=θ ij.1:=by
 intro x v h
 induction h with
 | lp id off g h=>
  intro y hy ij hij
  cases hy with
  | lp id' off' g' h'=>
   simp[Fq] at hij;subst hij
   rw[h,h']
  | _=>simp[Fq] at hij
 | ls id v h=>
  intro y hy ij hij
  cases hy with
  | ls id' _ h'=>
   simp[Fq] at hij;subst hij
   rw[h,h']
  | _=>simp[Fq] at hij
 | fn f caps us hn h ih=>
  intro y hy ij hij
  cases hy with
  | fn f' caps' _ hn' h'=>
   simp only[Fq] at hij
   have key:∀ (xs ys:List AV) (k:Nat),(∀ i:Nat,caps[k+i]? =xs[i]?)->(∀ i:Nat,caps'[k+i]? =ys[i]?)->∀ ij∈kbL xs ys,θ' ij.2=θ ij.1:=by
    intro xs
    induction xs with
    | nil=>intro ys k _ _ ij hij;simp[kbL] at hij
    | cons x xs ihx=>
     intro ys k hx hy ij hij
     cases ys with
     | nil=>simp[kbL] at hij
     | cons y ys=>
      simp only[kbL,mem_append] at hij
      rcases hij with hij | hij
      ·have hx0:=hx 0
       have hy0:=hy 0
       simp at hx0 hy0
       have hk:k < us.size:=by rw[hn];exact(List.getElem?_eq_some_iff.1 hx0).1
       have hu:us[k]? =some us[k]:=by simp[hk]
       exact ih k x _ hx0 hu (h' k y _ hy0 hu) ij hij
      ·refine ihx ys (k+1) (fun i=> ?_) (fun i=> ?_) ij hij
       ·rw[show k+1 + i=k+(i+1) by omega,hx (i+1)];simp
       ·rw[show k+1 + i=k+(i+1) by omega,hy (i+1)];simp
   exact key caps caps' 0 (fun i=>by simp) (fun i=>by simp) ij hij
  | _=>simp[Fq] at hij
 | mv f caps us hn h ih=>
  intro y hy ij hij
  cases hy with
  | mv f' caps' _ hn' h'=>
   simp only[Fq] at hij
   have key:∀ (xs ys:List AV) (k:Nat),(∀ i:Nat,caps[k+i]? =xs[i]?)->(∀ i:Nat,caps'[k+i]? =ys[i]?)->∀ ij∈kbL xs ys,θ' ij.2=θ ij.1:=by
    intro xs
    induction xs with
    | nil=>intro ys k _ _ ij hij;simp[kbL] at hij
    | cons x xs ihx=>
     intro ys k hx hy ij hij
     cases ys with
     | nil=>simp[kbL] at hij
     | cons y ys=>
      simp only[kbL,mem_append] at hij
      rcases hij with hij | hij
      ·have hx0:=hx 0
       have hy0:=hy 0
       simp at hx0 hy0
       have hk:k < us.size:=by rw[hn];exact(List.getElem?_eq_some_iff.1 hx0).1
       have hu:us[k]? =some us[k]:=by simp[hk]
       exact ih k x _ hx0 hu (h' k y _ hy0 hu) ij hij
      ·refine ihx ys (k+1) (fun i=> ?_) (fun i=> ?_) ij hij
       ·rw[show k+1 + i=k+(i+1) by omega,hx (i+1)];simp
       ·rw[show k+1 + i=k+(i+1) by omega,hy (i+1)];simp
   exact key caps caps' 0 (fun i=>by simp) (fun i=>by simp) ij hij
  | _=>simp[Fq] at hij
 | _=>intro y _ ij hij;simp[Fq] at hij
def QZ (args:List AV) (fr:List (Nat×Option AV)):List Nat->List (Nat×Nat)
 | []=>[]
 | t::l=>(match args[t]?,aX t fr with | some x,some y=>Fq x y | _,_=>[])++QZ args fr l
section
variable {ro:Option Nat} {P:Program} {c:Cx G} {s s':St} {o:Oper} {d:Option Nat}
theorem QY {w0:World} {O0:Nat->Prop} {θ0:Nat->Option Value} {hp0:List (Nat×Option Blk)} {args:List AV} (hc:WCx c w0 O0 θ0 hp0 args) {O:Nat->Prop} {θ:Nat->Option Value} {a:Act} {w:World} (hs:SimAt c s O θ a w):
  ∀ (l:List Nat),(∀ t∈l,t∈s.kt)->∀ ij∈QZ args s.fr l,θ ij.2=θ0 ij.1
 | [],_,ij,h=>by simp[QZ] at h
 | t::l,hl,ij,h=>by
  simp only[QZ,mem_append] at h
  rcases h with h | h
  ·split at h
   ·rename_i x y hx hy
    have h1:=hc.rd t x hx
    have h2:=hs.fr t y hy
    rw[hs.kp t (hl t (by simp))] at h2
    exact aaU h1 h2 ij h
   ·simp at h
  ·exact QY hc hs l (fun t ht=>hl t (by simp[ht])) ij h
inductive RWs (P:Program) (s:St):List ResultVar->List AV->Prop
 | nil:RWs P s [] []
 | cons (rv:ResultVar) (x:AV) (rvs:List ResultVar) (xs:List AV) (h1:RV P s rv x) (h3:RWs P s rvs xs):RWs P s (rv::rvs) (x::xs)
theorem RWs.run {rvs:List ResultVar} {xs:List AV} (h:RWs P s rvs xs) {O:Nat->Prop} {θ:Nat->Option Value} {a:Act} {w:World} (hs:SimAt c s O θ a w):
  ∃ us:List Value,(rvs.mapM fun rv=>ze rv a.tmps).run P w= .ok us w/\us.length=xs.length/\∀ (i:Nat) (x:AV) (u:Value),xs[i]? =some x->us[i]? =some u->RdA w O θ x u:=by
 induction h with
 | nil=>exact⟨[],by simp,rfl,by simp⟩
 | cons rv x rvs xs h1 h3 ih=>
  obtain⟨us,i1,i2,i3⟩:=ih
  obtain⟨v,e1,e2⟩:=h1.run hs
  refine⟨v::us,by simp[mapM_cons,Sem.run_bind,e1,i1],by simp[i2],fun i r' u hr hu=> ?_⟩
  cases i with
  | zero=>simp at hr hu;subst hr;subst hu;exact e2
  | succ i=>exact i3 i r' u (by simpa using hr) (by simpa using hu)
theorem mc {fn:Func} {w0:World} {O0:Nat->Prop} {θ0:Nat->Option Value} {hp0:List (Nat×Option Blk)} {args:List AV} {kb:List (Nat×Nat)} {rvs:List ResultVar} {xs:List AV} {e:Exit} (hc:WCx c w0 O0 θ0 hp0 args) (hr:fn.results=rvs.toArray) (h:RWs P s rvs xs) (hkb:QZ args s.fr s.kt=kb) (he:e= .ret\/e= .normal):
  gw c (NT P fn w0 O0 θ0 hp0 kb xs s.hp s.next) e s:=by
 rintro a w ⟨O,θ,hs⟩
 have key:LeavesInM (FF none) 0 P fn a.tmps (fun e w'=>∃ v O' θ',e= .returned v/\Ext (qQ hp0 θ0) w0 w'/\(∀ g,O0 g->¬ qQ hp0 θ0 g->O' g)/\(∀ g,O' g->g < w'.heap.size)/\
   (∀ g,O' g->g < w0.heap.size->O0 g)/\
   PreW w' O' θ' s.hp s.next/\(∀ g,qQ s.hp θ' g->qQ hp0 θ0 g\/w0.heap.size<=g)/\(∀ ij∈kb,θ' ij.2=θ0 ij.1)/\RdA w' O' θ' (Ur xs) v) a.defers .returning w:=by
  refine uj a.defers a w rfl hs fun a' w' ht hs2=> ?_
  obtain⟨us,h1,h2,h3⟩:=h.run hs2
  rw[ht] at h1
  have hw0:c.w0=w0:=by rw[hc.cx];rfl
  have hL:c.L=qQ hp0 θ0:=by rw[hc.cx];rfl
  have hX:c.X=fun g=>O0 g/\¬ qQ hp0 θ0 g:=by rw[hc.cx];rfl
  refine⟨_,zl hr h1,_,O,θ,rfl,?_,?_,hs2.olt,?_,⟨fun id b hb=> ?_,hs2.inj,fun id v hv=>(hs2.dom id v hv).1,hs2.one⟩,?_,?_,?_⟩
  ·have he:=hs2.ext;rw[hL,hw0] at he;exact he
  ·intro g h1 h2;exact hs2.xo g (by rw[hX];exact⟨h1,h2⟩)
  ·intro g h1 h2
   rcases hs2.oc g h1 (by rw[hw0];exact h2) with h3 | h3
   ·rw[hX] at h3;exact h3.1
   ·rw[hL] at h3
    exact hc.bo g h3
  ·obtain⟨v,hv,hbo,hg⟩:=hs2.hp id b hb
   exact⟨v,hv,hbo,fun g hgg=>⟨(hg g hgg).1,(hg g hgg).2.1⟩⟩
  ·rintro g ⟨id,b,v,q1,q2,q3⟩
   obtain⟨v',hv',_,hg⟩:=hs2.hp id b q1
   rw[q2] at hv';cases hv'
   by_cases hh:qQ hp0 θ0 g
   ·exact .inl hh
   ·right
    have:=(hg g q3).2.2.1 (by rw[hL];exact hh)
    rw[hw0] at this;exact this
  ·intro ij hij
   rw[<- hkb] at hij
   exact QY hc hs2 s.kt (fun t ht=>ht) ij hij
  ·match xs,us,h2,h3 with
   | [r],[u],_,h3=>exact h3 0 r u rfl rfl
   | [],[],_,h3=>exact .tup [] #[] rfl (by simp)
   | r::r'::rs,u::u'::us,h2,h3=>exact .tup _ _ (by simpa using h2) (fun i r u hr hu=>h3 i r u hr (by simpa using hu))
 rcases he with rfl | rfl
 ·exact key
 ·exact key
end
end Go.Abs

/- A call that writes into boxes of the caller's. -/
namespace Go.Abs
open List
variable {G:List (Nat×List PV)}
open Go.RowKit
def Js : AV->Option (Nat×List AV)
 | .fn f caps=>some (f,caps)
 | .pv (.fn f ps)=>some (f,ps.map .pv)
 | _=>none
def DE (s:St) (k:Nat):Bool:=Nat.ble s.next k||s.free.elem k
def YU (L0:List Nat) (kb:List (Nat×Nat)) (j x:Nat):Bool:=kb.any fun ij=>Nat.beq ij.2 j&&(match L0[ij.1]? with | some y=>Nat.beq y x | none=>false)
def FrL (s:St) (L0:List Nat) (kb:List (Nat×Nat)):Nat->List Nat->Prop
 | _,[]=>True
 | j,x::l=>(YU L0 kb j x=true\/DE s x=true)/\FrL s L0 kb (j+1) l
theorem FrL.spec {s:St} {L0:List Nat} {kb:List (Nat×Nat)}:∀ {l:List Nat} {k:Nat},FrL s L0 kb k l->∀ (j x:Nat),l[j]? =some x->YU L0 kb (k+j) x=true\/DE s x=true
 | [],k,h,j,x,e=>by simp at e
 | y::l,k,h,j,x,e=>by
  cases j with
  | zero=>simp at e;subst e;exact h.1
  | succ j=>have:=FrL.spec h.2 j x (by simpa using e);rw[show k+(j+1)=k+1 + j by omega];exact this
def Rk (hp:List (Nat×Option Blk)) (n:Nat):Bool:=decide ((hp.map (·.1)).Nodup)&&hp.all fun x=>Nat.blt x.1 n&&x.2.isSome
theorem Ew {α:Type}:∀ {l:List (Nat×Option α)} {k:Nat} {x:Option α},(l.map (·.1)).Nodup->(k,x)∈l->aX k l=x
 | [],k,x,_,h=>by simp at h
 | (k',x')::l,k,x,hn,h=>by
  simp only[map_cons,nodup_cons] at hn
  rw[dH]
  rcases List.mem_cons.1 h with h | h
  ·cases h;simp
  ·split
   ·rename_i e;subst e
    exact(hn.1 (List.mem_map.2 ⟨_,h,rfl⟩)).elim
   ·exact Ew hn.2 h
def VZ (hp hp':List (Nat×Option Blk)) (ρ0 ρ1:Nat->Nat) (drop:List Nat):Bool:=hp.all fun x=>drop.elem (ρ0 x.1)||hp'.any fun y=>Nat.beq (ρ1 y.1) (ρ0 x.1)
def Xw (hp':List (Nat×Option Blk)) (ρ1:Nat->Nat) (drop:List Nat):List (Nat×Option Blk):=hp'.map (fun x=>(ρ1 x.1,x.2.map (Blk.map ρ1)))++drop.map (fun k=>(k,none))
def St.callW (s:St) (hp':List (Nat×Option Blk)) (L1 drop:List Nat) (nx:Nat):St:=
 { s with hp:=Xw hp' (fun i=>L1.getD i 0) drop++s.hp,next:=nx,free:=s.free.filter fun x=> !(L1.elem x) }
section
variable {ro:Option Nat} {P:Program} {c:Cx G} {s s':St} {o:Oper} {d:Option Nat}
theorem Xq {hp hp':List (Nat×Option Blk)} {ρ0 ρ1:Nat->Nat} {drop:List Nat} {n':Nat} {shp:List (Nat×Option Blk)} (hk:Rk hp' n'=true) (hd:VZ hp hp' ρ0 ρ1 drop=true) {x:Nat} {b:Blk} (h:aX x (Xw hp' ρ1 drop++shp)=some b):
  (∃ j b',x=ρ1 j/\aX j hp'=some b'/\b=b'.map ρ1)\/(aX x shp=some b/\∀ i bi,aX i hp=some bi->x≠ρ0 i):=by
 unfold Rk at hk
 simp only[Bool.and_eq_true,decide_eq_true_eq] at hk
 rcases tC x (Xw hp' ρ1 drop) shp with⟨y,hy,he⟩ | ⟨hno,he⟩
 ·rw[he] at h;subst h
  unfold Xw at hy
  rcases List.mem_append.1 hy with hy | hy
  ·obtain⟨⟨j,z⟩,hz,e⟩:=List.mem_map.1 hy
   injection e with e1 e2
   cases z with
   | none=>simp at e2
   | some b'=>
    simp at e2
    exact .inl ⟨j,b',e1.symm,Ew hk.1 hz,e2.symm⟩
  ·obtain⟨k,_,e⟩:=List.mem_map.1 hy
   injection e with _ e2;cases e2
 ·rw[he] at h
  refine .inr ⟨h,fun i bi hi e=> ?_⟩
  have:=List.all_eq_true.1 hd (i,some bi) (eY hi)
  simp only[Bool.or_eq_true,any_eq_true] at this
  rcases this with h1 | ⟨⟨j,z⟩,h1,h2⟩
  ·exact hno none (by unfold Xw;exact List.mem_append.2 (.inr (List.mem_map.2 ⟨ρ0 i,by simpa using h1,by rw[e]⟩)))
  ·have h2:=Nat.eq_of_beq_eq_true h2
   exact hno _ (by unfold Xw;exact List.mem_append.2 (.inl (List.mem_map.2 ⟨(j,z),h1,by rw[e,<- h2]⟩)))
theorem CN {O O':Nat->Prop} {θ θ':Nat->Option Value} {a:Act} {w w':World} (hs:SimAt c s O θ a w) {hp hp':List (Nat×Option Blk)} {n n':Nat} {kb:List (Nat×Nat)} (L0 L1 drop:List Nat) (nx:Nat)
  (hn0:L0.length=n) (hH:SubH s.hp (fun i=>L0.getD i s.next) hp) (hn1:L1.length=n') (hnd1:L1.Nodup) (hfr:FrL s L0 kb 0 L1) (hk:Rk hp' n'=true) (hdr:VZ hp hp' (fun i=>L0.getD i s.next) (fun i=>L1.getD i 0) drop=true)
  (hnx:Nat.ble s.next nx=true) (hnx1:L1.all (fun x=>Nat.blt x nx)=true)
  (he:Ext (qQ hp (fun i=>θ (L0.getD i s.next))) w w') (hO1:∀ g,O g->¬ qQ hp (fun i=>θ (L0.getD i s.next)) g->O' g) (hO2:∀ g,O' g->g < w'.heap.size) (_hO3:∀ g,O' g->g < w.heap.size->O g)
  (hpre:PreW w' O' θ' hp' n') (hnew:∀ g,qQ hp' θ' g->qQ hp (fun i=>θ (L0.getD i s.next)) g\/w.heap.size<=g) (hkb:∀ ij∈kb,θ' ij.2=θ (L0.getD ij.1 s.next)):
  ∃ O2 θ2,SimAt c (s.callW hp' L1 drop nx) O2 θ2 a w'/\(∀ g,O2 g->O' g)/\(∀ j v,θ' j=some v->θ2 (L1.getD j 0)=some v):=by
 classical
 have hnone:θ s.next=none:=by
  cases h:θ s.next with
  | none=>rfl
  | some v=>have:=(hs.dom _ _ h).1;omega
 let B:Nat->Prop:=qQ hp (fun i=>θ (L0.getD i s.next))
 have hB:∀ g,B g->O g/\g < w.heap.size/\(¬ c.L g->c.w0.heap.size<=g)/\¬ c.X g/\HpB s θ g/\∃ o,w.heap[g]? =some o/\abv o=true:=by
  rintro g ⟨i,bi,v,h1,h2,h3⟩
  have h4:=SubH.spec hH i bi (eY h1)
  obtain⟨v',h5,h6,h7⟩:=hs.hp _ _ h4
  have:v'=v:=by have h2':θ (L0.getD i s.next)=some v:=h2;rw[h5] at h2';exact Option.some.inj h2'
  subst this
  obtain⟨h8,h9,h12,h13⟩:=h7 g h3
  exact⟨h8,h9,h12,h13,⟨_,_,v',h4,h5,h3⟩,h6.cells h3⟩
 let θ2:Nat->Option Value:=fun x=>if h:∃ j:Nat,L1[j]? =some x then θ' h.choose else θ x
 have hθj:∀ (j x:Nat),L1[j]? =some x->θ2 x=θ' j:=by
  intro j x hx
  have hex:∃ j:Nat,L1[j]? =some x:=⟨j,hx⟩
  show (if h:∃ j:Nat,L1[j]? =some x then θ' h.choose else θ x)=_
  rw[dif_pos hex,xj hnd1 _ _ x hex.choose_spec hx]
 have hlt1:∀ j v,θ' j=some v->L1[j]? =some (L1.getD j 0):=by
  intro j v h
  have:=hpre.dom j v h
  rw[getD_eq_getElem?_getD,getElem?_eq_getElem (by omega)];rfl
 have hθ1:∀ j v,θ' j=some v->θ2 (L1.getD j 0)=some v:=fun j v h=>by rw[hθj j _ (hlt1 j v h)];exact h
 have hfresh:∀ x,DE s x=true->θ x=none:=by
  intro x hx
  cases h:θ x with
  | none=>rfl
  | some v=>
   obtain⟨h1,h2⟩:=hs.dom x v h
   simp only[DE,Bool.or_eq_true,elem_eq_mem,decide_eq_true_eq] at hx
   rcases hx with hx | hx
   ·have:=Nat.le_of_ble_eq_true hx;omega
   ·exact(h2 hx).elim
 have hθ:∀ x v,θ x=some v->θ2 x=some v:=by
  intro x v hx
  by_cases hex:∃ j:Nat,L1[j]? =some x
  ·obtain⟨j,hj⟩:=hex
   rw[hθj j x hj]
   have:=FrL.spec hfr j x hj
   rw[Nat.zero_add] at this
   rcases this with h1 | h1
   ·unfold YU at h1
    obtain⟨⟨i,j'⟩,h2,h3⟩:=List.any_eq_true.1 h1
    simp only[Bool.and_eq_true] at h3
    obtain⟨h3,h4⟩:=h3
    have h3:=Nat.eq_of_beq_eq_true h3
    subst h3
    split at h4
    ·rename_i y hy
     have h4:=Nat.eq_of_beq_eq_true h4
     subst h4
     have:=hkb _ h2
     simp only at this hy
     rw[this,getD_eq_getElem?_getD,hy];exact hx
    ·cases h4
   ·rw[hfresh x h1] at hx;cases hx
  ·show (if h:∃ j:Nat,L1[j]? =some x then θ' h.choose else θ x)=_
   rw[dif_neg hex];exact hx
 let O2:Nat->Prop:=fun g=>(O g/\¬ B g)\/qQ hp' θ' g
 have hO2':∀ g,O2 g->O' g:=by
  rintro g (⟨h1,h2⟩ | ⟨id,b,v,h1,h2,h3⟩)
  ·exact hO1 g h1 h2
  ·obtain⟨v',h4,_,h5⟩:=hpre.own id b h1
   rw[h2] at h4;cases h4
   exact(h5 g h3).1
 have hO2O:∀ g,O2 g->O g\/w.heap.size<=g:=by
  rintro g (⟨h1,h2⟩ | h)
  ·exact .inl h1
  ·rcases hnew g h with h | h
   ·exact .inl (hB g h).1
   ·exact .inr h
 have hO:∀ b,b < w.heap.size->¬ O b->¬ O2 b/\w'.heap[b]? =w.heap[b]? :=by
  intro b hb hn
  refine⟨fun h=> ?_,he.block b hb (fun h=>hn (hB b h).1)⟩
  rcases hO2O b h with h | h
  ·exact hn h
  ·omega
 have hmono':∀ b,b < w'.heap.size->¬ O' b->¬ O2 b/\w'.heap[b]? =w'.heap[b]? :=fun b _ hn=>⟨fun h=>hn (hO2' b h),rfl⟩
 -- the names of the new state
 have hget:∀ x b,aX x (s.callW hp' L1 drop nx).hp=some b->(∃ j b',x=L1.getD j 0/\aX j hp'=some b'/\b=b'.map (fun i=>L1.getD i 0))\/
   (aX x s.hp=some b/\∀ v g,θ x=some v->bU v=some g->¬ B g):=by
  intro x b hx
  rcases Xq hk hdr hx with h | ⟨h1,h2⟩
  ·exact .inl h
  ·refine .inr ⟨h1,?_⟩
   rintro v g hv hg ⟨i,bi,vi,h3,h4,h5⟩
   exact h2 i bi h3 (hs.inj x _ b _ v vi g h1 (SubH.spec hH i bi (eY h3)) hv h4 hg h5)
 refine⟨O2,θ2,?_,hO2',hθ1⟩
 refine⟨hs.size,hs.df,fun t x hx=>(hs.fr t x hx).mono he.size hO hθ,?_,?_,?_,?_,?_,?_,?_,?_,hs.xlt,hs.llt,?_,?_,hs.kp,?_⟩
 ·intro x b hb
  rcases hget x b hb with⟨j,b',rfl,h1,rfl⟩ | ⟨h1,h2⟩
  ·obtain⟨v,hv,hbo,hg⟩:=hpre.own j b' h1
   refine⟨v,hθ1 j v hv,(hbo.mono (Nat.le_refl _) hmono' (fun _ _ h=>h) (fun _ _=>rfl)).mapF _ hθ1,fun g hgg=> ?_⟩
   have hh:qQ hp' θ' g:=⟨j,b',v,h1,hv,hgg⟩
   refine⟨.inr hh,(hg g hgg).2,?_,?_⟩
   ·intro hL
    rcases hnew g hh with h3 | h3
    ·exact(hB g h3).2.2.1 hL
    ·exact Nat.le_trans hs.ext.size h3
   ·intro hX
    rcases hnew g hh with h3 | h3
    ·exact(hB g h3).2.2.2.1 hX
    ·have:=hs.xlt g hX;have:=hs.ext.size;omega
  ·obtain⟨v,hv,hbo,hg⟩:=hs.hp x b h1
   refine⟨v,hθ _ _ hv,hbo.mono he.size hO hθ (fun g hgg=>he.block g (hg g hgg).2.1 (h2 v g hv hgg)),fun g hgg=> ?_⟩
   obtain⟨h5,h6,h7⟩:=hg g hgg
   exact⟨.inl ⟨h5,h2 v g hv hgg⟩,Nat.lt_of_lt_of_le h6 he.size,h7⟩
 ·intro x y bx b_y vx vy g hx hy hvx hvy hgx hgy
  rcases hget x bx hx with⟨j,b',rfl,h1,rfl⟩ | ⟨h1,h2⟩<;>rcases hget y b_y hy with⟨k,b'',rfl,h3,rfl⟩ | ⟨h3,h4⟩
  ·obtain⟨v1,k1,_,_⟩:=hpre.own j b' h1
   obtain⟨v2,k2,_,_⟩:=hpre.own k b'' h3
   have e1:=hθ1 j v1 k1
   have e2:=hθ1 k v2 k2
   rw[hvx] at e1;rw[hvy] at e2
   cases e1;cases e2
   rw[hpre.inj j k b' b'' vx vy g h1 h3 k1 k2 hgx hgy]
  ·exfalso
   obtain⟨v1,k1,_,_⟩:=hpre.own j b' h1
   have e1:=hθ1 j v1 k1
   rw[hvx] at e1;cases e1
   obtain⟨v2,k2,_,k3⟩:=hs.hp y b_y h3
   have e2:=hθ _ _ k2
   rw[hvy] at e2;cases e2
   rcases hnew g ⟨j,b',vx,h1,k1,hgx⟩ with h5 | h5
   ·exact h4 vy g k2 hgy h5
   ·have:=(k3 g hgy).2.1;omega
  ·exfalso
   obtain⟨v1,k1,_,_⟩:=hpre.own k b'' h3
   have e1:=hθ1 k v1 k1
   rw[hvy] at e1;cases e1
   obtain⟨v2,k2,_,k3⟩:=hs.hp x bx h1
   have e2:=hθ _ _ k2
   rw[hvx] at e2;cases e2
   rcases hnew g ⟨k,b'',vy,h3,k1,hgy⟩ with h5 | h5
   ·exact h2 vx g k2 hgx h5
   ·have:=(k3 g hgx).2.1;omega
  ·obtain⟨v1,k1,_,_⟩:=hs.hp x bx h1
   obtain⟨v2,k2,_,_⟩:=hs.hp y b_y h3
   have e1:=hθ _ _ k1
   have e2:=hθ _ _ k2
   rw[hvx] at e1;rw[hvy] at e2
   cases e1;cases e2
   exact hs.inj x y bx b_y vx vy g h1 h3 k1 k2 hgx hgy
 ·intro x v hx
  show x < nx/\x ∉ s.free.filter fun x=> !(L1.elem x)
  by_cases hex:∃ j:Nat,L1[j]? =some x
  ·obtain⟨j,hj⟩:=hex
   have hm:x∈L1:=mem_of_getElem? hj
   have:=List.all_eq_true.1 hnx1 x hm
   refine⟨by simpa [Nat.blt_eq] using this,?_⟩
   simp[hm]
  ·have hx':(if h:∃ j:Nat,L1[j]? =some x then θ' h.choose else θ x)=some v:=hx
   rw[dif_neg hex] at hx'
   obtain⟨h1,h2⟩:=hs.dom x v hx'
   exact⟨Nat.lt_of_lt_of_le h1 (Nat.le_of_ble_eq_true hnx),fun h=>h2 (List.mem_filter.1 h).1⟩
 ·intro k hk
  exact Nat.lt_of_lt_of_le (hs.flt k (List.mem_filter.1 hk).1) (Nat.le_of_ble_eq_true hnx)
 ·intro x v hx
  by_cases hex:∃ j:Nat,L1[j]? =some x
  ·obtain⟨j,hj⟩:=hex
   rw[hθj j x hj] at hx
   exact hpre.one j v hx
  ·have hx':(if h:∃ j:Nat,L1[j]? =some x then θ' h.choose else θ x)=some v:=hx
   rw[dif_neg hex] at hx'
   exact hs.one x v hx'
 ·intro g hg;exact hO2 g (hO2' g hg)
 ·exact⟨he.os.trans hs.ext.os,he.tape.trans hs.ext.tape,he.output.trans hs.ext.output,Nat.le_trans hs.ext.size he.size,fun b hb hL=>
   (he.block b (Nat.lt_of_lt_of_le hb hs.ext.size) (fun h=>by have:=(hB b h).2.2.1 hL;omega)).trans (hs.ext.block b hb hL)⟩
 ·intro g hX
  exact .inl ⟨hs.xo g hX,fun h=>(hB g h).2.2.2.1 hX⟩
 ·intro d hd
  obtain⟨D,rfl,hD,hOD,h0⟩:=hs.marks d hd
  have hnB:¬ B D:=fun h=>by obtain⟨_,_,_,_,_,o,h1,h2⟩:=hB D h;rw[hD] at h1;cases h1;cases h2
  have hlt:D < w.heap.size:=hs.olt D hOD
  exact⟨D,rfl,by rw[he.block D hlt hnB];exact hD,.inl ⟨hOD,hnB⟩,h0⟩
 ·intro g hg hlt
  rcases hO2O g hg with h | h
  ·exact hs.oc g h hlt
  ·have:=hs.ext.size;omega
 ·refine c.Jst hs.jn ⟨he.os,he.tape,he.output,he.size,fun b hb hn=>he.block b hb (fun h=>hn.elim (fun h1=>h1 (.inr (.inl (hB b h).2.2.2.2.1))) (fun h1=>h1 (hB b h).1)),hO2O,fun g h1 h2=> .inl ⟨h1,fun h=>h2 (.inr (.inl (hB g h).2.2.2.2.1))⟩,fun g hg=>hO2 g (hO2' g hg),fun g hI=> ?_⟩
  rcases hI with hI | ⟨x,b,v,h1,h2,h3⟩ | hI
  ·exact .inl (.inl hI)
  ·rcases hget x b h1 with⟨j,b',rfl,h4,rfl⟩ | ⟨h4,h5⟩
   ·obtain⟨v1,k1,_,_⟩:=hpre.own j b' h4
    have e1:=hθ1 j v1 k1
    rw[h2] at e1;cases e1
    rcases hnew g ⟨j,b',v,h4,k1,h3⟩ with h6 | h6
    ·exact .inl (.inr (.inl (hB g h6).2.2.2.2.1))
    ·exact .inr h6
   ·obtain⟨v1,k1,_,_⟩:=hs.hp x b h4
    have e1:=hθ _ _ k1
    rw[h2] at e1;cases e1
    exact .inl (.inr (.inl ⟨x,b,v,h4,k1,h3⟩))
  ·exact .inl (.inr (.inr hI))
theorem dp {fo:Operand} {xs:List Operand} {ts:Array TypeId} {f:Nat} {fa:AV} {asx caps args:List AV} {hp hp':List (Nat×Option Blk)} {n n':Nat} {kb:List (Nat×Nat)} {rs:List AV} (L0 L1 drop:List Nat) (nx:Nat) (ho:o.op= .call { callee:= .value fo,args:=xs.toArray,argTypes:=ts }) (hf:ev s fo=some fa) (hx:evl s xs=some asx)
  (hfa:Js fa=some (f,caps)) (hcat:asx++caps=AV.mapL (fun i=>L0.getD i s.next) args) (hB:cY P f=true) (h:FnW G P f args hp n kb rs hp' n') (hn0:L0.length=n) (hnd0:L0.Nodup) (hH:SubH s.hp (fun i=>L0.getD i s.next) hp)
  (hn1:L1.length=n') (hnd1:L1.Nodup) (hfr:FrL s L0 kb 0 L1) (hk:Rk hp' n'=true) (hdr:VZ hp hp' (fun i=>L0.getD i s.next) (fun i=>L1.getD i 0) drop=true) (hnx:Nat.ble s.next nx=true) (hnx1:L1.all (fun x=>Nat.blt x nx)=true)
  (hd:o.dst=d) (hn:dOk s d=true):da ro P c o s ((s.callW hp' L1 drop nx).put d (some ((Ur rs).map (fun i=>L1.getD i 0)))):=by
 rintro a w ⟨O,θ,hs⟩ K Q hK
 obtain⟨e1,e2⟩:=yX hs hx
 have hfv:=jJ hs hf
 have hnone:θ s.next=none:=by
  cases h:θ s.next with
  | none=>rfl
  | some v=>have:=(hs.dom _ _ h).1;omega
 have hcaps:∃ us:Array Value,a.eval fo= .func (.func f) #[] us/\us.size=caps.length/\∀ (i:Nat) (x:AV) (u:Value),caps[i]? =some x->us[i]? =some u->RdA w O θ x u:=by
  generalize hfe:a.eval fo=fv at hfv
  cases hfv with
  | fn f' caps' us h1 h2=>
   simp only[Js,Option.some.injEq,Prod.mk.injEq] at hfa
   obtain⟨rfl,rfl⟩:=hfa
   exact⟨us,rfl,h1,h2⟩
  | pv p _ h1=>
   cases h1 with
   | fn f' caps' us h1 h2=>
    simp only[Js,Option.some.injEq,Prod.mk.injEq] at hfa
    obtain⟨rfl,rfl⟩:=hfa
    refine⟨us,rfl,by simpa using h1,fun i x u hx hu=> ?_⟩
    rw[getElem?_map,Option.map_eq_some_iff] at hx
    obtain⟨p,hp,rfl⟩:=hx
    exact .pv _ _ (h2 i p u hp hu)
   | _=>simp[Js] at hfa
  | _=>simp[Js] at hfa
 obtain⟨us,hfe,hus,hcr⟩:=hcaps
 refine⟨fun f _=>trivial,?_⟩
 have hrun:(execOp a.eval o).run P w= .ok (.enter f ((xs.map a.eval).toArray++us)) w:=by
  simp[execOp,ho,resolve,Deferred.ofValue,hfe,invoke,vl hB]
 rw[Oper.semAt_plain _ _ _ (by rw[ho];intro k h;cases h),hrun]
 refine⟨fun h=>by simp[FF,Fence.wide] at h,?_⟩
 have hlen:asx.length+caps.length=args.length:=by
  have:=congrArg length hcat
  rw[length_append,AV.mapL_length] at this
  exact this
 have harg:∀ (i:Nat) (x:AV) (u:Value),(asx++caps)[i]? =some x->((xs.map a.eval).toArray++us)[i]? =some u->RdA w O θ x u:=by
  intro i x u hx hu
  rw[getElem?_append] at hx
  split at hx
  ·rename_i hi
   rw[Array.getElem?_append_left (by simp;omega)] at hu
   exact e2 i x u hx (by simpa using hu)
  ·rename_i hi
   rw[Array.getElem?_append_right (by simp;omega)] at hu
   refine hcr _ x u hx ?_
   have:(xs.map a.eval).toArray.size=asx.length:=by simpa using e1
   rw[this] at hu
   exact hu
 have hlt0:∀ i v,θ (L0.getD i s.next)=some v->L0[i]? =some (L0.getD i s.next):=by
  intro i v hv
  rw[getD_eq_getElem?_getD] at hv ⊢
  cases h:L0[i]? with
  | none=>rw[h] at hv;simp only[Option.getD_none] at hv;rw[hnone] at hv;cases hv
  | some y=>rfl
 have hpre:PreW w O (fun i=>θ (L0.getD i s.next)) hp n:=by
  refine⟨fun i b hb=> ?_,fun i j bi bj vi vj g hi hj hvi hvj hgi hgj=> ?_,fun i v hv=> ?_,fun i v hv=>hs.one _ v hv⟩
  ·obtain⟨v,h1,h2,h3⟩:=hs.hp _ _ (SubH.spec hH i b (eY hb))
   exact⟨v,h1,h2.ren _ (fun _ _ h=>h),fun g hg=>⟨(h3 g hg).1,(h3 g hg).2.1⟩⟩
  ·have:=hs.inj _ _ _ _ vi vj g (SubH.spec hH i bi (eY hi)) (SubH.spec hH j bj (eY hj)) hvi hvj hgi hgj
   have h1:=hlt0 i vi hvi
   have h2:=hlt0 j vj hvj
   rw[this] at h1
   exact xj hnd0 i j _ h1 h2
  ·have:=hlt0 i v hv
   have:=(List.getElem?_eq_some_iff.1 this).1
   omega
 have hcall:=h w O (fun i=>θ (L0.getD i s.next)) ((xs.map a.eval).toArray++us) hs.olt (c.JG hs.jn) hpre (by
   have:(xs.map a.eval).toArray.size=asx.length:=by simpa using e1
   rw[Array.size_append,this,hus];exact hlen) (fun i x v hx hv=>by
  refine RdA.ren (fun i=>L0.getD i s.next) (fun _ _ h=>h) (harg i (x.map _) v ?_ hv) x rfl
  rw[hcat,AV.mapL_get,hx];rfl)
 refine CallsIn.mono (callsIn_wide (n:=0 - 1).2 hcall) ?_
 rintro e w' ⟨v,O',θ',rfl,he,hO1,hO2,hO3,hpre',hnew,hkb,hr⟩
 obtain⟨O2,θ2,g1,g2,g3⟩:=CN hs L0 L1 drop nx hn0 hH hn1 hnd1 hfr hk hdr hnx hnx1 he hO1 hO2 hO3 hpre' hnew hkb
 subst hd
 refine hK _ _ ⟨O2,θ2,g1.put _ _ _ (BT hn) (Bm hn) ?_⟩
 exact(hr.mono (Nat.le_refl _) (fun b _ hn=>⟨fun h=>hn (g2 b h),rfl⟩) (fun _ _ h=>h)).mapF _ g3
end
end Go.Abs

/- Short words for the walks; regions that draw their order, walked step by step. -/
namespace Go.Abs
open List
variable {G:List (Nat×List PV)}
open Go.RowKit
abbrev bxv (l:List PV):List AV:=l.map AV.pv
section
variable {ro:Option Nat} {P:Program} {c:Cx G} {Q:Exit->Act->World->Prop} {s:St}
def DrW (ro:Option Nat) (P:Program) (c:Cx G) (Q:Exit->Act->World->Prop) (s:St) (id:Nat) (l:List Oper) (n:Nat) (df:List Deferred) (next ys:Nat) (kt:List Nat) (m0:Mid) (es:List Eff) (rest:List Oper) (m:Mid):Prop:=
 (∃ pre,l=pre++rest/\∀ rest' es',ut ro P c l n df next ys kt rest' es'->ut ro P c l n df next ys kt (pre++rest') (es.reverse++es'))->(∀ es',A7 es' m->A7 (es.reverse++es') m0)->
  iA (fun _=>true) 0 es.reverse m0=m->AW ro P c (.region id l.toArray true) Q s
theorem Np (p:Nat->Bool):∀ (es:List Eff) (k:Nat) (m:Mid) (e:Eff),(∀ j,p j=true)->iA p k (es++[e]) m=e.apply (iA p k es m)
 | [],k,m,e,h=>by simp[iA,h]
 | e'::es,k,m,e,h=>by
  simp only[cons_append,iA,h,cond_true]
  exact Np p es (k+1) _ e h
theorem dt {id n next ys:Nat} {kt:List Nat} {df:List Deferred} {l:List Oper} (m0:Mid) (_hs0:s=m0.st n df next ys kt) (h:DrW ro P c Q s id l n df next ys kt m0 [] l m0):AW ro P c (.region id l.toArray true) Q s:=
 h ⟨[],rfl,fun _ _ h=>h⟩ (fun _ h=>h) rfl
theorem bg {id n next ys:Nat} {kt:List Nat} {df:List Deferred} {l rest:List Oper} {o:Oper} {m0 m:Mid} {es:List Eff} (e:Eff) (hf:∀ m:Mid,Has e m->ya ro P c l o (m.st n df next ys kt) ((e.apply m).st n df next ys kt)) (ht:Has e m)
  (h:DrW ro P c Q s id l n df next ys kt m0 (e::es) rest (e.apply m)):DrW ro P c Q s id l n df next ys kt m0 es (o::rest) m:=by
 rintro ⟨pre,h1,h2⟩ h3 h4
 refine h ⟨pre++[o],by rw[h1];simp,fun rest' es' h5=> ?_⟩ (fun es' h5=> ?_) ?_
 ·rw[reverse_cons,append_assoc,append_assoc]
  exact h2 (o::rest') (e::es') ⟨hf,h5⟩
 ·rw[reverse_cons,append_assoc]
  exact h3 (e::es') ⟨ht,h5⟩
 ·rw[reverse_cons,Np _ _ _ _ _ (fun _=>rfl),h4]
theorem aef {id n next ys:Nat} {kt:List Nat} {df:List Deferred} {l:List Oper} {m0 m:Mid} {es:List Eff} (hm:P.follows .mixedOrders=true) (hs0:s=m0.st n df next ys kt) (hB:Bv l es.reverse=true) (h:gw c Q .normal (m.st n df next ys kt)):DrW ro P c Q s id l n df next ys kt m0 es [] m:=by
 rintro ⟨pre,h1,h2⟩ h3 h4
 have hF:=h2 [] [] trivial
 have hT:=h3 [] trivial
 rw[append_nil] at h1 hT
 rw[append_nil,append_nil,<- h1] at hF
 exact XX es.reverse m0 hm hs0 hF hT hB (by rw[h4];exact h)
section
variable {id n next ys:Nat} {kt:List Nat} {df:List Deferred} {l rest:List Oper} {o:Oper} {m0 m:Mid} {es:List Eff}
theorem dru {j d:Nat} {want:Bool} (h:DrW ro P c Q s id l n df next ys kt m0 ({ need:=[(d,.tup [])],dst:=o.dst,val:=some (.tup []) }::es) rest (({ need:=[(d,.tup [])],dst:=o.dst,val:=some (.tup []) }:Eff).apply m))
  (hg:o.guard=some (j,want):=by exact rfl) (hj:((l[j]?).bind (·.dst))=some d:=by exact rfl) (hn:Nat.blt d n=true:=by exact rfl) (hl:aX d m.fr=some (.tup []):=by exact rfl) (hk:ktB (m.st n df next ys kt) o.dst=true:=by exact rfl):
  DrW ro P c Q s id l n df next ys kt m0 es (o::rest) m:=
 bg { need:=[(d,.tup [])],dst:=o.dst,val:=some (.tup []) } (fun m' h=>BZ (ED hg hj hn h.1.1) hk (by cases o.dst<;>rfl)) ⟨⟨hl,trivial⟩,trivial,trivial⟩ h
theorem zB {j d:Nat} {t:Bool} (ht:t=false) (h:DrW ro P c Q s id l n df next ys kt m0 ({ need:=[(d,.pv (.bool t))],dst:=o.dst,val:=some (.tup []) }::es) rest (({ need:=[(d,.pv (.bool t))],dst:=o.dst,val:=some (.tup []) }:Eff).apply m))
  (hg:o.guard=some (j,true):=by exact rfl) (hj:((l[j]?).bind (·.dst))=some d:=by exact rfl) (hn:Nat.blt d n=true:=by exact rfl) (hl:aX d m.fr=some (.pv (.bool t)):=by exact rfl) (hk:ktB (m.st n df next ys kt) o.dst=true:=by exact rfl):
  DrW ro P c Q s id l n df next ys kt m0 es (o::rest) m:=
 bg { need:=[(d,.pv (.bool t))],dst:=o.dst,val:=some (.tup []) } (fun m' h=>BZ (uB hg hj hn h.1.1 ht) hk (by cases o.dst<;>rfl)) ⟨⟨hl,trivial⟩,trivial,trivial⟩ h
theorem Jq {j d:Nat} {t:Bool} (ht:t=true) (h:DrW ro P c Q s id l n df next ys kt m0 ({ need:=[(d,.pv (.bool t))],dst:=o.dst,val:=some (.tup []) }::es) rest (({ need:=[(d,.pv (.bool t))],dst:=o.dst,val:=some (.tup []) }:Eff).apply m))
  (hg:o.guard=some (j,false):=by exact rfl) (hj:((l[j]?).bind (·.dst))=some d:=by exact rfl) (hn:Nat.blt d n=true:=by exact rfl) (hl:aX d m.fr=some (.pv (.bool t)):=by exact rfl) (hk:ktB (m.st n df next ys kt) o.dst=true:=by exact rfl):
  DrW ro P c Q s id l n df next ys kt m0 es (o::rest) m:=
 bg { need:=[(d,.pv (.bool t))],dst:=o.dst,val:=some (.tup []) } (fun m' h=>BZ (uB hg hj hn h.1.1 ht) hk (by cases o.dst<;>rfl)) ⟨⟨hl,trivial⟩,trivial,trivial⟩ h
theorem drm {t d:Nat} {v:AV} (h:DrW ro P c Q s id l n df next ys kt m0 ({ need:=[(t,v)],dst:=some d,val:=some v }::es) rest (({ need:=[(t,v)],dst:=some d,val:=some v }:Eff).apply m))
  (hg:o.guard=none:=by exact rfl) (ho:o.op= .move (.tmp t):=by exact rfl) (hd:o.dst=some d:=by exact rfl) (hl:aX t m.fr=some v:=by exact rfl) (hk:dOk (m.st n df next ys kt) (some d)=true:=by exact rfl):
  DrW ro P c Q s id l n df next ys kt m0 es (o::rest) m:=
 bg { need:=[(t,v)],dst:=some d,val:=some v } (fun m' h=>bq (bQ hg) (ic ho h.1.1 hd hk) rfl) ⟨⟨hl,trivial⟩,trivial,trivial⟩ h
theorem Za {t d:Nat} {v:AV} {y z:Operand} {b:Bool} (hb:b=true) (h:DrW ro P c Q s id l n df next ys kt m0 ({ need:=[(t,.pv (.bool b))],dst:=some d,val:=some v }::es) rest (({ need:=[(t,.pv (.bool b))],dst:=some d,val:=some v }:Eff).apply m))
  (hg:o.guard=none:=by exact rfl) (ho:o.op= .pick (.tmp t) y z:=by exact rfl) (hd:o.dst=some d:=by exact rfl) (hl:aX t m.fr=some (.pv (.bool b)):=by exact rfl) (hy:∀ m':Mid,ev (m'.st n df next ys kt) y=some v:=by exact fun _=>rfl) (hk:dOk (m.st n df next ys kt) (some d)=true:=by exact rfl):
  DrW ro P c Q s id l n df next ys kt m0 es (o::rest) m:=
 bg { need:=[(t,.pv (.bool b))],dst:=some d,val:=some v } (fun m' h=>bq (bQ hg) (qt ho h.1.1 hb (hy m') hd hk) rfl) ⟨⟨hl,trivial⟩,trivial,trivial⟩ h
theorem afF {t d:Nat} {v:AV} {y z:Operand} {b:Bool} (hb:b=false) (h:DrW ro P c Q s id l n df next ys kt m0 ({ need:=[(t,.pv (.bool b))],dst:=some d,val:=some v }::es) rest (({ need:=[(t,.pv (.bool b))],dst:=some d,val:=some v }:Eff).apply m))
  (hg:o.guard=none:=by exact rfl) (ho:o.op= .pick (.tmp t) y z:=by exact rfl) (hd:o.dst=some d:=by exact rfl) (hl:aX t m.fr=some (.pv (.bool b)):=by exact rfl) (hy:∀ m':Mid,ev (m'.st n df next ys kt) z=some v:=by exact fun _=>rfl) (hk:dOk (m.st n df next ys kt) (some d)=true:=by exact rfl):
  DrW ro P c Q s id l n df next ys kt m0 es (o::rest) m:=
 bg { need:=[(t,.pv (.bool b))],dst:=some d,val:=some v } (fun m' h=>bq (bQ hg) (dI ho h.1.1 hb (hy m') hd hk) rfl) ⟨⟨hl,trivial⟩,trivial,trivial⟩ h
end
section
variable {all rest:List Oper} {o:Oper} {s':St}
theorem rgu {j d:Nat} {want:Bool} {d':Option Nat} (h:kJ ro P c all rest Q (s.put d' (some (.tup [])))) (hg:o.guard=some (j,want):=by exact rfl) (hj:((all[j]?).bind (·.dst))=some d:=by exact rfl) (hn:Nat.blt d s.n=true:=by exact rfl) (hl:aX d s.fr=some (.tup []):=by exact rfl) (hd:o.dst=d':=by exact rfl) (hk:ktB s d'=true:=by exact rfl):
  kJ ro P c all (o::rest) Q s:=Ia (ED hg hj hn hl) hd hk h
theorem JQ {j d:Nat} {t:Bool} {d':Option Nat} (ht:t=false) (h:kJ ro P c all rest Q (s.put d' (some (.tup [])))) (hg:o.guard=some (j,true):=by exact rfl) (hj:((all[j]?).bind (·.dst))=some d:=by exact rfl) (hn:Nat.blt d s.n=true:=by exact rfl) (hl:aX d s.fr=some (.pv (.bool t)):=by exact rfl) (hd:o.dst=d':=by exact rfl) (hk:ktB s d'=true:=by exact rfl):
  kJ ro P c all (o::rest) Q s:=Ia (uB hg hj hn hl ht) hd hk h
theorem Rm {j d:Nat} {t:Bool} {d':Option Nat} (ht:t=true) (h:kJ ro P c all rest Q (s.put d' (some (.tup [])))) (hg:o.guard=some (j,false):=by exact rfl) (hj:((all[j]?).bind (·.dst))=some d:=by exact rfl) (hn:Nat.blt d s.n=true:=by exact rfl) (hl:aX d s.fr=some (.pv (.bool t)):=by exact rfl) (hd:o.dst=d':=by exact rfl) (hk:ktB s d'=true:=by exact rfl):
  kJ ro P c all (o::rest) Q s:=Ia (uB hg hj hn hl ht) hd hk h
theorem prt {fn:Func} {w0:World} {O0:Nat->Prop} {t:Nat} {p:PV} (hr:fn.results=[ResultVar.tmp t].toArray:=by exact rfl) (h:aX t s.fr=some (.pv p):=by exact rfl) (hc:c=Fn.cx w0 O0:=by exact rfl):gw c (xw P fn w0 O0 [.p p]) .ret s:=oE hc hr (.cons _ _ _ _ _ (.tmp _ _ h) (.p _) .nil) (.inl rfl)
theorem rgp (ho:da ro P c o s s') (h:kJ ro P c all rest Q s') (hg:o.guard=none:=by exact rfl):kJ ro P c all (o::rest) Q s:=ou (bQ hg) ho h
theorem rgn {j d:Nat} {want t:Bool} (ht:t=want) (ho:da ro P c o s s') (h:kJ ro P c all rest Q s') (hg:o.guard=some (j,want):=by exact rfl) (hj:((all[j]?).bind (·.dst))=some d:=by exact rfl) (hn:Nat.blt d s.n=true:=by exact rfl) (hl:aX d s.fr=some (.pv (.bool t)):=by exact rfl):kJ ro P c all (o::rest) Q s:=
 ou (cD hg hj hn hl ht) ho h
theorem rmv {x:Operand} {v:AV} {d:Option Nat} (h:kJ ro P c all rest Q (s.put d (some v))) (hg:o.guard=none:=by exact rfl) (ho:o.op= .move x:=by exact rfl) (hx:ev s x=some v:=by exact rfl) (hd:o.dst=d:=by exact rfl) (hk:dOk s d=true:=by exact rfl):
  kJ ro P c all (o::rest) Q s:=ou (bQ hg) (ic ho hx hd hk) h
theorem ras {x:Operand} {v:AV} {d:Option Nat} (h:kJ ro P c all rest Q (s.put d (some v))) (hg:o.guard=none:=by exact rfl) (ho:o.op= .assign x:=by exact rfl) (hx:ev s x=some v:=by exact rfl) (hd:o.dst=d:=by exact rfl) (hk:dOk s d=true:=by exact rfl):
  kJ ro P c all (o::rest) Q s:=ou (bQ hg) (ux ho hx hd hk) h
theorem rpt {x y z:Operand} {b:Bool} {v:AV} {d:Option Nat} (hb:b=true) (h:kJ ro P c all rest Q (s.put d (some v))) (hg:o.guard=none:=by exact rfl) (ho:o.op= .pick x y z:=by exact rfl) (hx:ev s x=some (.pv (.bool b)):=by exact rfl) (hy:ev s y=some v:=by exact rfl) (hd:o.dst=d:=by exact rfl) (hk:dOk s d=true:=by exact rfl):
  kJ ro P c all (o::rest) Q s:=ou (bQ hg) (qt ho hx hb hy hd hk) h
theorem rpf {x y z:Operand} {b:Bool} {v:AV} {d:Option Nat} (hb:b=false) (h:kJ ro P c all rest Q (s.put d (some v))) (hg:o.guard=none:=by exact rfl) (ho:o.op= .pick x y z:=by exact rfl) (hx:ev s x=some (.pv (.bool b)):=by exact rfl) (hy:ev s z=some v:=by exact rfl) (hd:o.dst=d:=by exact rfl) (hk:dOk s d=true:=by exact rfl):
  kJ ro P c all (o::rest) Q s:=ou (bQ hg) (dI ho hx hb hy hd hk) h
end
end
end Go.Abs

/- A zero value, written out as a constant, stored. -/
namespace Go.Abs
open List
variable {G:List (Nat×List PV)}
open Go.RowKit
section
variable {ro:Option Nat} {P:Program} {c:Cx G} {s s':St} {o:Oper} {d:Option Nat}
end
end Go.Abs

