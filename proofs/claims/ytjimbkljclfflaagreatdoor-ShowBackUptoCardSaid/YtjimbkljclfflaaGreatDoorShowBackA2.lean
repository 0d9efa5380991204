/- The abstract layer that the proof stands on: no condition. -/
import Derived.Test.YtjimbkljclfflaaGreatDoorShowBackA1
import Derived.RangeFuncRecord
namespace Go.Abs
open List
variable {G:List (Nat×List PV)}
open Go.RowKit
inductive Res where
 | p (p:PV)
 | own (e sz:Nat) (rows:List (List PV))
 | clo (f:Nat) (pre:List PV) (t:TypeId) (cells:List PV) (post:List PV)
def ResOk (w:World) (O:Nat->Prop) (lo:Nat):Res->Value->Prop
 | .p p,v=>Rd w O p v
 | .own e sz rows,v=>BlkOk w O (fun _=>none) v (.row e sz rows)/\v.oneCell'=true/\∀ g,bU v=some g->lo<=g/\g < w.heap.size/\O g
 | .clo f pre t cells post,v=>∃ us:Array Value,v= .func (.func f) #[] us/\us.size=pre.length+1 + post.length/\(∀ (i:Nat) (p:PV) (u:Value),pre[i]? =some p->us[i]? =some u->Rd w O p u)/\
   (∀ (i:Nat) (p:PV) (u:Value),post[i]? =some p->us[pre.length+1 + i]? =some u->Rd w O p u)/\
   ∃ g,us[pre.length]? =some (.pointer (some ⟨g,0,none⟩))/\BlkOk w O (fun _=>none) (.pointer (some ⟨g,0,none⟩)) (.box t (cells.map .pv))/\lo<=g/\g < w.heap.size/\O g
def MB (w:World) (O:Nat->Prop) (lo:Nat) (rs:List Res) (v:Value):Prop:=
 match rs with
 | [r]=>ResOk w O lo r v
 | rs=>∃ us:Array Value,v= .tuple us/\us.size=rs.length/\∀ (i:Nat) (r:Res) (u:Value),rs[i]? =some r->us[i]? =some u->ResOk w O lo r u
def Fn (G:List (Nat×List PV)) (P:Program) (f:FuncId) (args:List PV) (rs:List Res):Prop:=
 ∀ (w:World) (O:Nat->Prop) (vs:Array Value),(∀ g,O g->g < w.heap.size)->GlobOk G w O->vs.size=args.length->
  (∀ (i:Nat) (p:PV) (v:Value),args[i]? =some p->vs[i]? =some v->Rd w O p v)->
  Calls P f vs w fun e w'=>∃ v O',e= .returned v/\w.grownBy w' none/\(∀ g,O g->O' g)/\MB w' O' w.heap.size rs v
def Fn.cx (w:World) (O:Nat->Prop):Cx G:={ w0:=w,L:=fun _=>False,X:=O,K:=fun _=>False,J:=fun _ O _ w=>GlobOk G w O,Jst:=fun h s=>h.stp s,JG:=fun h=>h,KX:=fun _ h=>h.elim,t0:= #[] }
def xw (P:Program) (fn:Func) (w:World) (O:Nat->Prop) (rs:List Res):Exit->Act->World->Prop:=
 bodyPostM (FF none) 0 P fn fun e w'=>∃ v O',e= .returned v/\w.grownBy w' none/\(∀ g,O g->O' g)/\MB w' O' w.heap.size rs v
def wi : Nat->List PV->List (Nat×Option AV)
 | _,[]=>[]
 | i,p::ps=>(i,some (.pv p))::wi (i+1) ps
theorem yK : ∀ (ps:List PV) (k t:Nat) (x:AV),aX t (wi k ps)=some x->∃ p,x= .pv p/\k<=t/\ps[t - k]? =some p
 | [],k,t,x,h=>by simp[wi,aX] at h
 | p::ps,k,t,x,h=>by
  simp only[wi,dH] at h
  split at h
  ·rename_i e;subst e;cases h;exact⟨p,rfl,Nat.le_refl _,by simp⟩
  ·obtain⟨q,h1,h2,h3⟩:=yK ps (k+1) t x h
   refine⟨q,h1,by omega,?_⟩
   rw[show t - k=(t - (k+1))+1 by omega,getElem?_cons_succ]
   exact h3
theorem bM {P:Program} {f:FuncId} {fn:Func} {code:Code} {n:Nat} {args:List PV} {rs:List Res} (hf:P.funcs[f]? =some fn) (hb:fn.body=some code) (hn:fn.ntmps=n) (hl:Nat.ble args.length n=true)
  (h:∀ w O,AW none P (Fn.cx (G:=G) w O) code (xw P fn w O rs) { n:=n,fr:=wi 0 args,hp:=[],next:=0 }):Fn G P f args rs:=by
 intro w O vs hO hglob hsz hrd
 refine(callsIn_wide (n:=0)).1 (callsIn_of_wp_marks (F:=FF none) hf hb trivial ?_)
 have hl':args.length<=n:=Nat.le_of_ble_eq_true hl
 refine h w O _ w ⟨O,fun _=>none,?_⟩
 refine⟨by simp[hn];omega,.nil,?_,fun id b hb=>(by simp[aX] at hb),fun i j bi bj vi vj g hi=>(by simp[aX] at hi),fun id v hv=>(by cases hv),fun k hk=>(by cases hk),fun id v hv=>(by cases hv),hO,⟨rfl,rfl,rfl,Nat.le_refl _,fun _ _ _=>rfl⟩,fun g hg=>hg,hO,fun g hg=>hg.elim,fun d hd=>(by cases hd),fun g hg _=> .inl hg,fun t ht=>(by cases ht),hglob⟩
 intro t x hx
 obtain⟨p,rfl,_,hp⟩:=yK args 0 t x hx
 have hp':args[t]? =some p:=by simpa using hp
 have ht:t < vs.size:=by rw[hsz];exact(List.getElem?_eq_some_iff.1 hp').1
 have hv:vs[t]? =some vs[t]:=by simp[ht]
 have:(vs++Array.replicate (fn.ntmps - vs.size) undef).getD t undef=vs[t]:=by
  simp[Array.getElem?_append,ht]
 rw[this]
 exact .pv _ _ (hrd t p _ hp' hv)
section
variable {ro:Option Nat} {P:Program} {c:Cx G} {s s':St} {o:Oper} {d:Option Nat}
inductive RV (P:Program) (s:St):ResultVar->AV->Prop
 | tmp (t:Nat) (x:AV) (h:aX t s.fr=some x):RV P s (.tmp t) x
 | one (a id off:Nat) (T t:Nat) (cells:List AV) (x:AV) (h1:aX a s.fr=some (.lp id off)) (h2:aX id s.hp=some (.box t cells)) (h3:qT P T=true) (h4:cells[off]? =some x):RV P s (.cell a T) x
 | agg (a id off:Nat) (T t n:Nat) (cells:List AV) (ps:List PV) (h1:aX a s.fr=some (.lp id off)) (h2:aX id s.hp=some (.box t cells)) (h3:nR P T n=true) (h4:pvs ((cells.drop off).take n)=some ps) (h5:ps.length=n) (h6:(ps.all PV.one)=true):RV P s (.cell a T) (.pv (.agg ps))
 | aggM (a id off:Nat) (T t n:Nat) (cells cs:List AV) (h1:aX a s.fr=some (.lp id off)) (h2:aX id s.hp=some (.box t cells)) (h3:nR P T n=true) (h4:(cells.drop off).take n=cs) (h5:cs.length=n):RV P s (.cell a T) (.agg cs)
def ze : ResultVar->Array Value->Sem Value
 | .tmp t,tmps=>pure (tmps.getD t undef)
 | .cell a t,tmps=>do loadVar t (<- asAddr (tmps.getD a undef))
theorem RV.run {rv:ResultVar} {x:AV} (h:RV P s rv x) {O:Nat->Prop} {θ:Nat->Option Value} {a:Act} {w:World} (hs:SimAt c s O θ a w):∃ v,(ze rv a.tmps).run P w= .ok v w/\RdA w O θ x v:=by
 cases h with
 | tmp t _ h=>exact⟨_,by simp[ze],hs.fr _ _ h⟩
 | one ad id off T t cells _ h1 h2 h3 h4=>
  -- by the rule for a load, over a frame that holds just this
  have hr:=hs.fr _ _ h1
  generalize hv:a.tmps.getD ad undef=u at hr
  cases hr with
  | lp _ _ g h=>
   obtain⟨v',hv',⟨g',us,he,k1,k2,k3⟩,_⟩:=hs.hp id _ h2
   rw[h] at hv';cases hv'
   cases he
   have hk:off < us.size:=by rw[k2];exact(List.getElem?_eq_some_iff.1 h4).1
   have hu:us[off]? =some us[off]:=by simp[hk]
   have:=rh (P:=P) h3 w ⟨g,off,none⟩ us[off] (by rw[cell_of_row w g off us t (0,0) k1];exact hu)
   refine⟨us[off],?_,(k3 off x _ h4 hu).1⟩
   simp only[ze,hv,asAddr,Sem.run_bind,Sem.run_pure,Result.andThen_ok]
   simpa [Instr.loadAt,Instr.sureAddr] using this
 | aggM ad id off T t n cells cs h1 h2 h3 h4 h5=>
  have hr:=hs.fr _ _ h1
  generalize hv:a.tmps.getD ad undef=u at hr
  cases hr with
  | lp _ _ g h=>
   obtain⟨v',hv',⟨g',us,he,k1,k2,k3⟩,_⟩:=hs.hp id _ h2
   rw[h] at hv';cases hv'
   cases he
   have hlen:off+n<=us.size\/n=0:=by
    have:((cells.drop off).take n).length=n:=by rw[h4];exact h5
    rw[length_take,length_drop,<- k2] at this
    omega
   have hcell:∀ (j:Nat) (u:Value),((us.toList.drop off).take n)[j]? =some u->j < n/\us[off+j]? =some u:=by
    intro j u hu
    rw[getElem?_take] at hu
    split at hu
    ·rename_i hj
     rw[getElem?_drop] at hu
     exact⟨hj,by simpa using hu⟩
    ·cases hu
   have hrun:=lV (P:=P) h3 w ⟨g,off,none⟩ ((us.toList.drop off).take n) (by simp;omega) (fun j u hu=>by
    rw[Addr.add_lit,cell_of_row w g _ us t (0,0) k1]
    exact(hcell j u hu).2)
   refine⟨.agg ((us.toList.drop off).take n).toArray,?_,.agg _ _ (by simp;omega) (fun j u hu=> ?_) (fun j c u hc hu=> ?_)⟩
   ·simp only[ze,hv,asAddr,Sem.run_bind,Sem.run_pure,Result.andThen_ok]
    simpa [Instr.loadAt,Instr.sureAddr] using hrun
   ·obtain⟨hj,hu'⟩:=hcell j u (by simpa using hu)
    have hlt:off+j < cells.length:=by rw[<- k2];exact(Array.getElem?_eq_some_iff.1 hu').1
    exact(k3 (off+j) cells[off+j] u (getElem?_eq_getElem hlt) hu').2
   ·obtain⟨hj,hu'⟩:=hcell j u (by simpa using hu)
    rw[<- h4,getElem?_take,if_pos hj,getElem?_drop] at hc
    exact(k3 (off+j) c u hc hu').1
 | agg ad id off T t n cells ps h1 h2 h3 h4 h5 h6=>
  have hr:=hs.fr _ _ h1
  generalize hv:a.tmps.getD ad undef=u at hr
  cases hr with
  | lp _ _ g h=>
   obtain⟨v',hv',⟨g',us,he,k1,k2,k3⟩,_⟩:=hs.hp id _ h2
   rw[h] at hv';cases hv'
   cases he
   have hc':=wZ h4
   have hps:∀ j p,ps[j]? =some p->j < n/\cells[off+j]? =some (.pv p):=by
    intro j p hj
    have hjn:j < n:=by have:=(List.getElem?_eq_some_iff.1 hj).1;omega
    refine⟨hjn,?_⟩
    have:((cells.drop off).take n)[j]? =some (.pv p):=by rw[hc',getElem?_map,hj];rfl
    rw[getElem?_take,if_pos hjn,getElem?_drop] at this
    exact this
   have hlen:off+n<=us.size\/n=0:=by
    rcases Nat.eq_zero_or_pos n with h0 | h0
    ·exact .inr h0
    ·left
     obtain⟨p,hp⟩:∃ p,ps[n - 1]? =some p:=⟨ps[n - 1]'(by omega),getElem?_eq_getElem (by omega)⟩
     have:=(List.getElem?_eq_some_iff.1 (hps _ p hp).2).1
     omega
   have hrun:=lV (P:=P) h3 w ⟨g,off,none⟩ ((us.toList.drop off).take n) (by simp;omega) (fun j u hu=>by
    rw[getElem?_take] at hu
    split at hu
    ·rw[getElem?_drop] at hu
     rw[Addr.add_lit,cell_of_row w g _ us t (0,0) k1]
     simpa using hu
    ·cases hu)
   refine⟨.agg ((us.toList.drop off).take n).toArray,?_,.pv _ _ (.agg _ _ (by simp;omega) (by simpa using h6) ?_)⟩
   ·simp only[ze,hv,asAddr,Sem.run_bind,Sem.run_pure,Result.andThen_ok]
    simpa [Instr.loadAt,Instr.sureAddr] using hrun
   ·intro j p u hp hu
    obtain⟨hjn,hcj⟩:=hps j p hp
    have hu':us[off+j]? =some u:=by
     simp only[getElem?_toArray,getElem?_take,if_pos hjn,getElem?_drop] at hu
     simpa using hu
    exact lm (k3 (off+j) _ u hcj hu').1
inductive AR (c:Cx G) (s:St):AV->Res->Prop
 | p (p:PV):AR c s (.pv p) (.p p)
 | own (id e sz:Nat) (rows:List (List PV)) (h:aX id s.hp=some (.row e sz rows)) (hl:∀ g,¬ c.L g):AR c s (.ls id) (.own e sz rows)
 | clo (f:Nat) (pre post:List PV) (id t:Nat) (cells:List PV) (h:aX id s.hp=some (.box t (cells.map .pv))) (hl:∀ g,¬ c.L g):AR c s (.fn f (pre.map .pv++(.lp id 0::post.map .pv))) (.clo f pre t cells post)
theorem AR.ok {x:AV} {r:Res} (h:AR c s x r) {O:Nat->Prop} {θ:Nat->Option Value} {a:Act} {w:World} (hs:SimAt c s O θ a w) {v:Value} (hv:RdA w O θ x v):ResOk w O c.w0.heap.size r v:=by
 cases h with
 | p p=>exact lm hv
 | own id e sz rows h hl=>
  cases hv with
  | ls _ _ hv=>
   obtain⟨v',hv',hb,hg⟩:=hs.hp id _ h
   rw[hv] at hv';cases hv'
   refine⟨hb,hs.one _ _ hv,fun g hgg=> ?_⟩
   obtain⟨g1,g2,g3,g4⟩:=hg g hgg
   exact⟨g3 (hl g),g2,g1⟩
 | clo f pre post id t cells h hl=>
  cases hv with
  | fn _ _ us hn hh=>
   obtain⟨v',hv',hb,hg⟩:=hs.hp id _ h
   obtain⟨g,us',rfl,b1,b2,b3⟩:=hb
   obtain⟨g1,g2,g3,g4⟩:=hg g rfl
   have hlen:us.size=pre.length+1 + post.length:=by rw[hn];simp;omega
   have hu:us[pre.length]? =some us[pre.length]:=by simp
   have hm:=hh pre.length (.lp id 0) _ (by simp) hu
   generalize us[pre.length]=up at hm hu
   cases hm with
   | lp _ _ g' hm=>
    rw[hv'] at hm;cases hm
    refine⟨us,rfl,hlen,fun i p u hp hu=> ?_,fun i p u hp hu=> ?_,g,hu,⟨g,us',rfl,b1,b2,fun j x u hx hu=> ?_⟩,g3 (hl g),g2,g1⟩
    ·have hi:i < pre.length:=(List.getElem?_eq_some_iff.1 hp).1
     exact lm (hh i (.pv p) u (by rw[getElem?_append_left (by simpa using hi),getElem?_map,hp];rfl) hu)
    ·refine lm (hh _ (.pv p) u ?_ hu)
     rw[getElem?_append_right (by simp;omega)]
     simp only[length_map]
     rw[show pre.length+1 + i - pre.length=i+1 by omega,getElem?_cons_succ,getElem?_map,hp];rfl
    ·have:=b3 j x u hx hu
     simp only[getElem?_map,Option.map_eq_some_iff] at hx
     obtain⟨q,hq,rfl⟩:=hx
     exact⟨.pv _ _ (lm this.1),this.2⟩
inductive RVs (P:Program) (c:Cx G) (s:St):List ResultVar->List Res->Prop
 | nil:RVs P c s [] []
 | cons (rv:ResultVar) (x:AV) (r:Res) (rvs:List ResultVar) (rs:List Res) (h1:RV P s rv x) (h2:AR c s x r) (h3:RVs P c s rvs rs):RVs P c s (rv::rvs) (r::rs)
theorem RVs.run {rvs:List ResultVar} {rs:List Res} (h:RVs P c s rvs rs) {O:Nat->Prop} {θ:Nat->Option Value} {a:Act} {w:World} (hs:SimAt c s O θ a w):
  ∃ us:List Value,(rvs.mapM fun rv=>ze rv a.tmps).run P w= .ok us w/\us.length=rs.length/\∀ (i:Nat) (r:Res) (u:Value),rs[i]? =some r->us[i]? =some u->ResOk w O c.w0.heap.size r u:=by
 induction h with
 | nil=>exact⟨[],by simp,rfl,by simp⟩
 | cons rv x r rvs rs h1 h2 h3 ih=>
  obtain⟨us,i1,i2,i3⟩:=ih
  obtain⟨v,e1,e2⟩:=h1.run hs
  refine⟨v::us,by simp[mapM_cons,Sem.run_bind,e1,i1],by simp[i2],fun i r' u hr hu=> ?_⟩
  cases i with
  | zero=>simp at hr hu;subst hr;subst hu;exact h2.ok hs e2
  | succ i=>exact i3 i r' u (by simpa using hr) (by simpa using hu)
theorem zl {fn:Func} {rvs:List ResultVar} (hr:fn.results=rvs.toArray) {us:List Value} {tmps:Array Value} {w:World} (h:(rvs.mapM fun rv=>ze rv tmps).run P w= .ok us w):
  (results fn tmps).run P w= .ok (match us with | [v]=>v | us=> .tuple us.toArray) w:=by
 have hm:(fn.results.mapM fun rv=>ze rv tmps).run P w= .ok us.toArray w:=by
  rw[hr,mapM_toArray]
  simp only[Sem.run_map,h]
  rfl
 have e:results fn tmps=(do let vs <- fn.results.mapM (fun rv=>ze rv tmps);pure (if h:vs.size=1 then vs[0] else .tuple vs)):=by
  have:(fun rv=>ze rv tmps)=(fun rv=>match rv with | .tmp t=>pure (tmps.getD t undef) | .cell a t=>do loadVar t (<- asAddr (tmps.getD a undef))):=by
   funext rv;cases rv<;>rfl
  rw[this];rfl
 rw[e,Sem.run_bind,hm]
 simp only[Result.andThen_ok,Sem.run_pure]
 match us with
 | []=>rfl
 | [v]=>rfl
 | v::v'::us=>simp
theorem WV {w:World} {D:Nat} {ds:Option (List Deferred)} (hD:w.heap[D]? =some (.deferred ds)) (off:Nat):w.cell? ⟨D,off,none⟩=none:=by simp[World.cell?,hD]
theorem Rd.shut {w:World} {O:Nat->Prop} {D:Nat} {ds:Option (List Deferred)} {ob:Obj} (hD:w.heap[D]? =some (.deferred ds)):∀ {p:PV} {v:Value},Rd w O p v->Rd (w.putObj D ob) O p v:=by
 have hc:∀ b off u,w.cell? ⟨b,off,none⟩=some u->(w.putObj D ob).cell? ⟨b,off,none⟩=some u:=by
  intro b off u h
  have hne:b≠D:=by rintro rfl;rw[WV hD] at h;cases h
  rw[<- h]
  exact World.cell?_of_block (a:=⟨b,off,none⟩) (World.putObj_heap_other hne)
 intro p v h
 induction h with
 | int k n=>exact .int k n
 | bool b=>exact .bool b
 | str s=>exact .str s
 | agg cs us hn hone h ih=>exact .agg cs us hn hone ih
 | vsz sz a cap h0 hm=>exact .vsz sz a cap h0 hm
 | vs sz rows b off cap us h1 h2 h3 h4 h5 h6 h7 h8 ih=>exact .vs sz rows b off cap us h1 (by simpa using h2) h3 h4 h5 h6 (fun k hk=>hc _ _ _ (h7 k hk)) ih
 | vp row b off us h1 h2 h3 h4 h5 ih=>exact .vp row b off us h1 (by simpa using h2) h3 (fun k hk=>hc _ _ _ (h4 k hk)) ih
 | nilp=>exact .nilp
 | nils=>exact .nils
 | fn f caps us hn h ih=>exact .fn f caps us hn ih
 | nilf=>exact .nilf
 | nili=>exact .nili
 | nilm=>exact .nilm
 | yld l=>exact .yld l
 | mpv P t n m b h1 h2 h3=>exact .mpv P t n m b h1 (by simpa using h2) (h3.of_block (World.putObj_heap_other (fun e=>by subst e;obtain⟨_,_,_,_,_,_,⟨_,_,q,_⟩,_⟩:=h3;rw[hD] at q;cases q)))
 | mrv P t f b h1 h2 h3=>exact .mrv P t f b h1 (by simpa using h2) (h3.mono (by simp) (fun b _ hb=>⟨hb,fun k u hu=>hc _ _ _ hu⟩) (World.putObj_heap_other (fun e=>by subst e;obtain⟨_,_,q,_⟩:=h3;rw[hD] at q;cases q)))
 | raw v h=>exact .raw v h
theorem RdA.shut {w:World} {O:Nat->Prop} {θ:Nat->Option Value} {D:Nat} {ds:Option (List Deferred)} {ob:Obj} (hD:w.heap[D]? =some (.deferred ds)):∀ {x:AV} {v:Value},RdA w O θ x v->RdA (w.putObj D ob) O θ x v:=by
 intro x v h
 induction h with
 | pv p v h=>exact .pv p v (h.shut hD)
 | ls id v h=>exact .ls id v h
 | le id sz i off g n cap h=>exact .le id sz i off g n cap h
 | lp id off g h=>exact .lp id off g h
 | ra id m g n cap h h0=>exact .ra id m g n cap h h0
 | aw id off n g h=>exact .aw id off n g h
 | sp id sz r v0 v h hc=>exact .sp id sz r v0 v h hc
 | bp0 id=>exact .bp0 id
 | any v=>exact .any v
 | bp1 id g h=>exact .bp1 id g h
 | cs sz rows v h hc=>exact .cs sz rows v (h.shut hD) hc
 | fn f caps us hn h ih=>exact .fn f caps us hn ih
 | mv f fst us hn h ih=>exact .mv f fst us hn ih
 | tup xs us hn h ih=>exact .tup xs us hn ih
 | agg xs us hn h1 h ih=>exact .agg xs us hn h1 ih
theorem BlkOk.shut {w:World} {O:Nat->Prop} {θ:Nat->Option Value} {D:Nat} {ds:Option (List Deferred)} {ob:Obj} (hD:w.heap[D]? =some (.deferred ds)) {v:Value} {b:Blk} (hb:∀ g,bU v=some g->g≠D) (h:BlkOk w O θ v b):BlkOk (w.putObj D ob) O θ v b:=by
 cases b with
 | row e sz rows=>
  obtain⟨us,h1,h2⟩:=h
  exact⟨us,wK h1 (fun g hg=>World.putObj_heap_other (hb g hg)),h2.len,h2.hz,h2.one,fun i j row c u q1 q2 q3=>(h2.rd i j row c u q1 q2 q3).shut hD⟩
 | box t cells=>
  obtain⟨g,us,rfl,h1,h2,h3⟩:=h
  exact⟨g,us,rfl,by rw[World.putObj_heap_other (hb g rfl)];exact h1,h2,fun j c u hc hu=>⟨(h3 j c u hc hu).1.shut hD,(h3 j c u hc hu).2⟩⟩
 | dict P t n m=>
  obtain⟨b,rfl,h4⟩:=h
  exact⟨b,rfl,h4.of_block (World.putObj_heap_other (hb b rfl))⟩
 | dictE P t n m key id2=>
  obtain⟨b,st,rfl,h4,h5⟩:=h
  exact⟨b,st,rfl,h4,h5.of_block (World.putObj_heap_other (hb b rfl))⟩
theorem SimAt.shut {O:Nat->Prop} {θ:Nat->Option Value} {a:Act} {w:World} {d:Deferred} {ds:List Deferred} (hs:SimAt c s O θ a w) (hdf:a.defers=d::ds):∃ D w',d.target= .collected D/\(Instr.takeDeferred D).run P w= .ok [] w'/\SimAt c s O θ { a with defers:=ds } w':=by
 obtain⟨D,rfl,hD,hOD,hw0⟩:=hs.marks d (by rw[hdf];simp)
 refine⟨D,w.putObj D (.deferred none),rfl,run_takeDeferred hD,?_⟩
 have hmnd:=hs.df
 rw[hdf] at hmnd
 have hlt:D < w.heap.size:=by
  rcases Nat.lt_or_ge D w.heap.size with h1 | h1
  ·exact h1
  ·rw[Array.getElem?_eq_none h1] at hD;cases hD
 refine⟨hs.size,(List.nodup_cons.1 hmnd).2,fun t x hx=>(hs.fr t x hx).shut hD,fun id b hb=> ?_,hs.inj,hs.dom,hs.flt,hs.one,fun g hg=>by simpa using hs.olt g hg,⟨hs.ext.os,hs.ext.tape,hs.ext.output,by simpa using hs.ext.size,fun b hb hL=> ?_⟩,hs.xo,hs.xlt,hs.llt,fun d' hd'=> ?_,hs.oc,hs.kp,?_⟩
 ·obtain⟨v,hv,hbo,hgv⟩:=hs.hp id b hb
  exact⟨v,hv,hbo.shut hD (fun g hg e=>by obtain⟨_,hh,ho⟩:=hbo.cells hg;rw[e,hD] at hh;cases hh;cases ho),fun g hgg=>by simpa using hgv g hgg⟩
 ·rw[World.putObj_heap_other (by omega)];exact hs.ext.block b hb hL
 ·obtain⟨D',rfl,hD',hOD',h0⟩:=hs.marks d' (by rw[hdf];exact mem_cons_of_mem _ hd')
  refine⟨D',rfl,?_,hOD',h0⟩
  rw[World.putObj_heap_other (fun e=> ?_)]
  ·exact hD'
  ·subst e;exact(List.nodup_cons.1 hmnd).1 hd'
 ·refine c.Jst hs.jn ⟨rfl,rfl,rfl,by simp,fun b hb hI=>World.putObj_heap_other (fun e=>by subst e;exact hI.elim (fun h=>h (.inr (.inr ⟨_,by rw[hdf];exact mem_cons_self,rfl⟩))) (fun h=>h hOD)),fun g h=> .inl h,fun g h _=>h,fun g hg=>by simpa using hs.olt g hg,fun g hI=> .inl ?_⟩
  rcases hI with hI | hI | ⟨d',h1,h2⟩
  ·exact .inl hI
  ·exact .inr (.inl hI)
  ·exact .inr (.inr ⟨d',by rw[hdf];exact mem_cons_of_mem _ h1,h2⟩)
theorem uj {fn:Func} {R:Ending->World->Prop} {O:Nat->Prop} {θ:Nat->Option Value}:∀ (ds:List Deferred) (a:Act) (w:World),a.defers=ds->SimAt c s O θ a w->
  (∀ (a':Act) (w':World),a'.tmps=a.tmps->SimAt c s O θ a' w'->∃ v,(results fn a.tmps).run P w'= .ok v w'/\R (.returned v) w')->LeavesInM (FF none) 0 P fn a.tmps R a.defers .returning w
 | [],a,w,hdf,hs,h=>by
  rw[hdf]
  exact h a w rfl hs
 | d::ds,a,w,hdf,hs,h=>by
  rw[hdf]
  obtain⟨D,w',h1,h2,h3⟩:=hs.shut (P:=P) hdf
  refine⟨by simp,.inl ⟨D,w',h1,h2,?_⟩⟩
  exact uj (fn:=fn) (R:=R) ds { a with defers:=ds } w' rfl h3 (fun a' w'' e2 e3=>h a' w'' e2 e3)
theorem oE {fn:Func} {w0:World} {O0:Nat->Prop} {rvs:List ResultVar} {rs:List Res} {e:Exit} (hc:c=Fn.cx w0 O0) (hr:fn.results=rvs.toArray) (h:RVs P c s rvs rs) (he:e= .ret\/e= .normal):gw c (xw P fn w0 O0 rs) e s:=by
 rintro a w ⟨O,θ,hs⟩
 have key:LeavesInM (FF none) 0 P fn a.tmps (fun e w'=>∃ v O',e= .returned v/\w0.grownBy w' none/\(∀ g,O0 g->O' g)/\MB w' O' w0.heap.size rs v) a.defers .returning w:=by
  refine uj a.defers a w rfl hs fun a' w' ht hs2=> ?_
  obtain⟨us,h1,h2,h3⟩:=h.run hs2
  rw[ht] at h1
  refine⟨_,zl hr h1,_,O,rfl,?_,?_,?_⟩
  ·have he:=hs2.ext
   subst hc
   exact⟨he.os,he.tape,he.output,he.size,fun k hk _=>he.block k hk (fun h=>h)⟩
  ·subst hc;exact hs2.xo
  ·subst hc
   match rs,us,h2,h3 with
   | [r],[u],_,h3=>exact h3 0 r u rfl rfl
   | [],[],_,h3=>exact⟨#[],rfl,rfl,by simp⟩
   | r::r'::rs,u::u'::us,h2,h3=>exact⟨_,rfl,by simpa using h2,fun i r u hr hu=>h3 i r u hr (by simpa using hu)⟩
 rcases he with rfl | rfl
 ·exact key
 ·exact key
def cY (P:Program) (f:Nat):Bool:=match P.funcs[f]? with | some fn=>fn.body.isSome&& !(fn.name == "runtime.NumGoroutine") | none=>false
theorem vl {f:Nat} (h:cY P f=true) (args:Array Value) (w:World):(callFunc f args).run P w= .ok (.enter f args) w:=by
 unfold cY at h
 split at h
 ·rename_i fn hf
  simp only[Bool.and_eq_true,Bool.not_eq_true'] at h
  obtain⟨h1,h2⟩:=h
  have h2':¬ fn.name = "runtime.NumGoroutine" := by simpa using h2
  simp[callFunc,hf,h2',Option.isSome_iff_ne_none.1 h1]
 ·cases h
def So (k:Nat):Res->AV
 | .p p=> .pv p
 | .own _ _ _=> .ls k
 | .clo f pre _ _ post=> .fn f (pre.map .pv++(.lp k 0::post.map .pv))
def Res.isP : Res->Bool
 | .p _=>true
 | _=>false
def DV (k:Nat):List Res->AV
 | [r]=>So k r
 | rs=> .tup (rs.map (So k))
def Res.blk : Res->Option Blk
 | .p _=>none
 | .own e sz rows=>some (.row e sz rows)
 | .clo _ _ t cells _=>some (.box t (cells.map .pv))
def qZ : List Res->Option (Option Blk)
 | []=>some none
 | .p _::rs=>qZ rs
 | .own e sz rows::rs=>if rs.all Res.isP then some (some (.row e sz rows)) else none
 | .clo _ _ t cells _::rs=>if rs.all Res.isP then some (some (.box t (cells.map .pv))) else none
def St.addRes (s:St) (kk:Nat):Option Blk->St
 | none=>s
 | some b=>s.addAt kk none b
theorem SK {r:Res} (h:r.isP=true):∃ p,r= .p p:=by
 cases r with
 | p p=>exact⟨p,rfl⟩
 | _=>simp[Res.isP] at h
theorem Fg : ∀ {rs:List Res},qZ rs=some none->∀ r∈rs,∃ p,r= .p p
 | [],_,r,h=>by simp at h
 | .p p::rs,h,r,hr=>by
  rcases List.mem_cons.1 hr with e | e
  ·exact⟨p,e⟩
  ·exact Fg (rs:=rs) h r e
 | .own e sz rows::rs,h,r,hr=>by
  simp only[qZ] at h;split at h<;>cases h
 | .clo f pre t cells post::rs,h,r,hr=>by
  simp only[qZ] at h;split at h<;>cases h
theorem EW : ∀ {rs:List Res} {b:Blk},qZ rs=some (some b)->∃ (i:Nat) (r0:Res),rs[i]? =some r0/\r0.blk=some b/\∀ (j:Nat) (r:Res),rs[j]? =some r->j≠i->∃ p,r=Res.p p
 | [],b,h=>by simp[qZ] at h
 | .p p::rs,b,h=>by
  obtain⟨i,r0,h1,h2,h3⟩:=EW (rs:=rs) h
  refine⟨i+1,r0,by simpa using h1,h2,fun j r hj hne=> ?_⟩
  cases j with
  | zero=>simp at hj;exact⟨p,hj.symm⟩
  | succ j=>exact h3 j r (by simpa using hj) (by omega)
 | .own e sz rows::rs,b,h=>by
  simp only[qZ] at h
  split at h
  ·rename_i hall
   cases h
   refine⟨0,_,rfl,rfl,fun j r hj hne=> ?_⟩
   cases j with
   | zero=>exact absurd rfl hne
   | succ j=>exact SK (List.all_eq_true.1 hall r (mem_of_getElem? (by simpa using hj)))
  ·cases h
 | .clo f pre t cells post::rs,b,h=>by
  simp only[qZ] at h
  split at h
  ·rename_i hall
   cases h
   refine⟨0,_,rfl,rfl,fun j r hj hne=> ?_⟩
   cases j with
   | zero=>exact absurd rfl hne
   | succ j=>exact SK (List.all_eq_true.1 hall r (mem_of_getElem? (by simpa using hj)))
  ·cases h
theorem ResOk.take {w:World} {O:Nat->Prop} {lo:Nat} {r:Res} {b:Blk} {u:Value} (kk:Nat) (h:ResOk w O lo r u) (hb:r.blk=some b):∃ vb,BlkOk w O (fun _=>none) vb b/\vb.oneCell'=true/\(∀ g,bU vb=some g->lo<=g/\g < w.heap.size/\O g)/\
  ∀ (O2:Nat->Prop) (θ2:Nat->Option Value),θ2 kk=some vb->(∀ g,O2 g->O g)->RdA w O2 θ2 (So kk r) u:=by
 cases r with
 | p p=>cases hb
 | own e sz rows=>
  cases hb
  exact⟨u,h.1,h.2.1,h.2.2,fun O2 θ2 h2 _=> .ls _ _ h2⟩
 | clo f pre t cells post=>
  cases hb
  obtain⟨us,rfl,h1,h2,h3,g,h4,h5,h6,h7,h8⟩:=h
  refine⟨_,h5,rfl,fun g' hg'=>by cases hg';exact⟨h6,h7,h8⟩,fun O2 θ2 e hO=> ?_⟩
  have mono:∀ {p:PV} {v:Value},Rd w O p v->Rd w O2 p v:=fun h=>h.mono (Nat.le_refl _) (fun b _ hn=>⟨fun h2=>hn (hO b h2),rfl⟩)
  refine .fn _ _ us (by simp[h1];omega) fun i x u hx hu=> ?_
  rw[getElem?_append] at hx
  split at hx
  ·simp only[getElem?_map,Option.map_eq_some_iff] at hx
   obtain⟨p,hp,rfl⟩:=hx
   exact .pv _ _ (mono (h2 i p u hp hu))
  ·rename_i hi
   simp only[length_map] at hx hi
   rcases Nat.eq_or_lt_of_le (Nat.not_lt.1 hi) with e2 | e2
   ·subst e2
    simp at hx;subst hx
    rw[h4] at hu;cases hu
    exact .lp _ _ g e
   ·rw[show i - pre.length=(i - pre.length - 1)+1 by omega,getElem?_cons_succ,getElem?_map,Option.map_eq_some_iff] at hx
    obtain⟨p,hp,rfl⟩:=hx
    exact .pv _ _ (mono (h3 _ p u hp (by rw[show pre.length+1 + (i - pre.length - 1)=i by omega];exact hu)))
theorem ResOk.mono {w:World} {O O':Nat->Prop} {lo:Nat} {p:PV} {v:Value} (h:ResOk w O lo (.p p) v) (hO:∀ g,O' g->O g):Rd w O' p v:=
 Rd.mono (Nat.le_refl _) (fun b _ hn=>⟨fun h2=>hn (hO b h2),rfl⟩) h
theorem KS (kk:Nat) (hk:ko s kk=true) {O O':Nat->Prop} {θ:Nat->Option Value} {a:Act} {w w':World} (hs:SimAt c s O θ a w) (hg:w.grownBy w' none) (hO:∀ g,O g->O' g) {rs:List Res} {v:Value} (hr:MB w' O' w.heap.size rs v) {ob:Option Blk} (hob:qZ rs=some ob):
  ∃ O2 θ2,SimAt c (s.addRes kk ob) O2 θ2 a w'/\RdA w' O2 θ2 (DV kk rs) v:=by
 -- the claim for the components
 have comps:∃ us:List Value,(∀ (i:Nat) (r:Res) (u:Value),rs[i]? =some r->us[i]? =some u->ResOk w' O' w.heap.size r u)/\us.length=rs.length/\
   ∀ (O2:Nat->Prop) (θ2:Nat->Option Value),(∀ (i:Nat) (r:Res) (u:Value),rs[i]? =some r->us[i]? =some u->RdA w' O2 θ2 (So kk r) u)->RdA w' O2 θ2 (DV kk rs) v:=by
  match rs,hr with
  | [r],hr=>
   refine⟨[v],fun i r' u h1 h2=> ?_,rfl,fun O2 θ2 h=>h 0 r v rfl rfl⟩
   cases i with
   | zero=>simp at h1 h2;subst h1;subst h2;exact hr
   | succ i=>simp at h1
  | [],⟨us,h1,h2,h3⟩=>
   refine⟨us.toList,by simp,by simpa using h2,fun O2 θ2 _=> ?_⟩
   subst h1
   exact .tup [] us (by simpa using h2) (by simp)
  | r::r'::rs,⟨us,h1,h2,h3⟩=>
   refine⟨us.toList,fun i r u hr hu=>h3 i r u hr (by simpa using hu),by simpa using h2,fun O2 θ2 h=> ?_⟩
   subst h1
   refine .tup _ us (by simpa using h2) fun i x u hx hu=> ?_
   have hx':((r::r'::rs).map (So kk))[i]? =some x:=hx
   rw[getElem?_map,Option.map_eq_some_iff] at hx'
   obtain⟨r0,hr0,rfl⟩:=hx'
   exact h i r0 u hr0 (by simpa using hu)
 obtain⟨us,hus,hlen,htop⟩:=comps
 cases ob with
 | none=>
  refine⟨O,θ,hs.grownNone hg,htop O θ fun i r u h1 h2=> ?_⟩
  obtain⟨p,rfl⟩:=Fg hob r (mem_of_getElem? h1)
  exact .pv _ _ ((hus i _ u h1 h2).mono hO)
 | some b=>
  obtain⟨i,r0,h1,hb0,h3⟩:=EW hob
  have hi:i < us.length:=by rw[hlen];exact(List.getElem?_eq_some_iff.1 h1).1
  have hu:us[i]? =some us[i]:=getElem?_eq_getElem hi
  obtain⟨vb,k1,k2,k3,k4⟩:=(hus i _ _ h1 hu).take kk hb0
  have hO2:∀ g,O g\/bU vb=some g->O' g:=fun g h=>h.elim (hO g) (fun h=>(k3 g h).2.2)
  obtain⟨O2,θ2,m1,m2,m3,m4⟩:=hs.addAt (w':=w') (row:=none) (v:=vb) (b:=b) kk hk none (by simp) (fun _=>rfl) hg (fun g hgg=>⟨(k3 g hgg).2.1,.inl (k3 g hgg).1⟩) k2 (fun O2 θ2 hO2' _=>
   k1.mono (Nat.le_refl _) (fun b _ hn=>⟨fun h2=>hn (hO2 b ((hO2' b).1 h2)),rfl⟩) (fun _ _ h=>by cases h) (fun _ _=>rfl))
  refine⟨O2,θ2,m4,htop O2 θ2 fun j r u h4 h5=> ?_⟩
  by_cases hji:j=i
  ·subst hji
   rw[h1] at h4;cases h4
   rw[hu] at h5;cases h5
   exact k4 O2 θ2 m3 (fun g hgg=>hO2 g ((m1 g).1 hgg))
  ·obtain⟨p,rfl⟩:=h3 j r h4 hji
   exact .pv _ _ ((hus j _ u h4 h5).mono fun g hgg=>hO2 g ((m1 g).1 hgg))
theorem dx (kk:Nat) (hk:ko s kk=true) {fo:Operand} {xs:List Operand} {ts:Array TypeId} {f:Nat} {caps:List PV} {args:List PV} {rs:List Res} {ob:Option Blk} (ho:o.op= .call { callee:= .value fo,args:=xs.toArray,argTypes:=ts }) (hf:ev s fo=some (.pv (.fn f caps))) (hx:evl s xs=some (args.map .pv)) (hB:cY P f=true)
  (h:Fn G P f (args++caps) rs) (hob:qZ rs=some ob) (hd:o.dst=d) (hn:dOk s d=true):da ro P c o s ((s.addRes kk ob).put d (some (DV kk rs))):=by
 rintro a w ⟨O,θ,hs⟩ K Q hK
 obtain⟨e1,e2⟩:=yX hs hx
 have hfv:=ug hs hf
 generalize hfa:a.eval fo=fv at hfv
 cases hfv with
 | fn _ _ us hn' hh=>
  refine⟨fun f _=>trivial,?_⟩
  have hrun:(execOp a.eval o).run P w= .ok (.enter f ((xs.map a.eval).toArray++us)) w:=by
   simp[execOp,ho,resolve,Deferred.ofValue,hfa,invoke,vl hB]
  rw[Oper.semAt_plain _ _ _ (by rw[ho];intro k h;cases h),hrun]
  refine⟨fun h=>by simp[FF,Fence.wide] at h,?_⟩
  have hcall:=h w O ((xs.map a.eval).toArray++us) hs.olt (c.JG hs.jn) (by have:=e1;simp at this;simp[hn',this]) (fun i p v hp hv=>by
   rw[getElem?_append] at hp
   have hl:xs.length=args.length:=by simpa using e1
   split at hp
   ·rename_i hi
    rw[Array.getElem?_append_left (by simp;omega)] at hv
    have:=e2 i (.pv p) v (by rw[getElem?_map,hp];rfl) (by simpa using hv)
    exact lm this
   ·rename_i hi
    rw[Array.getElem?_append_right (by simp;omega)] at hv
    exact hh _ p v hp (by simpa [hl] using hv))
  refine CallsIn.mono (callsIn_wide (n:=0 - 1).2 hcall) ?_
  rintro e w' ⟨v,O',rfl,hg,hO,hr⟩
  obtain⟨O2,θ2,g1,g2⟩:=KS kk hk hs hg hO hr hob
  subst hd
  refine hK _ _ ⟨O2,θ2,g1.put _ _ _ ?_ ?_ g2⟩
  ·intro t ht
   have:(s.addRes kk ob).n=s.n:=by cases ob<;>rfl
   rw[this]
   exact BT hn t ht
  ·intro t ht
   have:(s.addRes kk ob).kt=s.kt:=by cases ob<;>rfl
   rw[this]
   exact Bm hn t ht
def yW (fz:List (Nat×Option Blk)):List AV->Option (List PV)
 | []=>some []
 | x::l=>match viewPV fz x,yW fz l with
  | some p,some ps=>some (p::ps)
  | _,_=>none
theorem Cr {fz:List (Nat×Option Blk)}:∀ {xs:List AV} {ps:List PV},yW fz xs=some ps->xs.length=ps.length/\∀ (i:Nat) (x:AV) (p:PV),xs[i]? =some x->ps[i]? =some p->viewPV fz x=some p
 | [],ps,h=>by simp[yW] at h;subst h;simp
 | x::l,ps,h=>by
  simp only[yW] at h
  split at h
  ·rename_i p qs hp hq
   cases h
   obtain⟨h1,h2⟩:=Cr hq
   refine⟨by simp[h1],fun i y q hy hq'=> ?_⟩
   cases i with
   | zero=>simp at hy hq';subst hy;subst hq';exact hp
   | succ i=>exact h2 i y q (by simpa using hy) (by simpa using hq')
  ·cases h
def PV.flat : PV->Bool
 | .int _ _=>true
 | .bool _=>true
 | .str _=>true
 | .nilp=>true
 | .nils=>true
 | .nilf=>true
 | .nili=>true
 | .nilm=>true
 | .agg cs=>cs.all fun
  | .int _ _=>true
  | .bool _=>true
  | .str _=>true
  | .nilp=>true
  | .nils=>true
  | .nilf=>true
  | .nili=>true
  | .nilm=>true
  | _=>false
 | .vs _ _=>false
 | .vp _=>false
 | .fn _ _=>false
 | .yld _=>false
 | .mpv _ _ _=>false
 | .mrv _ _ _=>false
 | .raw _=>false
theorem Rd.flat {w:World} {O O':Nat->Prop} {p:PV} {v:Value} (h:Rd w O p v) (hp:p.flat=true):Rd w O' p v:=by
 cases h with
 | int k n=>exact .int k n
 | bool b=>exact .bool b
 | str l=>exact .str l
 | nilp=>exact .nilp
 | nils=>exact .nils
 | nilf=>exact .nilf
 | nili=>exact .nili
 | nilm=>exact .nilm
 | agg cs us h1 h2 h3=>
  refine .agg cs us h1 h2 fun i x u hx hu=> ?_
  have h4:=h3 i x u hx hu
  have h5:=List.all_eq_true.1 hp x (mem_of_getElem? hx)
  cases h4 with
  | int k n=>exact .int k n
  | bool b=>exact .bool b
  | str l=>exact .str l
  | nilp=>exact .nilp
  | nils=>exact .nils
  | nilf=>exact .nilf
  | nili=>exact .nili
  | nilm=>exact .nilm
  | _=>simp at h5
 | _=>simp[PV.flat] at hp
def Res.flat : Res->Bool
 | .p q=>q.flat
 | _=>false
theorem oX (kk:Nat) (hk:ko s kk=true) {fo:Operand} {xs:List Operand} {ts:Array TypeId} {f:Nat} {fa:AV} {caps:List PV} {asx:List AV} {args:List PV} {rs:List Res} (fz:List (Nat×Option Blk)) (ho:o.op= .call { callee:= .value fo,args:=xs.toArray,argTypes:=ts }) (hf:ev s fo=some fa) (hx:evl s xs=some asx)
  (hfz:∀ x∈fz,∃ b,x.2=some b/\aX x.1 s.hp=some b) (hvf:viewPV fz fa=some (.fn f caps)) (hva:yW fz asx=some args) (hB:cY P f=true)
  (h:Fn G P f (args++caps) rs) (hflat:(rs.all Res.flat)=true) (hd:o.dst=d) (hn:dOk s d=true):da ro P c o s (s.put d (some (DV kk rs))):=by
 rintro a w ⟨O,θ,hs⟩ K Q hK
 have hfz':∀ id b,aX id fz=some b->aX id s.hp=some b:=by
  intro id b hl
  obtain⟨b',h1,h2⟩:=hfz _ (eY hl)
  cases h1;exact h2
 obtain⟨e1,e2⟩:=yX hs hx
 obtain⟨e3,e4⟩:=Cr hva
 have hfv:=Ik (O2:=fun _=>False) hs hfz' (fun g h=>h.elim) (fun _ _ _ _ _ _ _ h=>h) hvf (jJ hs hf)
 generalize hfa:a.eval fo=fv at hfv
 cases hfv with
 | fn _ _ us hn' hh=>
  refine⟨fun f _=>trivial,?_⟩
  have hrun:(execOp a.eval o).run P w= .ok (.enter f ((xs.map a.eval).toArray++us)) w:=by
   simp[execOp,ho,resolve,Deferred.ofValue,hfa,invoke,vl hB]
  rw[Oper.semAt_plain _ _ _ (by rw[ho];intro k h;cases h),hrun]
  refine⟨fun h=>by simp[FF,Fence.wide] at h,?_⟩
  have hcall:=h w (fun _=>False) ((xs.map a.eval).toArray++us) (fun _ h=>h.elim) (c.JG hs.jn).shut (by simp[hn'];omega) (fun i p v hp hv=>by
   rw[getElem?_append] at hp
   split at hp
   ·rename_i hi
    rw[Array.getElem?_append_left (by simp;omega)] at hv
    have hi':i < asx.length:=by omega
    exact Ik (O2:=fun _=>False) hs hfz' (fun g h=>h.elim) (fun _ _ _ _ _ _ _ h=>h) (e4 i asx[i] p (getElem?_eq_getElem hi') hp) (e2 i asx[i] v (getElem?_eq_getElem hi') (by simpa using hv))
   ·rename_i hi
    rw[Array.getElem?_append_right (by simp;omega)] at hv
    exact hh _ p v hp (by
     have:xs.length=args.length:=by omega
     simpa [this] using hv))
  refine CallsIn.mono (callsIn_wide (n:=0 - 1).2 hcall) ?_
  rintro e w' ⟨v,O',rfl,hg,_,hr⟩
  have hall:∀ r∈rs,∃ p,r= .p p/\p.flat=true:=by
   intro r hr
   have:=List.all_eq_true.1 hflat r hr
   cases r with
   | p p=>exact⟨p,rfl,this⟩
   | _=>simp[Res.flat] at this
  have hob:qZ rs=some none:=by
   have:∀ rs:List Res,(∀ r∈rs,∃ p,r= .p p/\p.flat=true)->qZ rs=some none:=by
    intro rs
    induction rs with
    | nil=>intro _;rfl
    | cons r rs ih=>
     intro h
     obtain⟨p,rfl,_⟩:=h r (by simp)
     exact ih fun r hr=>h r (by simp[hr])
   exact this rs hall
  have hr':MB w' O w.heap.size rs v:=by
   unfold MB at hr ⊢
   split at hr
   ·rename_i r
    obtain⟨p,rfl,hp⟩:=hall r (by simp)
    exact Rd.flat hr hp
   ·obtain⟨us,h1,h2,h3⟩:=hr
    refine⟨us,h1,h2,fun i r u hr hu=> ?_⟩
    obtain⟨p,rfl,hp⟩:=hall r (mem_of_getElem? hr)
    exact Rd.flat (h3 i _ u hr hu) hp
  obtain⟨O2,θ2,g1,g2⟩:=KS kk hk hs hg (fun _ h=>h) hr' hob
  subst hd
  exact hK _ _ ⟨O2,θ2,g1.put _ _ _ (BT hn) (Bm hn) g2⟩
end
end Go.Abs

namespace Go.Abs
open List
variable {G:List (Nat×List PV)}
open Go.RowKit
section
variable {ro:Option Nat} {P:Program} {c:Cx G} {Q:Exit->Act->World->Prop} {s s':St}
def Cut (c:Cx G) (Q:Exit->Act->World->Prop) (I:St->Prop):Exit->Act->World->Prop
 | .normal,a,w=>∃ s,I s/\Sim c s a w
 | e,a,w=>Q e a w
theorem ZN {k:Code} (I:St->Prop) (h:AW ro P c k (Cut c Q I) s) (h2:∀ s1,I s1->gw c Q .normal s1):AW ro P c k Q s:=fun a w hs=>by
 refine wpIn_mono (h a w hs) fun e a' w' he=> ?_
 cases e with
 | normal=>obtain⟨s1,h3,h4⟩:=he;exact h2 s1 h3 a' w' h4
 | _=>exact he
theorem kf {I:St->Prop} (s1:St) (hI:I s1) (hi:Imp c s s1):gw c (Cut c Q I) .normal s:=fun a w hs=>⟨s1,hI,hi a w hs⟩
theorem gK {I:St->Prop} (h:gw c Q .ret s):gw c (Cut c Q I) .ret s:=h
theorem L6 {I:St->Prop} {id:Nat} (h:gw c Q (.exit id) s):gw c (Cut c Q I) (.exit id) s:=h
def Lp (c:Cx G) (id:Nat) (Q:Exit->Act->World->Prop) (I:St->Prop):Exit->Act->World->Prop
 | .normal,_,_=>False
 | .exit id',a,w=>if id'=id then ∃ s,I s/\Sim c s a w else Q (.exit id') a w
 | e,a,w=>Q e a w
theorem Zd {id:Nat} {body:Code} (n:Nat) (I:St->Prop) (h:Aj ro P c body (Lp c id Q I) n s) (h2:∀ s1,I s1->gw c Q .normal s1):AW ro P c (.block id (.loop body)) Q s:=by
 refine cI fun a w hs=> ?_
 refine wpIn_mono (wpIn_loop_rounds n (h a w hs)) fun e a' w' he=> ?_
 cases e with
 | normal=>exact he.elim
 | exit id'=>
  simp only[Lp] at he
  simp only[Exit.inBlock]
  split at he
  ·rename_i e;subst e
   obtain⟨s1,h3,h4⟩:=he
   simpa using h2 s1 h3 a' w' h4
  ·rename_i e
   simp[e,he]
 | _=>exact he
theorem pR {id:Nat} {I:St->Prop} (s1:St) (hI:I s1) (hi:Imp c s s1):gw c (Lp c id Q I) (.exit id) s:=fun a w hs=>by
 simp only[Lp,if_true]
 exact⟨s1,hI,hi a w hs⟩
theorem ba {id:Nat} {I:St->Prop} (h:gw c Q .ret s):gw c (Lp c id Q I) .ret s:=h
theorem gk {x y:Code} {t:Operand} {b:Bool} (ht:ev s t=some (.pv (.bool b))) (hb:b=true) (h1:AW ro P c x Q s):AW ro P c (.cond t x y) Q s:=
 Vr ht (fun _=>h1) (fun h=>by rw[hb] at h;cases h)
theorem fg {x y:Code} {t:Operand} {b:Bool} (ht:ev s t=some (.pv (.bool b))) (hb:b=false) (h1:AW ro P c y Q s):AW ro P c (.cond t x y) Q s:=
 Vr ht (fun h=>by rw[hb] at h;cases h) (fun _=>h1)
theorem cD {all:List Oper} {o:Oper} {j d:Nat} {want t:Bool} (hg:o.guard=some (j,want)) (hj:((all[j]?).bind (·.dst))=some d) (hn:Nat.blt d s.n=true) (hl:aX d s.fr=some (.pv (.bool t))) (ht:t=want):uf all s o true:=by
 unfold uf;rw[hg];exact⟨d,hj,by simpa [Nat.blt_eq] using hn,.inl ⟨t,hl,by subst ht;simp⟩⟩
theorem uB {all:List Oper} {o:Oper} {j d:Nat} {want t:Bool} (hg:o.guard=some (j,want)) (hj:((all[j]?).bind (·.dst))=some d) (hn:Nat.blt d s.n=true) (hl:aX d s.fr=some (.pv (.bool t))) (ht:t= !want):uf all s o false:=by
 unfold uf;rw[hg];exact⟨d,hj,by simpa [Nat.blt_eq] using hn,.inl ⟨t,hl,by subst ht;cases want<;>rfl⟩⟩
theorem ED {all:List Oper} {o:Oper} {j d:Nat} {want:Bool} (hg:o.guard=some (j,want)) (hj:((all[j]?).bind (·.dst))=some d) (hn:Nat.blt d s.n=true) (hl:aX d s.fr=some (.tup [])):uf all s o false:=by
 unfold uf;rw[hg];exact⟨d,hj,by simpa [Nat.blt_eq] using hn,.inr ⟨hl,rfl⟩⟩
theorem bQ {all:List Oper} {o:Oper} (hg:o.guard=none):uf all s o true:=by unfold uf;rw[hg]
theorem qt {o:Oper} {d:Option Nat} {x y z:Operand} {b:Bool} {v:AV} (ho:o.op= .pick x y z) (hx:ev s x=some (.pv (.bool b))) (hb:b=true) (hv:ev s y=some v) (hd:o.dst=d) (hn:dOk s d=true):da ro P c o s (s.put d (some v)):=
 VD ho hx (by rw[hb];exact hv) hd hn
theorem dI {o:Oper} {d:Option Nat} {x y z:Operand} {b:Bool} {v:AV} (ho:o.op= .pick x y z) (hx:ev s x=some (.pv (.bool b))) (hb:b=false) (hv:ev s z=some v) (hd:o.dst=d) (hn:dOk s d=true):da ro P c o s (s.put d (some v)):=
 VD ho hx (by rw[hb];exact hv) hd hn
theorem bind_some {α β:Type} {x:Option α} {k:α->Option β} {r:β} (h:x.bind k=some r):∃ y,x=some y/\k y=some r:=by
 cases x with
 | none=>cases h
 | some y=>exact⟨y,rfl,h⟩
theorem Sx {β:Type} {b:Bool} {x y:Option β} {r:β} (h:(if b=true then x else y)=some r):(b=true/\x=some r)\/(b=false/\y=some r):=by
 cases b with
 | true=>exact .inl ⟨rfl,by simpa using h⟩
 | false=>exact .inr ⟨rfl,by simpa using h⟩
def dr (n:Int) (b:Int):Option Unit:=if n * b<=140737488355328 then some () else none
theorem uA {n b:Int} {u:Unit} (h:dr n b=some u):n * b<=140737488355328:=by
 unfold dr at h;split at h
 ·assumption
 ·cases h
theorem XL {n m b:Nat} {u:Unit} (h:dr ((n:Int)+(m:Int)) (b:Int)=some u):(n+m) * b<=140737488355328:=by
 have:=uA h
 rw[<- Int.natCast_add,<- Int.natCast_mul] at this
 omega
theorem jr {α β γ:Type} {f:α->γ} {g:β->γ} {l:List α} {m:List β} {b:Nat} {u:Unit} (h:dr ((l.length:Int)+(m.length:Int)) (b:Int)=some u):((l.map f).length+(m.map g).length) * b<=140737488355328:=by
 rw[length_map,length_map];exact XL h
theorem Jd {α β:Type} (f:α->β) (l:List α) (i:Nat) (x:α):(l.map f).set i (f x)=(l.set i x).map f:=by simp
theorem sv {α β:Type} (f:α->β) {l:List α} {i:Int} {y:α} (h:idx l i=some y):(l.map f)[i.toNat]? =some (f y):=by
 rw[getElem?_map,(rM h).2.1];rfl
inductive Ctl (R S:Type) where
 | stop (r:R)
 | next (s:S)
def Ctl.go {R S:Type}:Ctl (Option R) S->(S->Option R)->Option R
 | .stop a,_=>a
 | .next s,k=>k s
def nU {α R S:Type}:Option α->(α->Ctl (Option R) S)->Ctl (Option R) S
 | none,_=> .stop none
 | some x,k=>k x
theorem qd {α R S:Type} {x:Option α} {f:α->Ctl (Option R) S} {k:S->Option R} {r:R} (h:Ctl.go (nU x f) k=some r):∃ y,x=some y/\Ctl.go (f y) k=some r:=by
 cases x with
 | none=>cases h
 | some y=>exact⟨y,rfl,h⟩
theorem mR {R S:Type} {b:Bool} {x y:Ctl (Option R) S} {k:S->Option R} {r:R} (h:Ctl.go (if b=true then x else y) k=some r):(b=true/\Ctl.go x k=some r)\/(b=false/\Ctl.go y k=some r):=by
 cases b with
 | true=>exact .inl ⟨rfl,by simpa using h⟩
 | false=>exact .inr ⟨rfl,by simpa using h⟩
theorem Dl {k:Code} {R S:Type} {X:Ctl (Option R) S} {kk:S->Option R} {r:R} (_hF:Ctl.go X kk=some r) (F:S->St) (h:AW ro P c k (Cut c Q fun s1=>∃ p,s1=F p/\kk p=some r) s) (h2:∀ p,kk p=some r->gw c Q .normal (F p)):AW ro P c k Q s:=
 ZN _ h (by rintro _ ⟨p,rfl,hp⟩;exact h2 p hp)
theorem QD {α:Type} {body:Code} {m:Nat} (S:α->St) (Inv:Nat->α -> Prop) (x0:α) (hi:Imp c s (S x0)) (h0:Inv m x0) (hz:∀ x,¬ Inv 0 x)
  (hs:∀ n x,Inv (n+1) x->(∀ x',Inv n x'->Aj ro P c body Q n (S x'))->Aj ro P c body Q (n+1) (S x)):Aj ro P c body Q m s:=by
 refine Wv hi ?_
 have:∀ n x,Inv n x->Aj ro P c body Q n (S x):=by
  intro n
  induction n with
  | zero=>intro x h;exact absurd h (hz x)
  | succ n ih=>intro x h;exact hs n x h ih
 exact this m x0 h0
theorem Wo {w:World} {O:Nat->Prop}:∀ g,¬ (Fn.cx (G:=G) w O).L g:=fun _ h=>h
def FzH (hp:List (Nat×Option Blk)):List (Nat×Option Blk)->Prop
 | []=>True
 | (id,some b)::l=>aX id hp=some b/\FzH hp l
 | (_,none)::_=>False
theorem FzH.spec {hp:List (Nat×Option Blk)}:∀ {fz:List (Nat×Option Blk)},FzH hp fz->∀ x∈fz,∃ b,x.2=some b/\aX x.1 hp=some b
 | [],_,x,hx=>by simp at hx
 | (id,some b)::l,h,x,hx=>by
  rcases List.mem_cons.1 hx with e | e
  ·subst e;exact⟨b,rfl,h.1⟩
  ·exact FzH.spec h.2 x e
 | (_,none)::_,h,_,_=>h.elim
theorem dM : evl s []=some []:=rfl
theorem bm {x:Operand} {l:List Operand} {v:AV} {vs:List AV} (h1:ev s x=some v) (h2:evl s l=some vs):evl s (x::l)=some (v::vs):=by simp[evl,h1,h2]
theorem zP : evs s []=some []:=rfl
theorem jI {i:Nat} {x:Operand} {l:List (Nat×Operand)} {v:AV} {vs:List (Nat×AV)} (h1:ev s x=some v) (h2:evs s l=some vs):evs s ((i,x)::l)=some ((i,v)::vs):=by simp[evs,h1,h2]
theorem BE {k:Nat} (h:s.free.elem k=true):ko s k=true:=by simp only[ko,h,Bool.or_true]
theorem ib (t e sz kk:Nat) (hk:ko s kk=true) (h:aX t s.fr=some (.pv .nils)):Imp c s ((s.addAt kk none (.row e sz [])).put (some t) (some (.ls kk))):=by
 rintro a w ⟨O,θ,hs⟩
 obtain⟨O',θ',h1,h2,h3,h4⟩:=hs.addAt (w':=w) (row:=none) (v:= .slice none 0 0) (b:= .row e sz []) kk hk none (by simp) (fun _=>rfl) ⟨rfl,rfl,rfl,Nat.le_refl _,fun _ _ _=>rfl⟩ (by simp[bU]) rfl
   (fun O' θ' _ _=>⟨[],zU w e sz,⟨by simp,by simp,by simp,fun i j row x u h=>by simp at h⟩⟩)
 refine⟨O',θ',h4.size,h4.df,?_,h4.hp,h4.inj,h4.dom,h4.flt,h4.one,h4.olt,h4.ext,h4.xo,h4.xlt,h4.llt,h4.marks,h4.oc,h4.kp,h4.jn⟩
 intro t' x hx
 simp only[St.put,dH] at hx
 split at hx
 ·rename_i e;subst e;cases hx
  have:=lm (hs.fr _ _ h)
  generalize a.tmps.getD t undef=v at this ⊢
  cases this
  exact .ls _ _ h3
 ·exact h4.fr _ _ hx
theorem jR (id off t e sz kk:Nat) {cells:List AV} (hk:ko s kk=true) (hb:aX id s.hp=some (.box t cells)) (h:cells[off]? =some (.pv .nils)):Imp c s ((s.addAt kk none (.row e sz [])).setBlk id (some (.box t (cells.set off (.ls kk))))):=by
 rintro a w ⟨O,θ,hs⟩
 obtain⟨O',θ',h1,h2,h3,h4⟩:=hs.addAt (w':=w) (row:=none) (v:= .slice none 0 0) (b:= .row e sz []) kk hk none (by simp) (fun _=>rfl) ⟨rfl,rfl,rfl,Nat.le_refl _,fun _ _ _=>rfl⟩ (by simp[bU]) rfl
   (fun O' θ' _ _=>⟨[],zU w e sz,⟨by simp,by simp,by simp,fun i j row x u h=>by simp at h⟩⟩)
 have hne:id≠kk:=by
  intro e;subst e
  obtain⟨v,hv,_⟩:=hs.hp id _ hb
  have h5:=hs.dom id v hv
  simp only[ko,Bool.or_eq_true,elem_eq_mem,decide_eq_true_eq] at hk
  rcases hk with hk | hk
  ·have:=Nat.eq_of_beq_eq_true hk;omega
  ·exact h5.2 hk
 have hb':aX id (s.addAt kk none (.row e sz [])).hp=some (.box t cells):=by
  simp only[St.addAt,dH]
  rw[if_neg (fun e=>hne e.symm)]
  exact hb
 obtain⟨v,hv,⟨g,us,rfl,k1,k2,k3⟩,k4⟩:=h4.hp id _ hb'
 refine⟨O',θ',h4.upd hb' hv (World.grownBy.refl w _) ⟨g,us,rfl,k1,by simpa using k2,fun j x u hx hu=> ?_⟩⟩
 rw[getElem?_set] at hx
 split at hx
 ·rename_i e;subst e
  split at hx
  ·cases hx
   obtain⟨m1,m2⟩:=k3 off _ u h hu
   have:=lm m1
   cases this
   exact⟨.ls _ _ h3,m2⟩
  ·cases hx
 ·exact k3 j x u hx hu
variable {o:Oper} {d:Option Nat}
end
end Go.Abs

namespace Go.Abs
open List
variable {G:List (Nat×List PV)}
open Go.RowKit
structure Eff where
 need:List (Nat×AV):=[]
 hneed:List (Nat×Blk):=[]
 names:List Nat:=[]
 dst:Option Nat:=none
 val:Option AV:=none
 upd:List (Nat×Option Blk):=[]
structure Mid where
 fr:List (Nat×Option AV)
 hp:List (Nat×Option Blk)
 free:List Nat
def Mid.st (m:Mid) (n:Nat) (df:List Deferred) (next:Nat) (ys:Nat) (kt:List Nat):St:={ n:=n,fr:=m.fr,hp:=m.hp,next:=next,df:=df,free:=m.free,ys:=ys,kt:=kt }
def Eff.apply (e:Eff) (m:Mid):Mid:=
 { fr:=match e.dst with | some d=>(d,e.val)::m.fr | none=>m.fr,hp:=e.upd++m.hp,free:=match e.names with | []=>m.free | ns=>m.free.filter fun x=> !(ns.elem x) }
def HasT (fr:List (Nat×Option AV)):List (Nat×AV)->Prop
 | []=>True
 | (t,x)::l=>aX t fr=some x/\HasT fr l
def HasH (hp:List (Nat×Option Blk)):List (Nat×Blk)->Prop
 | []=>True
 | (id,b)::l=>aX id hp=some b/\HasH hp l
def HasN (free:List Nat):List Nat->Prop
 | []=>True
 | k::l=>free.elem k=true/\HasN free l
def Has (e:Eff) (m:Mid):Prop:=HasT m.fr e.need/\HasH m.hp e.hneed/\HasN m.free e.names
theorem HasT.iff {fr:List (Nat×Option AV)}:∀ {l:List (Nat×AV)},HasT fr l↔∀ t x,(t,x)∈l->aX t fr=some x
 | []=>by simp[HasT]
 | (t,x)::l=>by
  simp only[HasT,HasT.iff (l:=l),mem_cons]
  constructor
  ·rintro ⟨h1,h2⟩ t' x' (h | h)
   ·cases h;exact h1
   ·exact h2 t' x' h
  ·intro h
   exact⟨h t x (.inl rfl),fun t' x' h'=>h t' x' (.inr h')⟩
theorem HasH.iff {hp:List (Nat×Option Blk)}:∀ {l:List (Nat×Blk)},HasH hp l↔∀ t x,(t,x)∈l->aX t hp=some x
 | []=>by simp[HasH]
 | (t,x)::l=>by
  simp only[HasH,HasH.iff (l:=l),mem_cons]
  constructor
  ·rintro ⟨h1,h2⟩ t' x' (h | h)
   ·cases h;exact h1
   ·exact h2 t' x' h
  ·intro h
   exact⟨h t x (.inl rfl),fun t' x' h'=>h t' x' (.inr h')⟩
theorem HasN.iff {free:List Nat}:∀ {l:List Nat},HasN free l↔∀ k∈l,k∈free
 | []=>by simp[HasN]
 | k::l=>by simp[HasN,HasN.iff (l:=l)]
section
variable (ro:Option Nat) (P:Program) (c:Cx G)
def ya (all:List Oper) (o:Oper) (s s':St):Prop:=(uf all s o true/\da ro P c o s s')\/(uf all s o false/\ktB s o.dst=true/\s'=s.put o.dst (some (.tup [])))
def ut (all:List Oper) (n:Nat) (df:List Deferred) (next:Nat) (ys:Nat) (kt:List Nat):List Oper->List Eff->Prop
 | [],[]=>True
 | o::os,e::es=>(∀ m:Mid,Has e m->ya ro P c all o (m.st n df next ys kt) ((e.apply m).st n df next ys kt))/\ut all n df next ys kt os es
 | _,_=>False
end
def A7 : List Eff->Mid->Prop
 | [],_=>True
 | e::es,m=>Has e m/\A7 es (e.apply m)
def wT (e:Eff):List Nat:=e.dst.toList
def rT (e:Eff):List Nat:=e.need.map (·.1)
def wH (e:Eff):List Nat:=e.upd.map (·.1)
def rH (e:Eff):List Nat:=e.hneed.map (·.1)
def jW (a b:Eff):Bool:=
 (wT a).any (fun t=>(wT b).elem t||(rT b).elem t)||(wT b).any (fun t=>(rT a).elem t)||
 (wH a).any (fun t=>(wH b).elem t||(rH b).elem t)||(wH b).any (fun t=>(rH a).elem t)
inductive Anc (ops:List Oper) (i:Nat):Nat->Prop
 | one (j:Nat) (o:Oper) (e:Edge) (ho:ops[j]? =some o) (he:e∈o.after) (hb:Region.binds .any e=true) (hi:e.on=i):Anc ops i j
 | more (j:Nat) (o:Oper) (e:Edge) (ho:ops[j]? =some o) (he:e∈o.after) (hb:Region.binds .any e=true) (h:Anc ops i e.on):Anc ops i j
def lU (o:Oper):List Nat:=(o.after.toList.filter (Region.binds .any)).map (·.on)
def Xd : List Oper->List Nat->List Nat
 | [],acc=>acc
 | o::os,acc=>Xd os (acc++[(lU o).foldl (fun m k=>m ||| (2 ^ k) ||| acc.getD k 0) 0])
def JJ : Nat->List Oper->Bool
 | _,[]=>true
 | i,o::os=>(lU o).all (fun k=>Nat.blt k i)&&JJ (i+1) os
def Ya (masks:List Nat) (es:List Eff):Bool:=
 (List.range es.length).all fun j=>match es[j]? with
  | some ej=>(List.range j).all fun i=>match es[i]? with
   | some ei=> !(jW ei ej)||Nat.testBit (masks.getD j 0) i
   | none=>true
  | none=>true
def XT (es:List Eff):Bool:=es.all fun e=>e.names.all fun k=>(wH e).elem k
def Bv (ops:List Oper) (es:List Eff):Bool:=JJ 0 ops&&(Ya (Xd ops []) es&&XT es)
theorem za : ∀ (os:List Oper) (k:Nat),JJ k os=true->∀ i o,os[i]? =some o->∀ x∈lU o,x < k+i
 | [],k,h,i,o,ho,x,hx=>by simp at ho
 | o'::os,k,h,i,o,ho,x,hx=>by
  simp only[JJ,Bool.and_eq_true,all_eq_true] at h
  cases i with
  | zero=>simp at ho;subst ho;have:=h.1 x hx;simpa [Nat.blt_eq] using this
  | succ i=>
   have:=za os (k+1) h.2 i o (by simpa using ho) x hx
   omega
theorem jQ {o:Oper} {k:Nat}:k∈lU o↔∃ e∈o.after,Region.binds .any e=true/\e.on=k:=by
 simp only[lU,mem_map,mem_filter,Array.mem_toList_iff]
 constructor
 ·rintro ⟨e,⟨h1,h2⟩,h3⟩;exact⟨e,h1,h2,h3⟩
 ·rintro ⟨e,h1,h2,h3⟩;exact⟨e,⟨h1,h2⟩,h3⟩
theorem AC (acc:List Nat) (i:Nat):∀ (l:List Nat) (m:Nat),Nat.testBit (l.foldl (fun m k=>m ||| (2 ^ k) ||| acc.getD k 0) m) i=true->Nat.testBit m i=true\/∃ k∈l,k=i\/Nat.testBit (acc.getD k 0) i=true
 | [],m,h=> .inl h
 | k::l,m,h=>by
  rcases AC acc i l _ h with h1 | ⟨k',h1,h2⟩
  ·simp only[Nat.testBit_or,Bool.or_eq_true,Nat.testBit_two_pow,decide_eq_true_eq] at h1
   rcases h1 with(h1 | h1) | h1
   ·exact .inl h1
   ·exact .inr ⟨k,by simp,.inl h1⟩
   ·exact .inr ⟨k,by simp,.inr h1⟩
  ·exact .inr ⟨k',by simp[h1],h2⟩
theorem zJ (ops:List Oper) (i:Nat):∀ (os:List Oper) (pre:List Oper) (acc:List Nat),ops=pre++os->acc.length=pre.length->(∀ j,Nat.testBit (acc.getD j 0) i=true->Anc ops i j)->∀ j,Nat.testBit ((Xd os acc).getD j 0) i=true->Anc ops i j
 | [],pre,acc,_,_,h,j,hj=>h j hj
 | o::os,pre,acc,he,hl,h,j,hj=>by
  refine zJ ops i os (pre++[o]) _ (by simp[he]) (by simp[hl]) ?_ j hj
  intro j hj
  simp only[getD,getElem?_append] at hj
  split at hj
  ·exact h j (by simpa [getD] using hj)
  ·rename_i hlt
   by_cases hj0:j - acc.length=0
   ·rw[hj0] at hj
    simp only[getElem?_cons_zero,Option.getD_some] at hj
    have hjl:j=pre.length:=by omega
    have ho:ops[j]? =some o:=by rw[he,hjl];simp
    rcases AC acc i (lU o) 0 hj with h1 | ⟨k,h1,h2⟩
    ·simp at h1
    ·obtain⟨e,e1,e2,e3⟩:=jQ.1 h1
     rcases h2 with h2 | h2
     ·exact .one j o e ho e1 e2 (e3.trans h2)
     ·exact .more j o e ho e1 e2 (by rw[e3];exact h k h2)
   ·have:¬ (j - acc.length < 1):=by omega
    rw[getElem?_eq_none (by simp;omega)] at hj
    simp at hj
theorem EZ {ops:List Oper} {es:List Eff} (h:Bv ops es=true):(∀ i o,ops[i]? =some o->∀ x∈lU o,x < i)/\(∀ i j ei ej,i < j->es[i]? =some ei->es[j]? =some ej->jW ei ej=true->Anc ops i j)/\∀ e∈es,∀ k∈e.names,k∈wH e:=by
 simp only[Bv,Bool.and_eq_true] at h
 refine⟨fun i o ho x hx=>by have:=za ops 0 h.1 i o ho x hx;omega,fun i j ei ej hij hi hj hc=> ?_,fun e he k hk=>by
  have:=List.all_eq_true.1 h.2.2 e he
  have:=List.all_eq_true.1 this k hk
  simpa using this⟩
 have h2:=h.2.1
 simp only[Ya,all_eq_true,mem_range] at h2
 have hjl:j < es.length:=(List.getElem?_eq_some_iff.1 hj).1
 have:=h2 j hjl
 rw[hj] at this
 simp only[all_eq_true,mem_range] at this
 have:=this i hij
 rw[hi] at this
 simp only[hc,Bool.not_true,Bool.false_or] at this
 exact zJ ops i ops [] [] rfl rfl (by intro j h;simp at h) j this
def iA (p:Nat->Bool):Nat->List Eff->Mid->Mid
 | _,[],m=>m
 | k,e::es,m=>iA p (k+1) es (bif p k then e.apply m else m)
theorem un {α:Type} {t k:Nat} (x:Option α) (l:List (Nat×Option α)) (h:k≠t):aX t ((k,x)::l)=aX t l:=by rw[dH,if_neg h]
theorem sw {e:Eff} {m:Mid} {t:Nat} (h:t ∉ wT e):aX t (e.apply m).fr=aX t m.fr:=by
 unfold Eff.apply
 cases hd:e.dst with
 | none=>rfl
 | some d=>simp only;exact un _ _ (fun e'=>h (by simp[wT,hd,e']))
theorem rF {α:Type} {t:Nat}:∀ {l m:List (Nat×Option α)},t ∉ l.map (·.1)->aX t (l++m)=aX t m
 | [],_,_=>rfl
 | (k,x)::l,m,h=>by
  simp only[map_cons,mem_cons,not_or] at h
  rw[cons_append,un _ _ (fun e=>h.1 e.symm)]
  exact rF h.2
theorem rb {α:Type} {t:Nat}:∀ {l m m':List (Nat×Option α)},t∈l.map (·.1)->aX t (l++m)=aX t (l++m')
 | [],_,_,h=>by simp at h
 | (k,x)::l,m,m',h=>by
  by_cases e:k=t
  ·subst e;simp[dH]
  ·rw[cons_append,cons_append,un _ _ e,un _ _ e]
   simp only[map_cons,mem_cons] at h
   rcases h with h | h
   ·exact absurd h.symm e
   ·exact rb h
theorem sC {e:Eff} {m:Mid} {t:Nat} (h:t ∉ wH e):aX t (e.apply m).hp=aX t m.hp:=
 rF h
theorem vc {e:Eff} {m:Mid} {t:Nat}:t∈(e.apply m).free↔t∈m.free/\t ∉ e.names:=by
 unfold Eff.apply
 cases h:e.names with
 | nil=>simp
 | cons k l=>simp
theorem xD {e:Eff} {m:Mid} {t:Nat} (h:t ∉ e.names):t∈(e.apply m).free↔t∈m.free:=by
 rw[vc];simp[h]
theorem Aa {p q:Nat->Bool} {t:Nat}:∀ (es:List Eff) (k:Nat) (m m':Mid),aX t m.fr=aX t m'.fr->(∀ j e,es[j]? =some e->t∈wT e->p (k+j)=q (k+j))->aX t (iA p k es m).fr=aX t (iA q k es m').fr
 | [],_,_,_,h,_=>h
 | e::es,k,m,m',h,hpq=>by
  refine Aa es (k+1) _ _ ?_ fun j e' hj ht=>by have:=hpq (j+1) e' (by simpa using hj) ht;rw[show k+1 + j=k+(j+1) by omega];exact this
  by_cases ht:t∈wT e
  ·have:=hpq 0 e rfl ht
   simp only[Nat.add_zero] at this
   rw[this]
   cases q k with
   | false=>exact h
   | true=>
    simp only[cond_true]
    unfold Eff.apply
    cases hd:e.dst with
    | none=>simp[wT,hd] at ht
    | some d=>simp only[wT,hd,Option.toList_some,mem_singleton] at ht;subst ht;simp[dH]
  ·have e1:aX t (bif p k then e.apply m else m).fr=aX t m.fr:=by cases p k with
    | false=>rfl
    | true=>exact sw ht
   have e2:aX t (bif q k then e.apply m' else m').fr=aX t m'.fr:=by cases q k with
    | false=>rfl
    | true=>exact sw ht
   rw[e1,e2,h]
theorem zO {p q:Nat->Bool} {t:Nat}:∀ (es:List Eff) (k:Nat) (m m':Mid),aX t m.hp=aX t m'.hp->(∀ j e,es[j]? =some e->t∈wH e->p (k+j)=q (k+j))->aX t (iA p k es m).hp=aX t (iA q k es m').hp
 | [],_,_,_,h,_=>h
 | e::es,k,m,m',h,hpq=>by
  refine zO es (k+1) _ _ ?_ fun j e' hj ht=>by have:=hpq (j+1) e' (by simpa using hj) ht;rw[show k+1 + j=k+(j+1) by omega];exact this
  by_cases ht:t∈wH e
  ·have:=hpq 0 e rfl ht
   simp only[Nat.add_zero] at this
   rw[this]
   cases q k with
   | false=>exact h
   | true=>
    simp only[cond_true,Eff.apply]
    by_cases hu:t∈e.upd.map (·.1)
    ·exact rb hu
    ·rw[rF hu,rF hu,h]
  ·have e1:aX t (bif p k then e.apply m else m).hp=aX t m.hp:=by cases p k with
    | false=>rfl
    | true=>exact sC ht
   have e2:aX t (bif q k then e.apply m' else m').hp=aX t m'.hp:=by cases q k with
    | false=>rfl
    | true=>exact sC ht
   rw[e1,e2,h]
theorem wM {p q:Nat->Bool} {t:Nat}:∀ (es:List Eff) (k:Nat) (m m':Mid),(t∈m.free↔t∈m'.free)->(∀ j e,es[j]? =some e->t∈e.names->p (k+j)=q (k+j))->(t∈(iA p k es m).free↔t∈(iA q k es m').free)
 | [],_,_,_,h,_=>h
 | e::es,k,m,m',h,hpq=>by
  refine wM es (k+1) _ _ ?_ fun j e' hj ht=>by have:=hpq (j+1) e' (by simpa using hj) ht;rw[show k+1 + j=k+(j+1) by omega];exact this
  by_cases ht:t∈e.names
  ·have:=hpq 0 e rfl ht
   simp only[Nat.add_zero] at this
   rw[this]
   cases q k with
   | false=>exact h
   | true=>simp only[cond_true,vc,h]
  ·have e1:t∈(bif p k then e.apply m else m).free↔t∈m.free:=by cases p k with
    | false=>exact Iff.rfl
    | true=>exact xD ht
   have e2:t∈(bif q k then e.apply m' else m').free↔t∈m'.free:=by cases q k with
    | false=>exact Iff.rfl
    | true=>exact xD ht
   rw[e1,e2,h]
theorem BL : ∀ (es:List Eff) (k:Nat) (m:Mid),A7 es m->∀ i e,es[i]? =some e->Has e (iA (fun j=>Nat.blt j (k+i)) k (es.take i) m)
 | [],_,_,_,i,e,h=>by simp at h
 | e'::es,k,m,h,0,e,hi=>by simp at hi;subst hi;exact h.1
 | e'::es,k,m,h,i+1,e,hi=>by
  have:=BL es (k+1) (e'.apply m) h.2 i e (by simpa using hi)
  simp only[take_succ_cons,iA]
  have hb:Nat.blt k (k+(i+1))=true:=by simp[Nat.blt_eq]
  rw[hb,cond_true,show k+(i+1)=k+1 + i by omega]
  exact this
theorem uZ {p q:Nat->Bool}:∀ (es:List Eff) (k:Nat) (m:Mid),(∀ j,j < es.length->p (k+j)=q (k+j))->iA p k es m=iA q k es m
 | [],_,_,_=>rfl
 | e::es,k,m,h=>by
  have h0:=h 0 (by simp)
  simp only[Nat.add_zero] at h0
  simp only[iA,h0]
  exact uZ es (k+1) _ fun j hj=>by have:=h (j+1) (by simp;omega);rw[show k+1 + j=k+(j+1) by omega];exact this
theorem uF : ∀ (es:List Eff) (k:Nat) (m:Mid),iA (fun _=>false) k es m=m
 | [],_,_=>rfl
 | e::es,k,m=>by simp only[iA,cond_false];exact uF es (k+1) m
theorem Nt (es:List Eff):∀ (i k:Nat) (m:Mid),iA (fun j=>Nat.blt j (k+i)) k (es.take i) m=iA (fun j=>Nat.blt j (k+i)) k es m:=by
 induction es with
 | nil=>intro i k m;simp[iA]
 | cons e es ih=>
  intro i k m
  cases i with
  | zero=>
   simp only[take_zero,iA]
   rw[uZ (q:=fun _=>false) es (k+1) _ (fun j _=>by simp[Nat.blt_eq,Bool.eq_false_iff];omega)]
   rw[uF]
   simp[Bool.eq_false_iff.2 (show ¬ Nat.blt k k=true by simp[Nat.blt_eq])]
  | succ i=>
   simp only[take_succ_cons,iA]
   have:=ih i (k+1) (bif Nat.blt k (k+(i+1)) then e.apply m else m)
   rw[show k+(i+1)=k+1 + i by omega] at this ⊢
   exact this
theorem DY {q:Nat->Bool} {t:Nat}:∀ (es:List Eff) (k i:Nat) (m m':Mid) (e:Eff),es[i]? =some e->q (k+i)=true->t∈wT e->(∀ j e',i < j->es[j]? =some e'->t∈wT e'->q (k+j)=false)->aX t (iA q k es m).fr=aX t (e.apply m').fr
 | [],_,i,_,_,e,h,_,_,_=>by simp at h
 | e'::es,k,0,m,m',e,h,hq,ht,hj=>by
  simp at h;subst h
  simp only[Nat.add_zero] at hq
  simp only[iA,hq,cond_true]
  rw[Aa (q:=fun _=>false) es (k+1) (e'.apply m) (e'.apply m) rfl (fun j e2 h2 h3=>by have:=hj (j+1) e2 (by omega) (by simpa using h2) h3;rw[show k+1 + j=k+(j+1) by omega];exact this),uF]
  unfold Eff.apply
  cases hd:e'.dst with
  | none=>simp[wT,hd] at ht
  | some d=>simp only[wT,hd,Option.toList_some,mem_singleton] at ht;subst ht;simp[dH]
 | e'::es,k,i+1,m,m',e,h,hq,ht,hj=>by
  simp only[iA]
  exact DY es (k+1) i _ m' e (by simpa using h) (by rw[show k+1 + i=k+(i+1) by omega];exact hq) ht (fun j e2 h1 h2 h3=>by have:=hj (j+1) e2 (by omega) (by simpa using h2) h3;rw[show k+1 + j=k+(j+1) by omega];exact this)
theorem xN {q:Nat->Bool} {t:Nat}:∀ (es:List Eff) (k i:Nat) (m m':Mid) (e:Eff),es[i]? =some e->q (k+i)=true->t∈wH e->(∀ j e',i < j->es[j]? =some e'->t∈wH e'->q (k+j)=false)->aX t (iA q k es m).hp=aX t (e.apply m').hp
 | [],_,i,_,_,e,h,_,_,_=>by simp at h
 | e'::es,k,0,m,m',e,h,hq,ht,hj=>by
  simp at h;subst h
  simp only[Nat.add_zero] at hq
  simp only[iA,hq,cond_true]
  rw[zO (q:=fun _=>false) es (k+1) (e'.apply m) (e'.apply m) rfl (fun j e2 h2 h3=>by have:=hj (j+1) e2 (by omega) (by simpa using h2) h3;rw[show k+1 + j=k+(j+1) by omega];exact this),uF]
  exact rb ht
 | e'::es,k,i+1,m,m',e,h,hq,ht,hj=>by
  simp only[iA]
  exact xN es (k+1) i _ m' e (by simpa using h) (by rw[show k+1 + i=k+(i+1) by omega];exact hq) ht (fun j e2 h1 h2 h3=>by have:=hj (j+1) e2 (by omega) (by simpa using h2) h3;rw[show k+1 + j=k+(j+1) by omega];exact this)
theorem ye {q:Nat->Bool} {t:Nat}:∀ (es:List Eff) (k:Nat) (m:Mid),t∈(iA q k es m).free->t∈m.free/\∀ j e,es[j]? =some e->q (k+j)=true->t ∉ e.names
 | [],_,_,h=>⟨h,by simp⟩
 | e'::es,k,m,h=>by
  simp only[iA] at h
  obtain⟨h1,h2⟩:=ye es (k+1) _ h
  have h3:t∈m.free/\(q k=true->t ∉ e'.names):=by
   cases hq:q k with
   | false=>rw[hq] at h1;exact⟨h1,by simp⟩
   | true=>
    rw[hq] at h1
    simp only[cond_true,vc] at h1
    exact⟨h1.1,fun _=>h1.2⟩
  refine⟨h3.1,fun j e hj hqj=> ?_⟩
  cases j with
  | zero=>simp at hj;subst hj;exact h3.2 (by simpa using hqj)
  | succ j=>exact h2 j e (by simpa using hj) (by rw[show k+1 + j=k+(j+1) by omega];exact hqj)
section
variable {ro:Option Nat} {P:Program} {c:Cx G} {Q:Exit->Act->World->Prop} {s s':St}
theorem QP (hn:s'.n=s.n) (hys:s'.ys=s.ys) (hkt:s'.kt=s.kt) (hnext:s'.next=s.next) (hfr:∀ t x,aX t s'.fr=some x->aX t s.fr=some x) (hhp:∀ t x,aX t s'.hp=some x->aX t s.hp=some x) (hfree:∀ k,k∈s'.free->k∈s.free):Imp c s s':=by
 rintro a w ⟨O,θ,h⟩
 exact⟨O,θ,h.size.trans hn.symm,h.df,fun t x hx=>h.fr t x (hfr t x hx),fun id b hb=>h.hp id b (hhp id b hb),fun i j bi bj vi vj g hi hj=>h.inj i j bi bj vi vj g (hhp i bi hi) (hhp j bj hj),
  fun id v hv=>⟨by rw[hnext];exact(h.dom id v hv).1,fun hm=>(h.dom id v hv).2 (hfree id hm)⟩,fun k hk=>by rw[hnext];exact h.flt k (hfree k hk),h.one,h.olt,h.ext,h.xo,h.xlt,h.llt,h.marks,h.oc,by rw[hkt];exact h.kp,by
   rw[hys]
   refine c.Jst h.jn ⟨rfl,rfl,rfl,Nat.le_refl _,fun _ _ _=>rfl,fun g h=> .inl h,fun g h _=>h,h.olt,fun g hI=> .inl ?_⟩
   rcases hI with hI | ⟨id,b,v,h1,h2,h3⟩ | hI
   ·exact .inl hI
   ·exact .inr (.inl ⟨id,b,v,hhp id b h1,h2,h3⟩)
   ·exact .inr (.inr hI)⟩
theorem zH (k:Nat):Imp c s { s with next:=s.next+k,free:=(List.range k).map (s.next+·) }:=by
 rintro a w ⟨O,θ,h⟩
 refine⟨O,θ,h.size,h.df,h.fr,h.hp,h.inj,fun id v hv=>⟨?_,fun hm=> ?_⟩,fun j hj=> ?_,h.one,h.olt,h.ext,h.xo,h.xlt,h.llt,h.marks,h.oc,h.kp,h.jn⟩
 ·have:=(h.dom id v hv).1;show id < s.next+k;omega
 ·obtain⟨j,hj,e⟩:=List.mem_map.1 hm
  have:=(h.dom id v hv).1
  simp at hj;omega
 ·obtain⟨j',hj',e⟩:=List.mem_map.1 hj
  simp at hj'
  show j < s.next+k
  omega
theorem Bw {all:List Oper} {n next ys:Nat} {kt:List Nat} {df:List Deferred}:∀ {l:List Oper} {es:List Eff},ut ro P c all n df next ys kt l es->l.length=es.length/\∀ (i:Nat) (o:Oper) (e:Eff),l[i]? =some o->es[i]? =some e->∀ m:Mid,Has e m->ya ro P c all o (m.st n df next ys kt) ((e.apply m).st n df next ys kt)
 | [],[],_=>by simp
 | o::os,e::es,h=>by
  obtain⟨h1,h2⟩:=Bw h.2
  refine⟨by simp[h1],fun i o' e' ho he m hm=> ?_⟩
  cases i with
  | zero=>simp at ho he;subst ho;subst he;exact h.1 m hm
  | succ i=>exact h2 i o' e' (by simpa using ho) (by simpa using he) m hm
 | [],_::_,h=>by simp[ut] at h
 | _::_,[],h=>by simp[ut] at h
theorem uw {ops:Array Oper} {listed:Array Bool} {i:Nat}:i∈Region.ready .any ops listed↔i < ops.size/\listed.getD i true=false/\∃ o,ops[i]? =some o/\∀ e∈o.after,Region.binds .any e=true->listed.getD e.on false=true:=by
 unfold Region.ready
 rw[mem_filter,mem_range]
 constructor
 ·rintro ⟨h1,h2⟩
  simp only[Bool.and_eq_true,Bool.not_eq_true'] at h2
  refine⟨h1,h2.1,ops[i],by simp[h1],fun e he hb=> ?_⟩
  have h3:=h2.2
  rw[show ops[i]? =some ops[i] by simp[h1]] at h3
  simp only[Option.map_some,Option.getD_some] at h3
  have:=Array.all_eq_true_iff_forall_mem.1 h3 e he
  simpa [hb] using this
 ·rintro ⟨h1,h2,o,ho,h3⟩
  refine⟨h1,?_⟩
  simp only[h2,Bool.not_false,Bool.true_and,ho,Option.map_some,Option.getD_some]
  refine Array.all_eq_true_iff_forall_mem.2 fun e he=> ?_
  cases hb:Region.binds .any e with
  | false=>simp
  | true=>simpa using h3 e he hb
end
end Go.Abs

/- A region that draws its order; an operation that reads a block may come ahead of some that write it, between them, or behind. -/
namespace Go.Abs
open List
variable {G:List (Nat×List PV)}
open Go.RowKit
def exB (hid:Nat) (ep eq2:Eff):Bool:=ep.upd.isEmpty&&(rH ep==[hid])&&(wT ep).all (fun t=> !((wT eq2).elem t)&& !((rT eq2).elem t))&&(wT eq2).all fun t=> !((rT ep).elem t)
theorem QH {hid:Nat} {ep eq2:Eff} (h:exB hid ep eq2=true):wH ep=[]/\True/\rH ep=[hid]/\(∀ t∈wT ep,t ∉ wT eq2/\t ∉ rT eq2)/\∀ t∈wT eq2,t ∉ rT ep:=by
 simp only[exB,Bool.and_eq_true,all_eq_true,beq_iff_eq,isEmpty_iff] at h
 obtain⟨⟨⟨h1,h2⟩,h3⟩,h4⟩:=h
 exact⟨by simp[wH,h1],trivial,h2,fun t ht=>by have:=h3 t ht;simpa using this,fun t ht=>by have:=h4 t ht;simpa using this⟩
section
variable {ro:Option Nat} {P:Program} {c:Cx G} {Q:Exit->Act->World->Prop} {s s':St}
theorem Nb {id n next ys:Nat} {kt:List Nat} {df:List Deferred} {l:List Oper} (es:List Eff) (m0:Mid) (p hid:Nat) (qs:List Nat) (hQ:∀ q∈qs,∃ ep op eq2 bE,es[p]? =some ep/\l[p]? =some op/\es[q]? =some eq2/\p < q/\exB hid ep eq2=true/\aX hid eq2.upd=some bE/\∀ m:Mid,Has { ep with hneed:=[(hid,bE)] } m->ya ro P c l op (m.st n df next ys kt) ((ep.apply m).st n df next ys kt))
   (hm:P.follows .mixedOrders=true) (hs0:s=m0.st n df next ys kt) (hF:ut ro P c l n df next ys kt l es) (hT:A7 es m0) (hEdge:∀ i o,l[i]? =some o->∀ x∈lU o,x < i) (hClash:∀ i j ei ej,i < j->es[i]? =some ei->es[j]? =some ej->jW ei ej=true->¬ (i=p/\j∈qs)->Anc l i j) (hNames:∀ e∈es,∀ k∈e.names,k∈wH e)
  (h:gw c Q .normal ((iA (fun _=>true) 0 es m0).st n df next ys kt)):AW ro P c (.region id l.toArray true) Q s:=by
 subst hs0
 obtain⟨hlen,hfact⟩:=Bw hF
 have hX:∀ q∈qs,∃ ep eq2,es[p]? =some ep/\es[q]? =some eq2/\wH ep=[]/\(∀ t∈wT ep,t ∉ wT eq2/\t ∉ rT eq2)/\∀ t∈wT eq2,t ∉ rT ep:=fun q hqm=>by
  obtain⟨ep,op,eq2,bE,h0,-,h1,h2,h3,h4,h5⟩:=hQ q hqm
  obtain⟨x1,x2,x3,x4,x5⟩:=QH h3
  exact⟨ep,eq2,h0,h1,x1,x4,x5⟩
 -- whoever waits for one that is listed ..
 have key:∀ (fuel:Nat) (listed:Array Bool) (a:Act) (w:World),listed.size=l.length->(∀ j o e,l[j]? =some o->e∈o.after->Region.binds .any e=true->listed.getD j false=true->listed.getD e.on false=true)->
   ((List.range l.length).filter fun i=> !listed.getD i true).length<=fuel->Sim c ((iA (fun i=>listed.getD i false) 0 es m0).st n df next ys kt) a w->wpAnyIn (FF ro) 0 P .any l.toArray Q fuel listed a w:=by
  have getD_tf:∀ (listed:Array Bool) (i:Nat),i < listed.size->listed.getD i true=listed.getD i false:=fun listed i hi=>by simp[hi]
  have down:∀ (listed:Array Bool),(∀ j o e,l[j]? =some o->e∈o.after->Region.binds .any e=true->listed.getD j false=true->listed.getD e.on false=true)->∀ i j,Anc l i j->listed.getD j false=true->listed.getD i false=true:=by
   intro listed hd i j ha
   induction ha with
   | one j o e ho he hb hi=>intro hj;rw[<- hi];exact hd j o e ho he hb hj
   | more j o e ho he hb _ ih=>intro hj;exact ih (hd j o e ho he hb hj)
  have finish:∀ (listed:Array Bool) (a:Act) (w:World),listed.size=l.length->Region.ready .any l.toArray listed=[]->Sim c ((iA (fun i=>listed.getD i false) 0 es m0).st n df next ys kt) a w->Q .normal a w:=by
   intro listed a w hsz hr hs
   have all:∀ i,i < l.length->listed.getD i false=true:=by
    intro i
    induction i using Nat.strongRecOn with
    | _ i ih=>
     intro hi
     cases hb:listed.getD i false with
     | true=>rfl
     | false=>
      exfalso
      have hmem:i∈Region.ready .any l.toArray listed:=by
       refine uw.2 ⟨by simpa using hi,by rw[getD_tf listed i (by omega)];exact hb,l[i],by simp[hi],fun e he hbd=> ?_⟩
       have hlt:=hEdge i l[i] (by simp[hi]) e.on (jQ.2 ⟨e,he,hbd,rfl⟩)
       exact ih e.on hlt (by omega)
      rw[hr] at hmem;cases hmem
   refine h a w ?_
   rw[<- uZ (p:=fun i=>listed.getD i false) es 0 m0 (fun j hj=>by rw[Nat.zero_add];exact all j (by omega))]
   exact hs
  intro fuel
  induction fuel with
  | zero=>
   intro listed a w hsz hd hc hs
   have hr:Region.ready .any l.toArray listed=[]:=by
    rw[eq_nil_iff_forall_not_mem]
    intro i hi
    obtain⟨h1,h2,_⟩:=uw.1 hi
    have:i∈(List.range l.length).filter fun i=> !listed.getD i true:=List.mem_filter.2 ⟨by simpa using h1,by simp[h2]⟩
    have:=length_pos_of_mem this
    omega
   exact⟨hr,finish listed a w hsz hr hs⟩
  | succ fuel ih=>
   intro listed a w hsz hd hc hs
   refine⟨fun hr=>finish listed a w hsz hr hs,fun i hi=> ?_⟩
   obtain⟨h1,h2,o,ho,hafter⟩:=uw.1 hi
   have hil:i < l.length:=by simpa using h1
   have ho':l[i]? =some o:=by simpa using ho
   have hiF:listed.getD i false=false:=by rw[<- getD_tf listed i (by omega)];exact h2
   obtain⟨e,he⟩:∃ e,es[i]? =some e:=⟨es[i]'(by omega),getElem?_eq_getElem (by omega)⟩
   have noT:∀ j ej t,es[j]? =some ej->t∈wT ej->(t∈wT e\/t∈rT e)->¬ (i=p/\j∈qs)/\¬ (i∈qs/\j=p):=by
    intro j ej t hj ht ht2
    refine⟨?_,?_⟩
    ·rintro ⟨rfl,hm⟩
     obtain⟨ep,eq2,hp,hq,x1,x4,x5⟩:=hX j hm
     rw[hp] at he;cases he
     rw[hq] at hj;cases hj
     rcases ht2 with h | h
     ·exact(x4 t h).1 ht
     ·exact x5 t ht h
    ·rintro ⟨hm,rfl⟩
     obtain⟨ep,eq2,hp,hq,x1,x4,x5⟩:=hX i hm
     rw[hq] at he;cases he
     rw[hp] at hj;cases hj
     rcases ht2 with h | h
     ·exact(x4 t ht).1 h
     ·exact(x4 t ht).2 h
   have noH:∀ j ej t,es[j]? =some ej->t∈wH ej->t∈wH e->¬ (i=p/\j∈qs)/\¬ (i∈qs/\j=p):=by
    intro j ej t hj ht ht2
    refine⟨?_,?_⟩
    ·rintro ⟨rfl,hm⟩
     obtain⟨ep,eq2,hp,hq,x1,-⟩:=hX j hm
     rw[hp] at he;cases he
     rw[x1] at ht2;cases ht2
    ·rintro ⟨hm,rfl⟩
     obtain⟨ep,eq2,hp,hq,x1,-⟩:=hX i hm
     rw[hp] at hj;cases hj
     rw[x1] at ht;cases ht
   -- all that it waits for is listed
   have hanc:∀ j,Anc l j i->listed.getD j false=true:=by
    intro j hj
    cases hj with
    | one _ o2 e2 ho2 he2 hb2 hi2=>
     rw[ho'] at ho2;cases ho2
     rw[<- hi2];exact hafter e2 he2 hb2
    | more _ o2 e2 ho2 he2 hb2 h3=>
     rw[ho'] at ho2;cases ho2
     exact down listed hd j e2.on h3 (hafter e2 he2 hb2)
   -- whoever clashes with it is listed just if it stands ahead of it
   have agree:∀ j ej,es[j]? =some ej->(j≠i->(jW e ej=true/\jW ej e=true)/\¬ (i=p/\j∈qs)/\¬ (i∈qs/\j=p))->listed.getD (0+j) false=Nat.blt (0+j) (0+i):=by
    intro j ej hj hcl
    simp only[Nat.zero_add]
    by_cases hji:j=i
    ·subst hji;rw[hiF];simp[Nat.blt_eq,Bool.eq_false_iff]
    ·obtain⟨⟨c1,c2⟩,nx1,nx2⟩:=hcl hji
     rcases Nat.lt_or_gt_of_ne hji with hlt | hlt
     ·rw[hanc j (hClash j i ej e hlt hj he c2 (fun h=>nx2 ⟨h.2,h.1⟩))]
      rw[eq_comm];simpa [Nat.blt_eq] using hlt
     ·have hA:=hClash i j e ej hlt he hj c1 nx1
      have:listed.getD j false=false:=by
       cases hb:listed.getD j false with
       | false=>rfl
       | true=>have:=down listed hd i j hA hb;rw[hiF] at this;cases this
      rw[this];symm;rw[Bool.eq_false_iff];simp[Nat.blt_eq];omega
   have clT:∀ (t:Nat) (a b:Eff),t∈wT a->(t∈wT b\/t∈rT b)->jW a b=true/\jW b a=true:=by
    intro t a b ha hb
    constructor
    ·simp only[jW,Bool.or_eq_true,any_eq_true]
     exact .inl (.inl (.inl ⟨t,ha,by simpa using hb⟩))
    ·rcases hb with hb | hb
     ·simp only[jW,Bool.or_eq_true,any_eq_true]
      exact .inl (.inl (.inl ⟨t,hb,by simp[ha]⟩))
     ·simp only[jW,Bool.or_eq_true,any_eq_true]
      exact .inl (.inl (.inr ⟨t,ha,by simpa using hb⟩))
   have clH:∀ (t:Nat) (a b:Eff),t∈wH a->(t∈wH b\/t∈rH b)->jW a b=true/\jW b a=true:=by
    intro t a b ha hb
    constructor
    ·simp only[jW,Bool.or_eq_true,any_eq_true]
     exact .inl (.inr ⟨t,ha,by simpa using hb⟩)
    ·rcases hb with hb | hb
     ·simp only[jW,Bool.or_eq_true,any_eq_true]
      exact .inl (.inr ⟨t,hb,by simp[ha]⟩)
     ·simp only[jW,Bool.or_eq_true,any_eq_true]
      exact .inr ⟨t,ha,by simpa using hb⟩
   have hhas0:=BL es 0 m0 hT i e he
   rw[Nt] at hhas0
   have hT':HasT (iA (fun i=>listed.getD i false) 0 es m0).fr e.need:=by
    refine HasT.iff.2 fun t x hx=> ?_
    have hr:t∈rT e:=List.mem_map.2 ⟨_,hx,rfl⟩
    rw[Aa (q:=fun j=>Nat.blt j (0+i)) es 0 m0 m0 rfl (fun j ej hj ht=>agree j ej hj fun _=>⟨(clT t ej e ht (.inr hr)).symm,noT j ej t hj ht (.inr hr)⟩)]
    exact HasT.iff.1 hhas0.1 t x hx
   have hN':HasN (iA (fun i=>listed.getD i false) 0 es m0).free e.names:=by
    refine HasN.iff.2 fun k hk=> ?_
    have hw:k∈wH e:=hNames e (mem_of_getElem? he) k hk
    rw[wM (q:=fun j=>Nat.blt j (0+i)) es 0 m0 m0 Iff.rfl (fun j ej hj ht=>agree j ej hj fun _=>⟨(clH k ej e (hNames ej (mem_of_getElem? hj) k ht) (.inl hw)).symm,noH j ej k hj (hNames ej (mem_of_getElem? hj) k ht) hw⟩)]
    exact HasN.iff.1 hhas0.2.2 k hk
   have hstep:ya ro P c l o ((iA (fun i=>listed.getD i false) 0 es m0).st n df next ys kt) ((e.apply (iA (fun i=>listed.getD i false) 0 es m0)).st n df next ys kt):=by
    by_cases hsp:i=p/\∃ q∈qs,listed.getD q false=true
    ·obtain⟨rfl,hex⟩:=hsp
     obtain⟨q,hqm,hql,hmax⟩:∃ q∈qs,listed.getD q false=true/\∀ q'∈qs,q < q'->listed.getD q' false=false:=by
      have:∀ L:List Nat,(∃ q∈L,listed.getD q false=true)->∃ q∈L,listed.getD q false=true/\∀ q'∈L,q < q'->listed.getD q' false=false:=by
       intro L
       induction L with
       | nil=>rintro ⟨q,h,_⟩;simp at h
       | cons x L ihL=>
        rintro ⟨q,hq,hl⟩
        by_cases hL:∃ q∈L,listed.getD q false=true
        ·obtain⟨q1,h1,h2,h3⟩:=ihL hL
         by_cases hx1:listed.getD x false=true/\q1 < x
         ·refine⟨x,by simp,hx1.1,fun q' hq' hlt=> ?_⟩
          rcases List.mem_cons.1 hq' with rfl | hq'
          ·omega
          ·exact h3 q' hq' (by omega)
         ·refine⟨q1,by simp[h1],h2,fun q' hq' hlt=> ?_⟩
          rcases List.mem_cons.1 hq' with rfl | hq'
          ·cases hb:listed.getD q' false with
           | false=>rfl
           | true=>exact(hx1 ⟨hb,hlt⟩).elim
          ·exact h3 q' hq' hlt
        ·rcases List.mem_cons.1 hq with rfl | hq
         ·refine⟨q,by simp,hl,fun q' hq' hlt=> ?_⟩
          rcases List.mem_cons.1 hq' with rfl | hq'
          ·omega
          ·cases hb:listed.getD q' false with
           | false=>rfl
           | true=>exact(hL ⟨q',hq',hb⟩).elim
         ·exact(hL ⟨q,hq,hl⟩).elim
      exact this qs hex
     obtain⟨ep,op,eq2,bE,hp,hop,hq,hpq,hx,hlook,hfact2⟩:=hQ q hqm
     obtain⟨x1,-,x3,-⟩:=QH hx
     rw[hp] at he;cases he
     rw[hop] at ho';cases ho'
     refine hfact2 _ ⟨hT',⟨?_,trivial⟩,hN'⟩
     have hwq:hid∈wH eq2:=by
      unfold wH
      have:=eY hlook
      exact List.mem_map.2 ⟨_,this,rfl⟩
     rw[xN (q:=fun i=>listed.getD i false) es 0 q m0 m0 eq2 hq (by simpa using hql) hwq (fun j ej hlt hj htj=>by
      rw[Nat.zero_add]
      by_cases hjm:j∈qs
      ·exact hmax j hjm hlt
      cases hb:listed.getD j false with
      | false=>rfl
      | true=>
       have hcl:jW e ej=true:=(clH hid ej e htj (.inr (by rw[x3];simp))).2
       have:=down listed hd i j (hClash i j e ej (by omega) hp hj hcl (fun h=>hjm h.2)) hb
       rw[hiF] at this;cases this)]
     show aX hid (eq2.upd++m0.hp)=some bE
     rcases tC hid eq2.upd m0.hp with⟨y,hy,he2⟩ | ⟨hno,_⟩
     ·rw[rb (m':=[]) hwq,append_nil];exact hlook
     ·exact(hno _ (eY hlook)).elim
    ·refine hfact i o e ho' he _ ⟨hT',HasH.iff.2 fun t x hx=> ?_,hN'⟩
     have hr:t∈rH e:=List.mem_map.2 ⟨_,hx,rfl⟩
     rw[zO (q:=fun j=>Nat.blt j (0+i)) es 0 m0 m0 rfl (fun j ej hj ht=>by
      by_cases hij:i=p/\j∈qs
      ·obtain⟨rfl,hjm⟩:=hij
       rw[Nat.zero_add,Nat.zero_add]
       have:listed.getD j false=false:=by
        cases hb:listed.getD j false with
        | false=>rfl
        | true=>exact(hsp ⟨rfl,j,hjm,hb⟩).elim
       obtain⟨_,_,_,_,_,_,_,hlt,_⟩:=hQ j hjm
       rw[this];symm;rw[Bool.eq_false_iff];simp[Nat.blt_eq];omega
      ·refine agree j ej hj fun _=>⟨(clH t ej e ht (.inr hr)).symm,hij,?_⟩
       rintro ⟨hm,rfl⟩
       obtain⟨ep,eq2,hp,hq,x1,-⟩:=hX i hm
       rw[hp] at hj;cases hj
       rw[x1] at ht;cases ht)]
     exact HasH.iff.1 hhas0.2.1 t x hx
   have hset:∀ j,(listed.setIfInBounds i true).getD j false=if j=i then true else listed.getD j false:=by
    intro j
    simp only[Array.getD_eq_getD_getElem?,Array.getElem?_setIfInBounds]
    by_cases hji:j=i
    ·subst hji;simp[show j < listed.size by omega]
    ·rw[if_neg (fun e=>hji e.symm),if_neg hji]
   -- the state behind it
   have himp:Imp c ((e.apply (iA (fun i=>listed.getD i false) 0 es m0)).st n df next ys kt) ((iA (fun j=>(listed.setIfInBounds i true).getD j false) 0 es m0).st n df next ys kt):=by
    have later:∀ j ej,i < j->es[j]? =some ej->(jW e ej=true)->¬ (i=p/\j∈qs)->(listed.setIfInBounds i true).getD (0+j) false=false:=by
     intro j ej hlt hj c1 nx1
     rw[Nat.zero_add,hset,if_neg (by omega)]
     cases hb:listed.getD j false with
     | false=>rfl
     | true=>have:=down listed hd i j (hClash i j e ej hlt he hj c1 nx1) hb;rw[hiF] at this;cases this
    refine QP rfl rfl rfl rfl (fun t x hx=> ?_) (fun t x hx=> ?_) (fun k hk=> ?_)
    ·by_cases ht:t∈wT e
     ·have:=DY (q:=fun j=>(listed.setIfInBounds i true).getD j false) es 0 i m0 (iA (fun i=>listed.getD i false) 0 es m0) e he (by simp only[Nat.zero_add];rw[hset,if_pos rfl]) ht (fun j ej hlt hj htj=>later j ej hlt hj (clT t e ej ht (.inl htj)).1 (noT j ej t hj htj (.inl ht)).1)
      exact this.symm.trans hx
     ·show aX t (e.apply _).fr=some x
      rw[sw ht,<- hx]
      refine(Aa es 0 m0 m0 rfl fun j ej hj htj=> ?_).symm
      rw[hset,if_neg (fun e'=> ?_)]
      rw[Nat.zero_add] at e';subst e'
      rw[he] at hj;cases hj
      exact ht htj
    ·by_cases ht:t∈wH e
     ·have:=xN (q:=fun j=>(listed.setIfInBounds i true).getD j false) es 0 i m0 (iA (fun i=>listed.getD i false) 0 es m0) e he (by simp only[Nat.zero_add];rw[hset,if_pos rfl]) ht (fun j ej hlt hj htj=>later j ej hlt hj (clH t e ej ht (.inl htj)).1 (noH j ej t hj htj ht).1)
      exact this.symm.trans hx
     ·show aX t (e.apply _).hp=some x
      rw[sC ht,<- hx]
      refine(zO es 0 m0 m0 rfl fun j ej hj htj=> ?_).symm
      rw[hset,if_neg (fun e'=> ?_)]
      rw[Nat.zero_add] at e';subst e'
      rw[he] at hj;cases hj
      exact ht htj
    ·show k∈(e.apply _).free
     have hk':k∈(iA (fun j=>(listed.setIfInBounds i true).getD j false) 0 es m0).free:=hk
     obtain⟨_,hkn⟩:=ye es 0 m0 hk'
     have hke:k ∉ e.names:=hkn i e he (by simp only[Nat.zero_add];rw[hset,if_pos rfl])
     rw[xD hke]
     refine(wM es 0 m0 m0 Iff.rfl fun j ej hj htj=> ?_).1 hk'
     rw[hset,if_neg (fun e'=> ?_)]
     rw[Nat.zero_add] at e';subst e'
     rw[he] at hj;cases hj
     exact hke htj
   have hnext:∀ a' w',Sim c ((e.apply (iA (fun i=>listed.getD i false) 0 es m0)).st n df next ys kt) a' w'->wpAnyIn (FF ro) 0 P .any l.toArray Q fuel (listed.setIfInBounds i true) a' w':=by
    intro a' w' hs'
    refine ih _ a' w' (by simpa using hsz) ?_ ?_ (himp a' w' hs')
    ·intro j o2 e2 ho2 he2 hb2 hj
     rw[hset] at hj ⊢
     by_cases hon:e2.on=i
     ·rw[if_pos hon]
     ·rw[if_neg hon]
      by_cases hji:j=i
      ·subst hji
       rw[ho'] at ho2;cases ho2
       exact hafter e2 he2 hb2
      ·rw[if_neg hji] at hj
       exact hd j o2 e2 ho2 he2 hb2 hj
    ·have hsub:((List.range l.length).filter fun j=> !(listed.setIfInBounds i true).getD j true).length+1<=((List.range l.length).filter fun j=> !listed.getD j true).length:=by
      have hg:∀ j,j < l.length->(listed.setIfInBounds i true).getD j true=if j=i then true else listed.getD j true:=by
       intro j hj
       rw[getD_tf _ j (by simp;omega),hset,getD_tf listed j (by omega)]
      have e1:((List.range l.length).filter fun j=> !(listed.setIfInBounds i true).getD j true)=((List.range l.length).filter fun j=> !listed.getD j true).filter fun j=> !(decide (j=i)):=by
       rw[filter_filter]
       refine filter_congr fun j hj=> ?_
       rw[hg j (by simpa using hj)]
       by_cases hji:j=i<;>simp[hji]
      rw[e1]
      have hmem:i∈(List.range l.length).filter fun j=> !listed.getD j true:=List.mem_filter.2 ⟨by simpa using hil,by simp[h2]⟩
      generalize ((List.range l.length).filter fun j=> !listed.getD j true)=L at hmem
      have:∀ L:List Nat,i∈L->(L.filter fun j=> !(decide (j=i))).length+1<=L.length:=by
       intro L
       induction L with
       | nil=>intro h;simp at h
       | cons x L ihL=>
        intro h
        by_cases hxi:x=i
        ·subst hxi
         have:=length_filter_le (fun j=> !(decide (j=x))) L
         simp;omega
        ·rcases List.mem_cons.1 h with h | h
         ·exact absurd h.symm hxi
         ·have:=ihL h
          simp[hxi];omega
      exact this L hmem
     omega
   obtain⟨O,θ,hsAt⟩:=hs
   unfold wpOpIn
   rw[ho]
   rcases hstep with⟨hg,hop⟩ | ⟨hg,hkt,heq⟩
   ·simp only[rf hsAt hg,if_true]
    exact hop a w ⟨O,θ,hsAt⟩ _ _ hnext
   ·simp only[rf hsAt hg,Bool.false_eq_true,if_false]
    refine⟨fun f _=>trivial,hnext _ _ ?_⟩
    rw[heq]
    exact⟨O,θ,hsAt.skipU _ (Kv hkt)⟩
 rintro a w ⟨O,θ,hs⟩
 refine wpIn_region_any hm (key l.toArray.size _ a _ (by simp) ?_ ?_ ?_)
 ·intro j o e ho he hb hj
  simp[Array.getElem?_replicate] at hj
  split at hj<;>simp at hj
 ·have:=length_filter_le (fun i=> !(Array.replicate l.toArray.size false).getD i true) (List.range l.length)
  simpa using this
 ·have:iA (fun i=>(Array.replicate l.toArray.size false).getD i false) 0 es m0=m0:=by
   rw[uZ (q:=fun _=>false) es 0 m0 (fun j _=>by simp[Array.getElem?_replicate];split<;>rfl),uF]
  rw[this]
  exact⟨O,θ,hs.grownNone ⟨rfl,rfl,rfl,Nat.le_refl _,fun _ _ _=>rfl⟩⟩
theorem XX {id n next ys:Nat} {kt:List Nat} {df:List Deferred} {l:List Oper} (es:List Eff) (m0:Mid) (hm:P.follows .mixedOrders=true) (hs0:s=m0.st n df next ys kt) (hF:ut ro P c l n df next ys kt l es) (hT:A7 es m0) (hB:Bv l es=true)
  (h:gw c Q .normal ((iA (fun _=>true) 0 es m0).st n df next ys kt)):AW ro P c (.region id l.toArray true) Q s:=
 have ⟨h1,h2,h3⟩:=EZ hB
 Nb es m0 0 0 [] (fun q h=>by cases h) hm hs0 hF hT h1 (fun i j ei ej a b c' d _=>h2 i j ei ej a b c' d) h3 h
end
end Go.Abs

namespace Go.Abs
open List
variable {G:List (Nat×List PV)}
open Go.RowKit
abbrev ae (n:Int):Int:=IntKind.i64.wrap n
abbrev Ak (n:Int):Int:=IntKind.u8.wrap n
abbrev lK (n:Int):Int:=IntKind.u64.wrap n
abbrev eI (n:Int):List PV:=[.int .i64 n]
abbrev ce (n:Int):List PV:=[.int .u8 n]
abbrev eB (b:Bool):List PV:=[.bool b]
abbrev eS (s:List UInt8):List PV:=[.str s]
abbrev eL {α:Type} (sz:Nat) (e:α->List PV) (l:List α):List PV:=[.vs sz (l.map e)]
theorem pu {R S:Type} {a:Option R} {k:S->Option R} {r:R} (h:Ctl.go (.stop a) k=some r):a=some r:=h
def Ctl.elim {R S β:Type}:Ctl R S->(R->β)->(S->β)->β
 | .stop r,f,_=>f r
 | .next s,_,g=>g s
theorem bH {R S β:Type} {v:R} {f:R->β} {g:S->β} {x:β} (h:Ctl.elim (.stop v) f g=x):f v=x:=h
theorem bW {R S β:Type} {v:S} {f:R->β} {g:S->β} {x:β} (h:Ctl.elim (.next v) f g=x):g v=x:=h
theorem ri {n m:Nat} {u:Unit} (h:dr ((n:Int)+(m:Int)) 1=some u):n+m<=9223372036854775807:=by
 have:=uA h
 omega
theorem DP {P:Program} {T:Nat} {b:Bool} (h:qT P T=true):(qT P T||b)=true:=by rw[h];rfl
theorem Ef {P:Program} {T n:Nat} {a:Bool} (h:nR P T n=true):(a||nR P T n)=true:=by rw[h];cases a<;>rfl
theorem Vo {α β:Type} (f:α->β) {xs r:List α} {nl:Option Int} {nh:Option Int} (e:jK xs (nl.getD 0) (nh.getD xs.length)=some r):jK (xs.map f) (nl.getD 0) (nh.getD (xs.map f).length)=some (r.map f):=by
 rw[length_map];exact SI f e
section
variable {ro:Option Nat} {P:Program} {c:Cx G} {s s':St} {o:Oper} {d:Option Nat}
end
end Go.Abs
namespace Go.Abs
open List
variable {G:List (Nat×List PV)}
structure A4 (α:Type) where
 a0:α
 a1:α
 a2:α
 a3:α
 deriving DecidableEq
abbrev eA4 {α:Type} (e:α->List PV) (x:A4 α):List PV:=e x.a0++(e x.a1++(e x.a2++e x.a3))
end Go.Abs
namespace Go.Abs
open List
variable {G:List (Nat×List PV)}
theorem aP {ro:Option Nat} {P:Program} {c:Cx G} {Q:Exit->Act->World->Prop} {s s':St} {k:Code} {m:Nat} (h':Aj ro P c k Q m s') (h:Imp c s s'):Aj ro P c k Q m s:=Wv h h'
end Go.Abs
namespace Go.Abs
open List
variable {G:List (Nat×List PV)}
theorem bq {ro:Option Nat} {P:Program} {c:Cx G} {all:List Oper} {o:Oper} {s s1 s':St} (hg:uf all s o true) (ho:da ro P c o s s1) (he:s1=s'):ya ro P c all o s s':=by
 subst he;exact .inl ⟨hg,ho⟩
theorem BZ {ro:Option Nat} {P:Program} {c:Cx G} {all:List Oper} {o:Oper} {s s':St} (hg:uf all s o false) (hk:ktB s o.dst=true) (he:s'=s.put o.dst (some (.tup []))):ya ro P c all o s s':= .inr ⟨hg,hk,he⟩
end Go.Abs
namespace Go.Abs
open List
variable {G:List (Nat×List PV)}
section
variable {ro:Option Nat} {P:Program} {c:Cx G} {s s':St} {o:Oper} {d:Option Nat}
theorem xn {T T':TypeId} {x y:Operand} {ps qs:List PV} {ts:List Tag} {r:Bool} (ho:o.op= .binOp .eql T x y T') (hx:ev s x=some (.pv (.agg ps))) (hy:ev s y=some (.pv (.agg qs)))
  (ht:eqB P T ts=true) (hp:ps.map PV.tag=ts.map some) (hq:qs.map PV.tag=ts.map some) (hr:iR ps qs=some r) (hd:o.dst=d) (hn:dOk s d=true):
  da ro P c o s (s.put d (some (.pv (.bool r)))):=QU ho (.inl rfl) hx hy ht hp hq hr hd hn
theorem mJ {T T':TypeId} {x y:Operand} {ps qs:List PV} {ts:List Tag} {r:Bool} (ho:o.op= .binOp .neq T x y T') (hx:ev s x=some (.pv (.agg ps))) (hy:ev s y=some (.pv (.agg qs)))
  (ht:eqB P T ts=true) (hp:ps.map PV.tag=ts.map some) (hq:qs.map PV.tag=ts.map some) (hr:iR ps qs=some r) (hd:o.dst=d) (hn:dOk s d=true):
  da ro P c o s (s.put d (some (.pv (.bool (!r))))):=QU ho (.inr rfl) hx hy ht hp hq hr hd hn
theorem Me {T T':TypeId} {x y:Operand} {b b':Bool} (ho:o.op= .binOp .neq T x y T') (hx:ev s x=some (.pv (.bool b))) (hy:ev s y=some (.pv (.bool b'))) (ht:P.underlying T=some .bool) (hd:o.dst=d) (hn:dOk s d=true):
  da ro P c o s (s.put d (some (.pv (.bool (!(b==b')))))):=Xn ho (.inr rfl) hx hy ht hd hn
end
end Go.Abs
namespace Go.Abs
open List
variable {G:List (Nat×List PV)}
def tQ (P:Program) (T n e sz:Nat):Bool:=match P.underlying T with
 | some (.array m e')=>(m==n&&e'==e)&&(match P.info? e with | some i=>i.size==sz | none=>false)
 | _=>false
theorem zz {P:Program} {T n e sz:Nat} (h:tQ P T n e sz=true):∃ i,P.underlying T=some (.array n e)/\P.info? e=some i/\i.size=sz:=by
 unfold tQ at h
 split at h
 ·rename_i m e' hu
  simp only[Bool.and_eq_true,beq_iff_eq] at h
  obtain⟨⟨rfl,rfl⟩,h⟩:=h
  split at h
  ·rename_i i hi;exact⟨i,hu,hi,by simpa using h⟩
  ·cases h
 ·cases h
def vK (P:Program) (T f ft off:Nat):Bool:=match P.underlying T with
 | some (.struct fs)=>match fs[f]? with
  | some fld=>fld.type==ft&&fld.offset==off
  | none=>false
 | _=>false
theorem PT {P:Program} {T f ft off:Nat} (h:vK P T f ft off=true):∃ fs fld,P.underlying T=some (.struct fs)/\fs[f]? =some fld/\fld.type=ft/\fld.offset=off:=by
 unfold vK at h
 split at h
 ·rename_i fs hu
  split at h
  ·rename_i fld hf
   simp only[Bool.and_eq_true,beq_iff_eq] at h
   exact⟨fs,fld,hu,hf,h.1,h.2⟩
  ·cases h
 ·cases h
section
variable {ro:Option Nat} {P:Program} {c:Cx G} {s s':St} {o:Oper} {d:Option Nat}
theorem vC {T n e sz:Nat} (ht:tQ P T n e sz=true) {k:IntKind} {m:Nat} (hm:Nat.blt m n=true) (w:World) (b off:Nat):
  (Instr.indexAt T (.pointer (some ⟨b,off,none⟩)) (.int k (m:Int))).run P w= .ok (.pointer (some ⟨b,off+m * sz,none⟩)) w:=by
 obtain⟨i,h1,h2,h3⟩:=zz ht
 have hm':m < n:=by simpa [Nat.blt_eq] using hm
 simp[Instr.indexAt,asIntOf,run_underlying h1,Instr.sureAddr,sizeOf,typeInfo,h2,h3,Addr.add_lit]
 intro h
 omega
theorem xc {T n e sz m:Nat} {x y:Operand} {k:IntKind} {row r:List PV} (ho:o.op= .indexAddr T x y) (hx:ev s x=some (.pv (.vp row))) (hy:ev s y=some (.pv (.int k (m:Int)))) (ht:tQ P T n e sz=true) (hm:Nat.blt m n=true) (hr:row.drop (m * sz)=r) (hd:o.dst=d) (hn:dOk s d=true):
  da ro P c o s (s.put d (some (.pv (.vp r)))):=
 ca hd hn (by rw[ho];intro k h;cases h) fun a w O θ hs=>by
  obtain⟨b,off,us,hv,h1,h2,h3,h4,h5⟩:=Ko (ug hs hx)
  subst hr
  refine⟨.pointer (some ⟨b,off+m * sz,none⟩),by simp[execOp,ho,hv,mI hs hy,vC ht hm],.pv _ _ (.vp _ b _ (fun j=>us (m * sz+j)) h1 h2 (fun y hy=>h3 y (mem_of_mem_drop hy)) (fun j hj=> ?_) (fun j y hy=>h5 _ y ?_))⟩
  ·rw[length_drop] at hj
   rw[Nat.add_assoc]
   exact h4 _ (by omega)
  ·rwa [getElem?_drop] at hy
theorem po {T n e sz m:Nat} {x y:Operand} {k:IntKind} {id off r:Nat} (ho:o.op= .indexAddr T x y) (hx:ev s x=some (.lp id off)) (hy:ev s y=some (.pv (.int k (m:Int)))) (ht:tQ P T n e sz=true) (hm:Nat.blt m n=true) (hr:off+m * sz=r) (hd:o.dst=d) (hn:dOk s d=true):
  da ro P c o s (s.put d (some (.lp id r))):=
 ca hd hn (by rw[ho];intro k h;cases h) fun a w O θ hs=>by
  have h:=jJ hs hx
  subst hr
  generalize hv:a.eval x=v at h
  cases h with
  | lp _ _ g h=>exact⟨_,by simp[execOp,ho,hv,mI hs hy,vC ht hm],.lp _ _ g h⟩
theorem ek {T f off:Nat} {ft:TypeId} {x:Operand} {ps:List PV} {p:PV} (ho:o.op= .field T x f) (hx:ev s x=some (.pv (.agg ps))) (hu:vK P T f ft off=true) (ht:qT P ft=true) (hp:ps[off]? =some p) (hd:o.dst=d) (hn:dOk s d=true):
  da ro P c o s (s.put d (some (.pv p))):=by
 obtain⟨fs,fld,h1,h2,h3,h4⟩:=PT hu
 exact LV ho hx h1 h2 h3 h4 ht hp hd hn
end
end Go.Abs
namespace Go.Abs
open List
variable {G:List (Nat×List PV)}
section
variable {α:Type} {f:α->List PV} {g:List α->List (List PV)}
theorem Tc (hm:∀ l,g l=l.map f) {l:List α}:(g l).length=l.length:=by rw[hm,length_map]
theorem Dx (hm:∀ l,g l=l.map f) {l:List α} {n:Int} {y:α} (h:idx l n=some y):idx (g l) n=some (f y):=by rw[hm];exact kR f h
theorem aff (hm:∀ l,g l=l.map f) {l:List α} {n:Int} {y:α} (h:idx l n=some y):(g l)[n.toNat]? =some (f y):=by rw[hm];exact sv f h
theorem afD (hm:∀ l,g l=l.map f) (l:List α) (i:Nat) (x:α):(g l).set i (f x)=g (l.set i x):=by rw[hm,hm];exact Jd f l i x
theorem abT (hm:∀ l,g l=l.map f) (l m:List α):g l++g m=g (l++m):=by rw[hm,hm,hm,map_append]
theorem UI (hm:∀ l,g l=l.map f) {l m:List α} {b:Nat} {u:Unit} (h:dr ((l.length:Int)+(m.length:Int)) (b:Int)=some u):((g l).length+(g m).length) * b<=140737488355328:=by rw[hm,hm];exact jr h
end
section
variable {ro:Option Nat} {P:Program} {c:Cx G} {s s':St} {o:Oper} {d:Option Nat}
theorem xQ {T e sz n:Nat} {parts:List (Nat×Operand)} {z:Value} {zs:List PV} {rows rows':List (List PV)} {xs:List (Nat×AV)} (ho:o.op= .buildSlice T n parts.toArray) (hrn:rows.length=n) (ht:sliceB P T e sz=true) (hz:cG P e z) (hzs:czs z.cells.toList zs)
  (hzl:zs.length=sz) (hsz:Nat.blt 0 sz=true) (hlen:Nat.ble (n * sz) 16777216=true) (hx:evs s parts=some xs) (hr:ot ((List.range n).map fun i=>(i * sz,sz)) (replicate n zs).flatten xs=some rows.flatten) (hrow:(rows.all fun row=>Nat.beq row.length sz)=true) (he:rows'=rows)
  (hd:o.dst=d) (hn:dOk s d=true):da ro P c o s (s.put d (some (.pv (.vs sz rows')))):=by rw[he];exact ez ho hrn ht hz hzs hzl hsz hlen hx hr hrow hd hn
theorem SN (kk:Nat) (hk:ko s kk=true) {T e sz n:Nat} {parts:List (Nat×Operand)} {z:Value} {zs:List PV} {rows rows':List (List PV)} {xs:List (Nat×AV)} (ho:o.op= .buildSlice T n parts.toArray) (hrn:rows.length=n) (ht:sliceB P T e sz=true) (hz:cG P e z) (hzs:czs z.cells.toList zs)
  (hzl:zs.length=sz) (hsz:Nat.blt 0 sz=true) (hlen:Nat.ble (n * sz) 16777216=true) (hx:evs s parts=some xs) (hr:ot ((List.range n).map fun i=>(i * sz,sz)) (replicate n zs).flatten xs=some rows.flatten) (hrow:(rows.all fun row=>Nat.beq row.length sz)=true) (he:rows'=rows)
  (hd:o.dst=d) (hn:dOk s d=true):da ro P c o s ((s.addAt kk none (.row e sz rows')).put d (some (.ls kk))):=by rw[he];exact Xt kk hk ho hrn ht hz hzs hzl hsz hlen hx hr hrow hd hn
end
end Go.Abs
namespace Go.Abs
open List
variable {G:List (Nat×List PV)}
theorem xJ {c:Cx G} {s:St} (id off t sz:Nat) {cells:List AV} (hb:aX id s.hp=some (.box t cells)) (h:cells[off]? =some (.pv .nils)):Imp c s (s.setBlk id (some (.box t (cells.set off (.pv (.vs sz [])))))):=by
 rintro a w ⟨O,θ,hs⟩
 obtain⟨v,hv,⟨g,us,rfl,k1,k2,k3⟩,k4⟩:=hs.hp id _ hb
 refine⟨O,θ,hs.upd hb hv (World.grownBy.refl w _) ⟨g,us,rfl,k1,by simpa using k2,fun j x u hx hu=> ?_⟩⟩
 rw[getElem?_set] at hx
 split at hx
 ·rename_i e;subst e
  split at hx
  ·cases hx
   obtain⟨m1,m2⟩:=k3 off _ u h hu
   have:=lm m1
   cases this
   exact⟨.pv _ _ (.vs0 sz),m2⟩
  ·cases hx
 ·exact k3 j x u hx hu
end Go.Abs
namespace Go.Abs
open List
variable {G:List (Nat×List PV)}
def Res.fz : Res->Res
 | .p x=> .p x
 | .own _ sz rows=> .p (.vs sz rows)
 | .clo _ _ _ _ _=> .p .nils
def Res.noclo : Res->Bool
 | .clo _ _ _ _ _=>false
 | _=>true
theorem ResOk.fz {w:World} {O:Nat->Prop} {lo:Nat} {r:Res} {v:Value} (hc:r.noclo=true) (h:ResOk w O lo r v):ResOk w (fun g=>O g/\g < lo) lo r.fz v:=by
 cases r with
 | clo=>cases hc
 | p x=>exact Rd.mono (w:=w) (w':=w) (O:=O) (O':=fun g=>O g/\g < lo) (Nat.le_refl _) (fun b _ hn=>⟨fun h2=>hn h2.1,rfl⟩) h
 | own e sz rows=>
  obtain⟨⟨us,hown,hrd⟩,_,hg⟩:=h
  have hrd':RowsRd w (fun g=>O g/\g < lo) sz rows us:=hrd.mono (Nat.le_refl _) (fun b _ hn=>⟨fun h2=>hn h2.1,rfl⟩)
  rcases hown.2 with⟨rfl,h4⟩ | ⟨g,cap,cur,rfl,_,hgh,hnc,hcm,hcs,ht⟩
  ·have:rows=[]:=eq_nil_of_length_eq_zero h4
   subst this
   exact Rd.vs0 sz
  ·have:=pW hrd' hgh ht (fun h=>by have:=(hg g rfl).1;omega) hnc hcm
   exact this
theorem Fn.frozen {P:Program} {f:Nat} {args:List PV} {rs:List Res} (h:Fn G P f args rs) (hc:(rs.all Res.noclo)=true:=by rfl):Fn G P f args (rs.map Res.fz):=by
 have hc':∀ r∈rs,r.noclo=true:=List.all_eq_true.1 hc
 intro w O vs hO hG hsz hrd
 refine(h w O vs hO hG hsz hrd).mono ?_
 rintro e w' ⟨v,O',rfl,hg,hOO,hr⟩
 refine⟨v,fun g=>O' g/\g < w.heap.size,rfl,hg,fun g hgg=>⟨hOO g hgg,hO g hgg⟩,?_⟩
 match rs,hc',hr with
 | [r],hc',hr=>exact ResOk.fz (hc' r (by simp)) hr
 | [],_,⟨us,h1,h2,h3⟩=>exact⟨us,h1,h2,fun i r u hr=>by simp at hr⟩
 | r::r'::rs,hc',⟨us,h1,h2,h3⟩=>
  refine⟨us,h1,by simpa using h2,fun i x u hx hu=> ?_⟩
  have hx':((r::r'::rs).map Res.fz)[i]? =some x:=hx
  rw[getElem?_map,Option.map_eq_some_iff] at hx'
  obtain⟨r0,hr0,rfl⟩:=hx'
  exact ResOk.fz (hc' r0 (mem_of_getElem? hr0)) (h3 i r0 u hr0 hu)
end Go.Abs
namespace Go.Abs
open List
variable {G:List (Nat×List PV)}
def A4.l {α:Type} (x:A4 α):List α:=[x.a0,x.a1,x.a2,x.a3]
section
variable {ro:Option Nat} {P:Program} {c:Cx G} {s s':St} {o:Oper} {d:Option Nat}
end
end Go.Abs
namespace Go.Abs
open List
variable {G:List (Nat×List PV)}
section
variable {ro:Option Nat} {P:Program} {c:Cx G} {s s':St} {o:Oper} {d:Option Nat}
end
end Go.Abs
namespace Go.Abs
open List
variable {G:List (Nat×List PV)}
theorem Qt {α β:Type} {f:α->List β} {sz:Nat} (hf:∀ z,(f z).length=sz):∀ (l:List α) (i:Nat) (z:α),l[i]? =some z->(((l.map f).flatten).drop (i * sz)).take sz=f z
 | [],i,z,h=>by simp at h
 | x::l,0,z,h=>by
  simp at h;subst h
  simp only[map_cons,flatten_cons,Nat.zero_mul,drop_zero]
  rw[take_append_of_le_length (by rw[hf];exact Nat.le_refl _),take_of_length_le (by rw[hf];exact Nat.le_refl _)]
 | x::l,i+1,z,h=>by
  simp at h
  simp only[map_cons,flatten_cons]
  rw[show (i+1) * sz=(f x).length+i * sz by rw[hf,Nat.add_mul,Nat.one_mul,Nat.add_comm],drop_append,drop_eq_nil_of_le (by omega),nil_append,Nat.add_sub_cancel_left]
  exact Qt hf l i z h
end Go.Abs
namespace Go.Abs
open List
variable {G:List (Nat×List PV)}
section
variable {ro:Option Nat} {P:Program} {c:Cx G} {s s':St} {o:Oper} {d:Option Nat}
theorem Kq {T n e sz:Nat} {x y:Operand} {k:IntKind} {i:Int} {id off:Nat} {α:Type} {l:List α} {z:α} (ho:o.op= .indexAddr T x y) (hx:ev s x=some (.lp id off)) (hy:ev s y=some (.pv (.int k i))) (ht:tQ P T n e sz=true) (hl:l.length=n) (hi:idx l i=some z) (hd:o.dst=d) (hn:dOk s d=true):
  da ro P c o s (s.put d (some (.lp id (off+i.toNat * sz)))):=
 ca hd hn (by rw[ho];intro k h;cases h) fun a w O θ hs=>by
  have h:=jJ hs hx
  obtain⟨i0,i1,i2⟩:=rM hi
  have hm:i=((i.toNat:Nat):Int):=by omega
  have hlt:i.toNat < n:=by omega
  generalize hv:a.eval x=v at h
  cases h with
  | lp _ _ g h=>
   have hrun:=vC (P:=P) ht (k:=k) (m:=i.toNat) (by simpa [Nat.blt_eq] using hlt) w g off
   rw[<- hm] at hrun
   exact⟨_,by simp[execOp,ho,hv,mI hs hy,hrun],.lp _ _ g h⟩
end
end Go.Abs
namespace Go.Abs
open List
variable {G:List (Nat×List PV)}
theorem UY : ∀ l:List PV,pvs (l.map .pv)=some l
 | []=>rfl
 | p::l=>by simp[pvs,UY l]
theorem Uv {cells:List AV} {off n sz:Nat} {α:Type} {l:List α} {f:α->List PV} {i:Int} {z:α} (hc:(cells.drop off).take (n * sz)=((l.map f).flatten).map .pv) (hf:∀ z,(f z).length=sz) (hl:l.length=n) (h:idx l i=some z):pvs ((cells.drop (off+i.toNat * sz)).take sz)=some (f z):=by
 obtain⟨i0,i1,i2⟩:=rM h
 have hle:i.toNat * sz+sz<=n * sz:=by
  have:(i.toNat+1) * sz<=n * sz:=Nat.mul_le_mul_right _ (by omega)
  rw[Nat.add_mul,Nat.one_mul] at this;exact this
 have e:(cells.drop (off+i.toNat * sz)).take sz=(((cells.drop off).take (n * sz)).drop (i.toNat * sz)).take sz:=by
  rw[drop_take,take_take,drop_drop,Nat.min_eq_left (by omega)]
 rw[e,hc,<- map_drop,<- map_take,Qt hf l i.toNat z i1,UY]
end Go.Abs

/- Plain helpers: indices, ranges, rounds. -/
namespace Go.Abs
open List
variable {G:List (Nat×List PV)}
theorem w64 {n:Int} (h1: -9223372036854775808<=n) (h2:n<=9223372036854775807):ae n=n:=by
 show IntKind.i64.wrap n=n
 unfold IntKind.wrap
 simp only[IntKind.bits,IntKind.signed]
 first | omega | (simp;omega) | skip
theorem C6 {α:Type} {l:List α} {k:Nat}:idx l (k:Int)=l[k]? :=by simp[idx]
theorem cU {α:Type} {l:List α} {k:Nat} (h:k < l.length):idx l (k:Int)=some l[k]:=by rw[C6];exact getElem?_eq_getElem h
theorem cn {k m:Nat} (h:k < m) (hm:m<=9223372036854775807):ae ((k:Int)+1)=((k+1:Nat):Int):=by rw[w64 (by omega) (by omega)];omega
theorem gz {n b:Int} (h:n * b<=140737488355328):dr n b=some ():=by unfold dr;rw[if_pos h]
end Go.Abs
namespace Go.Abs
open List
variable {G:List (Nat×List PV)}
theorem obs {α β:Type} (a:α) (f:α->Option β):Option.bind (some a) f=f a:=by rw[Option.bind_some]
end Go.Abs

/- Plain loops over lists. -/
namespace Go.Abs
open List
variable {G:List (Nat×List PV)}
variable {α β S R T:Type}
def JV (f:S->α -> Option S):S->List α->Option S
 | s,[]=>some s
 | s,y::l=>Option.bind (f s y) fun s'=>JV f s' l
theorem Qo {l:List α} (hp:l.length<=9223372036854775807) {L:Nat->S -> Int->Option T} {f:S->α -> Option S} {fin:S->Option T}
  (hL:∀ (n:Nat) (s:S) (x:Int),L (n+1) s x=if decide (x < (l.length:Int))=true then Option.bind (idx l x) fun y=>Option.bind (f s y) fun s'=>L n s' (ae (x+1)) else fin s):
  ∀ (n k:Nat) (s:S),n+k=l.length+1->k<=l.length->L n s (k:Int)=Option.bind (JV f s (l.drop k)) fin
 | 0,k,s,h,hk=>by omega
 | n+1,k,s,h,hk=>by
  rw[hL]
  by_cases hlt:k < l.length
  ·rw[if_pos (by simpa using hlt),cU hlt,drop_eq_getElem_cons hlt,obs]
   simp only[JV]
   cases hf:f s l[k] with
   | none=>rfl
   | some s'=>
    rw[obs,obs,cn hlt (by omega)]
    exact Qo hp hL n (k+1) s' (by omega) (by omega)
  ·rw[if_neg (by simpa using hlt),drop_eq_nil_of_le (by omega)]
   rfl
theorem aeC (L:Nat->S -> Int->Option T) {l:List α} (hp:l.length<=9223372036854775807) {f:S->α -> Option S} {fin:S->Option T}
  (hL:∀ (n:Nat) (s:S) (x:Int),L (n+1) s x=if decide (x < (l.length:Int))=true then Option.bind (idx l x) fun y=>Option.bind (f s y) fun s'=>L n s' (ae (x+1)) else fin s) (s:S):
  L ((((l.length:Int):Int) - (0)).toNat+1) s 0=Option.bind (JV f s l) fin:=by
 rw[show (((l.length:Int):Int) - (0)).toNat+1=l.length+1 by omega]
 exact Qo hp hL (l.length+1) 0 s (by omega) (by omega)
theorem Qm {l:List α} (hp:l.length<=9223372036854775807) {L:Nat->Int->Option (Ctl Int Unit)} {b:α->Bool}
  (hL:∀ (n:Nat) (x:Int),L (n+1) x=if decide (x < (l.length:Int))=true then Option.bind (idx l x) fun y=>if b y=true then some (.stop x) else L n (ae (x+1)) else some (.next ())):
  ∀ (n k:Nat),n+k=l.length+1->k<=l.length->L n (k:Int)=some (match(l.drop k).findIdx? b with | some i=> .stop ((k+i:Nat):Int) | none=> .next ())
 | 0,k,h,hk=>by omega
 | n+1,k,h,hk=>by
  rw[hL]
  by_cases hlt:k < l.length
  ·rw[if_pos (by simpa using hlt),cU hlt,drop_eq_getElem_cons hlt,obs,findIdx?_cons]
   cases hb:b l[k] with
   | true=>simp
   | false=>
    rw[if_neg (by simp),cn hlt (by omega),Qm hp hL n (k+1) (by omega) (by omega)]
    cases (l.drop (k+1)).findIdx? b with
    | none=>simp
    | some i=>simp;omega
  ·rw[if_neg (by simpa using hlt),drop_eq_nil_of_le (by omega)]
   rfl
theorem CO (L:Nat->Int->Option (Ctl Int Unit)) {l:List α} (hp:l.length<=9223372036854775807) {b:α->Bool}
  (hL:∀ (n:Nat) (x:Int),L (n+1) x=if decide (x < (l.length:Int))=true then Option.bind (idx l x) fun y=>if b y=true then some (.stop x) else L n (ae (x+1)) else some (.next ())):
  L ((((l.length:Int):Int) - (0)).toNat+1) 0=some (match l.findIdx? b with | some i=> .stop (i:Int) | none=> .next ()):=by
 rw[show (((l.length:Int):Int) - (0)).toNat+1=l.length+1 by omega]
 have:=Qm hp hL (l.length+1) 0 (by omega) (by omega)
 rw[show ((0:Nat):Int)=0 from rfl] at this
 rw[this,drop_zero]
 cases l.findIdx? b with
 | none=>rfl
 | some i=>simp
theorem ry {l:List α} {b:α->Bool}:(Ctl.elim (match l.findIdx? b with | some i=>Ctl.stop (i:Int) | none=> .next ()) (fun v=>some v) fun _=>some (-1:Int))=some (match l.findIdx? b with | some i=>(i:Int) | none=> -1):=by
 cases l.findIdx? b<;>rfl
theorem vH (l:List α) (b:α->Bool):decide ((match l.findIdx? b with | some i=>(i:Int) | none=> -1) >= 0)=l.any b:=by
 rw[<- findIdx?_isSome]
 cases l.findIdx? b<;>simp
theorem Wt {l:List α} (hp:l.length<=9223372036854775807) {L:Nat->Int->Option (Ctl R Unit)} {b:α->Bool} {r:R}
  (hL:∀ (n:Nat) (x:Int),L (n+1) x=if decide (x < (l.length:Int))=true then Option.bind (idx l x) fun y=>if b y=true then some (.stop r) else L n (ae (x+1)) else some (.next ())):
  ∀ (n k:Nat),n+k=l.length+1->k<=l.length->L n (k:Int)=some (if(l.drop k).any b=true then .stop r else .next ())
 | 0,k,h,hk=>by omega
 | n+1,k,h,hk=>by
  rw[hL]
  by_cases hlt:k < l.length
  ·rw[if_pos (by simpa using hlt),cU hlt,drop_eq_getElem_cons hlt,obs,any_cons]
   cases hb:b l[k] with
   | true=>simp
   | false=>
    rw[if_neg (by simp),cn hlt (by omega),Wt hp hL n (k+1) (by omega) (by omega)]
    simp
  ·rw[if_neg (by simpa using hlt),drop_eq_nil_of_le (by omega)]
   rfl
theorem XQ (L:Nat->Int->Option (Ctl R Unit)) {l:List α} (hp:l.length<=9223372036854775807) {b:α->Bool} {r:R}
  (hL:∀ (n:Nat) (x:Int),L (n+1) x=if decide (x < (l.length:Int))=true then Option.bind (idx l x) fun y=>if b y=true then some (.stop r) else L n (ae (x+1)) else some (.next ())):
  L ((((l.length:Int):Int) - (0)).toNat+1) 0=some (if l.any b=true then .stop r else .next ()):=by
 rw[show (((l.length:Int):Int) - (0)).toNat+1=l.length+1 by omega]
 exact Wt hp hL (l.length+1) 0 (by omega) (by omega)
theorem Vf {len:Nat} (hp:len<=9223372036854775807) {L:Nat->Int->Option (Ctl R Unit)} {b:Nat->Bool} {r:R}
  (hL:∀ (n k:Nat),k < len->L (n+1) (k:Int)=if b k=true then some (.stop r) else L n ((k+1:Nat):Int)) (hE:∀ n,L (n+1) (len:Int)=some (.next ())):
  ∀ (n k:Nat),n+k=len+1->k<=len->L n (k:Int)=some (if(range' k (len - k)).any b=true then .stop r else .next ())
 | 0,k,h,hk=>by omega
 | n+1,k,h,hk=>by
  by_cases hlt:k < len
  ·rw[hL n k hlt,show len - k=(len - (k+1))+1 by omega,range'_succ,any_cons]
   cases hb:b k with
   | true=>simp
   | false=>rw[if_neg (by simp),Vf hp hL hE n (k+1) (by omega) (by omega)];simp only[Bool.false_or]
  ·have:k=len:=by omega
   subst this
   rw[hE];simp
theorem afB (L:Nat->Int->Option (Ctl R Unit)) {len:Nat} (hp:len<=9223372036854775807) {b:Nat->Bool} {r:R}
  (hL:∀ (n k:Nat),k < len->L (n+1) (k:Int)=if b k=true then some (.stop r) else L n ((k+1:Nat):Int)) (hE:∀ n,L (n+1) (len:Int)=some (.next ())):
  L ((((len:Int):Int) - (0)).toNat+1) 0=some (if(List.range len).any b=true then .stop r else .next ()):=by
 rw[show (((len:Int):Int) - (0)).toNat+1=len+1 by omega,range_eq_range']
 exact Vf hp hL hE (len+1) 0 (by omega) (by omega)
theorem JO (f:List β->α -> Option (List β)) (g:α->β) (m:Nat) (h:∀ (s:List β) (y:α),s.length < m->f s y=some (s++[g y])):∀ (l:List α) (s:List β),s.length+l.length<=m->JV f s l=some (s++l.map g)
 | [],s,_=>by simp[JV]
 | y::l,s,hl=>by
  simp only[length_cons] at hl
  simp only[JV,h s y (by omega),obs]
  rw[JO f g m h l _ (by simp;omega)];simp
end Go.Abs

