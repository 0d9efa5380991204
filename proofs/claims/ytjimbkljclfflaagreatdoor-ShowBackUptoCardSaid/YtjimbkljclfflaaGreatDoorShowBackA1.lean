/- The abstract layer that the proof stands on: no condition. -/
import Derived.Test.YtjimbkljclfflaaGreatDoorShowBackA0
import Derived.Maps.AppendAt
import Derived.Laws.MakeOwn
namespace Go.Abs
open List
variable {G:List (Nat×List PV)}
open Go.RowKit
theorem aaD (w:World) (o:Obj) (i:Nat) (h:i < w.heap.size):(w.alloc o).heap[i]? =w.heap[i]? :=heap_alloc_old w o i h
theorem sQ {α:Type} {sz:Nat}:∀ {rows:List (List α)},(∀ row∈rows,row.length=sz)->∀ (i j:Nat) (row:List α),rows[i]? =some row->j < sz->rows.flatten[i * sz+j]? =row[j]?
 | [],_,i,j,row,h,_=>by simp at h
 | r::rows,hz,0,j,row,h,hj=>by
  simp at h;subst h
  have:=hz r (by simp)
  simp only[Nat.zero_mul,Nat.zero_add,flatten_cons]
  rw[getElem?_append_left (by omega)]
 | r::rows,hz,i+1,j,row,h,hj=>by
  have h1:=hz r (by simp)
  simp only[getElem?_cons_succ] at h
  simp only[flatten_cons]
  rw[getElem?_append_right (by rw[Nat.add_mul];omega),<- sQ (fun row hr=>hz row (by simp[hr])) i j row h hj]
  congr 1
  rw[Nat.add_mul];omega
theorem nY {α:Type} {sz:Nat}:∀ {rows:List (List α)},(∀ row∈rows,row.length=sz)->rows.flatten.length=rows.length * sz
 | [],_=>by simp
 | r::rows,h=>by
  simp only[flatten_cons,length_append,length_cons,Nat.add_mul]
  rw[nY (fun row hr=>h row (by simp[hr])),h r (by simp)]
  omega
theorem Dt {w:World} {O:Nat->Prop} {sz:Nat} {rows:List (List PV)} {us:List Value} (h:Reads1 w O us rows.flatten) (hz:∀ row∈rows,row.length=sz):RowsRd w O sz rows us:=by
 refine⟨by rw[h.1,nY hz],hz,fun row hr x hx=>h.2.1 x (List.mem_flatten.2 ⟨row,hr,hx⟩),fun i j row x u h1 h2 h3=> ?_⟩
 have hj:j < sz:=by have:=(List.getElem?_eq_some_iff.1 h2).1;rw[hz row (mem_of_getElem? h1)] at this;exact this
 exact h.2.2 _ x u (by rw[sQ hz i j row h1 hj];exact h2) h3
theorem RowsRd.append {w:World} {O:Nat->Prop} {sz:Nat} {rows rows':List (List PV)} {us us':List Value} (h:RowsRd w O sz rows us) (h':RowsRd w O sz rows' us'):RowsRd w O sz (rows++rows') (us++us'):=by
 refine⟨by simp[h.len,h'.len,Nat.add_mul],?_,?_,?_⟩
 ·intro row hr;rcases List.mem_append.1 hr with h1 | h1
  ·exact h.hz row h1
  ·exact h'.hz row h1
 ·intro row hr;rcases List.mem_append.1 hr with h1 | h1
  ·exact h.one row h1
  ·exact h'.one row h1
 ·intro i j row x u h1 h2 h3
  rw[getElem?_append] at h1
  split at h1
  ·rename_i hi
   have hj:j < sz:=by have:=(List.getElem?_eq_some_iff.1 h2).1;rw[h.hz row (mem_of_getElem? h1)] at this;exact this
   rw[getElem?_append_left (by rw[h.len];exact sI hi hj)] at h3
   exact h.rd i j row x u h1 h2 h3
  ·rename_i hi
   have e:i * sz=(i - rows.length) * sz+rows.length * sz:=by rw[<- Nat.add_mul];congr 1;omega
   rw[getElem?_append_right (by rw[h.len];omega)] at h3
   refine h'.rd (i - rows.length) j row x u h1 h2 ?_
   rw[<- h3,h.len];congr 1;omega
theorem pW {w:World} {O:Nat->Prop} {sz:Nat} {rows:List (List PV)} {us:List Value} (h:RowsRd w O sz rows us) {g cap:Nat} {cur:Array Value} {e:TypeId} {f:Nat×Nat} (hg:w.heap[g]? =some (.cells cur e f))
  (ht:cur.toList.take (rows.length * sz)=us) (hO:¬ O g) (hc:rows.length<=cap) (hm:cap<=maxLen):Rd w O (.vs sz rows) (.slice (some ⟨g,0,none⟩) rows.length cap):=by
 have hlt:g < w.heap.size:=by
  rcases Nat.lt_or_ge g w.heap.size with h1 | h1
  ·exact h1
  ·rw[Array.getElem?_eq_none h1] at hg;cases hg
 refine .vs sz rows g 0 cap (fun k=>us.getD k undef) hO hlt hc hm h.hz h.one (fun k hk=> ?_) (fun i j row x h1 h2=> ?_)
 ·have hk':k < us.length:=by rw[h.len];exact hk
  rw[Nat.zero_add,cell_of_row w g k cur e f hg]
  have:us[k]? =some us[k]:=getElem?_eq_getElem hk'
  simp only[getD,this,Option.getD_some]
  have h2:(cur.toList.take (rows.length * sz))[k]? =some us[k]:=by rw[ht];exact this
  rw[getElem?_take,if_pos hk] at h2
  simpa using h2
 ·have hi:i < rows.length:=(List.getElem?_eq_some_iff.1 h1).1
  have hj:j < sz:=by have:=(List.getElem?_eq_some_iff.1 h2).1;rw[h.hz row (mem_of_getElem? h1)] at this;exact this
  have hk':i * sz+j < us.length:=by rw[h.len];exact sI hi hj
  have:us[i * sz+j]? =some us[i * sz+j]:=getElem?_eq_getElem hk'
  simp only[getD,this,Option.getD_some]
  exact h.rd i j row x _ h1 h2 this
theorem Tv {w:World} {O:Nat->Prop} {sz:Nat} {rows:List (List PV)} {b off cap:Nat} {us:Nat->Value} (h:¬ O b/\b < w.heap.size/\rows.length<=cap/\cap<=maxLen/\
  (∀ row∈rows,row.length=sz)/\(∀ row∈rows,∀ x∈row,x.one=true)/\(∀ k,k < rows.length * sz->w.cell? ⟨b,off+k,none⟩=some (us k))/\
  ∀ (i j:Nat) (row:List PV) (x:PV),rows[i]? =some row->row[j]? =some x->Rd w O x (us (i * sz+j))):
  ∃ us:List Value,RowsRd w O sz rows us/\(∀ k u,us[k]? =some u->w.cell? ⟨b,off+k,none⟩=some u)/\¬ O b/\b < w.heap.size:=by
 obtain⟨h1,h2,h3,h4,h5,h6,h7,h8⟩:=h
 have key:∃ us:List Value,RowsRd w O sz rows us/\(∀ k u,us[k]? =some u->w.cell? ⟨b,off+k,none⟩=some u)/\¬ O b/\b < w.heap.size:=by
  refine⟨(List.range (rows.length * sz)).map us,⟨by simp,h5,h6,fun i j row x u hi hj hu=> ?_⟩,fun k u hu=> ?_,h1,h2⟩
  ·rw[getElem?_map,Option.map_eq_some_iff] at hu
   obtain⟨k,hk,rfl⟩:=hu
   obtain⟨hk1,hk2⟩:=List.getElem?_eq_some_iff.1 hk
   simp at hk2;subst hk2
   exact h8 i j row x hi hj
  ·rw[getElem?_map,Option.map_eq_some_iff] at hu
   obtain⟨k',hk,rfl⟩:=hu
   obtain⟨hk1,hk2⟩:=List.getElem?_eq_some_iff.1 hk
   simp at hk1 hk2;subst hk2
   exact h7 k (by omega)
 exact key
def zu (P:Program) (e bytes:Nat):Bool:=match P.info? e with | some i=>i.bytes==bytes | none=>false
section
variable {ro:Option Nat} {P:Program} {c:Cx G} {s s':St} {o:Oper} {d:Option Nat}
theorem Bn (w:World) (t ty e:TypeId) (i:TypeInfo) (size:Nat) (ht:P.underlying t=some (.slice e)) (hi:P.info? e=some i)
  (v:Value) (n:Nat) (xs:List Value) (hown:ownsW w e size v n xs) (c:Nat):(Builtin.append_ #[t,t] ty #[v,.slice none 0 c]).run P w= .ok v w:=by
 rcases hown.2 with⟨rfl,rfl⟩ | ⟨g,cap,cur,rfl,_,_,hnc,_⟩
 ·simp[Builtin.append_,run_underlying ht,sizeOf,typeInfo,hi,Builtin.lenOf,Builtin.firstCells]
 ·simp[Builtin.append_,run_underlying ht,sizeOf,typeInfo,hi,Builtin.lenOf,Builtin.firstCells,hnc,storeCells]
theorem yc {w:World} {T e sz bytes:Nat} {ty:TypeId} {i:TypeInfo} {z:Value} (h1:P.underlying T=some (.slice e)) (h2:P.info? e=some i) (hz:i.zero=some z) (h3:i.size=sz) (hb2:i.bytes=bytes) (hzl:z.cells.size=sz)
  {u:Value} {n:Nat} {us:List Value} (hown:ownsW w e sz u n us) (ad:Addr) (m c:Nat) (vs:List Value) (hl:vs.length=m * sz) (hc:∀ j v,vs[j]? =some v->w.cell? (ad.add j)=some v) (h1c:∀ x∈vs,x.oneCell'=true)
  (hsum:n+m<=maxLen) (hroom:(n+m) * bytes<=140737488355328):
  ∃ v' w',(Builtin.append_ #[T,T] ty #[u,.slice (some ad) m c]).run P w= .ok v' w'/\ownsW w' e sz v' (n+m) (us++vs)/\w.grownBy w' (bU u)/\(bU v'=bU u\/bU v'=some w.heap.size):=by
 have hsm:n+m<=9223372036854775807:=by simp only[maxLen] at hsum;omega
 have zs:∀ k,(Builtin.zeroCells z.cells k).size=k * sz:=fun k=>by simp[Builtin.zeroCells,hzl]
 have hlen:(us++vs).length=(n+m) * sz:=by rw[length_append,hown.1,hl,Nat.add_mul]
 have made:∀ old:Nat,(row:Option Nat)->ownsW (w.drew.alloc (.cells (us.toArray++vs.toArray++Builtin.zeroCells z.cells (grownCap w (n+m) old e - (n+m))) e)) e sz (.slice (some ⟨w.heap.size,0,none⟩) (n+m) (grownCap w (n+m) old e)) (n+m) (us++vs)/\
   w.grownBy (w.drew.alloc (.cells (us.toArray++vs.toArray++Builtin.zeroCells z.cells (grownCap w (n+m) old e - (n+m))) e)) row:=by
  intro old row
  have hge:=grownCap_ge w (n+m) old e
  refine⟨⟨hlen,.inr ⟨w.heap.size,_,_,rfl,trivial,heap_alloc_new w.drew _,hge,grownCap_le_maxLen w (n+m) old e hsum,?_,?_⟩⟩,⟨rfl,rfl,rfl,by simp,fun k hk _=>aaD w.drew _ k hk⟩⟩
  ·simp only[Array.size_append,size_toArray,zs,hown.1,hl,<- Nat.add_mul]
   exact Nat.mul_le_mul_right _ (by omega)
  ·simp only[Array.toList_append]
   rw[<- hlen]
   exact take_left
 rcases hown.2 with⟨rfl,rfl⟩ | ⟨g,cap,cur,rfl,_,hg,hnc,hcm,hcs,ht⟩
 ·obtain rfl:us=[]:=eq_nil_of_length_eq_zero (by simpa using hown.1)
  rcases Nat.eq_zero_or_pos m with hm | hm
  ·subst hm
   obtain rfl:vs=[]:=eq_nil_of_length_eq_zero (by simpa using hl)
   exact⟨.slice none 0 0,w,by simp[Builtin.append_,run_underlying h1,sizeOf,typeInfo,h2,Builtin.lenOf,Builtin.firstCells,loadCells,loadCellsFrom],zU w e sz,World.grownBy.refl w _,.inl rfl⟩
  ·have hr:=run_append_nil (P:=P) w T ty e i z h1 h2 hz ad m c vs (by rw[h3];exact hl) hc hm (by omega) (by rw[hb2];simp only[Nat.zero_add] at hroom;omega)
   obtain⟨k1,k2⟩:=made 0 (bU (.slice none 0 0))
   simp only[Nat.zero_add,nil_append,Array.empty_append] at k1 k2 ⊢
   exact⟨_,_,hr,k1,k2,.inr rfl⟩
 ·by_cases hfit:n+m<=cap
  ·have hle:n * sz+m * sz<=cur.size:=by
    rw[<- Nat.add_mul];exact Nat.le_trans (Nat.mul_le_mul_right _ hfit) hcs
   have hr:=run_append_room (P:=P) w T ty e i h1 h2 g n cap cur hg ad m c vs (by rw[h3];exact hl) hc h1c hfit (by rw[h3,hl];exact hle)
   rw[h3] at hr
   refine⟨_,_,hr,⟨hlen,.inr ⟨g,cap,_,rfl,trivial,setRow_heap w g cur _ e _ hg,hfit,hcm,?_,?_⟩⟩,⟨rfl,rfl,rfl,by simp,fun k _ hk=>setRow_other w g k _ (fun e=>hk (by simp[bU,e]))⟩,.inl rfl⟩
   ·simp only[size_toArray,length_append,length_take,length_drop,Array.length_toList,hl]
    omega
   ·rw[ht,<- hlen]
    exact take_left
  ·have hr:=run_append_grow (P:=P) w T ty e i z h1 h2 hz ⟨g,0,none⟩ n cap us (by rw[h3];exact hown.1) (hown.cells (g:=g) rfl) ad m c vs (by rw[h3];exact hl) hc (by omega) (by omega) (growslice_fits (by omega) (by rw[hb2];exact hroom))
   obtain⟨k1,k2⟩:=made cap (bU (.slice (some ⟨g,0,none⟩) n cap))
   exact⟨_,_,hr,k1,k2,.inr rfl⟩
theorem vm {T e sz n:Nat} {parts:List (Nat×Operand)} {z:Value} {zs:List PV} {rows:List (List PV)} {xs:List (Nat×AV)} (ht:sliceB P T e sz=true) (hz:cG P e z) (hzs:czs z.cells.toList zs)
  (hzl:zs.length=sz) (hsz:0 < sz) (hlen:Nat.ble (n * sz) 16777216=true) (hr:ot ((List.range n).map fun i=>(i * sz,sz)) (replicate n zs).flatten xs=some rows.flatten) (hrow:∀ row∈rows,row.length=sz)
  {O:Nat->Prop} {θ:Nat->Option Value} {a:Act} {w:World} (hs:SimAt c s O θ a w) (hx:EvL w O θ a.eval parts xs):
  ∃ us:Array Value,(Instr.buildSlice T n (parts.map fun(i,x)=>(i,a.eval x)).toArray).run P w= .ok (.slice (some ⟨w.heap.size,0,none⟩) n n) (w.alloc (.cells us e))/\RowsRd w O sz rows us.toList/\us.size=n * sz:=by
 obtain⟨i,h1,h2,h3⟩:=mu ht
 have hzr:=xB (w:=w) (O:=O) hzs
 have hzc:z.cells.size=sz:=by have:=hzr.1;simp at this;omega
 have hlen':n * sz<=16777216:=Nat.le_of_ble_eq_true hlen
 have hrep:∀ row∈replicate n zs,row.length=sz:=fun row hr=>by rw[eq_of_mem_replicate hr];exact hzl
 have hfl:(replicate n zs).flatten.length=n * sz:=by rw[nY hrep];simp
 have hinit:Reads1 w O (((Array.range (n * sz)).map (z.cells[· % z.cells.size]!))).toList (replicate n zs).flatten:=by
  refine⟨by simp[hfl],fun p hp=> ?_,fun j p u hp hu=> ?_⟩
  ·obtain⟨row,hr,hp⟩:=List.mem_flatten.1 hp
   rw[eq_of_mem_replicate hr] at hp
   exact hzr.2.1 p hp
  ·have hj:j < n * sz:=by have:=(List.getElem?_eq_some_iff.1 hp).1;omega
   have hq:j / sz < n:=Nat.div_lt_of_lt_mul (by rw[Nat.mul_comm];exact hj)
   have hm:j % sz < sz:=Nat.mod_lt _ hsz
   have e:j / sz * sz+j % sz=j:=by rw[Nat.mul_comm];exact Nat.div_add_mod j sz
   rw[<- e,sQ hrep (j / sz) (j % sz) zs (by simp[hq]) hm] at hp
   simp only[Array.toList_map,getElem?_map,Array.toList_range,getElem?_range hj,Option.map_some,Option.some.injEq] at hu
   subst hu
   refine hzr.2.2 _ p _ hp ?_
   rw[hzc]
   have:j % sz < z.cells.size:=by omega
   simp[this]
 obtain⟨us',e1,e2⟩:=KR (place:=(List.range n).map fun i=>(i * sz,sz)) (pf:=fun i=>some (i * sz,sz)) (fun i p hp=>by
  rw[getElem?_map,Option.map_eq_some_iff] at hp
  obtain⟨k,hk,rfl⟩:=hp
  obtain⟨_,hk2⟩:=List.getElem?_eq_some_iff.1 hk
  simp at hk2;subst hk2;rfl) hs parts xs _ _ _ hx hr hinit
 have hrl:=Dt e2 hrow
 have hus:us'.size=n * sz:=by
  have h4:rows.flatten.length=(replicate n zs).flatten.length:=by
   have:∀ (xs:List (Nat×AV)) (cells r:List PV),ot ((List.range n).map fun i=>(i * sz,sz)) cells xs=some r->r.length=cells.length:=by
    intro xs
    induction xs with
    | nil=>intro cells r h;simp[ot] at h;rw[h]
    | cons x xs ih=>
     intro cells r h
     obtain⟨i,v⟩:=x
     simp only[ot] at h
     split at h
     ·simp only[cond_eq_ite] at h
      split at h
      ·rename_i hc
       simp only[Bool.and_eq_true] at hc
       rw[ih _ _ h,gD _ _ _ (Nat.le_of_ble_eq_true hc.2)]
      ·cases h
     ·cases h
   exact this _ _ _ hr
  have:=e2.1
  simp at this
  rw[this]
  rw[show (map length rows).sum=rows.flatten.length by simp,h4,hfl]
 refine⟨us',?_,hrl,hus⟩
 by_cases h0:n * sz=0
 ·have hn0:n=0:=by rcases Nat.mul_eq_zero.1 h0 with h | h<;>omega
  subst hn0
  have hr0:∀ f:Nat->Value,(Array.range 0).map f= #[]:=fun f=>by simp
  have e1':Instr.fill (fun i=>some (i * sz,sz)) #[] (parts.map fun(i,x)=>(i,a.eval x))=some us':=by
   rw[<- e1,Nat.zero_mul,hr0]
  simp only[Instr.buildSlice,run_underlying h1,sizeOf,typeInfo,h2,h3,Sem.run_bind,Result.andThen_ok,run_program,Sem.run_pure,Nat.zero_mul,hr0,e1']
  simp[newRow,newObj,Sem.run]
 ·simp[Instr.buildSlice,run_underlying h1,sizeOf,typeInfo,h2,h3,h0,(tA hz w).1,e1,newRow,newObj,Sem.run,Nat.not_lt.2 hlen']
theorem ez {T e sz n:Nat} {parts:List (Nat×Operand)} {z:Value} {zs:List PV} {rows:List (List PV)} {xs:List (Nat×AV)} (ho:o.op= .buildSlice T n parts.toArray) (hrn:rows.length=n) (ht:sliceB P T e sz=true) (hz:cG P e z) (hzs:czs z.cells.toList zs)
  (hzl:zs.length=sz) (hsz:Nat.blt 0 sz=true) (hlen:Nat.ble (n * sz) 16777216=true) (hx:evs s parts=some xs) (hr:ot ((List.range n).map fun i=>(i * sz,sz)) (replicate n zs).flatten xs=some rows.flatten) (hrow:(rows.all fun row=>Nat.beq row.length sz)=true)
  (hd:o.dst=d) (hn:dOk s d=true):da ro P c o s (s.put d (some (.pv (.vs sz rows)))):=
 sY (s1:=s) hd hn (by rw[ho];intro k h;cases h) fun a w O θ hs=>by
  subst hrn
  have hrow':∀ row∈rows,row.length=sz:=fun row h=>Nat.eq_of_beq_eq_true (List.all_eq_true.1 hrow row h)
  have hsz':0 < sz:=by simpa [Nat.blt_eq] using hsz
  obtain⟨us,h1,h2,h3⟩:=vm ht hz hzs hzl hsz' hlen hr hrow' hs (EvL.of hs hx)
  have hg:=sK w (.cells us e)
  have hO:∀ b,b < w.heap.size->¬ O b->¬ O b/\(w.alloc (.cells us e)).heap[b]? =w.heap[b]? :=fun b hb hn=>⟨hn,hg.block b hb (by simp)⟩
  have hnO:¬ O w.heap.size:=fun h=>by have:=hs.olt _ h;omega
  have hbig:rows.length<=maxLen:=by
   have h5:rows.length * sz<=16777216:=Nat.le_of_ble_eq_true hlen
   have:rows.length<=rows.length * sz:=Nat.le_mul_of_pos_right _ hsz'
   unfold maxLen;omega
  refine⟨_,_,O,θ,by simp only[execOp,ho,map_toArray,h1,Sem.run_bind,Sem.run_pure,Result.andThen_ok],?_,.pv _ _ (pW (h2.mono hg.size hO) (heap_alloc_new w _) (by rw[<- h3,<- Array.length_toList,take_length]) hnO (Nat.le_refl _) hbig)⟩
  exact hs.grownNone hg
theorem abX {T e sz n:Nat} {parts:List (Nat×Operand)} {z:Value} {zs:List PV} {rows:List (List PV)} {xs:List (Nat×AV)} (ho:o.op= .buildSlice T n parts.toArray) (hrn:rows.length=n) (ht:sliceB P T e sz=true) (hz:cG P e z) (hzs:czs z.cells.toList zs)
  (hzl:zs.length=sz) (hsz:Nat.blt 0 sz=true) (hlen:Nat.ble (n * sz) 16777216=true) (hx:∀ a w O θ,SimAt c s O θ a w->EvL w O θ a.eval parts xs) (hr:ot ((List.range n).map fun i=>(i * sz,sz)) (replicate n zs).flatten xs=some rows.flatten) (hrow:(rows.all fun row=>Nat.beq row.length sz)=true)
  (hd:o.dst=d) (hn:dOk s d=true):da ro P c o s (s.put d (some (.pv (.vs sz rows)))):=
 sY (s1:=s) hd hn (by rw[ho];intro k h;cases h) fun a w O θ hs=>by
  subst hrn
  have hrow':∀ row∈rows,row.length=sz:=fun row h=>Nat.eq_of_beq_eq_true (List.all_eq_true.1 hrow row h)
  have hsz':0 < sz:=by simpa [Nat.blt_eq] using hsz
  obtain⟨us,h1,h2,h3⟩:=vm ht hz hzs hzl hsz' hlen hr hrow' hs (hx a w O θ hs)
  have hg:=sK w (.cells us e)
  have hO:∀ b,b < w.heap.size->¬ O b->¬ O b/\(w.alloc (.cells us e)).heap[b]? =w.heap[b]? :=fun b hb hn=>⟨hn,hg.block b hb (by simp)⟩
  have hnO:¬ O w.heap.size:=fun h=>by have:=hs.olt _ h;omega
  have hbig:rows.length<=maxLen:=by
   have h5:rows.length * sz<=16777216:=Nat.le_of_ble_eq_true hlen
   have:rows.length<=rows.length * sz:=Nat.le_mul_of_pos_right _ hsz'
   unfold maxLen;omega
  refine⟨_,_,O,θ,by simp only[execOp,ho,map_toArray,h1,Sem.run_bind,Sem.run_pure,Result.andThen_ok],?_,.pv _ _ (pW (h2.mono hg.size hO) (heap_alloc_new w _) (by rw[<- h3,<- Array.length_toList,take_length]) hnO (Nat.le_refl _) hbig)⟩
  exact hs.grownNone hg
theorem Xt (kk:Nat) (hk:ko s kk=true) {T e sz n:Nat} {parts:List (Nat×Operand)} {z:Value} {zs:List PV} {rows:List (List PV)} {xs:List (Nat×AV)} (ho:o.op= .buildSlice T n parts.toArray) (hrn:rows.length=n) (ht:sliceB P T e sz=true) (hz:cG P e z) (hzs:czs z.cells.toList zs)
  (hzl:zs.length=sz) (hsz:Nat.blt 0 sz=true) (hlen:Nat.ble (n * sz) 16777216=true) (hx:evs s parts=some xs) (hr:ot ((List.range n).map fun i=>(i * sz,sz)) (replicate n zs).flatten xs=some rows.flatten) (hrow:(rows.all fun row=>Nat.beq row.length sz)=true)
  (hd:o.dst=d) (hn:dOk s d=true):da ro P c o s ((s.addAt kk none (.row e sz rows)).put d (some (.ls kk))):=
 sY (s1:=s.addAt kk none (.row e sz rows)) hd hn (by rw[ho];intro k h;cases h) fun a w O θ hs=>by
  subst hrn
  have hrow':∀ row∈rows,row.length=sz:=fun row h=>Nat.eq_of_beq_eq_true (List.all_eq_true.1 hrow row h)
  have hsz':0 < sz:=by simpa [Nat.blt_eq] using hsz
  obtain⟨us,h1,h2,h3⟩:=vm ht hz hzs hzl hsz' hlen hr hrow' hs (EvL.of hs hx)
  have hg:=sK w (.cells us e)
  have hbig:rows.length<=maxLen:=by
   have h5:rows.length * sz<=16777216:=Nat.le_of_ble_eq_true hlen
   have:rows.length<=rows.length * sz:=Nat.le_mul_of_pos_right _ hsz'
   unfold maxLen;omega
  obtain⟨O',θ',h4,h5,h6,h7⟩:=hs.addAt (w':=w.alloc (.cells us e)) (row:=none) (v:= .slice (some ⟨w.heap.size,0,none⟩) rows.length rows.length) (b:= .row e sz rows) kk hk none (by simp) (fun _=>rfl) hg
   (fun g hg=>by simp[bU] at hg;subst hg;simp) rfl (fun O' θ' hO' hθ'=>⟨us.toList,⟨by simpa using h3,.inr ⟨w.heap.size,rows.length,us,rfl,trivial,heap_alloc_new w _,Nat.le_refl _,hbig,Nat.le_of_eq h3.symm,by rw[<- h3,<- Array.length_toList,take_length]⟩⟩,
    h2.mono hg.size (fun b hb hn=>⟨fun hh=>by
     rcases(hO' b).1 hh with h | h
     ·exact hn h
     ·simp[bU] at h;omega,hg.block b hb (by simp)⟩)⟩)
  exact⟨_,_,O',θ',by simp only[execOp,ho,map_toArray,h1,Sem.run_bind,Sem.run_pure,Result.andThen_ok],h7,.ls _ _ h6⟩
theorem fJ (kk:Nat) (hk:ko s kk=true) {T e sz bytes:Nat} {x y:Operand} {id:Nat} {rows news rows':List (List PV)} {z:Value} (ho:o.op= .call { callee:= .builtin .append,args:= #[x,y],argTypes:= #[T,T] }) (hx:ev s x=some (.ls id)) (hb:aX id s.hp=some (.row e sz rows))
  (hy:ev s y=some (.pv (.vs sz news))) (ht:sliceB P T e sz=true) (hby:zu P e bytes=true) (hz:cG P e z) (hzl:z.cells.size=sz) (hsz:Nat.blt 0 sz=true) (hby0:Nat.blt 0 bytes=true) (hroom:(rows.length+news.length) * bytes<=140737488355328)
  (hrows:rows++news=rows') (hd:o.dst=d) (hn:dOk s d=true):da ro P c o s ((s.addAt kk (some id) (.row e sz rows')).put d (some (.ls kk))):=
 sY (s1:=s.addAt kk (some id) (.row e sz rows')) hd hn (by rw[ho];intro k h;cases h) fun a w O θ hs=>by
  subst hrows
  obtain⟨i,h1,h2,h3⟩:=mu ht
  have hb2:i.bytes=bytes:=by simpa [zu,h2] using hby
  have hsz':0 < sz:=by simpa [Nat.blt_eq] using hsz
  have hby1:0 < bytes:=by simpa [Nat.blt_eq] using hby0
  obtain⟨_,i',hi',hz'⟩:=tA hz w
  rw[h2] at hi';cases hi'
  have hsum:rows.length+news.length<=maxLen:=by
   have:rows.length+news.length<=(rows.length+news.length) * bytes:=Nat.le_mul_of_pos_right _ hby1
   unfold maxLen;omega
  have h:=jJ hs hx
  have hv:=ug hs hy
  generalize ha:a.eval x=u at h
  generalize hay:a.eval y=v at hv
  cases h with
  | ls _ _ h=>
   obtain⟨v',hv',⟨us,hown,hrd⟩,hO2⟩:=hs.hp id _ hb
   rw[h] at hv';cases hv'
   have main:∃ v' w' vs,(Builtin.append_ #[T,T] o.type #[u,v]).run P w= .ok v' w'/\ownsW w' e sz v' (rows.length+news.length) (us++vs)/\w.grownBy w' (bU u)/\RowsRd w O sz news vs/\(bU v'=bU u\/bU v'=some w.heap.size):=by
    rcases Fh hv with⟨ad,cap0,rfl,rfl,hc0,_⟩ | ⟨b,off,cap,f,rfl,hr⟩
    ·cases ad with
     | some ad=>
      obtain⟨v',w',r1,r2,r3,r5⟩:=yc (P:=P) (ty:=o.type) h1 h2 hz' h3 hb2 hzl hown ad 0 cap0 [] (by simp) (by simp) (by simp) hsum hroom
      exact⟨v',w',[],r1,r2,r3,⟨by simp,by simp,by simp,fun i j row x u h=>by simp at h⟩,r5⟩
     | none=>
     obtain rfl:=hc0 rfl
     exact⟨u,w,[],Bn w T o.type e i sz h1 h2 u _ us hown 0,by simpa using hown,World.grownBy.refl w _,⟨by simp,by simp,by simp,fun i j row x u h=>by simp at h⟩,.inl rfl⟩
    ·obtain⟨vs,q1,q2,q3,q4⟩:=Tv hr
     have h1c:∀ u∈vs,u.oneCell'=true:=by
      intro u hu
      obtain⟨k,hk⟩:=getElem?_of_mem hu
      have hkl:k < news.length * sz:=by have:=(List.getElem?_eq_some_iff.1 hk).1;rw[q1.len] at this;exact this
      have hq:k / sz < news.length:=Nat.div_lt_of_lt_mul (by rw[Nat.mul_comm];exact hkl)
      have hm:k % sz < sz:=Nat.mod_lt _ hsz'
      have e1:k / sz * sz+k % sz=k:=by rw[Nat.mul_comm];exact Nat.div_add_mod k sz
      have er:news[k / sz]? =some news[k / sz]:=getElem?_eq_getElem hq
      have hl':k % sz < news[k / sz].length:=by rw[q1.hz _ (mem_of_getElem? er)];exact hm
      exact(q1.rd _ _ _ _ u er (getElem?_eq_getElem hl') (by rw[e1];exact hk)).one_ (q1.one _ (mem_of_getElem? er) _ (getElem_mem hl'))
     obtain⟨v',w',r1,r2,r3,r5⟩:=yc (P:=P) (ty:=o.type) h1 h2 hz' h3 hb2 hzl hown ⟨b,off,none⟩ news.length cap vs q1.len (fun j u hu=>by rw[Addr.add_lit];exact q2 j u hu) h1c hsum hroom
     exact⟨v',w',vs,r1,r2,r3,q1,r5⟩
   obtain⟨v',w',vs,r1,r2,r3,r4,r5⟩:=main
   have hv'b:∀ g,bU v'=some g->g < w'.heap.size/\(w.heap.size<=g\/bU u=some g):=by
    intro g hg
    have hlt:g < w'.heap.size:=by
     rcases r2.2 with⟨rfl,_⟩ | ⟨g',cap,cur,rfl,_,hh,_⟩
     ·cases hg
     ·simp[bU] at hg;subst hg
      rcases Nat.lt_or_ge g' w'.heap.size with h1 | h1
      ·exact h1
      ·rw[Array.getElem?_eq_none h1] at hh;cases hh
    rcases r5 with r5 | r5
    ·exact⟨hlt,.inr (by rw[<- r5];exact hg)⟩
    ·rw[hg] at r5;cases r5
     exact⟨hlt,.inl (Nat.le_refl _)⟩
   obtain⟨O',θ',h4,h5,h6,h7⟩:=hs.addAt (w':=w') (row:=bU u) (v:=v') (b:= .row e sz (rows++news)) kk hk (some id) (fun A' hA'=>by
     cases hA';exact⟨_,u,hb,h,rfl⟩) (by simp) r3 hv'b (by
     rcases r2.2 with⟨rfl,_⟩ | ⟨g',cap,cur,rfl,_⟩<;>rfl) (fun O' θ' hO' hθ'=>⟨us++vs,by simpa using r2,by
     have hO:∀ b,b < w.heap.size->¬ O b->¬ O' b/\w'.heap[b]? =w.heap[b]? :=by
      intro b hb1 hb2
      refine⟨fun hh=> ?_,r3.block b hb1 (fun e=>hb2 (hO2 b e.symm).1)⟩
      rcases(hO' b).1 hh with h8 | h8
      ·exact hb2 h8
      ·rcases(hv'b b h8).2 with h9 | h9
       ·omega
       ·exact hb2 (hO2 b h9).1
     exact(hrd.mono r3.size hO).append (r4.mono r3.size hO)⟩)
   exact⟨v',w',O',θ',by simp[execOp,ho,resolve,invoke,builtin,ha,hay,r1],h7,.ls _ _ h6⟩
end
end Go.Abs

namespace Go.Abs
open List
variable {G:List (Nat×List PV)}
open Go.RowKit
def iR : List PV->List PV->Option Bool
 | [],[]=>some true
 | .int k a::l,.int k' b::m=>bif decide (k=k') then(match iR l m with | some r=>some (a==b&&r) | none=>none) else none
 | .bool a::l,.bool b::m=>(match iR l m with | some r=>some (a==b&&r) | none=>none)
 | .str a::l,.str b::m=>(match iR l m with | some r=>some (a==b&&r) | none=>none)
 | _,_=>none
inductive Tag where
 | b
 | i (k:IntKind)
 | s
 deriving DecidableEq
def PV.tag : PV->Option Tag
 | .bool _=>some .b
 | .int k _=>some (.i k)
 | .str _=>some .s
 | _=>none
def vo (P:Program) (g:TypeId->Option (List Tag)):Nat->List Field->Option (List Tag)
 | _,[]=>some []
 | n,f::fs=>match g f.type with
  | some ts=>if f.offset==n&&f.name != "_" && (P.info? f.type).any (·.size==ts.length) then(match vo P g (n+ts.length) fs with | some r=>some (ts++r) | none=>none) else none
  | none=>none
def yV (P:Program):(d:Nat)->TypeId->Option (List Tag)
 | 0,_=>none
 | d+1,t=>
  match P.underlying t with
  | some .bool=>some [.b]
  | some (.int k)=>some [.i k]
  | some .string=>some [.s]
  | some (.struct fs)=>if P.stoodInHeld t then none else vo P (yV P d) 0 fs.toList
  | some (.array len e)=>match yV P d e with
   | some ts=>if(P.info? e).any (·.size==ts.length) then some (replicate len ts).flatten else none
   | none=>none
  | _=>none
theorem pX : ∀ {a b a' b':List PV} {r:Bool},a.length=b.length->iR (a++a') (b++b')=some r->∃ x y,iR a b=some x/\iR a' b'=some y/\r=(x&&y)
 | [],[],a',b',r,_,h=>⟨true,r,rfl,h,by simp⟩
 | x::a,y::b,a',b',r,hl,h=>by
  have hl':a.length=b.length:=by simpa using hl
  cases x<;>cases y<;>simp only[cons_append,iR] at h<;>try (cases h;done)
  ·rename_i k n k' n'
   simp only[cond_eq_ite,decide_eq_true_eq] at h
   split at h
   ·rename_i hk
    split at h
    ·rename_i r' hr'
     cases h
     obtain⟨x,y,h1,h2,rfl⟩:=pX hl' hr'
     exact⟨n==n'&&x,y,by simp[iR,hk,h1],h2,by simp[Bool.and_assoc]⟩
    ·cases h
   ·cases h
  ·rename_i n n'
   split at h
   ·rename_i r' hr'
    cases h
    obtain⟨x,y,h1,h2,rfl⟩:=pX hl' hr'
    exact⟨n==n'&&x,y,by simp[iR,h1],h2,by simp[Bool.and_assoc]⟩
   ·cases h
  ·rename_i n n'
   split at h
   ·rename_i r' hr'
    cases h
    obtain⟨x,y,h1,h2,rfl⟩:=pX hl' hr'
    exact⟨n==n'&&x,y,by simp[iR,h1],h2,by simp[Bool.and_assoc]⟩
   ·cases h
 | [],_::_,_,_,_,h,_=>by simp at h
 | _::_,[],_,_,_,h,_=>by simp at h
def vV (P:Program) (t:TypeId) (us:List Value):Value:=
 match P.underlying t with
 | some (.struct _) | some (.array _ _)=> .agg us.toArray
 | _=>us.getD 0 undef
section
variable {P:Program}
theorem A6 {w:World} {t:TypeId} {us:List Value} {off:Nat} {d:Nat} {ts:List Tag} (hk:yV P d t=some ts) (hs:(P.info? t).any (·.size==ts.length)=true) (hfit:off+ts.length<=us.length):
  (part t us.toArray off).run P w= .ok (vV P t ((us.drop off).take ts.length)) w:=by
 cases hi:P.info? t with
 | none=>rw[hi] at hs;cases hs
 | some i=>
  have hsz:i.size=ts.length:=by rw[hi] at hs;simpa using hs
  cases d with
  | zero=>simp[yV] at hk
  | succ d=>
   simp only[yV] at hk
   have agg:∀ (k:Nat),i.size=k->vV P t ((us.drop off).take k)= .agg ((us.drop off).take k).toArray->(isAgg t).run P w= .ok true w->(part t us.toArray off).run P w= .ok (vV P t ((us.drop off).take k)) w:=by
    intro k hk hm ha
    rw[hm]
    have e:us.toArray.extract off (off+k)=((us.drop off).take k).toArray:=by simp
    simp[part,ha,sizeOf,typeInfo,hi,hk,e]
   have one:∀ (k:Nat),k=1->off+k<=us.length->(vV P t ((us.drop off).take k)=((us.drop off).take k).getD 0 undef)->(isAgg t).run P w= .ok false w->(part t us.toArray off).run P w= .ok (vV P t ((us.drop off).take k)) w:=by
    rintro k rfl hf hm ha
    have hg:us.toArray[off]? =some (us[off]'(by omega)):=by simp
    rw[hm,drop_eq_getElem_cons (by omega)]
    simp[part,ha,hg,getElem?_eq_getElem (show off < us.length by omega)]
   split at hk
   ·rename_i hu;cases hk;exact one _ rfl hfit (by unfold vV;rw[hu]) (by simp[isAgg,run_underlying hu])
   ·rename_i hu;cases hk;exact one _ rfl hfit (by unfold vV;rw[hu]) (by simp[isAgg,run_underlying hu])
   ·rename_i hu;cases hk;exact one _ rfl hfit (by unfold vV;rw[hu]) (by simp[isAgg,run_underlying hu])
   ·rename_i fs hu;exact agg _ hsz (by unfold vV;rw[hu]) (by simp[isAgg,run_underlying hu])
   ·rename_i a b hu;exact agg _ hsz (by unfold vV;rw[hu]) (by simp[isAgg,run_underlying hu])
   ·cases hk
theorem Reads1.cut {w:World} {O:Nat->Prop} {us:List Value} {ps:List PV} (h:Reads1 w O us ps) (a b:Nat):Reads1 w O ((us.drop a).take b) ((ps.drop a).take b):=by
 refine⟨by simp[h.1],fun p hp=>h.2.1 p (mem_of_mem_drop (mem_of_mem_take hp)),fun j p u hp hu=> ?_⟩
 rw[getElem?_take] at hp hu
 split at hp
 ·rename_i hj
  rw[if_pos hj] at hu
  rw[getElem?_drop] at hp hu
  exact h.2.2 _ p u hp hu
 ·cases hp
theorem Kj : ∀ (d D:Nat) (t:TypeId) (ts:List Tag) (w:World) (O:Nat->Prop) (us vs:List Value) (ps qs:List PV) (r:Bool),d<=D->yV P d t=some ts->
  ps.map PV.tag=ts.map some->qs.map PV.tag=ts.map some->Reads1 w O us ps->Reads1 w O vs qs->iR ps qs=some r->(Op.equalIn D t (vV P t us) (vV P t vs)).run P w= .ok r w:=by
 intro d
 induction d with
 | zero=>intro D t k w O us vs ps qs r _ h;simp[yV] at h
 | succ d ih=>
  intro D t ts w O us vs ps qs r hD hk hp hq hu hv hr
  obtain⟨D,rfl⟩:∃ D',D=D'+1:=⟨D - 1,by omega⟩
  simp only[yV] at hk
  have hpl:ps.length=ts.length:=by simpa using congrArg length hp
  have hql:qs.length=ts.length:=by simpa using congrArg length hq
  -- one cell
  have basic:ts.length=1->∃ u v p q,us=[u]/\vs=[v]/\ps=[p]/\qs=[q]/\Rd w O p u/\Rd w O q v:=by
   intro h1
   obtain⟨p,rfl⟩:=List.length_eq_one_iff.1 (hpl.trans h1)
   obtain⟨q,rfl⟩:=List.length_eq_one_iff.1 (hql.trans h1)
   obtain⟨u,rfl⟩:=List.length_eq_one_iff.1 (hu.1.trans (hpl.trans h1))
   obtain⟨v,rfl⟩:=List.length_eq_one_iff.1 (hv.1.trans (hql.trans h1))
   exact⟨u,v,p,q,rfl,rfl,rfl,rfl,hu.2.2 0 p u rfl rfl,hv.2.2 0 q v rfl rfl⟩
  -- a part that is of a flat type, at its place
  have piece:∀ (f:TypeId) (tf:List Tag) (off:Nat) (r':Bool),yV P d f=some tf->(P.info? f).any (·.size==tf.length)=true->off+tf.length<=ts.length->
    ((ts.drop off).take tf.length)=tf->iR ((ps.drop off).take tf.length) ((qs.drop off).take tf.length)=some r'->
    ∃ x y,(part f us.toArray off).run P w= .ok x w/\(part f vs.toArray off).run P w= .ok y w/\(Op.equalIn D f x y).run P w= .ok r' w:=by
   intro f tf off r' h1 h2 h3 h4 h5
   refine⟨_,_,A6 h1 h2 (by rw[hu.1,hpl];exact h3),A6 h1 h2 (by rw[hv.1,hql];exact h3),?_⟩
   refine ih D f tf w O _ _ _ _ r' (by omega) h1 ?_ ?_ (hu.cut off _) (hv.cut off _) h5
   ·rw[map_take,map_drop,hp,<- map_drop,<- map_take,h4]
   ·rw[map_take,map_drop,hq,<- map_drop,<- map_take,h4]
  split at hk
  ·rename_i hut;cases hk
   obtain⟨u,v,p,q,rfl,rfl,rfl,rfl,h1,h2⟩:=basic rfl
   simp only[map_cons,map_nil,List.cons.injEq,and_true] at hp hq
   cases h1<;>simp[PV.tag] at hp
   cases h2<;>simp[PV.tag] at hq
   simp only[iR,Option.some.injEq] at hr
   simp[vV,hut,Op.equalIn,run_underlying hut,<- hr]
  ·rename_i k hut;cases hk
   obtain⟨u,v,p,q,rfl,rfl,rfl,rfl,h1,h2⟩:=basic rfl
   simp only[map_cons,map_nil,List.cons.injEq,and_true] at hp hq
   cases h1<;>simp[PV.tag] at hp
   cases h2<;>simp[PV.tag] at hq
   subst hp;subst hq
   simp only[iR,decide_true,cond_true,Option.some.injEq] at hr
   simp[vV,hut,Op.equalIn,run_underlying hut,<- hr]
  ·rename_i hut;cases hk
   obtain⟨u,v,p,q,rfl,rfl,rfl,rfl,h1,h2⟩:=basic rfl
   simp only[map_cons,map_nil,List.cons.injEq,and_true] at hp hq
   cases h1<;>simp[PV.tag] at hp
   cases h2<;>simp[PV.tag] at hq
   simp only[iR,Option.some.injEq,Bool.and_true] at hr
   have:=run_equalIn_string (P:=P) w D t
   simp[vV,hut,run_equalIn_string w D t _ _ hut,OD,<- hr]
  ·rename_i fs hut
   split at hk
   ·cases hk
   ·rename_i hst
    have hfs:P.fieldsOf t=fs:=by simp[Program.fieldsOf,hut]
    have hmk:∀ us,vV P t us= .agg us.toArray:=fun us=>by unfold vV;rw[hut]
    rw[hmk,hmk,run_equalIn_struct w D t _ _ (by rw[hfs];exact hut) (by simpa using hst),hfs]
    -- from the field at 'off' on
    have key:∀ (l:List Field) (off:Nat) (tr:List Tag) (r':Bool),vo P (yV P d) off l=some tr->ts.drop off=tr->off<=ts.length->iR (ps.drop off) (qs.drop off)=some r'->
      (Op.eqFields D us.toArray vs.toArray l).run P w= .ok r' w:=by
     intro l
     induction l with
     | nil=>
      intro off tr r' h1 h2 h3 h4
      simp only[vo,Option.some.injEq] at h1
      subst h1
      have e1:ts.length<=off:=List.drop_eq_nil_iff.1 h2
      rw[drop_eq_nil_of_le (by omega),drop_eq_nil_of_le (by omega)] at h4
      simp only[iR,Option.some.injEq] at h4
      simp[Op.eqFields,<- h4]
     | cons f l ihl=>
      intro off tr r' h1 h2 h3 h4
      simp only[vo] at h1
      split at h1
      ·rename_i tf htf
       split at h1
       ·rename_i hc
        simp only[Bool.and_eq_true,beq_iff_eq,bne_iff_ne,ne_eq] at hc
        obtain⟨⟨hc1,hc2⟩,hc3⟩:=hc
        split at h1
        ·rename_i tr' htr
         cases h1
         have hlen:off+tf.length<=ts.length:=by
          have:=congrArg length h2
          simp at this;omega
         have e1:(ts.drop off).take tf.length=tf:=by rw[h2];simp
         have e2:ts.drop (off+tf.length)=tr':=by rw[<- drop_drop,h2];simp
         have sp:∀ (xs:List PV),xs.drop off=(xs.drop off).take tf.length++xs.drop (off+tf.length):=fun xs=>by rw[<- drop_drop,take_append_drop]
         rw[sp ps,sp qs] at h4
         obtain⟨x,y,q1,q2,rfl⟩:=pX (by simp[hpl,hql]) h4
         obtain⟨va,vb,p1,p2,p3⟩:=piece f.type tf off x htf hc3 hlen e1 q1
         have q3:=ihl (off+tf.length) tr' y htr e2 hlen q2
         simp only[Op.eqFields,hc2,ne_eq,not_false_eq_true,if_true,Sem.run_bind,hc1,p1,Result.andThen_ok,p2,p3]
         cases x with
         | true=>simpa using q3
         | false=>simp
        ·cases h1
       ·cases h1
      ·cases h1
    exact key fs.toList 0 ts r hk rfl (Nat.zero_le _) hr
  ·rename_i len e hut
   split at hk
   ·rename_i te hte
    split at hk
    ·rename_i hsz
     cases hk
     have hmk:∀ us,vV P t us= .agg us.toArray:=fun us=>by unfold vV;rw[hut]
     rw[hmk,hmk]
     cases hie:P.info? e with
     | none=>rw[hie] at hsz;cases hsz
     | some ie=>
      have hsz':ie.size=te.length:=by rw[hie] at hsz;simpa using hsz
      have hso:(sizeOf e).run P w= .ok te.length w:=by simp[sizeOf,typeInfo,hie,hsz']
      simp only[Op.equalIn,Sem.run_bind,run_underlying hut,Result.andThen_ok,hso]
      simp only[Std.Legacy.Range.forIn_eq_forIn_range',Std.Legacy.Range.size,Nat.sub_zero,Nat.add_one_sub_one,Nat.div_one]
      have htl:(replicate len te).flatten.length=len * te.length:=by rw[nY (sz:=te.length) (fun row hr=>by rw[eq_of_mem_replicate hr])];simp
      have key:∀ (m k:Nat) (r':Bool),k+m=len->iR (ps.drop (k * te.length)) (qs.drop (k * te.length))=some r'->
        ((forIn (range' k m) ((none,()):Option Bool×Unit) fun i _=>do
         let a <- part e us.toArray (i * te.length)
         let b <- part e vs.toArray (i * te.length)
         let r <- Op.equalIn D e a b
         if(!r)=true then pure (ForInStep.done (some false,())) else pure (ForInStep.yield (none,())):Sem (Option Bool×Unit)).run P w)= .ok (if r' then none else some false,()) w:=by
       intro m
       induction m with
       | zero=>
        intro k r' hkm h4
        have:len=k:=by omega
        subst this
        rw[drop_eq_nil_of_le (by omega),drop_eq_nil_of_le (by omega)] at h4
        simp only[iR,Option.some.injEq] at h4
        subst h4
        simp
       | succ m ihm=>
        intro k r' hkm h4
        have hlen:k * te.length+te.length<=(replicate len te).flatten.length:=by
         rw[htl]
         have:(k+1) * te.length<=len * te.length:=Nat.mul_le_mul_right _ (by omega)
         rw[Nat.add_mul] at this;omega
        have e1:(((replicate len te).flatten.drop (k * te.length)).take te.length)=te:=by
         apply ext_getElem?
         intro j
         rw[getElem?_take]
         split
         ·rename_i hj
          rw[getElem?_drop,sQ (sz:=te.length) (fun row hr=>by rw[eq_of_mem_replicate hr]) k j te (by rw[getElem?_replicate,if_pos (by omega)]) hj]
         ·rename_i hj
          rw[getElem?_eq_none (by omega)]
        have sp:∀ (xs:List PV),xs.drop (k * te.length)=(xs.drop (k * te.length)).take te.length++xs.drop ((k+1) * te.length):=fun xs=>by
         rw[show (k+1) * te.length=k * te.length+te.length by rw[Nat.add_mul];omega,<- drop_drop,take_append_drop]
        rw[sp ps,sp qs] at h4
        obtain⟨x,y,q1,q2,rfl⟩:=pX (by simp[hpl,hql]) h4
        obtain⟨va,vb,p1,p2,p3⟩:=piece e te (k * te.length) x hte hsz hlen e1 q1
        rw[range'_succ,forIn_cons]
        simp only[Sem.run_bind,p1,Result.andThen_ok,p2,p3]
        cases x with
        | true=>
         simp only[Bool.not_true,Bool.false_eq_true,if_false,Sem.run_pure,Result.andThen_ok,Bool.true_and]
         exact ihm (k+1) y (by omega) q2
        | false=>simp
      rw[key len 0 r (by omega) (by rw[Nat.zero_mul];exact hr)]
      cases r<;>simp
    ·cases hk
   ·cases hk
  ·cases hk
end
end Go.Abs

namespace Go.Abs
open List
variable {G:List (Nat×List PV)}
open Go.RowKit
def eqB (P:Program) (T:Nat) (ts:List Tag):Bool:=decide (yV P 20 T=some ts)&& !P.eqGuardType P.depth T&&nR P T ts.length
theorem Wx {P:Program} {T n:Nat} (h:nR P T n=true) (us:List Value):vV P T us= .agg us.toArray:=by
 unfold nR at h
 simp only[Bool.and_eq_true] at h
 unfold vV
 have h1:=h.1
 split at h1
 ·rename_i hu;rw[hu]
 ·rename_i hu;rw[hu]
 ·cases h1
theorem AP {w:World} {O:Nat->Prop} {ps:List PV} {us:Array Value} (h:Rd w O (.agg ps) (.agg us)):Reads1 w O us.toList ps:=by
 obtain⟨us',he,h1,h2,h3⟩:=JM h
 cases he
 exact⟨by simpa using h1,h2,fun j p u hp hu=>h3 j p u hp (by simpa using hu)⟩
section
variable {ro:Option Nat} {P:Program} {c:Cx G} {s s':St} {o:Oper} {d:Option Nat}
theorem QU {op:BinOp} {T T':TypeId} {x y:Operand} {ps qs:List PV} {ts:List Tag} {r:Bool} (ho:o.op= .binOp op T x y T') (hop:op= .eql\/op= .neq) (hx:ev s x=some (.pv (.agg ps))) (hy:ev s y=some (.pv (.agg qs)))
  (ht:eqB P T ts=true) (hp:ps.map PV.tag=ts.map some) (hq:qs.map PV.tag=ts.map some) (hr:iR ps qs=some r) (hd:o.dst=d) (hn:dOk s d=true):
  da ro P c o s (s.put d (some (.pv (.bool (match op with | .eql=>r | _=> !r))))):=
 ca hd hn (by rw[ho];intro k h;cases h) fun a w O θ hs=>by
  have h1:=ug hs hx
  have h2:=ug hs hy
  obtain⟨us,e1,_⟩:=JM h1
  obtain⟨vs,e2,_⟩:=JM h2
  rw[e1] at h1
  rw[e2] at h2
  simp only[eqB,Bool.and_eq_true,decide_eq_true_eq,Bool.not_eq_true'] at ht
  obtain⟨⟨t1,t2⟩,t3⟩:=ht
  have hrun:=Kj 20 10000 T ts w O us.toList vs.toList ps qs r (by omega) t1 hp hq (AP h1) (AP h2) hr
  rw[Wx t3,Wx t3] at hrun
  simp only[Array.toArray_toList] at hrun
  rcases hop with rfl | rfl
  ·exact⟨_,by simp[execOp,ho,e1,e2,run_eqGuard_agg w _ _ _ _ _ _ t2,run_eql_struct,hrun],.pv _ _ (.bool _)⟩
  ·exact⟨_,by simp[execOp,ho,e1,e2,run_eqGuard_agg w _ _ _ _ _ _ t2,run_neq_struct,hrun],.pv _ _ (.bool _)⟩
end
end Go.Abs

namespace Go.Abs
open List
variable {G:List (Nat×List PV)}
open Go.RowKit
def jK {α:Type} (xs:List α) (l h:Int):Option (List α):=if 0<=l/\l<=h/\h<=xs.length then some ((xs.take h.toNat).drop l.toNat) else none
theorem wX {α:Type} {xs r:List α} {l h:Int} (e:jK xs l h=some r):0<=l/\l<=h/\h<=xs.length/\r=(xs.take h.toNat).drop l.toNat:=by
 unfold jK at e
 split at e
 ·rename_i hh;cases e;exact⟨hh.1,hh.2.1,hh.2.2,rfl⟩
 ·cases e
theorem SI {α β:Type} (f:α->β) {xs r:List α} {l h:Int} (e:jK xs l h=some r):jK (xs.map f) l h=some (r.map f):=by
 obtain⟨h1,h2,h3,rfl⟩:=wX e
 unfold jK
 rw[if_pos ⟨h1,h2,by simpa using h3⟩,map_drop,map_take]
def evo (s:St):Option Operand->Option (Option Int)
 | none=>some none
 | some x=>match ev s x with
  | some (.pv (.int _ n))=>some (some n)
  | _=>none
section
variable {ro:Option Nat} {P:Program} {c:Cx G} {s s':St} {o:Oper} {d:Option Nat}
theorem co {w:World} {k:IntKind} {n:Int} {y:Nat} {code:BoundsCode} (h0:0<=n) (h1:n<=y):(Instr.sliceBound (.int k n) y code).run P w= .ok n.toNat w:=by
 simp[Instr.sliceBound,asIntOf,h0,h1]
theorem zh {O:Nat->Prop} {θ:Nat->Option Value} {a:Act} {w:World} (hs:SimAt c s O θ a w) {x:Option Operand} {n:Option Int} (h:evo s x=some n):
  (x=none/\n=none)\/∃ y k m,x=some y/\n=some m/\a.eval y= .int k m:=by
 cases x with
 | none=>simp[evo] at h;exact .inl ⟨rfl,h.symm⟩
 | some y=>
  simp only[evo] at h
  split at h
  ·rename_i k m hy
   cases h
   exact .inr ⟨y,k,m,rfl,rfl,mI hs hy⟩
  ·cases h
theorem gL {T:TypeId} {x:Operand} {lo hi:Option Operand} {l r:List UInt8} {nl nh:Option Int} (ho:o.op= .slice T x lo hi none) (hx:ev s x=some (.pv (.str l))) (hlo:evo s lo=some nl) (hhi:evo s hi=some nh) (ht:P.underlying T=some .string)
  (hr:jK l (nl.getD 0) (nh.getD l.length)=some r) (hd:o.dst=d) (hn:dOk s d=true):da ro P c o s (s.put d (some (.pv (.str r)))):=
 ca hd hn (by rw[ho];intro k h;cases h) fun a w O θ hs=>by
  obtain⟨h1,h2,h3,rfl⟩:=wX hr
  have hv:=zp hs hx
  have hsz:(⟨l.toArray⟩:ByteArray).size=l.length:=by simp[ByteArray.size]
  refine⟨.string ((⟨l.toArray⟩:ByteArray).extract (nl.getD 0).toNat (nh.getD l.length).toNat),?_,.pv _ _ ?_⟩
  ·rcases zh hs hlo with⟨rfl,rfl⟩ | ⟨yl,kl,ml,rfl,rfl,e1⟩<;>rcases zh hs hhi with⟨rfl,rfl⟩ | ⟨yh,kh,mh,rfl,rfl,e2⟩
   ·have hex:(⟨l.toArray⟩:ByteArray)=(⟨l.toArray⟩:ByteArray).extract 0 l.length:=by apply ByteArray.ext;simp[ByteArray.data_extract]
    simp[execOp,ho,hv,Instr.sliceAt,run_underlying ht,Instr.slice,Instr.sliceBounds,hsz]
    exact hex
   ·simp only[Option.getD_some,Option.getD_none] at h1 h2 h3 ⊢
    have b1:=co (P:=P) (w:=w) (k:=kh) (code:= .sliceAlen) (show 0<=mh by omega) h3
    simp[execOp,ho,hv,Instr.sliceAt,run_underlying ht,Instr.slice,Instr.sliceBounds,hsz,e2,b1]
   ·simp only[Option.getD_some,Option.getD_none] at h1 h2 h3 ⊢
    have b1:=co (P:=P) (w:=w) (k:=kl) (code:= .sliceB) h1 h2
    simp[execOp,ho,hv,Instr.sliceAt,run_underlying ht,Instr.slice,Instr.sliceBounds,hsz,e1,b1]
   ·simp only[Option.getD_some] at h1 h2 h3 ⊢
    have b1:=co (P:=P) (w:=w) (k:=kh) (code:= .sliceAlen) (show 0<=mh by omega) h3
    have b2:=co (P:=P) (w:=w) (k:=kl) (y:=mh.toNat) (code:= .sliceB) h1 (by omega)
    simp[execOp,ho,hv,Instr.sliceAt,run_underlying ht,Instr.slice,Instr.sliceBounds,hsz,e1,e2,b1,b2]
  ·have:((⟨l.toArray⟩:ByteArray).extract (nl.getD 0).toNat (nh.getD l.length).toNat)=⟨((l.take (nh.getD l.length).toNat).drop (nl.getD 0).toNat).toArray⟩:=by
    apply ByteArray.ext
    simp[ByteArray.data_extract,drop_take]
   rw[this];exact .str _
theorem EN {T e sz:Nat} {x:Operand} {lo hi mx:Option Operand} {rows r:List (List PV)} {nl nh nm:Option Int} (ho:o.op= .slice T x lo hi mx) (hx:ev s x=some (.pv (.vs sz rows))) (hlo:evo s lo=some nl) (hhi:evo s hi=some nh) (hmx:evo s mx=some nm) (hm:nm=none\/nm=nh)
  (ht:sliceB P T e sz=true) (hr:jK rows (nl.getD 0) (nh.getD rows.length)=some r) (hd:o.dst=d) (hn:dOk s d=true):da ro P c o s (s.put d (some (.pv (.vs sz r)))):=
 ca hd hn (by rw[ho];intro k h;cases h) fun a w O θ hs=>by
  obtain⟨h1,h2,h3,rfl⟩:=wX hr
  obtain⟨i,t1,t2,t3⟩:=mu ht
  have hv:=ug hs hx
  obtain⟨ad,cap,he,_⟩:=Nv hv
  have hcap:rows.length<=cap:=by
   rcases Fh hv with⟨_,_,h,rfl,_,_⟩ | ⟨b,off,cap',us,h,_,_,h6,_⟩
   ·simp
   ·rw[he] at h;injection h with _ _ h;omega
  -- the run
  have run:∃ m:Nat,(m=(nh.getD rows.length).toNat\/m=cap)/\(execOp a.eval o).run P w= .ok (.value (.slice (if m=(nl.getD 0).toNat then ad else ad.map (·.add ((nl.getD 0).toNat * sz))) ((nh.getD rows.length).toNat - (nl.getD 0).toNat) (m - (nl.getD 0).toNat))) w:=by
   have hund:∀ n e,P.underlying T≠some (.array n e):=fun n e h=>by rw[t1] at h;cases h
   rcases zh hs hlo with⟨rfl,rfl⟩ | ⟨yl,kl,ml,rfl,rfl,e1⟩<;>rcases zh hs hhi with⟨rfl,rfl⟩ | ⟨yh,kh,mh,rfl,rfl,e2⟩<;>rcases zh hs hmx with⟨rfl,rfl⟩ | ⟨ym,km,mm,rfl,rfl,e3⟩
   ·exact⟨cap,.inr rfl,by simp[execOp,ho,he,Instr.sliceAt,run_underlying t1,Instr.slice,Instr.sliceBounds,sizeOf,typeInfo,t2,t3]⟩
   ·simp at hm
   ·simp only[Option.getD_some,Option.getD_none] at h1 h2 h3 ⊢
    have b1:=co (P:=P) (w:=w) (k:=kh) (y:=cap) (code:= .sliceAcap) (show 0<=mh by omega) (by omega)
    exact⟨cap,.inr rfl,by simp[execOp,ho,he,Instr.sliceAt,run_underlying t1,Instr.slice,Instr.sliceBounds,sizeOf,typeInfo,t2,t3,e2,b1]⟩
   ·simp only[Option.getD_some,Option.getD_none,reduceCtorEq,false_or,Option.some.injEq] at h1 h2 h3 hm ⊢
    subst hm
    have b0:=co (P:=P) (w:=w) (k:=km) (y:=cap) (code:= .slice3Acap) (show 0<=mm by omega) (by omega)
    have b1:=co (P:=P) (w:=w) (k:=kh) (y:=mm.toNat) (code:= .slice3B) (show 0<=mm by omega) (by omega)
    exact⟨mm.toNat,.inl rfl,by simp[execOp,ho,he,Instr.sliceAt,run_underlying t1,Instr.slice,Instr.sliceBounds,sizeOf,typeInfo,t2,t3,e2,e3,b0,b1]⟩
   ·simp only[Option.getD_some,Option.getD_none] at h1 h2 h3 ⊢
    have b1:=co (P:=P) (w:=w) (k:=kl) (y:=rows.length) (code:= .sliceB) h1 h2
    exact⟨cap,.inr rfl,by simp[execOp,ho,he,Instr.sliceAt,run_underlying t1,Instr.slice,Instr.sliceBounds,sizeOf,typeInfo,t2,t3,e1,b1]⟩
   ·simp at hm
   ·simp only[Option.getD_some] at h1 h2 h3 ⊢
    have b1:=co (P:=P) (w:=w) (k:=kh) (y:=cap) (code:= .sliceAcap) (show 0<=mh by omega) (by omega)
    have b2:=co (P:=P) (w:=w) (k:=kl) (y:=mh.toNat) (code:= .sliceB) h1 (by omega)
    exact⟨cap,.inr rfl,by simp[execOp,ho,he,Instr.sliceAt,run_underlying t1,Instr.slice,Instr.sliceBounds,sizeOf,typeInfo,t2,t3,e1,e2,b1,b2]⟩
   ·simp only[Option.getD_some,reduceCtorEq,false_or,Option.some.injEq] at h1 h2 h3 hm ⊢
    subst hm
    have b0:=co (P:=P) (w:=w) (k:=km) (y:=cap) (code:= .slice3Acap) (show 0<=mm by omega) (by omega)
    have b1:=co (P:=P) (w:=w) (k:=kh) (y:=mm.toNat) (code:= .slice3B) (show 0<=mm by omega) (by omega)
    have b2:=co (P:=P) (w:=w) (k:=kl) (y:=mm.toNat) (code:= .slice3C) h1 (by omega)
    exact⟨mm.toNat,.inl rfl,by simp[execOp,ho,he,Instr.sliceAt,run_underlying t1,Instr.slice,Instr.sliceBounds,sizeOf,typeInfo,t2,t3,e1,e2,e3,b0,b1,b2]⟩
  obtain⟨m,hm',hrun⟩:=run
  refine⟨_,hrun,.pv _ _ ?_⟩
  rw[he] at hv
  generalize hL:(nl.getD 0).toNat=L at *
  generalize hH:(nh.getD rows.length).toNat=H at *
  have hLH:L<=H:=by omega
  have hHr:H<=rows.length:=by omega
  have hlen:((rows.take H).drop L).length=H - L:=by simp;omega
  rcases Fh hv with⟨ad0,cap0,h,hrr,hz0,hz1⟩ | ⟨b,off,cap',us,h,q1,q2,q3,q4,q5,q6,q7,q8⟩
  ·subst hrr
   injection h with h1' h2' h3'
   subst h1';subst h3'
   simp at hHr
   subst hHr
   have:L=0:=by omega
   subst this
   simp only[take_nil,drop_nil,Nat.sub_zero]
   by_cases hm0:m=0
   ·rw[if_pos hm0,hm0]
    exact .vsz _ _ _ (fun _=>rfl) (Nat.zero_le _)
   ·rw[if_neg hm0]
    have hmc:m=cap:=by rcases hm' with h | h;exact absurd h hm0;exact h
    exact .vsz _ _ _ (fun e=>by rw[hmc];exact hz0 (by simpa using e)) (by rw[hmc];exact hz1)
  ·injection h with h1' h2' h3'
   subst h1';subst h3'
   have hmH:H<=m:=by rcases hm' with h | h<;>omega
   have hgo:Rd w O (.vs sz ((rows.take H).drop L)) (.slice (some ⟨b,off+(if m=L then 0 else L * sz),none⟩) (H - L) (m - L)):=by
    rw[<- hlen]
    refine .vs sz _ b _ _ (fun k=>us (L * sz+k)) q1 q2 (by rw[hlen];omega) (by rcases hm' with h | h<;>omega) (fun row hr=>q5 row (mem_of_mem_take (mem_of_mem_drop hr))) (fun row hr=>q6 row (mem_of_mem_take (mem_of_mem_drop hr))) (fun k hk=> ?_) (fun i j row x hi hj=> ?_)
    ·rw[hlen] at hk
     have hml:m≠L:=fun e=>by
      have:H - L=0:=by omega
      rw[this] at hk;simp at hk
     rw[if_neg hml,Nat.add_assoc]
     refine q7 _ ?_
     have:(L+(H - L)) * sz<=rows.length * sz:=Nat.mul_le_mul_right _ (by omega)
     rw[Nat.add_mul] at this
     omega
    ·rw[getElem?_drop,getElem?_take] at hi
     split at hi
     ·have:=q8 (L+i) j row x hi hj
      rw[Nat.add_mul,Nat.add_assoc] at this
      exact this
     ·cases hi
   by_cases hml:m=L
   ·rw[if_pos hml] at hgo ⊢
    simpa using hgo
   ·rw[if_neg hml] at hgo ⊢
    simpa [Addr.add_lit] using hgo
theorem dV {T:TypeId} {x y:Operand} {k:IntKind} {n:Int} {l:List UInt8} {b:UInt8} (ho:o.op= .index T x y) (hx:ev s x=some (.pv (.str l))) (hy:ev s y=some (.pv (.int k n))) (hb:idx l n=some b) (ht:P.underlying T=some .string) (hd:o.dst=d) (hn:dOk s d=true):
  da ro P c o s (s.put d (some (.pv (.int .u8 b.toNat)))):=
 ca hd hn (by rw[ho];intro k h;cases h) fun a w O θ hs=>by
  obtain⟨h0,h1,h2⟩:=rM hb
  have hl:n.toNat < l.length:=by omega
  refine⟨.int .u8 b.toNat,?_,.pv _ _ (.int _ _)⟩
  have hget:(⟨l.toArray⟩:ByteArray)[n.toNat]? =some b:=by
   rw[getElem?_pos (⟨l.toArray⟩:ByteArray) n.toNat (by simpa [ByteArray.size] using hl)]
   obtain⟨_,h3⟩:=List.getElem?_eq_some_iff.1 h1
   exact congrArg some h3
  simp[execOp,ho,zp hs hx,mI hs hy,Instr.index,asIntOf,run_underlying ht,h0,hget]
theorem xx {T T':TypeId} {x:Operand} {k k':IntKind} {n:Int} {td:TypeDesc} (ho:o.op= .convert T T' x) (hx:ev s x=some (.pv (.int k n))) (ht0:P.underlying T=some td) (ht:P.underlying T'=some (.int k')) (hd:o.dst=d) (hn:dOk s d=true):
  da ro P c o s (s.put d (some (.pv (.int k' (k'.wrap n))))):=
 ca hd hn (by rw[ho];intro k h;cases h) fun a w O θ hs=>⟨_,by simp[execOp,ho,mI hs hx,convert,run_underlying ht0,run_underlying ht,Conv.intToInt],.pv _ _ (.int _ _)⟩
theorem LV {T f off:Nat} {ft:TypeId} {x:Operand} {ps:List PV} {p:PV} {fs:Array Field} {fld:Field} (ho:o.op= .field T x f) (hx:ev s x=some (.pv (.agg ps))) (hu:P.underlying T=some (.struct fs)) (hf:fs[f]? =some fld) (hft:fld.type=ft) (hoff:fld.offset=off) (ht:qT P ft=true) (hp:ps[off]? =some p) (hd:o.dst=d) (hn:dOk s d=true):
  da ro P c o s (s.put d (some (.pv p))):=
 ca hd hn (by rw[ho];intro k h;cases h) fun a w O θ hs=>by
  obtain⟨us,he,h1,h2,h3⟩:=JM (ug hs hx)
  obtain⟨t1,t2,_⟩:=zR ht
  have hlt:off < us.size:=by rw[h1];exact(List.getElem?_eq_some_iff.1 hp).1
  have hu':us[off]? =some us[off]:=by simp[hlt]
  exact⟨us[off],by simp[execOp,ho,he,Instr.field,run_underlying hu,hf,hft,hoff,asAgg,part,t1,hu'],.pv _ _ (h3 off p _ hp hu')⟩
theorem UM {T:Array TypeId} {x y:Operand} {k k':IntKind} {m n:Int} (ho:o.op= .call { callee:= .builtin .min,args:= #[x,y],argTypes:=T }) (hx:ev s x=some (.pv (.int k m))) (hy:ev s y=some (.pv (.int k' n))) (hd:o.dst=d) (hn:dOk s d=true):
  da ro P c o s (s.put d (some (.pv (.int k (if n < m then n else m))))):=
 ca hd hn (by rw[ho];intro k h;cases h) fun a w O θ hs=>⟨_,by simp[execOp,ho,resolve,invoke,builtin,mI hs hx,mI hs hy,Builtin.min_,Builtin.min2],.pv _ _ (.int _ _)⟩
theorem xZ {T:Array TypeId} {x y:Operand} {k k':IntKind} {m n:Int} (ho:o.op= .call { callee:= .builtin .max,args:= #[x,y],argTypes:=T }) (hx:ev s x=some (.pv (.int k m))) (hy:ev s y=some (.pv (.int k' n))) (hd:o.dst=d) (hn:dOk s d=true):
  da ro P c o s (s.put d (some (.pv (.int k (if n > m then n else m))))):=
 ca hd hn (by rw[ho];intro k h;cases h) fun a w O θ hs=>⟨_,by simp[execOp,ho,resolve,invoke,builtin,mI hs hx,mI hs hy,Builtin.max_,Builtin.max2],.pv _ _ (.int _ _)⟩
def evl (s:St):List Operand->Option (List AV)
 | []=>some []
 | x::l=>match ev s x,evl s l with
  | some v,some vs=>some (v::vs)
  | _,_=>none
theorem yX {O:Nat->Prop} {θ:Nat->Option Value} {a:Act} {w:World} (hs:SimAt c s O θ a w):∀ {l:List Operand} {xs:List AV},evl s l=some xs->l.length=xs.length/\∀ (i:Nat) (x:AV) (u:Value),xs[i]? =some x->(l.map a.eval)[i]? =some u->RdA w O θ x u
 | [],xs,h=>by simp[evl] at h;subst h;simp
 | y::l,xs,h=>by
  simp only[evl] at h
  split at h
  ·rename_i v vs hv hvs
   cases h
   obtain⟨h1,h2⟩:=yX hs hvs
   refine⟨by simp[h1],fun i x u hx hu=> ?_⟩
   cases i with
   | zero=>simp at hx hu;subst hx;subst hu;exact jJ hs hv
   | succ i=>simp at hx hu;exact h2 i x u hx (by simpa using hu)
  ·cases h
theorem kY {f:Nat} {caps:List Operand} {xs:List AV} (ho:o.op= .makeFunc (.func f) #[] caps.toArray) (hx:evl s caps=some xs) (hd:o.dst=d) (hn:dOk s d=true):da ro P c o s (s.put d (some (.fn f xs))):=
 ca hd hn (by rw[ho];intro k h;cases h) fun a w O θ hs=>by
  obtain⟨h1,h2⟩:=yX hs hx
  exact⟨.func (.func f) #[] (caps.map a.eval).toArray,by simp[execOp,ho,Instr.makeFunc],.fn f xs _ (by simp[h1]) (fun i x u hx hu=>h2 i x u hx (by simpa using hu))⟩
end
end Go.Abs

namespace Go.Abs
open List
variable {G:List (Nat×List PV)}
open Go.RowKit
def Imp (c:Cx G) (s s':St):Prop:=∀ a w,Sim c s a w->Sim c s' a w
section
variable {ro:Option Nat} {P:Program} {c:Cx G} {Q:Exit->Act->World->Prop} {s s':St}
theorem DJ {k:Code} (h:Imp c s s') (h':AW ro P c k Q s'):AW ro P c k Q s:=fun a w hs=>h' a w (h a w hs)
theorem vn {e:Exit} (h:Imp c s s') (h':gw c Q e s'):gw c Q e s:=fun a w hs=>h' a w (h a w hs)
theorem Wv {k:Code} {m:Nat} (h:Imp c s s') (h':Aj ro P c k Q m s'):Aj ro P c k Q m s:=fun a w hs=>h' a w (h a w hs)
theorem cT {all l:List Oper} (h:Imp c s s') (h':kJ ro P c all l Q s'):kJ ro P c all l Q s:=fun a w hs=>h' a w (h a w hs)
def SubF (fr:List (Nat×Option AV)) (ρ:Nat->Nat):List (Nat×Option AV)->Prop
 | []=>True
 | (_,none)::l=>SubF fr ρ l
 | (t,some x)::l=>aX t fr=some (x.map ρ)/\SubF fr ρ l
def SubH (hp:List (Nat×Option Blk)) (ρ:Nat->Nat):List (Nat×Option Blk)->Prop
 | []=>True
 | (_,none)::l=>SubH hp ρ l
 | (id,some b)::l=>aX (ρ id) hp=some (b.map ρ)/\SubH hp ρ l
theorem eY {α:Type} {t:Nat} {x:α}:∀ {l:List (Nat×Option α)},aX t l=some x->(t,some x)∈l
 | [],h=>by simp[aX] at h
 | (k,y)::l,h=>by
  rw[dH] at h
  split at h
  ·rename_i e;subst e;subst h;simp
  ·exact mem_cons_of_mem _ (eY h)
theorem SubF.spec {fr:List (Nat×Option AV)} {ρ:Nat->Nat}:∀ {l:List (Nat×Option AV)},SubF fr ρ l->∀ t x,(t,some x)∈l->aX t fr=some (x.map ρ)
 | (_,none)::l,h,t,x,hm=>by
  rcases List.mem_cons.1 hm with h1 | h1
  ·cases h1
  ·exact SubF.spec (l:=l) h t x h1
 | (t',some x')::l,h,t,x,hm=>by
  rcases List.mem_cons.1 hm with h1 | h1
  ·cases h1;exact h.1
  ·exact SubF.spec (l:=l) h.2 t x h1
theorem SubH.spec {hp:List (Nat×Option Blk)} {ρ:Nat->Nat}:∀ {l:List (Nat×Option Blk)},SubH hp ρ l->∀ t x,(t,some x)∈l->aX (ρ t) hp=some (x.map ρ)
 | (_,none)::l,h,t,x,hm=>by
  rcases List.mem_cons.1 hm with h1 | h1
  ·cases h1
  ·exact SubH.spec (l:=l) h t x h1
 | (t',some x')::l,h,t,x,hm=>by
  rcases List.mem_cons.1 hm with h1 | h1
  ·cases h1;exact h.1
  ·exact SubH.spec (l:=l) h.2 t x h1
theorem BlkOk.ren {w:World} {O:Nat->Prop} {θ θ':Nat->Option Value} (ρ:Nat->Nat) (hθ:∀ i v,θ (ρ i)=some v->θ' i=some v) {v:Value} {b:Blk} (h:BlkOk w O θ v (b.map ρ)):BlkOk w O θ' v b:=by
 cases b with
 | row e sz rows=>exact h
 | box t cells=>
  obtain⟨g,us,h1,h2,h3,h4⟩:=h
  refine⟨g,us,h1,h2,by rw[h3,AV.mapL_length],fun j x u hx hu=> ?_⟩
  have:=h4 j (x.map ρ) u (by rw[AV.mapL_get,hx];rfl) hu
  exact⟨this.1.ren ρ hθ x rfl,this.2⟩
 | dict P t n m=>exact h
 | dictE P t n m key id2=>
  obtain⟨b,st,e,h4,h5⟩:=h
  exact⟨b,st,e,hθ _ _ h4,h5⟩
theorem xj : ∀ {L:List Nat},L.Nodup->∀ (i j:Nat) (x:Nat),L[i]? =some x->L[j]? =some x->i=j
 | [],_,i,j,x,h,_=>by simp at h
 | y::L,hn,0,0,x,_,_=>rfl
 | y::L,hn,0,j+1,x,h1,h2=>by
  simp at h1 h2;subst h1
  exact absurd (mem_of_getElem? h2) (List.nodup_cons.1 hn).1
 | y::L,hn,i+1,0,x,h1,h2=>by
  simp at h1 h2;subst h2
  exact absurd (mem_of_getElem? h1) (List.nodup_cons.1 hn).1
 | y::L,hn,i+1,j+1,x,h1,h2=>by
  simp only[getElem?_cons_succ] at h1 h2
  rw[xj (List.nodup_cons.1 hn).2 i j x h1 h2]
theorem Dr (L:List Nat) (hn:s'.n=s.n) (hnd:L.Nodup) (hnext:s'.next=L.length) (hfree:s'.free=[]) (hF:SubF s.fr (fun i=>L.getD i s.next) s'.fr) (hH:SubH s.hp (fun i=>L.getD i s.next) s'.hp)
  (hids:(s'.hp.all fun x=>Nat.blt x.1 L.length)=true) (hys:s'.ys=s.ys) (hkt:s'.kt=s.kt):Imp c s s':=by
 rintro a w ⟨O,θ,h⟩
 have hget:∀ i,i < L.length->∃ x,L[i]? =some x/\L.getD i s.next=x:=fun i hi=>⟨L[i],getElem?_eq_getElem hi,by simp[getD,getElem?_eq_getElem hi]⟩
 have hρ:∀ i v,θ (L.getD i s.next)=some v->(if i < L.length then θ (L.getD i s.next) else none)=some v:=by
  intro i v h'
  by_cases hi:i < L.length
  ·rw[if_pos hi];exact h'
  ·exfalso
   have:L.getD i s.next=s.next:=by simp[getD,getElem?_eq_none (Nat.not_lt.1 hi)]
   rw[this] at h'
   have:=(h.dom _ _ h').1
   omega
 have hlt:∀ id b,aX id s'.hp=some b->id < L.length:=by
  intro id b hb
  have:=List.all_eq_true.1 hids _ (eY hb)
  simpa [Nat.blt_eq] using this
 have hback:∀ i v,(if i < L.length then θ (L.getD i s.next) else none)=some v->i < L.length/\θ (L.getD i s.next)=some v:=by
  intro i v h'
  split at h'
  ·rename_i hi;exact⟨hi,h'⟩
  ·cases h'
 refine⟨O,fun i=>if i < L.length then θ (L.getD i s.next) else none,?_⟩
 refine⟨h.size.trans hn.symm,h.df,fun t x hx=>(h.fr t _ (hF.spec t x (eY hx))).ren _ hρ x rfl,?_,?_,?_,?_,?_,h.olt,h.ext,h.xo,h.xlt,h.llt,?_,h.oc,by rw[hkt];exact h.kp,?_⟩
 ·intro id b hb
  obtain⟨v,hv,hbo,hg⟩:=h.hp _ _ (hH.spec id b (eY hb))
  exact⟨v,hρ _ _ hv,hbo.ren _ hρ,hg⟩
 ·intro i j bi bj vi vj g hi hj hvi hvj hgi hgj
  obtain⟨hi',hvi'⟩:=hback i vi hvi
  obtain⟨hj',hvj'⟩:=hback j vj hvj
  have e:=h.inj _ _ _ _ vi vj g (hH.spec i bi (eY hi)) (hH.spec j bj (eY hj)) hvi' hvj' hgi hgj
  obtain⟨x,hx1,hx2⟩:=hget i hi'
  obtain⟨y,hy1,hy2⟩:=hget j hj'
  rw[hx2,hy2] at e;subst e
  exact xj hnd i j x hx1 hy1
 ·intro id v hv
  rw[hnext,hfree];exact⟨(hback id v hv).1,by simp⟩
 ·rw[hfree];simp
 ·intro id v hv
  exact h.one _ _ (hback id v hv).2
 ·exact h.marks
 ·rw[hys]
  refine c.Jst h.jn ⟨rfl,rfl,rfl,Nat.le_refl _,fun _ _ _=>rfl,fun g h=> .inl h,fun g h _=>h,h.olt,fun g hI=> .inl ?_⟩
  rcases hI with hI | ⟨id,b,v,h1,h2,h3⟩ | hI
  ·exact .inl hI
  ·exact .inr (.inl ⟨_,_,v,hH.spec id b (eY h1),(hback id v h2).2,h3⟩)
  ·exact .inr (.inr hI)
def viewPV (fz:List (Nat×Option Blk)):AV->Option PV
 | .pv p=>some p
 | .ls id=>match aX id fz with
  | some (.row _ sz rows)=>some (.vs sz rows)
  | some (.dict P t n m)=>some (.mpv P t m)
  | _=>none
 | .lp id off=>match aX id fz with
  | some (.box _ cells)=>match pvs cells with
   | some ps=>bif ps.all PV.one then some (.vp (ps.drop off)) else none
   | none=>none
  | _=>none
 | .cs sz rows=>some (.vs sz rows)
 | .fn f caps=>match viewL fz caps with
  | some ps=>some (.fn f ps)
  | none=>none
 | .agg cs=>match viewL fz cs with
  | some ps=>bif ps.all PV.one then some (.agg ps) else none
  | none=>none
 | _=>none
where viewL (fz:List (Nat×Option Blk)):List AV->Option (List PV)
 | []=>some []
 | .pv p::l=>match viewL fz l with
  | some ps=>some (p::ps)
  | none=>none
 | .ls id::l=>match aX id fz,viewL fz l with
  | some (.row _ sz rows),some ps=>some (.vs sz rows::ps)
  | some (.dict P t n m),some ps=>some (.mpv P t m::ps)
  | _,_=>none
 | .lp id off::l=>match aX id fz,viewL fz l with
  | some (.box _ cells),some ps=>match pvs cells with
   | some qs=>bif qs.all PV.one then some (.vp (qs.drop off)::ps) else none
   | none=>none
  | _,_=>none
 | _::_=>none
section
variable {fz:List (Nat×Option Blk)} {O O2:Nat->Prop} {θ:Nat->Option Value} {a:Act} {w:World}
theorem Ot (hs:SimAt c s O θ a w) (hfz:∀ id b,aX id fz=some b->aX id s.hp=some b) (hO2:∀ g,O2 g->O g) (hfree:∀ id b u g,aX id fz=some b->θ id=some u->bU u=some g->¬ O2 g)
  {id:Nat} {u:Value} {e sz:Nat} {rows:List (List PV)} (h:θ id=some u) (hl:aX id fz=some (.row e sz rows)):Rd w O2 (.vs sz rows) u:=by
 obtain⟨v',hv',⟨us,hown,hrd⟩,hO⟩:=hs.hp id _ (hfz _ _ hl)
 rw[h] at hv';cases hv'
 have hrd':RowsRd w O2 sz rows us:=hrd.mono (Nat.le_refl _) (fun b _ hn=>⟨fun h2=>hn (hO2 b h2),rfl⟩)
 rcases hown.2 with⟨rfl,h4⟩ | ⟨g,cap,cur,rfl,_,hg,hnc,hcm,hcs,ht⟩
 ·have:rows=[]:=eq_nil_of_length_eq_zero h4
  subst this
  exact .vs0 sz
 ·exact pW hrd' hg ht (hfree id _ _ g hl h rfl) hnc hcm
theorem Nc (hs:SimAt c s O θ a w) (hfz:∀ id b,aX id fz=some b->aX id s.hp=some b) (hO2:∀ g,O2 g->O g) (hfree:∀ id b u g,aX id fz=some b->θ id=some u->bU u=some g->¬ O2 g)
  {id:Nat} {u:Value} {P:Program} {t n:Nat} {m:List UInt8->Option Int} (h:θ id=some u) (hl:aX id fz=some (.dict P t n m)):Rd w O2 (.mpv P t m) u:=by
 obtain⟨v',hv',⟨b,rfl,hm⟩,hO⟩:=hs.hp id _ (hfz _ _ hl)
 rw[h] at hv';cases hv'
 exact .mpv P t n m b (hfree id _ _ b hl h rfl) (hO b rfl).2.1 hm
theorem Wj (hs:SimAt c s O θ a w) (hfz:∀ id b,aX id fz=some b->aX id s.hp=some b) (hO2:∀ g,O2 g->O g) (hfree:∀ id b u g,aX id fz=some b->θ id=some u->bU u=some g->¬ O2 g)
  {id off g:Nat} {t:Nat} {cells:List AV} {ps:List PV} (h:θ id=some (.pointer (some ⟨g,0,none⟩))) (hl:aX id fz=some (.box t cells)) (hps:pvs cells=some ps) (hone:ps.all PV.one=true):Rd w O2 (.vp (ps.drop off)) (.pointer (some ⟨g,off,none⟩)):=by
 obtain⟨v',hv',⟨g',us,he,h1,h2,h3⟩,hO⟩:=hs.hp id _ (hfz _ _ hl)
 rw[h] at hv';cases hv'
 cases he
 have hc:=wZ hps
 have hgl:g < w.heap.size:=(hO g rfl).2.1
 have hlen:us.size=ps.length:=by rw[h2,hc];simp
 refine .vp _ g off (fun k=>us.getD (off+k) undef) (hfree id _ _ g hl h rfl) hgl (fun x hx=>List.all_eq_true.1 hone x (mem_of_mem_drop hx)) (fun k hk=> ?_) (fun j x hj=> ?_)
 ·rw[length_drop] at hk
  rw[cell_of_row w g _ us t (0,0) h1]
  have:off+k < us.size:=by omega
  simp[this]
 ·rw[getElem?_drop] at hj
  have hlt:off+j < us.size:=by rw[hlen];exact(List.getElem?_eq_some_iff.1 hj).1
  have hu:us[off+j]? =some us[off+j]:=by simp[hlt]
  have:=(h3 (off+j) (.pv x) _ (by rw[hc,getElem?_map,hj];rfl) hu).1
  have e:us.getD (off+j) undef=us[off+j]:=by simp[hlt]
  show Rd w O2 x (us.getD (off+j) undef)
  rw[e]
  exact(lm this).mono (Nat.le_refl _) (fun b _ hn=>⟨fun h2=>hn (hO2 b h2),rfl⟩)
theorem wV (hs:SimAt c s O θ a w) (hfz:∀ id b,aX id fz=some b->aX id s.hp=some b) (hO2:∀ g,O2 g->O g) (hfree:∀ id b u g,aX id fz=some b->θ id=some u->bU u=some g->¬ O2 g):
  ∀ {l:List AV} {ps:List PV},viewPV.viewL fz l=some ps->l.length=ps.length/\∀ (i:Nat) (x:AV) (p:PV) (u:Value),l[i]? =some x->ps[i]? =some p->RdA w O θ x u->Rd w O2 p u
 | [],ps,h=>by simp[viewPV.viewL] at h;subst h;simp
 | .pv q::l,ps,h=>by
  simp only[viewPV.viewL] at h
  split at h
  ·rename_i qs hq
   cases h
   obtain⟨h1,h2⟩:=wV hs hfz hO2 hfree hq
   refine⟨by simp[h1],fun i x p u hx hp hr=> ?_⟩
   cases i with
   | zero=>simp at hx hp;subst hx;subst hp;exact(lm hr).mono (Nat.le_refl _) (fun b _ hn=>⟨fun h2=>hn (hO2 b h2),rfl⟩)
   | succ i=>exact h2 i x p u (by simpa using hx) (by simpa using hp) hr
  ·cases h
 | .ls id::l,ps,h=>by
  simp only[viewPV.viewL] at h
  split at h
  ·rename_i e sz rows qs hl hq
   cases h
   obtain⟨h1,h2⟩:=wV hs hfz hO2 hfree hq
   refine⟨by simp[h1],fun i x p u hx hp hr=> ?_⟩
   cases i with
   | zero=>
    simp at hx hp;subst hx;subst hp
    cases hr with | ls _ _ h=>exact Ot hs hfz hO2 hfree h hl
   | succ i=>exact h2 i x p u (by simpa using hx) (by simpa using hp) hr
  ·rename_i P t n m qs hl hq
   cases h
   obtain⟨h1,h2⟩:=wV hs hfz hO2 hfree hq
   refine⟨by simp[h1],fun i x p u hx hp hr=> ?_⟩
   cases i with
   | zero=>
    simp at hx hp;subst hx;subst hp
    cases hr with | ls _ _ h=>exact Nc hs hfz hO2 hfree h hl
   | succ i=>exact h2 i x p u (by simpa using hx) (by simpa using hp) hr
  ·cases h
 | .lp id off::l,ps,h=>by
  simp only[viewPV.viewL] at h
  split at h
  ·rename_i t cells qs hl hq
   split at h
   ·rename_i rs hrs
    simp only[cond_eq_ite] at h
    split at h
    ·rename_i hone
     cases h
     obtain⟨h1,h2⟩:=wV hs hfz hO2 hfree hq
     refine⟨by simp[h1],fun i x p u hx hp hr=> ?_⟩
     cases i with
     | zero=>
      simp at hx hp;subst hx;subst hp
      cases hr with | lp _ _ g h=>exact Wj hs hfz hO2 hfree h hl hrs hone
     | succ i=>exact h2 i x p u (by simpa using hx) (by simpa using hp) hr
    ·cases h
   ·cases h
  ·cases h
 | .le _ _ _ _::_,_,h | .cs _ _::_,_,h | .ra _ _::_,_,h | .aw _ _ _::_,_,h | .sp _ _ _::_,_,h | .bp _::_,_,h | .fn _ _::_,_,h | .mv _ _::_,_,h | .agg _::_,_,h | .any::_,_,h | .tup _::_,_,h=>by simp[viewPV.viewL] at h
theorem Ik (hs:SimAt c s O θ a w) (hfz:∀ id b,aX id fz=some b->aX id s.hp=some b) (hO2:∀ g,O2 g->O g) (hfree:∀ id b u g,aX id fz=some b->θ id=some u->bU u=some g->¬ O2 g)
  {x:AV} {p:PV} {u:Value} (h:viewPV fz x=some p) (hr:RdA w O θ x u):Rd w O2 p u:=by
 cases x with
 | pv q=>simp only[viewPV,Option.some.injEq] at h;subst h;exact(lm hr).mono (Nat.le_refl _) (fun b _ hn=>⟨fun h2=>hn (hO2 b h2),rfl⟩)
 | ra id m=>simp[viewPV] at h
 | aw id off n=>simp[viewPV] at h
 | sp id sz r=>simp[viewPV] at h
 | bp id=>simp[viewPV] at h
 | any=>simp[viewPV] at h
 | cs sz rows=>simp only[viewPV,Option.some.injEq] at h;subst h;cases hr with | cs _ _ _ h _=>exact h.mono (Nat.le_refl _) (fun b _ hn=>⟨fun h2=>hn (hO2 b h2),rfl⟩)
 | ls id=>
  simp only[viewPV] at h
  split at h
  ·rename_i hl;cases h
   cases hr with | ls _ _ h=>exact Ot hs hfz hO2 hfree h hl
  ·rename_i hl;cases h
   cases hr with | ls _ _ h=>exact Nc hs hfz hO2 hfree h hl
  ·cases h
 | lp id off=>
  simp only[viewPV] at h
  split at h
  ·rename_i hl
   split at h
   ·rename_i hrs
    simp only[cond_eq_ite] at h
    split at h
    ·rename_i hone
     cases h
     cases hr with | lp _ _ g h=>exact Wj hs hfz hO2 hfree h hl hrs hone
    ·cases h
   ·cases h
  ·cases h
 | fn f caps=>
  simp only[viewPV] at h
  split at h
  ·rename_i ps hps
   cases h
   obtain⟨h1,h2⟩:=wV hs hfz hO2 hfree hps
   cases hr with
   | fn _ _ us hn hh=>
    refine .fn f ps us (by rw[hn,h1]) fun i q u hq hu=> ?_
    have hi:i < caps.length:=by rw[h1];exact(List.getElem?_eq_some_iff.1 hq).1
    exact h2 i caps[i] q u (getElem?_eq_getElem hi) hq (hh i _ u (getElem?_eq_getElem hi) hu)
  ·cases h
 | le=>simp[viewPV] at h
 | mv=>simp[viewPV] at h
 | tup=>simp[viewPV] at h
 | agg cs=>
  simp only[viewPV] at h
  split at h
  ·rename_i ps hps
   simp only[cond_eq_ite] at h
   split at h
   ·rename_i hone
    cases h
    obtain⟨h1,h2⟩:=wV hs hfz hO2 hfree hps
    cases hr with
    | agg _ us hn h1c hh=>
     refine .agg ps us (by rw[hn,h1]) (fun x hx=>List.all_eq_true.1 hone x hx) fun i q u hq hu=> ?_
     have hi:i < cs.length:=by rw[h1];exact(List.getElem?_eq_some_iff.1 hq).1
     exact h2 i cs[i] q u (getElem?_eq_getElem hi) hq (hh i _ u (getElem?_eq_getElem hi) hu)
   ·cases h
  ·cases h
end
def St.freeze (s:St) (fz:List (Nat×Option Blk)) (new:List (Nat×Option AV)):St:={ s with fr:=new++s.fr,hp:=fz.map (fun x=>(x.1,none))++s.hp }
def FzF (s:St) (fz:List (Nat×Option Blk)):List (Nat×Option AV)->Prop
 | []=>True
 | (t,some (.pv p))::l=>(∃ x,aX t s.fr=some x/\viewPV fz x=some p)/\FzF s fz l
 | (t,some (.tup ys))::l=>(∃ xs,aX t s.fr=some (.tup xs)/\viewTup fz xs ys)/\FzF s fz l
 | _::_=>False
where viewTup (fz:List (Nat×Option Blk)):List AV->List AV->Prop
 | [],[]=>True
 | x::xs,.pv p::ys=>viewPV fz x=some p/\viewTup fz xs ys
 | _,_=>False
theorem tC {α:Type} (t:Nat):∀ (l m:List (Nat×Option α)),(∃ x,(t,x)∈l/\aX t (l++m)=x)\/((∀ x,(t,x) ∉ l)/\aX t (l++m)=aX t m)
 | [],m=> .inr ⟨by simp,rfl⟩
 | (k,y)::l,m=>by
  simp only[cons_append,dH]
  by_cases h:k=t
  ·subst h;left;exact⟨y,by simp,by simp⟩
  ·rw[if_neg h]
   rcases tC t l m with⟨x,h1,h2⟩ | ⟨h1,h2⟩
   ·exact .inl ⟨x,by simp[h1],h2⟩
   ·exact .inr ⟨fun x hx=>by
     rcases List.mem_cons.1 hx with e | e
     ·cases e;exact h rfl
     ·exact h1 x e,h2⟩
theorem SimAt.frozen {O:Nat->Prop} {θ:Nat->Option Value} {a:Act} {w:World} (fz:List (Nat×Option Blk)) (new:List (Nat×Option AV)) (hfz:∀ x∈fz,∃ b,x.2=some b/\aX x.1 s.hp=some b) (hF:FzF s fz new) (h:SimAt c s O θ a w):
  SimAt c (s.freeze fz new) (fun g=>O g/\∀ id b u,aX id s.hp=some b->(id,some b)∈fz->θ id=some u->bU u≠some g) θ a w:=by
 have hfz':∀ id b,aX id fz=some b->aX id s.hp=some b:=by
  intro id b hl
  obtain⟨b',h1,h2⟩:=hfz _ (eY hl)
  cases h1;exact h2
 have hO2:∀ g,(O g/\∀ id b u,aX id s.hp=some b->(id,some b)∈fz->θ id=some u->bU u≠some g)->O g:=fun g h=>h.1
 have hm:∀ b,b < w.heap.size->¬ O b->¬ (O b/\∀ id b' u,aX id s.hp=some b'->(id,some b')∈fz->θ id=some u->bU u≠some b)/\w.heap[b]? =w.heap[b]? :=fun b _ hn=>⟨fun h=>hn h.1,rfl⟩
 have hfree:∀ id b u g,aX id fz=some b->θ id=some u->bU u=some g->¬ (O g/\∀ id b u,aX id s.hp=some b->(id,some b)∈fz->θ id=some u->bU u≠some g):=by
  rintro id b u g h1 h2 h3 ⟨_,h4⟩
  exact h4 id b u (hfz' _ _ h1) (eY h1) h2 h3
 have hfr:∀ t x,(t,some x)∈new->RdA w (fun g=>O g/\∀ id b u,aX id s.hp=some b->(id,some b)∈fz->θ id=some u->bU u≠some g) θ x (a.tmps.getD t undef):=by
  have:∀ (new:List (Nat×Option AV)),FzF s fz new->∀ t x,(t,some x)∈new->RdA w (fun g=>O g/\∀ id b u,aX id s.hp=some b->(id,some b)∈fz->θ id=some u->bU u≠some g) θ x (a.tmps.getD t undef):=by
   intro new
   induction new with
   | nil=>intro _ t x hx;simp at hx
   | cons y new ih=>
    intro hF t x hx
    obtain⟨t',y⟩:=y
    rcases y with _ | y
    ·simp[FzF] at hF
    ·cases y with
     | pv p=>
      obtain⟨⟨z,hz1,hz2⟩,hF⟩:=hF
      rcases List.mem_cons.1 hx with e | e
      ·cases e
       exact .pv _ _ (Ik h hfz' hO2 hfree hz2 (h.fr _ _ hz1))
      ·exact ih hF t x e
     | tup ys=>
      obtain⟨⟨zs,hz1,hz2⟩,hF⟩:=hF
      rcases List.mem_cons.1 hx with e | e
      ·cases e
       have hr:=h.fr _ _ hz1
       generalize a.tmps.getD t undef=v at hr
       cases hr with
       | tup _ us hn hh=>
        have key:∀ (zs ys:List AV),FzF.viewTup fz zs ys->zs.length=ys.length/\∀ (i:Nat) (z y:AV) (u:Value),zs[i]? =some z->ys[i]? =some y->RdA w O θ z u->RdA w (fun g=>O g/\∀ id b u,aX id s.hp=some b->(id,some b)∈fz->θ id=some u->bU u≠some g) θ y u:=by
         intro zs
         induction zs with
         | nil=>intro ys hv;cases ys with
          | nil=>exact⟨rfl,fun i z y u hz=>by simp at hz⟩
          | cons y ys=>simp[FzF.viewTup] at hv
         | cons z zs ih2=>
          intro ys hv
          cases ys with
          | nil=>simp[FzF.viewTup] at hv
          | cons y ys=>
           cases y<;>first | (simp[FzF.viewTup] at hv;done) | skip
           obtain⟨hv1,hv2⟩:=hv
           obtain⟨g1,g2⟩:=ih2 ys hv2
           refine⟨by simp[g1],fun i z' y' u hz hy hr=> ?_⟩
           cases i with
           | zero=>simp at hz hy;subst hz;subst hy;exact .pv _ _ (Ik h hfz' hO2 hfree hv1 hr)
           | succ i=>exact g2 i z' y' u (by simpa using hz) (by simpa using hy) hr
        obtain⟨k1,k2⟩:=key zs ys hz2
        refine .tup ys us (by rw[hn,k1]) fun i y u hy hu=> ?_
        have hi:i < zs.length:=by rw[k1];exact(List.getElem?_eq_some_iff.1 hy).1
        exact k2 i zs[i] y u (getElem?_eq_getElem hi) hy (hh i _ u (getElem?_eq_getElem hi) hu)
      ·exact ih hF t x e
     | _=>simp[FzF] at hF
  exact this new hF
 have hhp:∀ id b,aX id (s.freeze fz new).hp=some b->aX id s.hp=some b/\∀ b',(id,some b') ∉ fz:=by
  intro id b hb
  simp only[St.freeze] at hb
  rcases tC id (fz.map fun x=>(x.1,(none:Option Blk))) s.hp with⟨x,h1,h2⟩ | ⟨h1,h2⟩
  ·obtain⟨y,hy,e⟩:=List.mem_map.1 h1
   rw[h2] at hb
   subst hb
   cases e
  ·rw[h2] at hb
   exact⟨hb,fun b' hb'=>h1 none (List.mem_map.2 ⟨_,hb',rfl⟩)⟩
 refine⟨h.size,h.df,?_,?_,?_,h.dom,h.flt,h.one,fun g hg=>h.olt g hg.1,h.ext,?_,h.xlt,h.llt,?_,fun g hg=>h.oc g hg.1,h.kp,?_⟩
 ·intro t x hx
  simp only[St.freeze] at hx
  rcases tC t new s.fr with⟨y,h1,h2⟩ | ⟨h1,h2⟩
  ·rw[h2] at hx;subst hx
   exact hfr t x h1
  ·rw[h2] at hx
   exact(h.fr t x hx).mono (Nat.le_refl _) hm (fun _ _ e=>e)
 ·intro id b hb
  obtain⟨h1,h2⟩:=hhp id b hb
  obtain⟨v,hv,hbo,hg⟩:=h.hp id b h1
  refine⟨v,hv,hbo.mono (Nat.le_refl _) hm (fun _ _ e=>e) (fun _ _=>rfl),fun g hgg=> ?_⟩
  obtain⟨g1,g2,g3⟩:=hg g hgg
  refine⟨⟨g1,fun id' b' u h3 h4 h5 h6=> ?_⟩,g2,g3⟩
  have:=h.inj id id' b b' v u g h1 h3 hv h5 hgg h6
  subst this
  exact h2 b' h4
 ·intro i j bi bj vi vj g hi hj
  exact h.inj i j bi bj vi vj g (hhp i bi hi).1 (hhp j bj hj).1
 ·intro g hx
  refine⟨h.xo g hx,fun id b u h3 h4 h5 h6=> ?_⟩
  obtain⟨v,hv,_,hg⟩:=h.hp id b h3
  rw[h5] at hv;cases hv
  exact(hg g h6).2.2.2 hx
 ·intro d hd
  obtain⟨D,h1,h2,h3,h4⟩:=h.marks d hd
  refine⟨D,h1,h2,⟨h3,fun id b u k1 _ k3 k4=> ?_⟩,h4⟩
  obtain⟨v,hv,hbo,_⟩:=h.hp id b k1
  rw[k3] at hv;cases hv
  obtain⟨_,hh,ho⟩:=hbo.cells k4
  rw[h2] at hh;cases hh;cases ho
 ·refine c.Jst h.jn ⟨rfl,rfl,rfl,Nat.le_refl _,fun _ _ _=>rfl,fun g h=> .inl h.1,fun g h1 h2=>⟨h1,fun id b u h3 _ h5 h6=>h2 (.inr (.inl ⟨id,b,u,h3,h5,h6⟩))⟩,fun g hg=>h.olt g hg.1,fun g hI=> .inl ?_⟩
  rcases hI with hI | ⟨id,b,v,h1,h2,h3⟩ | hI
  ·exact .inl hI
  ·exact .inr (.inl ⟨id,b,v,(hhp id b h1).1,h2,h3⟩)
  ·exact .inr (.inr hI)
theorem gW (fz:List (Nat×Option Blk)) (new:List (Nat×Option AV)) (hfz:∀ x∈fz,∃ b,x.2=some b/\aX x.1 s.hp=some b) (hF:FzF s fz new):Imp c s (s.freeze fz new):=by
 rintro a w ⟨O,θ,h⟩
 exact⟨_,θ,h.frozen fz new hfz hF⟩
theorem wr (fz:List (Nat×Option Blk)) (new:List (Nat×Option AV)) (bid off id:Nat) {T e sz:Nat} {rows:List (List PV)} {cells:List AV} (hfz:∀ x∈fz,∃ b,x.2=some b/\aX x.1 s.hp=some b) (hF:FzF s fz new)
  (hb:aX bid (s.freeze fz new).hp=some (.box T cells)) (hc:cells[off]? =some (.ls id)) (hid:aX id fz=some (.row e sz rows)):Imp c s ((s.freeze fz new).setBlk bid (some (.box T (cells.set off (.pv (.vs sz rows)))))):=by
 rintro a w ⟨O,θ,h⟩
 have h':=h.frozen fz new hfz hF
 have hfz':∀ id b,aX id fz=some b->aX id s.hp=some b:=by
  intro id b hl
  obtain⟨b',h1,h2⟩:=hfz _ (eY hl)
  cases h1;exact h2
 refine⟨(fun g=>O g/\∀ id b u,aX id s.hp=some b->(id,some b)∈fz->θ id=some u->bU u≠some g),θ,?_⟩
 obtain⟨v,hv,⟨g,us,rfl,k1,k2,k3⟩,k4⟩:=h'.hp bid _ hb
 refine h'.upd hb hv (World.grownBy.refl w _) ⟨g,us,rfl,k1,by simpa using k2,fun j x u hx hu=> ?_⟩
 rw[getElem?_set] at hx
 split at hx
 ·rename_i e;subst e
  split at hx
  ·cases hx
   obtain⟨m1,m2⟩:=k3 off _ u hc hu
   cases m1 with
   | ls _ _ m1=>
    refine⟨.pv _ _ (Ot h hfz' (fun _ h=>h.1) ?_ m1 hid),m2⟩
    rintro id b u g h1 h2 h3 ⟨_,h4⟩
    exact h4 id b u (hfz' _ _ h1) (eY h1) h2 h3
  ·cases hx
 ·exact k3 j x u hx hu
end
end Go.Abs

