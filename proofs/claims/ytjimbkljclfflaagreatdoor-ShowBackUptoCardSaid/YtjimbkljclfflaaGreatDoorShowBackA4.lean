/- The abstract layer that the proof stands on: no condition. -/
import Derived.Test.YtjimbkljclfflaaGreatDoorShowBackA3
import Derived.Lib.ConvBytes
import Derived.Laws.BytesString
import Derived.Lib.Join
import Derived.Lib.AppendZeros
import Derived.Shelf.Strings.Builder1
import Derived.Test.YtjimbkljclfflaaGreatDoorShowBackA2
import Derived.ProofKit
import Derived.OpenShut
import Derived.LaidMore
import Derived.Stop.Joined
import Derived.WideKeyEntry
import Derived.DeepKeys4
import Derived.Maps.GroupsBeside
import Derived.Lib.Repeat
/- Bits and quotients of integers; texts and bytes. -/
namespace Go.Abs
open List
variable {G:List (Nat×List PV)}
open Go.RowKit
def RY (k:IntKind) (f:BitVec k.bits->BitVec k.bits->BitVec k.bits) (x y:Int):Int:=k.wrap (f (BitVec.ofInt k.bits x) (BitVec.ofInt k.bits y)).toNat
def yC (k:IntKind) (x y:Int):Int:=RY k (fun a b=>a &&& b) x y
def orI (k:IntKind) (x y:Int):Int:=RY k (fun a b=>a ||| b) x y
def aes (k:IntKind) (x y:Int):Int:=RY k (fun a b=>a ^^^ b) x y
def aeS (k:IntKind) (x y:Int):Int:=RY k (fun a b=>a &&& ~~~b) x y
def DX (op:BinOp) (k:IntKind) (m n:Int):Option PV:=
 match op with
 | .and=>some (.int k (yC k m n))
 | .or=>some (.int k (orI k m n))
 | .xor=>some (.int k (aes k m n))
 | .andNot=>some (.int k (aeS k m n))
 | .quo=>if n=0 then none else some (.int k (k.wrap (m.tdiv n)))
 | .rem=>if n=0 then none else some (.int k (m.tmod n))
 | _=>none
def qP (l:List Int):List UInt8:=l.map fun n=>UInt8.ofNat n.toNat
def bh (l:List UInt8):List Int:=l.map fun b=>(b.toNat:Int)
theorem adH {k:IntKind} {m n:Int} (h:n≠0):DX .quo k m n=some (.int k (k.wrap (m.tdiv n))):=by simp[DX,h]
theorem Yp {k:IntKind} {m n:Int} (h:n≠0):DX .rem k m n=some (.int k (m.tmod n)):=by simp[DX,h]
section
variable {ro:Option Nat} {P:Program} {c:Cx G} {s s':St} {o:Oper} {d:Option Nat}
theorem kO {op:BinOp} {T T':TypeId} {x y:Operand} {k:IntKind} {m n:Int} {r:PV} (ho:o.op= .binOp op T x y T') (hx:ev s x=some (.pv (.int k m))) (hy:ev s y=some (.pv (.int k n)))
  (hr:DX op k m n=some r) (hd:o.dst=d) (hn:dOk s d=true):da ro P c o s (s.put d (some (.pv r))):=
 ca hd hn (by rw[ho];intro k h;cases h) fun a w O θ hs=>by
  have e1:=mI hs hx
  have e2:=mI hs hy
  cases op<;>simp only[DX,Option.some.injEq,reduceCtorEq] at hr
  case quo=>
   split at hr
   ·cases hr
   ·rename_i h0
    cases hr
    exact⟨_,by simp[execOp,ho,eqGuard,binOp,e1,e2,Op.intDiv,h0],.pv _ _ (.int _ _)⟩
  case rem=>
   split at hr
   ·cases hr
   ·rename_i h0
    cases hr
    exact⟨_,by simp[execOp,ho,eqGuard,binOp,e1,e2,Op.intDiv,h0],.pv _ _ (.int _ _)⟩
  all_goals subst hr
  all_goals exact⟨_,by simp[execOp,ho,eqGuard,binOp,e1,e2,Op.intBits,yC,orI,aes,aeS,RY],.pv _ _ (.int _ _)⟩
theorem Ru {T T' e:TypeId} {x:Operand} {l:List UInt8} {td:TypeDesc} {u:Unit} {E:Int->List PV} (ho:o.op= .convert T T' x) (hx:ev s x=some (.pv (.str l))) (hs0:P.underlying T=some td) (hd0:P.underlying T'=some (.slice e)) (he:P.underlying e=some (.int .u8))
  (hl:dr (l.length:Int) 1=some u) (hE:E=fun b=>[.int .u8 b]) (hd:o.dst=d) (hn:dOk s d=true):da ro P c o s (s.put d (some (.pv (.vs 1 ((bh l).map E))))):=
 sY (s1:=s) hd hn (by rw[ho];intro k h;cases h) fun a w O θ hs=>by
  have hl:=uA hl
  subst hE
  rw[show (bh l).map (fun b=>[PV.int .u8 b])=l.map fun b=>[.int .u8 (b.toNat:Int)] by simp[bh]]
  have hsz:(⟨l.toArray⟩:ByteArray).size=l.length:=by simp[ByteArray.size]
  have hg:w.grownBy (Lib.bytesWorld w e ⟨l.toArray⟩) none:=⟨rfl,rfl,rfl,by rw[Lib.bytesWorld_size];omega,fun k hk _=>Lib.bytesWorld_at_old w e _ k hk⟩
  have hge:=grownCap_ge w l.length 0 e
  have hcm:=grownCap_le_maxLen w l.length 0 e (by unfold maxLen;omega)
  have hnO:¬ O w.heap.size:=fun h=>by have:=hs.olt _ h;omega
  have hrun:=Lib.run_convert_string_bytes w T T' e ⟨l.toArray⟩ hs0 hd0 he
  rw[hsz] at hrun
  refine⟨.slice (some ⟨w.heap.size,0,none⟩) l.length (grownCap w l.length 0 e),Lib.bytesWorld w e ⟨l.toArray⟩,O,θ,by simp[execOp,ho,zp hs hx,hrun],hs.grownNone hg,.pv _ _ ?_⟩
  have:=pW (w:=Lib.bytesWorld w e ⟨l.toArray⟩) (O:=O) (sz:=1) (rows:=l.map fun b=>[.int .u8 (b.toNat:Int)]) (us:=l.map fun b=> .int .u8 (b.toNat:Int)) (g:=w.heap.size) (cap:=grownCap w l.length 0 e) ⟨by simp,by simp,by simp[PV.one],fun i j row c u h1 h2 h3=> ?_⟩ (Lib.bytesWorld_at_new w e ⟨l.toArray⟩) (by simp[Lib.bytesCells]) hnO (by simpa using hge) hcm
  ·simpa using this
  ·rw[getElem?_map,Option.map_eq_some_iff] at h1
   obtain⟨b,hb,rfl⟩:=h1
   cases j with
   | zero=>
    simp at h2 h3
    obtain⟨b',hb',rfl⟩:=h3
    rw[hb] at hb';cases hb'
    subst h2
    exact .int _ _
   | succ j=>simp at h2
theorem XB {w:World} {O:Nat->Prop} {l:List Int} {v:Value} (h:Rd w O (.vs 1 (l.map fun b=>[.int .u8 b])) v):
  ∃ a cap,v= .slice a l.length cap/\(l=[]\/∃ g off,a=some ⟨g,off,none⟩/\∀ k b,l[k]? =some b->w.cell? ⟨g,off+k,none⟩=some (.int .u8 b)):=by
 generalize hr:(l.map fun b=>[PV.int .u8 b])=rows at h
 cases h with
 | vsz sz a cap h0 hm=>
  have:l=[]:=by simpa using hr
  subst this
  exact⟨a,cap,rfl,.inl rfl⟩
 | vs sz rows b off cap us h1 h2 h3 h4 h5 h6 h7 h8=>
  refine⟨some ⟨b,off,none⟩,cap,by rw[<- hr];simp,.inr ⟨b,off,rfl,fun k x hk=> ?_⟩⟩
  have hrow:rows[k]? =some [.int .u8 x]:=by rw[<- hr,getElem?_map,hk];rfl
  have hlt:k < rows.length:=(List.getElem?_eq_some_iff.1 hrow).1
  have:=h8 k 0 _ _ hrow rfl
  rw[h7 k (by omega)]
  have e:us (k * 1+0)=us k:=by simp
  rw[e] at this
  generalize us k=u at this
  cases this;rfl
theorem RE : ∀ (l:List Int) (acc:ByteArray),l.foldl (fun r n=>r.push (UInt8.ofNat n.toNat)) acc=⟨acc.data++(qP l).toArray⟩
 | [],acc=>by simp[qP]
 | b::l,acc=>by
  rw[foldl_cons,RE l]
  simp[ByteArray.push,qP]
theorem SM {T T' e:TypeId} {x:Operand} {l:List Int} {E:Int->List PV} (ho:o.op= .convert T T' x) (hx:ev s x=some (.pv (.vs 1 (l.map E)))) (hE:E=fun b=>[.int .u8 b]) (hs0:P.underlying T=some (.slice e)) (he:P.underlying e=some (.int .u8)) (hd0:P.underlying T'=some .string)
  (hd:o.dst=d) (hn:dOk s d=true):da ro P c o s (s.put d (some (.pv (.str (qP l))))):=
 ca hd hn (by rw[ho];intro k h;cases h) fun a w O θ hs=>by
  subst hE
  obtain⟨ad,cap,hv,h⟩:=XB (ug hs hx)
  refine⟨.string ⟨(qP l).toArray⟩,?_,.pv _ _ (.str _)⟩
  have hrun:(convert T T' (.slice ad l.length cap)).run P w= .ok (.string ⟨(qP l).toArray⟩) w:=by
   rw[run_convert_bytes_string w T T' e ad l.length cap hs0 he hd0]
   rcases h with rfl | ⟨g,off,rfl,h⟩
   ·cases ad with
    | none=>simp[Conv.bytesToString,Sem.run_pure];rfl
    | some a0=>
     have:=run_bytesToString (P:=P) w a0 0 cap [] (by simp[loadCells,loadCellsFrom,Sem.run_pure])
     simp only[foldl_nil] at this
     exact this
   ·have h1:=run_loadCells_list (P:=P) w ⟨g,off,none⟩ (l.map fun b=>Value.int .u8 b) (fun j v hj=>by
     rw[getElem?_map,Option.map_eq_some_iff] at hj
     obtain⟨b,hb,rfl⟩:=hj
     have:=h j b hb
     simp only[Addr.add]
     split
     ·rename_i h0;subst h0;simpa using this
     ·simpa using this)
    rw[length_map] at h1
    have h2:=run_bytesToString (P:=P) w ⟨g,off,none⟩ l.length cap l (by rw[h1])
    rw[RE] at h2
    simpa using h2
  simp[execOp,ho,hv,hrun]
end
end Go.Abs

/- Package variables: an array of known elements. -/
namespace Go.Abs
open List
variable {G:List (Nat×List PV)}
open Go.RowKit
section
variable {ro:Option Nat} {P:Program} {c:Cx G} {s s':St} {o:Oper} {d:Option Nat}
theorem UK {O:Nat->Prop} {θ:Nat->Option Value} {a:Act} {w:World} (hs:SimAt c s O θ a w) {g:Nat} {row:List PV} (hg:(g,row)∈G):Rd w O (.vp row) (a.eval (.global g)):=by
 have h:=c.JG hs.jn _ hg
 exact h
theorem aey {w:World} {O:Nat->Prop} {sz b off:Nat} {α:Type} {f:α->List PV} {l:List α} {i:Int} {z:α} (h:Rd w O (.vp (l.map f).flatten) (.pointer (some ⟨b,off,none⟩))) (hf:∀ z,(f z).length=sz) (hi:idx l i=some z):
  Rd w O (.vp (f z)) (.pointer (some ⟨b,off+i.toNat * sz,none⟩)):=by
 obtain⟨i0,i1,i2⟩:=rM hi
 obtain⟨b',off',us,hv,h1,h2,h3,h4,h5⟩:=Ko h
 injection hv with hv;injection hv with hv;injection hv with e1 e2;subst e1;subst e2
 have hfl:((l.map f).flatten).length=l.length * sz:=by
  rw[nY (sz:=sz) (fun row hr=>by obtain⟨z,_,rfl⟩:=List.mem_map.1 hr;exact hf z),length_map]
 have hget:∀ (l:List α) (k:Nat) (z:α) (j:Nat),l[k]? =some z->j < sz->((l.map f).flatten)[k * sz+j]? =(f z)[j]? :=by
  intro l
  induction l with
  | nil=>intro k z j hk;simp at hk
  | cons x l ih=>
   intro k z j hk hj
   rw[map_cons,flatten_cons]
   cases k with
   | zero=>
    simp at hk;subst hk
    rw[Nat.zero_mul,Nat.zero_add,getElem?_append_left (by rw[hf];exact hj)]
   | succ k=>
    rw[getElem?_append_right (by rw[hf,Nat.add_mul];omega),hf]
    have:(k+1) * sz+j - sz=k * sz+j:=by rw[Nat.add_mul];omega
    rw[this]
    exact ih k z j (by simpa using hk) hj
 have hlt:i.toNat < l.length:=(List.getElem?_eq_some_iff.1 i1).1
 refine .vp _ b _ (fun j=>us (i.toNat * sz+j)) h1 h2 (fun q hq=> ?_) (fun j hj=> ?_) (fun j q hq=> ?_)
 ·refine h3 q (List.mem_flatten.2 ⟨f z,List.mem_map.2 ⟨z,mem_of_getElem? i1,rfl⟩,hq⟩)
 ·rw[hf] at hj
  rw[Nat.add_assoc]
  exact h4 _ (by rw[hfl];exact sI hlt hj)
 ·have hj:j < sz:=by have:=(List.getElem?_eq_some_iff.1 hq).1;rwa [hf] at this
  exact h5 _ q (by rw[hget l _ z j i1 hj];exact hq)
theorem Mp {T n e sz g:Nat} {y:Operand} {k:IntKind} {i:Int} {row:List PV} {α:Type} {l:List α} {f:α->List PV} {z:α} (ho:o.op= .indexAddr T (.global g) y) (hG:(g,row)∈G) (hy:ev s y=some (.pv (.int k i))) (ht:tQ P T n e sz=true)
  (hrow:row=(l.map f).flatten) (hf:∀ z,(f z).length=sz) (hl:l.length=n) (hi:idx l i=some z) (hd:o.dst=d) (hn:dOk s d=true):
  da ro P c o s (s.put d (some (.pv (.vp (f z))))):=
 ca hd hn (by rw[ho];intro k h;cases h) fun a w O θ hs=>by
  have hv:=UK hs hG
  have he:a.eval (.global g)= .pointer (some ⟨g,0,none⟩):=rfl
  rw[he,hrow] at hv
  obtain⟨i0,i1,i2⟩:=rM hi
  have hm:i=((i.toNat:Nat):Int):=by omega
  have hlt:i.toNat < n:=by omega
  have hrun:=vC (P:=P) ht (k:=k) (m:=i.toNat) (by simpa [Nat.blt_eq] using hlt) w g 0
  rw[<- hm] at hrun
  exact⟨.pointer (some ⟨g,0+i.toNat * sz,none⟩),by simp[execOp,ho,he,mI hs hy,hrun],.pv _ _ (aey hv hf hi)⟩
theorem AY {T n e sz g:Nat} {row:List PV} {α:Type} {f:α->List PV} {l:List α} (ho:o.op= .slice T (.global g) none none none) (hG:(g,row)∈G)
  (ht:tQ P T n e sz=true) (hrow:row=(l.map f).flatten) (hf:∀ z,(f z).length=sz) (hl:l.length=n) (hnm:Nat.ble n maxLen=true) (hd:o.dst=d) (hn:dOk s d=true):da ro P c o s (s.put d (some (.pv (.vs sz (l.map f))))):=
 ca hd hn (by rw[ho];intro k h;cases h) fun a w O θ hs=>by
  obtain⟨i,t1,t2,t3⟩:=zz ht
  have hv:=UK hs hG
  have he:a.eval (.global g)= .pointer (some ⟨g,0,none⟩):=rfl
  rw[he] at hv
  have hfl:((l.map f).flatten).length=n * sz:=by
   rw[nY (sz:=sz) (fun row hr=>by obtain⟨z,_,rfl⟩:=List.mem_map.1 hr;exact hf z),length_map,hl]
  have hv2:=aaa (n:=n) (sz:=sz) hv (by rw[hrow,take_of_length_le (by omega)]) hf hl (Nat.le_of_ble_eq_true hnm)
  have e0:(l.map f).length=n:=by rw[length_map,hl]
  rw[e0] at hv2
  refine⟨.slice (some ⟨g,0,none⟩) n n,?_,.pv _ _ hv2⟩
  by_cases h0:n=0
  ·subst h0
   simp[execOp,ho,he,Instr.sliceAt,run_underlying t1,Instr.sureAddr,Instr.sliceBounds,sizeOf,typeInfo,t2,t3,Addr.add_lit]
  ·simp[execOp,ho,he,Instr.sliceAt,run_underlying t1,Instr.sureAddr,Instr.sliceBounds,sizeOf,typeInfo,t2,t3,Addr.add_lit]
end
theorem TZ {w:World} {O:Nat->Prop}:GlobOk [] w O:=fun x hx=>by cases hx
theorem Fj {w:World} {O:Nat->Prop} {x:Nat×List PV} {l:List (Nat×List PV)} (h:Rd w O (.vp x.2) (.pointer (some ⟨x.1,0,none⟩))) (hl:GlobOk l w O):GlobOk (x::l) w O:=fun y hy=>by
 rcases List.mem_cons.1 hy with rfl | hy
 ·exact h
 ·exact hl y hy
end Go.Abs

/- An array of a box, as a slice that is copied into. -/
namespace Go.Abs
open List
variable {G:List (Nat×List PV)}
open Go.RowKit
section
variable {ro:Option Nat} {P:Program} {c:Cx G} {s s':St} {o:Oper} {d:Option Nat}
end
end Go.Abs

/- Functions of Go's library, by the contracts of the kit's shelf. -/
namespace Go.Abs
open List
variable {G:List (Nat×List PV)}
open Go.RowKit
theorem zo {w w':World} (h:Below w.heap.size w w'):w.grownBy w' none:=⟨h.os,h.tape,h.output,h.size,fun k hk _=>h.block k hk⟩
theorem JH {w:World} {O:Nat->Prop} {s:List UInt8} {v:Value} (h:Rd w O (.str s) v):v= .string ⟨s.toArray⟩:=by cases h;rfl
theorem vs2 {vs:Array Value} (h:vs.size=2):∃ a b,vs= #[a,b]:=by
 obtain⟨l⟩:=vs
 match l,h with
 | [a,b],_=>exact⟨a,b,rfl⟩
def Ez (xs:List (List UInt8)) (sep:List UInt8):Option (List UInt8):=if xs.length<=140737488355328/\(Lib.join xs sep).length<=140737488355328 then some (Lib.join xs sep) else none
theorem abI {P:Program} {f:Nat} (h0:∀ (a:Option Addr) (c:Nat) (sep:ByteArray) (w:World),Calls P f #[.slice a 0 c,.string sep] w fun e w'=>e= .returned (.string ⟨#[]⟩)/\w'=w)
  (h1:∀ (bk o c:Nat) (xs:List ByteArray) (sep:ByteArray) (w:World),(∀ (j:Nat) x,xs[j]? =some x->w.cell? ⟨bk,o+j,none⟩=some (.string x))->bk < w.heap.size->xs.length<=140737488355328->xs.length<=c->(Lib.join (xs.map (·.data.toList)) sep.data.toList).length<=140737488355328->
   Calls P f #[.slice (some ⟨bk,o,none⟩) xs.length c,.string sep] w fun e w'=>e= .returned (.string ⟨(Lib.join (xs.map (·.data.toList)) sep.data.toList).toArray⟩)/\Below w.heap.size w w')
  {xs:List (List UInt8)} {sep r:List UInt8} (hr:Ez xs sep=some r):Fn G P f [.vs 1 (xs.map eS),.str sep] [.p (.str r)]:=by
 intro w O vs hO _ hsz hrd
 obtain⟨v0,v1,rfl⟩:=vs2 hsz
 have e0:=hrd 0 _ v0 rfl rfl
 have e1:=JH (hrd 1 _ v1 rfl rfl)
 subst e1
 unfold Ez at hr
 split at hr
 ·rename_i hb
  cases hr
  rcases Fh e0 with⟨a,cap,rfl,hx,_,_⟩ | ⟨b,off,cap,us,rfl,hb1,hb2,hb3,hb4,hb5,hb6,hb7,hb8⟩
  ·have hx':xs=[]:=by simpa using hx
   subst hx'
   refine(h0 a cap _ w).mono ?_
   rintro e w' ⟨rfl,rfl⟩
   exact⟨_,O,rfl,World.grownBy.refl _ _,fun _ h=>h,Rd.str []⟩
  ·have hl:(xs.map eS).length=(xs.map fun x=>(⟨x.toArray⟩:ByteArray)).length:=by simp
   have hmm:(xs.map fun x=>(⟨x.toArray⟩:ByteArray)).map (·.data.toList)=xs:=by
    rw[map_map]
    refine(map_congr_left fun x _=> ?_).trans (map_id xs)
    simp
   rw[hl]
   refine(h1 b off cap (xs.map fun x=>(⟨x.toArray⟩:ByteArray)) ⟨sep.toArray⟩ w ?_ hb2 (by simpa using hb.1) (by simpa using hb3) (by rw[hmm];simpa using hb.2)).mono ?_
   ·intro j x hj
    rw[getElem?_map,Option.map_eq_some_iff] at hj
    obtain⟨y,hy,rfl⟩:=hj
    have hlt:j < xs.length:=(List.getElem?_eq_some_iff.1 hy).1
    rw[hb7 j (by simp;omega)]
    have:=hb8 j 0 (eS y) (.str y) (by rw[getElem?_map,hy];rfl) rfl
    rw[Nat.mul_one,Nat.add_zero] at this
    rw[JH this]
   ·rintro e w' ⟨rfl,hB⟩
    refine⟨_,O,rfl,zo hB,fun _ h=>h,?_⟩
    rw[hmm]
    exact Rd.str _
 ·cases hr
end Go.Abs

/- A row of the call's own, cut short; zeros behind nil; what a nil slice has room for. -/
namespace Go.Abs
open List
variable {G:List (Nat×List PV)}
open Go.RowKit
section
variable {ro:Option Nat} {P:Program} {c:Cx G} {s s':St} {o:Oper} {d:Option Nat}
theorem Pw (kk:Nat) (hk:ko s kk=true) {T e sz:Nat} {x y:Operand} {k:IntKind} {n:Int} {id:Nat} {rows rows':List (List PV)} (ho:o.op= .slice T x none (some y) none) (hx:ev s x=some (.ls id)) (hb:aX id s.hp=some (.row e sz rows)) (hy:ev s y=some (.pv (.int k n)))
  (ht:sliceB P T e sz=true) (hr:jK rows 0 n=some rows') (hd:o.dst=d) (hn:dOk s d=true):da ro P c o s ((s.addAt kk (some id) (.row e sz rows')).put d (some (.ls kk))):=
 sY (s1:=s.addAt kk (some id) (.row e sz rows')) hd hn (by rw[ho];intro k h;cases h) fun a w O θ hs=>by
  obtain⟨q0,q1,q2,rfl⟩:=wX hr
  obtain⟨i,h1,h2,h3⟩:=mu ht
  have h:=jJ hs hx
  have hi:=mI hs hy
  generalize ha:a.eval x=u at h
  cases h with
  | ls _ _ h=>
   obtain⟨v',hv',⟨us,hown,hrd⟩,hO2⟩:=hs.hp id _ hb
   rw[h] at hv';cases hv'
   have hl:((rows.take n.toNat).drop (0:Int).toNat).length=n.toNat:=by simp;omega
   have hrw:(rows.take n.toNat).drop (0:Int).toNat=rows.take n.toNat:=by simp
   have hrd2:RowsRd w O sz (rows.take n.toNat) (us.take (n.toNat * sz)):=by
    refine⟨?_,fun row hr=>hrd.hz row (mem_of_mem_take hr),fun row hr=>hrd.one row (mem_of_mem_take hr),fun i j row x u h1 h2 h3=> ?_⟩
    ·have:n.toNat * sz<=rows.length * sz:=Nat.mul_le_mul_right _ (by omega)
     rw[length_take,length_take,hrd.len,Nat.min_eq_left this,Nat.min_eq_left (by omega)]
    ·rw[getElem?_take] at h1 h3
     split at h1
     ·split at h3
      ·exact hrd.rd i j row x u h1 h2 h3
      ·cases h3
     ·cases h1
   have key:∃ v,(execOp a.eval o).run P w= .ok (.value v) w/\bU v=bU u/\v.oneCell'=true/\ownsW w e sz v n.toNat (us.take (n.toNat * sz)):=by
    have htl:(us.take (n.toNat * sz)).length=n.toNat * sz:=by
     have:n.toNat * sz<=rows.length * sz:=Nat.mul_le_mul_right _ (by omega)
     rw[length_take,hown.1,Nat.min_eq_left this]
    rcases hown.2 with⟨rfl,h6⟩ | ⟨g,cap,cur,rfl,_,hg,hnc,hcm,hcs,htk⟩
    ·have hn0:n=0:=by omega
     subst hn0
     have b1:=co (P:=P) (w:=w) (k:=k) (n:=0) (y:=0) (code:= .sliceAcap) (by omega) (by omega)
     refine⟨.slice none 0 0,?_,rfl,rfl,?_⟩
     ·simp[execOp,ho,ha,hi,Instr.sliceAt,run_underlying h1,Instr.slice,Instr.sliceBounds,sizeOf,typeInfo,h2,h3,b1]
     ·have:us.take ((0:Int).toNat * sz)=[]:=by simp
      rw[this]
      exact zU w e sz
    ·have b1:=co (P:=P) (w:=w) (k:=k) (n:=n) (y:=cap) (code:= .sliceAcap) (by omega) (by omega)
     refine⟨.slice (some ⟨g,0,none⟩) n.toNat cap,?_,rfl,rfl,htl,.inr ⟨g,cap,cur,rfl,trivial,hg,by omega,hcm,hcs,?_⟩⟩
     ·by_cases hc0:cap=0
      ·subst hc0
       simp[execOp,ho,ha,hi,Instr.sliceAt,run_underlying h1,Instr.slice,Instr.sliceBounds,sizeOf,typeInfo,h2,h3,b1,Addr.add_lit]
      ·simp[execOp,ho,ha,hi,Instr.sliceAt,run_underlying h1,Instr.slice,Instr.sliceBounds,sizeOf,typeInfo,h2,h3,b1,Addr.add_lit]
     ·rw[<- htk,take_take,Nat.min_eq_left (Nat.mul_le_mul_right _ (by omega))]
   obtain⟨v,hrun,hbv,hone,hown2⟩:=key
   have hg:=World.grownBy.refl w (bU u)
   obtain⟨O',θ',h4,h5,h6,h7⟩:=hs.addAt (w':=w) (row:=bU u) (v:=v) (b:= .row e sz ((rows.take n.toNat).drop (0:Int).toNat)) kk hk (some id)
    (fun A' e=>by cases e;exact⟨_,_,hb,h,rfl⟩) (fun e=>by cases e) hg
    (fun g hg'=>by rw[hbv] at hg';exact⟨(hO2 g hg').2.1,.inr hg'⟩) hone (fun O' θ' hO' hθ'=>by
     rw[hrw]
     refine⟨us.take (n.toNat * sz),by rw[<- hrw,hl];exact hown2,hrd2.mono (Nat.le_refl _) fun b hb1 hb2=>⟨fun hh=> ?_,rfl⟩⟩
     rcases(hO' b).1 hh with hh | hh
     ·exact hb2 hh
     ·rw[hbv] at hh;exact hb2 (hO2 b hh).1)
   exact⟨v,w,O',θ',hrun,h7,.ls _ _ h6⟩
end
end Go.Abs
namespace Go.Abs
open List
end Go.Abs
namespace Go.Abs
open List
variable {G:List (Nat×List PV)}
open Go.RowKit
section
variable {ro:Option Nat} {P:Program} {c:Cx G} {s s':St} {o:Oper} {d:Option Nat}
theorem abp {T e sz:Nat} {us0:Array Value} {z:Value} {zs:List PV} {rows:List (List PV)} (ho:o.op= .buildSlice T 1 #[(0,.const (.agg us0))]) (ht:sliceB P T e sz=true) (hz:cG P e z) (hzs:czs z.cells.toList zs) (hz0:czs us0.toList zs)
  (hzl:zs.length=sz) (hsz:Nat.blt 0 sz=true) (hlen:Nat.ble (1 * sz) 16777216=true) (hf:ot [(0,sz)] (zs++[]) [(0,.pv (.agg zs))]=some (zs++[])) (he:rows=[zs])
  (hd:o.dst=d) (hn:dOk s d=true):da ro P c o s (s.put d (some (.pv (.vs sz rows)))):=by
 subst he
 refine abX (parts:=[(0,.const (.agg us0))]) (xs:=[(0,.pv (.agg zs))]) (z:=z) (zs:=zs) ho rfl ht hz hzs hzl hsz hlen (fun a w O θ hs=>⟨rfl,.pv _ _ ?_,trivial⟩) ?_ (by simp[hzl]) hd hn
 ·have h1:=Db (w:=w) (O:=O) (xB hz0)
  rw[show us0.toList.toArray=us0 by simp] at h1
  exact h1
 ·simpa using hf
end
end Go.Abs
namespace Go.Abs
open List
theorem aeE {α:Type} {f:α->List PV} {g:List α->List (List PV)} (hm:∀ l,g l=l.map f) {xs r:List α} {lo hi:Int} (e:jK xs lo hi=some r):jK (g xs) lo hi=some (g r):=by rw[hm,hm];exact SI f e
end Go.Abs

/- A box that holds a function which holds that box: a function that calls itself by its own variable. -/
namespace Go.Abs
open List
variable {G:List (Nat×List PV)}
open Go.RowKit
end Go.Abs

/- Calls that hand back a pointer into the caller's box; the complement of a number. -/
namespace Go.Abs
open List
variable {G:List (Nat×List PV)}
open Go.RowKit
section
variable {ro:Option Nat} {P:Program} {c:Cx G} {s s':St} {o:Oper} {d:Option Nat}
end
end Go.Abs

/- Texts that are built piece by piece: strings.Builder. -/
namespace Go.Abs
open List
variable {G:List (Nat×List PV)}
open Go.RowKit
section
variable {P:Program}
theorem FU {w:World} {t u ty e:TypeId} {i:TypeInfo} (ht:P.underlying t=some (.slice e)) (hu:P.underlying u=some .string) (hi:P.info? e=some i) (hz:i.zero=some (.int .u8 0))
  (hsize:i.size=1) (hby:i.bytes=1) {v:Value} {n:Nat} {xs:List Value} (hown:ownsW w e 1 v n xs) (s:ByteArray) (hbytes:n+s.size<=140737488355328):
  ∃ v' w',(Builtin.append_ #[t,u] ty #[v,.string s]).run P w= .ok v' w'/\ownsW w' e 1 v' (n+s.size) (xs++Lib.strCells s)/\w.grownBy w' (bU v)/\(bU v'=bU v\/bU v'=some w.heap.size):=by
 have h0:n+s.size<=maxLen:=by unfold maxLen;omega
 have hsmall:n+s.size<=9223372036854775807:=by omega
 have hxl:xs.length=n:=by simpa using hown.1
 have hlen:(xs++Lib.strCells s).length=(n+s.size) * 1:=by rw[length_append,hxl,Lib.strCells_length,Nat.mul_one]
 rcases hown.2 with⟨rfl,rfl⟩ | ⟨g,cap,cur,rfl,_,hg,hnc,hcm,hcs,htake⟩
 ·have hx:xs=[]:=eq_nil_of_length_eq_zero hxl
  subst hx
  obtain⟨v',w',h1,h2,h3,h4⟩:=Lib.run_append_own_string (P:=P) w 0 t u ty e i ht hu hi hz hsize hby (.slice none 0 0) 0 [] (World.ownsRow_nil w 0 e 1) s h0 hbytes (Nat.zero_le _)
  refine⟨v',w',h1,?_,h3,?_⟩
  ·refine⟨h2.1,?_⟩
   rcases h2.2 with h | ⟨g,cap,cur,r1,_,r2,r3,r4,r5,r6⟩
   ·exact .inl h
   ·exact .inr ⟨g,cap,cur,r1,trivial,r2,r3,r4,by omega,r6⟩
  ·rcases h2.2 with⟨rfl,_⟩ | ⟨g,cap,cur,rfl,_,r2,_⟩
   ·exact .inl rfl
   ·by_cases hm:s.size=0
    ·exact absurd (h4.2 ⟨rfl,hm⟩) (by simp)
    ·right
     have hr:=Go.run_append_nil_string (P:=P) w t u ty e i (.int .u8 0) ht hu hi hz s (by omega) (by omega) (by rw[hby];omega)
     rw[h1] at hr
     injection hr with hr1 hr2
     injection hr1 with hr3 hr4
     rw[hr3];rfl
 ·by_cases hroom:n+s.size<=cap
  ·have hcs':cap<=cur.size:=by simpa using hcs
   have hr:=Lib.run_append_room_string (P:=P) w t u ty e i ht hu hi hsize g n cap cur hg s hroom (by omega)
   refine⟨_,_,hr,⟨hlen,.inr ⟨g,cap,_,rfl,trivial,setRow_heap w g cur _ e _ hg,hroom,hcm,?_,?_⟩⟩,⟨rfl,rfl,rfl,by simp,fun k _ hk=>setRow_other w g k _ (fun e=>hk (by simp[bU,e]))⟩,.inl rfl⟩
   ·simp only[size_toArray,length_append,length_take,length_drop,Array.length_toList,Lib.strCells_length]
    omega
   ·have ht':cur.toList.take n=xs:=by simpa using htake
    rw[ht',<- hlen]
    exact take_left
  ·have holds:∀ j u,xs[j]? =some u->w.cell? ((⟨g,0,none⟩:Addr).add j)=some u:=hown.cells (g:=g) rfl
   have hr:=Lib.run_append_grow_string (P:=P) w t u ty e i (.int .u8 0) ht hu hi hz ⟨g,0,none⟩ n cap xs (by rw[hsize];simpa using hxl) holds s (by omega) (by omega) (by rw[hby];exact growslice_fits (by omega) (by omega))
   have hge:=grownCap_ge w (n+s.size) cap e
   have hcm2:grownCap w (n+s.size) cap e<=maxLen:=grownCap_le_maxLen w (n+s.size) cap e h0
   refine⟨_,_,hr,⟨hlen,.inr ⟨w.heap.size,_,_,rfl,trivial,heap_alloc_new w.drew _,hge,hcm2,?_,?_⟩⟩,⟨rfl,rfl,rfl,by simp,fun k hk _=>Lib.alloc_old w.drew _ k hk⟩,.inr rfl⟩
   ·have hz1:(Value.int IntKind.u8 0).cells.size=1:=rfl
    simp only[Array.size_append,size_toArray,size_zeroCells,hz1,hxl,Lib.strCells_length]
    omega
   ·simp only[Array.toList_append,append_assoc]
    rw[<- append_assoc,<- hlen]
    exact take_left
theorem ve {w:World} {ops:Array Oper} {rest:List Oper} {o:Oper} {a:Act} {Q:Exit->Act->World->Prop} (hgd:o.guard=none) (sl x:Operand) (t u:TypeId)
  (ho:o.op= .call { callee:= .builtin .append,args:= #[sl,x],argTypes:= #[t,u] }) (e:TypeId) (i:TypeInfo) (ht:P.underlying t=some (.slice e)) (hu:P.underlying u=some .string) (hi:P.info? e=some i)
  (hz:i.zero=some (.int .u8 0)) (hsize:i.size=1) (hby:i.bytes=1) (v:Value) (n:Nat) (xs:List Value) (hs:a.eval sl=v) (hown:ownsW w e 1 v n xs) (s:ByteArray) (hx:a.eval x= .string s)
  (hbytes:n+s.size<=140737488355328)
  (h:∀ v' w',ownsW w' e 1 v' (n+s.size) (xs++Lib.strCells s)->w.grownBy w' (bU v)->(bU v'=bU v\/bU v'=some w.heap.size)->wpList P ops Q rest (a.put o.dst v') w'):wpList P ops Q (o::rest) a w:=by
 refine wpList_plain hgd fun K hK=> ?_
 obtain⟨v',w',hr,h2,h3,h4⟩:=FU (ty:=o.type) ht hu hi hz hsize hby hown s hbytes
 unfold Oper.wp execOp
 simp only[ho,resolve,invoke,builtin,Sem.run_bind,Sem.run_pure,Result.andThen_ok,map_toArray,map_cons,map_nil,hs,hx,hr]
 exact hK _ _ (h v' w' h2 h3 h4)
theorem Bz {w:World} {ops:Array Oper} {rest:List Oper} {o:Oper} {a:Act} {Q:Exit->Act->World->Prop} (hgd:o.guard=none) (sl x:Operand) (t:TypeId)
  (ho:o.op= .call { callee:= .builtin .append,args:= #[sl,x],argTypes:= #[t,t] }) (e:TypeId) (i:TypeInfo) (ht:P.underlying t=some (.slice e)) (hi:P.info? e=some i)
  (hz:i.zero=some (.int .u8 0)) (hsize:i.size=1) (hby:i.bytes=1) (v:Value) (n:Nat) (xs:List Value) (hs:a.eval sl=v) (hown:ownsW w e 1 v n xs) (ad:Addr) (c:Int) (hx:a.eval x= .slice (some ad) 1 1)
  (hnews:∀ j u,[Value.int .u8 c][j]? =some u->w.cell? (ad.add j)=some u) (hbytes:n+1<=140737488355328)
  (h:∀ v' w',ownsW w' e 1 v' (n+1) (xs++[.int .u8 c])->w.grownBy w' (bU v)->(bU v'=bU v\/bU v'=some w.heap.size)->wpList P ops Q rest (a.put o.dst v') w'):wpList P ops Q (o::rest) a w:=by
 refine wpList_plain hgd fun K hK=> ?_
 obtain⟨v',w',hr,h2,h3,h4⟩:=yc (ty:=o.type) ht hi hz hsize hby rfl hown ad 1 1 [.int .u8 c] rfl hnews (by intro u hu;simp at hu;subst hu;rfl) (by unfold maxLen;omega) (by omega)
 unfold Oper.wp execOp
 simp only[ho,resolve,invoke,builtin,Sem.run_bind,Sem.run_pure,Result.andThen_ok,map_toArray,map_cons,map_nil,hs,hx,hr]
 exact hK _ _ (h v' w' h2 h3 h4)
end
theorem ownsW.kept {w w':World} {e:TypeId} {sz n:Nat} {v:Value} {xs:List Value} {row:Option Nat} (h:ownsW w e sz v n xs) (hg:w.grownBy w' row) (hne:∀ g,bU v=some g->some g≠row):ownsW w' e sz v n xs:=by
 refine⟨h.1,?_⟩
 rcases h.2 with hn | ⟨g,cap,cur,rfl,_,hgg,rest⟩
 ·exact .inl hn
 ·refine .inr ⟨g,cap,cur,rfl,trivial,?_,rest⟩
  rw[hg.block g (Array.getElem?_eq_some_iff.1 hgg).1 (hne g rfl)]
  exact hgg
structure BldFr (b:Nat) (v:Value) (w w':World):Prop where
 os:w'.os=w.os
 tape:w'.tape=w.tape
 output:w'.output=w.output
 size:w.heap.size<=w'.heap.size
 block:∀ k,k < w.heap.size->k≠b->bU v≠some k->w'.heap[k]? =w.heap[k]?
theorem SO (b:Nat) (v:Value) (w:World):BldFr b v w w.drew:=⟨rfl,rfl,rfl,Nat.le_refl _,fun _ _ _ _=>rfl⟩
theorem EF (b:Nat) (v:Value) (w:World) (o:Obj):BldFr b v w (w.drew.alloc o):=⟨rfl,rfl,rfl,by show w.heap.size<=(w.heap.push o).size;simp,fun k hk _ _=>Lib.alloc_old w.drew o k hk⟩
theorem C5 {b g:Nat} {v:Value} (w:World) (n off:Nat) (h:bU v=some g):BldFr b v w (w.drew.freeze ⟨g,off,none⟩ n):=by
 unfold World.freeze
 split
 ·exact SO b v w
 ·exact⟨rfl,rfl,rfl,by show w.heap.size<=(w.heap.modify _ _).size;simp,fun k hk _ h2=>by
   simp only[Array.getElem?_modify]
   rw[if_neg (by intro e;exact h2 (by rw[h,e]))];rfl⟩
theorem Ug {w:World} {b j:Nat} {p v u:Value} {T:TypeId} (h:w.heap[b]? =some (.cells #[p,v] T (0,0))):(w.setCell ⟨b,1,none⟩ u).heap[b]? =some (.cells #[p,u] T (0,0)):=by
 simp[World.setCell,Array.getElem?_modify,h]
theorem pC (w:World) (b j:Nat) (u:Value):w.grownBy (w.setCell ⟨b,j,none⟩ u) (some b):=⟨rfl,rfl,rfl,by simp[World.setCell],fun k _ hk=>Below.heap_setCell _ _ _ _ (fun e=>hk (by simp[e]))⟩
theorem Qz {w:World} {b:Nat} {p v u:Value} {T:TypeId} (h:w.heap[b]? =some (.cells #[p,v] T (0,0))):(w.setCell ⟨b,0,none⟩ u).heap[b]? =some (.cells #[u,v] T (0,0)):=by
 simp[World.setCell,Array.getElem?_modify,h]
theorem sM {w:World} {e T:TypeId} {sz n b:Nat} {v:Value} {xs:List Value} {cs:Array Value} (h:ownsW w e sz v n xs) (hb:w.heap[b]? =some (.cells cs T (0,0))) (hne:T≠e):bU v≠some b:=by
 rcases h.2 with⟨rfl,_⟩ | ⟨g,cap,cur,rfl,_,hg,_⟩
 ·simp[bU]
 ·intro h1
  simp only[bU,Option.some.injEq] at h1
  subst h1
  rw[hg] at hb
  simp only[Option.some.injEq,Obj.cells.injEq] at hb
  exact hne hb.2.1.symm
theorem VC {w:World} {O:Nat->Prop}:∀ {x:List Int} {us:List Value},RowsRd w O 1 (x.map fun b=>[PV.int .u8 b]) us->us=x.map (.int .u8):=by
 intro x us h
 have hl:us.length=x.length:=by have:=h.len;simpa using this
 apply ext_getElem?
 intro j
 by_cases hj:j < x.length
 ·have hu:us[j]? =some us[j]:=getElem?_eq_getElem (by omega)
  have:=h.rd j 0 [PV.int .u8 x[j]] (PV.int .u8 x[j]) us[j] (by rw[getElem?_map,getElem?_eq_getElem hj];rfl) rfl (by simp)
  rw[hu,getElem?_map,getElem?_eq_getElem hj]
  generalize us[j]=z at this
  cases this
  rfl
 ·rw[getElem?_eq_none (by omega),getElem?_eq_none (by simp;omega)]
theorem VG (w:World) (O:Nat->Prop) (x:List Int):RowsRd w O 1 (x.map fun b=>[PV.int .u8 b]) (x.map (.int .u8)) where
 len:=by simp
 hz:=fun row hr=>by obtain⟨b,_,rfl⟩:=List.mem_map.1 hr;rfl
 one:=fun row hr c hc=>by obtain⟨b,_,rfl⟩:=List.mem_map.1 hr;simp at hc;subst hc;rfl
 rd:=fun i j row c u h1 h2 h3=>by
  rw[getElem?_map,Option.map_eq_some_iff] at h1
  obtain⟨b,hb,rfl⟩:=h1
  cases j with
  | succ j=>simp at h2
  | zero=>
   simp at h2
   subst h2
   rw[Nat.mul_one,Nat.add_zero,getElem?_map,hb] at h3
   cases h3
   exact .int _ _
structure BldAt (w:World) (O:Nat->Prop) (θ:Nat->Option Value) (B:TypeId) (x:List Int) (g:Nat) (p v:Value):Prop where
 t0:θ 0=some (.pointer (some ⟨g,0,none⟩))
 t1:θ 1=some v
 heap:w.heap[g]? =some (.cells #[p,v] B (0,0))
 self:p= .pointer none\/p= .pointer (some ⟨g,0,none⟩)
 own:ownsW w 5 1 v x.length (x.map (.int .u8))
 og:O g
 ov:∀ k,bU v=some k->O k/\k < w.heap.size
theorem Sb {w:World} {O:Nat->Prop} {θ:Nat->Option Value} {B:TypeId} {x:List Int} (h:PreW w O θ [(0,some (.box B [.bp 0,.ls 1])),(1,some (.row 5 1 (x.map fun b=>[PV.int .u8 b])))] 2):∃ g p v,BldAt w O θ B x g p v:=by
 obtain⟨v0,h0,⟨g,us,rfl,hg,hs,hc⟩,ho⟩:=h.own 0 _ rfl
 obtain⟨v1,h1,⟨us1,hw,hr⟩,ho1⟩:=h.own 1 _ rfl
 obtain⟨p,v,rfl⟩:=vs2 hs
 have e0:=(hc 0 _ p rfl rfl).1
 have e1:=(hc 1 _ v rfl rfl).1
 have hv:v=v1:=by
  cases e1 with
  | ls _ _ h=>rw[h1] at h;cases h;rfl
 subst hv
 refine⟨g,p,v,h0,h1,hg,?_,?_,(ho g rfl).1,ho1⟩
 ·cases e0 with
  | bp0 _=>exact .inl rfl
  | bp1 _ g' h=>rw[h0] at h;cases h;exact .inr rfl
 ·have:=VC hr
  rw[<- this]
  simpa using hw
theorem aaP {P:Program} {f B:Nat} (hB:B≠5) (xa:AV) (xv:Value) (hx:∀ (w:World) (O:Nat->Prop) (θ:Nat->Option Value) v,RdA w O θ xa v->v=xv) (news:List Int) (rs:List AV) (res:Value)
  (hres:∀ (w:World) (O:Nat->Prop) (θ:Nat->Option Value),RdA w O θ (Ur rs) res)
  (raw:∀ (b n:Nat) (p v:Value) (xs:List Value) (w:World),w.heap[b]? =some (.cells #[p,v] B (0,0))->(p= .pointer none\/p= .pointer (some ⟨b,0,none⟩))->ownsW w 5 1 v n xs->n+news.length<=140737488355328->
   Calls P f #[.pointer (some ⟨b,0,none⟩),xv] w fun e w'=>e= .returned res/\∃ v',w'.heap[b]? =some (.cells #[.pointer (some ⟨b,0,none⟩),v'] B (0,0))/\ownsW w' 5 1 v' (n+news.length) (xs++news.map (.int .u8))/\
    (bU v'=bU v\/∃ g,bU v'=some g/\w.heap.size<=g)/\BldFr b v w w') {x:List Int} (hlen:x.length+news.length<=140737488355328):
  FnW G P f [.lp 0 0,xa] [(0,some (.box B [.bp 0,.ls 1])),(1,some (.row 5 1 (x.map fun b=>[PV.int .u8 b])))] 2 [(0,0)] rs [(0,some (.box B [.bp 0,.ls 1])),(1,some (.row 5 1 ((x++news).map fun b=>[PV.int .u8 b])))] 2:=by
 intro w O θ vs hO _ hpre hsz hrd
 obtain⟨g,p,v,hb⟩:=Sb hpre
 obtain⟨a0,a1,rfl⟩:=vs2 hsz
 have e0:=hrd 0 _ a0 rfl rfl
 have e1:=hx _ _ _ _ (hrd 1 _ a1 rfl rfl)
 subst e1
 have ha0:a0= .pointer (some ⟨g,0,none⟩):=by
  cases e0 with
  | lp _ _ g' h=>rw[hb.t0] at h;cases h;rfl
 subst ha0
 refine(raw g x.length p v _ w hb.heap hb.self hb.own hlen).mono ?_
 rintro e w' ⟨rfl,v',hh,hown,hblk,hfr⟩
 have hgl:g < w.heap.size:=(Array.getElem?_eq_some_iff.1 hb.heap).1
 have hnv':bU v'≠some g:=sM hown hh hB
 have hv'lt:∀ k,bU v'=some k->k < w'.heap.size:=by
  intro k hk
  rcases hown.2 with⟨rfl,_⟩ | ⟨g',cap,cur,rfl,_,hg',_⟩
  ·simp[bU] at hk
  ·simp only[bU,Option.some.injEq] at hk
   subst hk
   exact(Array.getElem?_eq_some_iff.1 hg').1
 have hv'one:v'.oneCell'=true:=by
  rcases hown.2 with⟨rfl,_⟩ | ⟨g',cap,cur,rfl,_,_⟩<;>rfl
 have hH0:qQ [(0,some (.box B [.bp 0,.ls 1])),(1,some (.row 5 1 (x.map fun b=>[PV.int .u8 b])))] θ g:=⟨0,_,_,rfl,hb.t0,rfl⟩
 have hH1:∀ k,bU v=some k->qQ [(0,some (.box B [.bp 0,.ls 1])),(1,some (.row 5 1 (x.map fun b=>[PV.int .u8 b])))] θ k:=fun k hk=>⟨1,_,_,rfl,hb.t1,hk⟩
 refine⟨res,fun k=>O k\/bU v'=some k,fun i=>if i=0 then some (.pointer (some ⟨g,0,none⟩)) else if i=1 then some v' else none,rfl,⟨hfr.os,hfr.tape,hfr.output,hfr.size,fun k hk hn=>hfr.block k hk (fun e=>hn (e ▸ hH0)) (fun e=>hn (hH1 k e))⟩,
  fun k hk _=> .inl hk,?_,?_,?_,?_,?_,hres _ _ _⟩
 ·rintro k (hk | hk)
  ·exact Nat.lt_of_lt_of_le (hO k hk) hfr.size
  ·exact hv'lt k hk
 ·rintro k (hk | hk) hlt
  ·exact hk
  ·rcases hblk with h | ⟨g',h,hge⟩
   ·exact(hb.ov k (by rw[<- h];exact hk)).1
   ·rw[hk] at h;cases h;omega
 ·refine⟨fun id bk hid=> ?_,fun i j bi bj vi vj k hi hj h1 h2 h3 h4=> ?_,fun id v2 hv=> ?_,fun id v2 hv=> ?_⟩
  ·by_cases h0:id=0
   ·subst h0
    cases hid
    refine⟨_,rfl,⟨g,#[.pointer (some ⟨g,0,none⟩),v'],rfl,hh,rfl,fun j c u hc hu=> ?_⟩,fun k hk=> ?_⟩
    ·match j,hc,hu with
     | 0,hc,hu=>cases hc;cases hu;exact⟨.bp1 0 g rfl,rfl⟩
     | 1,hc,hu=>cases hc;cases hu;exact⟨.ls 1 _ rfl,hv'one⟩
    ·cases hk;exact⟨.inl hb.og,Nat.lt_of_lt_of_le hgl hfr.size⟩
   ·by_cases h1:id=1
    ·subst h1
     cases hid
     refine⟨v',rfl,⟨(x++news).map (.int .u8),?_,VG _ _ _⟩,fun k hk=>⟨.inr hk,hv'lt k hk⟩⟩
     rw[length_map,length_append,map_append]
     exact hown
    ·simp[aX,Nat.beq_eq,h0,h1,Ne.symm h0,Ne.symm h1] at hid
     cases id with
     | zero=>exact absurd rfl h0
     | succ id=>cases id with
      | zero=>exact absurd rfl h1
      | succ id=>simp[Nat.beq] at hid
  ·have hi2:∀ (i:Nat) (b:Blk),aX i ([(0,some (.box B [.bp 0,.ls 1])),(1,some (.row 5 1 ((x++news).map fun b=>[PV.int .u8 b])))]:List (Nat×Option Blk))=some b->i=0\/i=1:=by
    intro i b hi
    cases i with
    | zero=>exact .inl rfl
    | succ i=>cases i with
     | zero=>exact .inr rfl
     | succ i=>simp[aX,Nat.beq] at hi
   rcases hi2 i bi hi with rfl | rfl<;>rcases hi2 j bj hj with rfl | rfl
   ·rfl
   ·cases h1;cases h2;cases h3;exact absurd h4 hnv'
   ·cases h1;cases h2;cases h4;exact absurd h3 hnv'
   ·rfl
  ·show id < 2
   by_cases h0:id=0
   ·omega
   ·by_cases h1:id=1
    ·omega
    ·simp[h0,h1] at hv
  ·by_cases h0:id=0
   ·subst h0;cases hv;rfl
   ·by_cases h1:id=1
    ·subst h1;cases hv;exact hv'one
    ·simp[h0,h1] at hv
 ·rintro k ⟨id,bk,v2,h1,h2,h3⟩
  by_cases h0:id=0
  ·subst h0;cases h2;cases h3;exact .inl hH0
  ·by_cases h1':id=1
   ·subst h1'
    cases h2
    rcases hblk with h | ⟨g',h,hge⟩
    ·exact .inl (hH1 k (by rw[<- h];exact h3))
    ·rw[h3] at h;cases h;exact .inr hge
   ·simp[h0,h1'] at h2
 ·intro ij hij
  simp at hij
  subst hij
  simp[hb.t0]
def LF (x:List Int):Option (List UInt8):=if x=bh (qP x) then some (qP x) else none
theorem IW (l:List UInt8):LF (bh l)=some l:=by
 have h:qP (bh l)=l:=by
  unfold qP bh
  rw[map_map]
  conv=>rhs;rw[<- map_id l]
  apply map_congr_left
  intro b _
  simp
 unfold LF
 rw[h,if_pos rfl]
theorem abP {P:Program} {f B:Nat} (raw:∀ (b:Nat) (p v:Value) (l:List UInt8) (w:World),w.heap[b]? =some (.cells #[p,v] B (0,0))->ownsW w 5 1 v l.length (Lib.byteCells l)->
   Calls P f #[.pointer (some ⟨b,0,none⟩)] w fun e w'=>e= .returned (.string ⟨l.toArray⟩)/\BldFr b v w w') {x:List Int} {s:List UInt8} (hs:LF x=some s):
  FnW G P f [.lp 0 0] [(0,some (.box B [.bp 0,.ls 1])),(1,some (.row 5 1 (x.map fun b=>[PV.int .u8 b])))] 2 [] [.pv (.str s)] [] 0:=by
 intro w O θ vs hO _ hpre hsz hrd
 obtain⟨g,p,v,hb⟩:=Sb hpre
 have hx:x=bh s:=by
  unfold LF at hs
  split at hs
  ·rename_i h;cases hs;exact h
  ·cases hs
 have hown:=hb.own
 have hlx:x.length=s.length:=by rw[hx];simp[bh]
 have hc:x.map (.int .u8)=Lib.byteCells s:=by rw[hx];simp[bh,Lib.byteCells]
 rw[hlx,hc] at hown
 obtain⟨a0,rfl⟩:∃ a0,vs= #[a0]:=by
  obtain⟨l⟩:=vs
  match l,hsz with
  | [a],_=>exact⟨a,rfl⟩
 have e0:=hrd 0 _ a0 rfl rfl
 have ha0:a0= .pointer (some ⟨g,0,none⟩):=by
  cases e0 with
  | lp _ _ g' h=>rw[hb.t0] at h;cases h;rfl
 subst ha0
 refine(raw g p v s w hb.heap hown).mono ?_
 rintro e w' ⟨rfl,hfr⟩
 refine⟨_,O,fun _=>none,rfl,⟨hfr.os,hfr.tape,hfr.output,hfr.size,fun k hk hn=>hfr.block k hk (fun e=>hn (e ▸ ⟨0,_,_,rfl,hb.t0,rfl⟩)) (fun e=>hn ⟨1,_,_,rfl,hb.t1,e⟩)⟩,
  fun k hk _=>hk,fun k hk=>Nat.lt_of_lt_of_le (hO k hk) hfr.size,fun k hk _=>hk,⟨fun id b h=>(by simp[aX] at h),fun i j bi bj vi vj k hi=>(by simp[aX] at hi),fun id v h=>(by cases h),fun id v h=>(by cases h)⟩,
  fun k ⟨id,b,v,h,_⟩=>(by simp[aX] at h),fun ij h=>(by cases h),.pv _ _ (.str _)⟩
theorem Yk {c:Cx G} {s:St} (id:Nat) {t:TypeId} {cells:List AV} (hb:aX id s.hp=some (.box t (.pv .nilp::cells))):Imp c s (s.setBlk id (some (.box t (.bp id::cells)))):=by
 rintro a w ⟨O,θ,h⟩
 refine⟨O,θ,?_⟩
 obtain⟨v,hv,hbk,_⟩:=h.hp id _ hb
 refine h.upd (w':=w) hb hv (World.grownBy.refl _ _) ?_
 obtain⟨g,us,rfl,h1,h2,h3⟩:=hbk
 refine⟨g,us,rfl,h1,by simpa using h2,fun j x u hx hu=> ?_⟩
 cases j with
 | zero=>
  simp at hx
  subst hx
  have:=(h3 0 _ u rfl hu)
  refine⟨?_,this.2⟩
  cases this.1 with
  | pv _ _ hp=>cases hp;exact .bp0 _
 | succ j=>exact h3 (j+1) x u (by simpa using hx) hu
end Go.Abs

/- Values that hold rows of the call's own among their cells. -/
namespace Go.Abs
open List
variable {G:List (Nat×List PV)}
open Go.RowKit
structure ReadsA (w:World) (O:Nat->Prop) (θ:Nat->Option Value) (us:List Value) (cells:List AV):Prop where
 len:us.length=cells.length
 one:∀ (j:Nat) (u:Value),us[j]? =some u->u.oneCell'=true
 rd:∀ (j:Nat) (c:AV) (u:Value),cells[j]? =some c->us[j]? =some u->RdA w O θ c u
theorem ReadsA.agg {w:World} {O:Nat->Prop} {θ:Nat->Option Value} {us:List Value} {cells:List AV} (h:ReadsA w O θ us cells):RdA w O θ (.agg cells) (.agg us.toArray):=
 .agg _ _ (by simpa using h.len) (fun j u hu=>h.one j u (by simpa using hu)) (fun j c u hc hu=>h.rd j c u hc (by simpa using hu))
theorem ReadsA.cut {w:World} {O:Nat->Prop} {θ:Nat->Option Value} {us:List Value} {cells:List AV} (h:ReadsA w O θ us cells) (k n:Nat):ReadsA w O θ ((us.drop k).take n) ((cells.drop k).take n) where
 len:=by rw[length_take,length_take,length_drop,length_drop,h.len]
 one:=fun j u hu=>by
  rw[getElem?_take] at hu
  split at hu
  ·rw[getElem?_drop] at hu;exact h.one _ u hu
  ·cases hu
 rd:=fun j c u hc hu=>by
  rw[getElem?_take] at hc hu
  split at hc
  ·rename_i hj
   rw[if_pos hj,getElem?_drop] at hu
   rw[getElem?_drop] at hc
   exact h.rd _ c u hc hu
  ·cases hc
theorem ReadsA.splice {w:World} {O:Nat->Prop} {θ:Nat->Option Value} {us vs:List Value} {ps qs:List AV} {k:Nat} (h:ReadsA w O θ us ps) (h':ReadsA w O θ vs qs) (hk:k+qs.length<=ps.length):ReadsA w O θ (Go.Abs.splice us k vs) (Go.Abs.splice ps k qs):=by
 have hk':k+vs.length<=us.length:=by rw[h'.len,h.len];exact hk
 refine⟨by rw[gD _ _ _ hk',gD _ _ _ hk];exact h.len,fun j u hu=> ?_,fun j p u hp hu=> ?_⟩
 ·rw[iV _ _ _ hk'] at hu
  split at hu
  ·exact h'.one _ u hu
  ·exact h.one _ u hu
 ·rw[iV _ _ _ hk] at hp
  rw[iV _ _ _ hk',h'.len] at hu
  split at hp
  ·rename_i hj;rw[if_pos hj] at hu;exact h'.rd _ p u hp hu
  ·rename_i hj;rw[if_neg hj] at hu;exact h.rd _ p u hp hu
theorem Oh {w:World} {O:Nat->Prop} {θ:Nat->Option Value} {us:List Value} {ps:List PV} (h:Reads1 w O us ps) (h1:∀ (j:Nat) (u:Value),us[j]? =some u->u.oneCell'=true):ReadsA w O θ us (ps.map .pv) where
 len:=by simpa using h.1
 one:=h1
 rd:=fun j c u hc hu=>by
  rw[getElem?_map,Option.map_eq_some_iff] at hc
  obtain⟨p,hp,rfl⟩:=hc
  exact .pv _ _ (h.2.2 j p u hp hu)
def JU (place:List (Nat×Nat)):List AV->List (Nat×AV)->Option (List AV)
 | cells,[]=>some cells
 | cells,(i,v)::vs=>match place[i]? with
  | some (off,size)=>bif Nat.beq v.cells.length size&&(v.cellish&&Nat.ble (off+v.cells.length) cells.length) then JU place (splice cells off v.cells) vs else none
  | none=>none
section
variable {ro:Option Nat} {P:Program} {c:Cx G} {s s':St} {o:Oper} {d:Option Nat}
theorem tn {k:Nat} (h:s.free.elem k=true):DE s k=true:=by simp only[DE,h,Bool.or_true]
theorem gf {T n:Nat} {x:Operand} {id k:Nat} {t:TypeId} {cells cs:List AV} (ho:o.op= .load T x) (hx:ev s x=some (.lp id k)) (hb:aX id s.hp=some (.box t cells))
  (hc:(cells.drop k).take n=cs) (hl:cs.length=n) (ht:nR P T n=true) (hd:o.dst=d) (hn:dOk s d=true):
  da ro P c o s (s.put d (some (.agg cs))):=
 ca hd hn (by rw[ho];intro k h;cases h) fun a w O θ hs=>by
  have h:=jJ hs hx
  generalize hv:a.eval x=u at h
  cases h with
  | lp _ _ g h=>
   obtain⟨v',hv',⟨g',us,he,h1,h2,h3⟩,_⟩:=hs.hp id _ hb
   rw[h] at hv';cases hv'
   cases he
   have hR:ReadsA w O θ us.toList cells:=⟨by simpa using h2,fun j u hu=>by
     have hlt:j < cells.length:=by rw[<- h2];simpa using (List.getElem?_eq_some_iff.1 hu).1
     exact(h3 j cells[j] u (getElem?_eq_getElem hlt) (by simpa using hu)).2,fun j c u hc hu=>(h3 j c u hc (by simpa using hu)).1⟩
   have hlen:k+n<=us.size\/n=0:=by
    have:((cells.drop k).take n).length=n:=by rw[hc];exact hl
    rw[length_take,length_drop,<- h2] at this
    omega
   have hcut:=hR.cut k n
   rw[hc] at hcut
   refine⟨.agg ((us.toList.drop k).take n).toArray,?_,hcut.agg⟩
   have:=lV (P:=P) ht w ⟨g,k,none⟩ ((us.toList.drop k).take n) (by simp;omega) (fun j u hu=> ?_)
   ·simp[execOp,ho,hv,this]
   ·rw[getElem?_take] at hu
    split at hu
    ·rw[getElem?_drop] at hu
     rw[Addr.add_lit,cell_of_row w g _ us t (0,0) h1]
     simpa using hu
    ·cases hu
theorem Sw {place:List (Nat×Nat)} {pf:Nat->Option (Nat×Nat)} (hpf:∀ i p,place[i]? =some p->pf i=some p) {O:Nat->Prop} {θ:Nat->Option Value} {a:Act} {w:World} (hs:SimAt c s O θ a w):
  ∀ (parts:List (Nat×Operand)) (xs:List (Nat×AV)) (cells:List AV) (us:Array Value) (r:List AV),EvL w O θ a.eval parts xs->JU place cells xs=some r->ReadsA w O θ us.toList cells->
  ∃ us',Instr.fill pf us (parts.map fun(i,x)=>(i,a.eval x))=some us'/\ReadsA w O θ us'.toList r
 | [],xs,cells,us,r,h1,h2,h3=>by
  cases xs with
  | cons _ _=>cases h1
  | nil=>
  simp[JU] at h2;subst h2
  exact⟨us,rfl,h3⟩
 | (i,x)::parts,xs,cells,us,r,h1,h2,h3=>by
  cases xs with
  | nil=>cases h1
  | cons xv vs=>
  obtain⟨i',v⟩:=xv
  obtain⟨rfl,hv,hvs⟩:=h1
  simp only[JU] at h2
  split at h2
  ·rename_i off size hpl
   simp only[cond_eq_ite] at h2
   split at h2
   ·rename_i hc
    simp only[Bool.and_eq_true] at hc
    have hc1:v.cells.length=size:=Nat.eq_of_beq_eq_true hc.1
    have hc2:off+v.cells.length<=cells.length:=Nat.le_of_ble_eq_true hc.2.2
    obtain⟨q1,q2,q3⟩:=AV.cells_ok hv hc.2.1 hs.one
    have hr1:ReadsA w O θ (a.eval x).cells.toList v.cells:=⟨by simpa using q1,fun j u hu=>q2 u (mem_of_getElem? hu),fun j c u hc hu=>q3 j c u hc (by simpa using hu)⟩
    have hsz:(a.eval x).cells.size=size:=by rw[q1,hc1]
    have hus:us.size=cells.length:=by have:=h3.len;simpa using this
    have hsp:=Da (a.eval x).cells off us (by omega)
    obtain⟨us',e1,e2⟩:=Sw hpf hs parts vs _ ((a.eval x).cells.zipIdx.foldl (fun cs (c,j)=>cs.setIfInBounds (off+j) c) us) r hvs h2 (by rw[hsp];exact h3.splice hr1 hc2)
    refine⟨us',?_,e2⟩
    simp only[map_cons,Instr.fill,hpf _ _ hpl]
    rw[if_neg (by simp[hsz];omega)]
    exact e1
   ·cases h2
  ·cases h2
theorem abd {vs:List Value} {ps:List PV} (h:czs vs ps):∀ (j:Nat) (u:Value),vs[j]? =some u->u.oneCell'=true:=by
 obtain⟨h1,h2⟩:=Cw h
 intro j u hu
 have hlt:j < ps.length:=by have:=(List.getElem?_eq_some_iff.1 hu).1;omega
 exact(Tz (h2 j _ u (getElem?_eq_getElem hlt) hu)).2
theorem qJ {T:Nat} {parts:List (Nat×Operand)} {place:List (Nat×Nat)} {z:Value} {zs:List PV} {r:List AV} {xs:List (Nat×AV)} (ho:o.op= .build T parts.toArray) (hz:cG P T z) (hzs:czs z.cells.toList zs) (hpl:jg P T place=true)
  (hx:evs s parts=some xs) (hr:JU place (zs.map .pv) xs=some r) (hd:o.dst=d) (hn:dOk s d=true):da ro P c o s (s.put d (some (.agg r))):=
 ca hd hn (by rw[ho];intro k h;cases h) fun a w O θ hs=>by
  obtain⟨fs,hu,hfs⟩:=Cn hpl
  obtain⟨us',h1,h2⟩:=Sw (place:=place) (pf:=(place[·]?)) (fun _ _ h=>h) hs parts xs (zs.map .pv) z.cells r (EvL.of hs hx) hr (Oh (xB hzs) (abd hzs))
  refine⟨.agg us',?_,?_⟩
  ·have hfs':=hfs w
   simp only[bind_pure_comp] at hfs'
   simp[execOp,ho,Instr.build,(tA hz w).1,run_underlying hu,hfs',h1]
  ·have:=h2.agg;simpa using this
end
theorem vF {c:Cx G} {s:St} (id off:Nat) {t:TypeId} {cells:List AV} (hb:aX id s.hp=some (.box t cells)):Imp c s (s.setBlk id (some (.box t (cells.set off .any)))):=by
 rintro a w ⟨O,θ,h⟩
 refine⟨O,θ,?_⟩
 obtain⟨v,hv,hbk,_⟩:=h.hp id _ hb
 refine h.upd (w':=w) hb hv (World.grownBy.refl _ _) ?_
 obtain⟨g,us,rfl,h1,h2,h3⟩:=hbk
 refine⟨g,us,rfl,h1,by simpa using h2,fun j x u hx hu=> ?_⟩
 by_cases hj:off=j
 ·subst hj
  have hlt:off < cells.length:=by rw[<- h2];exact(Array.getElem?_eq_some_iff.1 hu).1
  rw[getElem?_set_self hlt] at hx
  cases hx
  exact⟨.any u,(h3 off cells[off] u (getElem?_eq_getElem hlt) hu).2⟩
 ·rw[getElem?_set_ne hj] at hx
  exact h3 j x u hx hu
end Go.Abs

/- From the arguments' readings to abstract values; a law's row, out of its contract. -/
namespace Go.Abs
open List
variable {G:List (Nat×List PV)}
open Go.ChangeShapes Go.WideShapes Go.ChangeAt Go.RowKit
section
variable {H:Type} (enc:TypeId×Value->H) (P:Program) (w:World)
def acD (fuel:Nat) (T:TypeId) {α:Type} (e:α->List PV) (good:α->Prop):Prop:=
 ∀ (cs:List Value) (x:DataW H×List MemPlace),DataW.trod enc P w 0 (fun _=>true) true fuel T cs=some x->∃ y,good y/\Reads1 w (fun _=>False) cs (e y)
variable {enc P w}
theorem oQ {v:Value} {p:PV} (h:Rd w (fun _=>False) p v) (hp:p.one=true):Reads1 w (fun _=>False) [v] [p]:=by
 refine⟨rfl,by simpa using hp,fun j q u hq hu=> ?_⟩
 cases j with
 | zero=>simp at hq hu;subst hq;subst hu;exact h
 | succ j=>simp at hq
theorem Yo {fuel T:Nat} (h:P.underlying T=some .bool):acD enc P w fuel T eB (fun _=>True):=fun cs x hx=>by
 obtain⟨b,rfl,_⟩:=DataW.trod_bool h hx
 exact⟨b,trivial,oQ (.bool b) rfl⟩
def vD (n:Int):Prop:= -9223372036854775808<=n/\n<=9223372036854775807
theorem abu {fuel T:Nat} (h:P.underlying T=some (.int .i64)):acD enc P w fuel T eI vD:=fun cs x hx=>by
 obtain⟨n,rfl,_,hw⟩:=DataW.trod_int h hx
 exact⟨n,bounds_i64 hw,oQ (.int _ n) rfl⟩
def wu (s:List UInt8):Prop:=s.length<=maxLen
def kj {α:Type} (good:α->Prop) (l:List α):Prop:=l.length<=maxLen/\∀ y∈l,good y
def NF (P:Program) (T:TypeId) (l:List (TypeId×Nat×Nat)) (n:Nat):Bool:=
 match P.underlying T with
 | some (.struct fs)=>(fs.toList.map (fun f=>(f.type,f.offset,P.cellsOf f.type))==l)&&P.cellsOf T==n
 | _=>false
theorem ng {cs:List Value} {off:Nat} (h:cs.length=off):Reads1 w (fun _=>False) (cs.drop off) []:=by
 rw[drop_eq_nil_of_le (by omega)]
 exact⟨rfl,by simp,fun j p u hp=>by simp at hp⟩
theorem cd {cs:List Value} {off sz:Nat} {p q:List PV} (h1:Reads1 w (fun _=>False) ((cs.drop off).take sz) p) (hp:p.length=sz) (h2:Reads1 w (fun _=>False) (cs.drop (off+sz)) q):Reads1 w (fun _=>False) (cs.drop off) (p++q):=by
 have e:cs.drop off=(cs.drop off).take sz++cs.drop (off+sz):=by
  rw[<- drop_drop,take_append_drop]
 rw[e]
 have hl:((cs.drop off).take sz).length=sz:=by rw[h1.1,hp]
 refine⟨by rw[length_append,length_append,h1.1,h2.1],fun x hx=> ?_,fun j x u hx hu=> ?_⟩
 ·rcases List.mem_append.1 hx with h | h
  ·exact h1.2.1 x h
  ·exact h2.2.1 x h
 ·rw[getElem?_append] at hx hu
  rw[hl] at hu;rw[hp] at hx
  split at hx
  ·rename_i hj;rw[if_pos hj] at hu;exact h1.2.2 j x u hx hu
  ·rename_i hj;rw[if_neg hj] at hu;exact h2.2.2 _ x u hx hu
def YR (P:Program) (T:TypeId) (n E sz:Nat):Bool:=
 match P.underlying T with
 | some (.array m e)=>(m==n&&e==E)&&(P.cellsOf E==sz&&P.cellsOf T==n * sz)
 | _=>false
end
end Go.Abs
namespace Go.Abs
open List
variable {G:List (Nat×List PV)}
theorem BG {w:World} {cs:List Value} {p:List PV} (h:Reads1 w (fun _=>False) (cs.drop 0) p):Reads1 w (fun _=>False) cs p:=by simpa using h
end Go.Abs
namespace Go.Abs
open List
variable {G:List (Nat×List PV)}
open Go.ChangeShapes Go.WideShapes Go.ChangeAt Go.RowKit
section
variable {H:Type} {enc:TypeId×Value->H} {P:Program} {w:World}
end
end Go.Abs

/- A law's row, out of its contract. -/
namespace Go.Abs
open List
variable {G:List (Nat×List PV)}
open Go.ChangeShapes Go.WideShapes Go.ChangeAt Go.RowKit
section
variable {H:Type} {enc:TypeId×Value->H} {P:Program}
def RK (P:Program) (ts:List TypeId):Bool:=ts.all fun t=>P.readableRec t&&decide (t < P.types.size)
theorem AF (hl:laidOutB P=true) {W W':World} (hb:Below W.heap.size W W'):∀ {ts:List TypeId} {vs:List Value} {ds:List (DataW H)} {ps:List MemPlace},RK P ts=true->DataW.TrodAll enc P W 0 (fun _=>true) true ts vs ds ps->(∀ x∈ps,x.block < W.heap.size)->
  DataW.TrodAll enc P W' 0 (fun b=>decide (b < W.heap.size)) true ts vs ds ps
 | [],vs,ds,ps,_,h,_=>by
  obtain⟨rfl,rfl,rfl⟩:=trodAll_nil h
  rfl
 | t::ts,vs,ds,ps,hr,h,hlt=>by
  obtain⟨v,vs',d,ds',p,q,rfl,rfl,rfl,h1,h2⟩:=trodAll_cons h
  unfold RK at hr
  rw[all_cons] at hr
  simp only[Bool.and_eq_true,decide_eq_true_eq] at hr
  exact⟨p,q,Below.trod hl hr.1.1 hr.1.2 h1 hb (fun x hx=>hlt x (by simp[hx])),AF hl hb (by unfold RK;exact hr.2) h2 (fun x hx=>hlt x (by simp[hx])),rfl⟩
theorem Zc {f:Func} {s:ChangeSpec} {apart fresh handsOn:Bool} {W W':World} {args:Array Value} {ds:List (DataW H)} {ps:List MemPlace} {B:TypeId} (hl:laidOutB P=true) (hr:RK P f.params.toList=true) (hvars:s.vars=[])
  (hW:DataW.Whole enc P f.params.toList s.vars apart W args.toList ds [] ps) (hA:DataW.TrodAll enc P W 0 (fun _=>true) true f.params.toList args.toList ds ps) (hg:W.grownBy W' none) (hres:f.resultTypes= #[B]) (hB:P.underlying B=some .bool)
  (hs:s.fn H ds={ results:=[.lit (.bool true)],args:=ds }):s.post enc P f apart fresh handsOn false W args (.bool true) W':=by
 have hb:Below W.heap.size W W':=(Below.refl _ W).grown hg (Nat.le_refl _) (by simp)
 have hlt:∀ x∈ps,x.block < W.heap.size:=fun x hx=>by simpa using hW.lt x hx
 refine⟨ds,[],ps,[],ps,[],hW,?_,?_,?_,hb.frame _,fun h=>by cases h⟩
 ·rw[append_nil,hs,hres]
  exact trodAll_mk1 (shut_bool hB true)
 ·rw[append_nil,hs]
  exact AF hl hb hr hA hlt
 ·rw[append_nil,hs,hvars]
  rfl
def aaf (W:World) (asx:List PV) (args:Array Value):Prop:=args.size=asx.length/\∀ (i:Nat) (p:PV) (v:Value),asx[i]? =some p->args[i]? =some v->Rd W (fun _=>False) p v
end
def RdAll (W:World):List PV->List Value->Prop
 | [],[]=>True
 | p::ps,v::vs=>Rd W (fun _=>False) p v/\RdAll W ps vs
 | _,_=>False
theorem RdAll.args {W:World}:∀ {asx:List PV} {vs:List Value},RdAll W asx vs->vs.length=asx.length/\∀ (i:Nat) (p:PV) (v:Value),asx[i]? =some p->vs[i]? =some v->Rd W (fun _=>False) p v
 | [],[],_=>⟨rfl,fun i p v h=>by simp at h⟩
 | p::ps,v::vs,h=>by
  obtain⟨h1,h2⟩:=h.2.args
  refine⟨by simp[h1],fun i q u hq hu=> ?_⟩
  cases i with
  | zero=>simp at hq hu;subst hq;subst hu;exact h.1
  | succ i=>exact h2 i q u (by simpa using hq) (by simpa using hu)
 | [],_::_,h | _::_,[],h=>by simp[RdAll] at h
theorem Tj {W:World} {xs:List PV} {args:Array Value} (h:RdAll W xs args.toList):aaf W xs args:=by
 obtain⟨h1,h2⟩:=h.args
 exact⟨by simpa using h1,fun i p v hp hv=>h2 i p v hp (by simpa using hv)⟩
def aen (P:Program) (T:TypeId):Bool:=match P.underlying T with
 | some .bool | some (.int _) | some .string | some (.slice _)=>true
 | _=>false
theorem abq {W:World} {P:Program} {base:Nat} {T:TypeId} {v:Value} {p:PV} (h:Reads1 W (fun _=>False) v.cells.toList [p]) (hv:Value.okWide P W .any base T v) (ht:aen P T=true):Rd W (fun _=>False) p v:=by
 have:v.cells.toList=[v]:=by
  unfold aen at ht
  unfold Value.okWide at hv
  split at hv
  ·rename_i hu;rw[hu] at ht;cases ht
  ·rename_i hu;rw[hu] at ht;cases ht
  ·unfold Cell.okWide at hv
   cases v<;>first | rfl | skip
   all_goals
    exfalso
    revert hv
    split<;>simp_all [Cell.ok]
    try (split<;>simp_all)
 rw[this] at h
 exact h.2.2 0 p v rfl rfl
end Go.Abs

/- A law's row whose package variables are listed, out of its contract. -/
namespace Go.Abs
open List
variable {G:List (Nat×List PV)}
open Go.ChangeShapes Go.WideShapes Go.ChangeAt Go.RowKit
section
variable {P:Program} {w:World}
def Br (P:Program) (w:World) (T:TypeId) (d:DataW Unit) (row:List PV):Prop:=
 ∀ (fuel:Nat) (cs:List Value) (ps:List MemPlace),DataW.trod (fun _=>()) P w 0 (fun _=>true) false fuel T cs=some (d,ps)->Reads1 w (fun _=>False) cs row
theorem fx {T:TypeId} (h:P.underlying T=some .string) (s:List UInt8):Br P w T (.lit (.string s)) [.str s]:=fun fuel cs ps hx=>by
 obtain⟨b,rfl,he,_⟩:=DataW.trod_string h hx
 simp only[Prod.mk.injEq,DataW.lit.injEq,Lit.string.injEq] at he
 obtain⟨rfl,_⟩:=he
 refine oQ ?_ rfl
 have:=Rd.str (w:=w) (O:=fun _=>False) b.data.toList
 simpa using this
theorem qi {T:TypeId} {k:IntKind} (h:P.underlying T=some (.int k)) (n:Int):Br P w T (.lit (.int k n)) [.int k n]:=fun fuel cs ps hx=>by
 obtain⟨m,rfl,he,_⟩:=DataW.trod_int h hx
 simp only[Prod.mk.injEq,DataW.lit.injEq,Lit.int.injEq,true_and] at he
 obtain⟨rfl,_⟩:=he
 exact oQ (.int k n) rfl
def Dp (P:Program) (w:World) (E:TypeId):List (DataW Unit)->List (List PV)->Prop
 | [],[]=>True
 | d::ds,r::rs=>Br P w E d r/\Dp P w E ds rs
 | _,_=>False
theorem JI {E sz:Nat} (cs:List Value):∀ (ds:List (DataW Unit)) (rs:List (List PV)) (k:Nat),Dp P w E ds rs->(∀ r∈rs,r.length=sz)->cs.length=(k+ds.length) * sz->
  (∀ i d,ds[i]? =some d->∃ m ps,DataW.trod (fun _=>()) P w 0 (fun _=>true) false m E ((cs.drop ((k+i) * sz)).take sz)=some (d,ps))->Reads1 w (fun _=>False) (cs.drop (k * sz)) rs.flatten
 | [],[],k,_,_,hl,_=>by simpa using ng (w:=w) (cs:=cs) (off:=k * sz) (by simpa using hl)
 | d::ds,r::rs,k,h,hz,hl,hp=>by
  rw[flatten_cons]
  refine cd (sz:=sz) ?_ (hz r (by simp)) ?_
  ·obtain⟨m,ps,h0⟩:=hp 0 d rfl
   exact h.1 m _ ps (by simpa using h0)
  ·have e:k * sz+sz=(k+1) * sz:=by rw[Nat.add_mul];omega
   rw[e]
   refine JI cs ds rs (k+1) h.2 (fun r hr=>hz r (by simp[hr])) (by rw[hl];simp only[length_cons];congr 1;omega) fun i d hi=> ?_
   have:=hp (i+1) d (by simpa using hi)
   rw[show k+(i+1)=k+1 + i by omega] at this
   exact this
 | [],_::_,_,h,_,_,_ | _::_,[],_,h,_,_,_=>by simp[Dp] at h
theorem MR {T E n sz:Nat} {ds:List (DataW Unit)} {rs:List (List PV)} (h:YR P T n E sz=true) (hn:ds.length=n) (hz:∀ r∈rs,r.length=sz) (hd:Dp P w E ds rs):Br P w T (.agg ds) rs.flatten:=fun fuel cs ps hx=>by
 unfold YR at h
 split at h
 ·rename_i m e hu
  simp only[Bool.and_eq_true,beq_iff_eq] at h
  obtain⟨⟨rfl,rfl⟩,rfl,h4⟩:=h
  obtain⟨xs,m',hf,he,hl,hxs,hp⟩:=DataW.trod_array hu hx
  simp only[Prod.mk.injEq,DataW.agg.injEq] at he
  obtain⟨rfl,_⟩:=he
  have:=JI (sz:=P.cellsOf e) cs (xs.map (·.1)) rs 0 hd hz (by rw[hl,h4];simp[hxs]) fun i d hi=>by
   rw[getElem?_map,Option.map_eq_some_iff] at hi
   obtain⟨x,hx,rfl⟩:=hi
   have hlt:i < m:=by rw[<- hxs];exact(List.getElem?_eq_some_iff.1 hx).1
   refine⟨m',x.2,?_⟩
   have:=hp i hlt
   rw[hx] at this
   rw[Nat.zero_add]
   exact this
  simpa using this
 ·cases h
def O9 (P:Program) (w:World):List (DataW Unit)->List (TypeId×Nat×Nat)->List (List PV)->Nat->Prop
 | [],[],[],_=>True
 | d::ds,(t,off,sz)::l,r::rs,k=>off=k/\r.length=sz/\Br P w t d r/\O9 P w ds l rs (k+sz)
 | _,_,_,_=>False
theorem EK (cs:List Value) (n:Nat) (hl:cs.length=n):∀ (ds:List (DataW Unit)) (l:List (TypeId×Nat×Nat)) (rs:List (List PV)) (k:Nat),O9 P w ds l rs k->n=k+rs.flatten.length->
  (∀ (i:Nat) (d:DataW Unit) (t off sz:Nat),ds[i]? =some d->l[i]? =some (t,off,sz)->∃ m ps,DataW.trod (fun _=>()) P w 0 (fun _=>true) false m t ((cs.drop off).take sz)=some (d,ps))->Reads1 w (fun _=>False) (cs.drop k) rs.flatten
 | [],[],[],k,_,hn,_=>by simpa using ng (w:=w) (cs:=cs) (off:=k) (by simpa [hl] using hn)
 | d::ds,(t,off,sz)::l,r::rs,k,h,hn,hp=>by
  obtain⟨rfl,rfl,h3,h4⟩:=h
  rw[flatten_cons]
  refine cd (sz:=r.length) ?_ rfl (EK cs n hl ds l rs _ h4 (by rw[hn,flatten_cons,length_append];omega) fun i d t off sz hi hj=>hp (i+1) d t off sz (by simpa using hi) (by simpa using hj))
  obtain⟨m,ps,h0⟩:=hp 0 d t off r.length rfl rfl
  exact h3 m _ ps h0
 | [],[],_::_,_,h,_,_ | [],_::_,_,_,h,_,_ | _::_,[],_,_,h,_,_ | _::_,_::_,[],_,h,_,_=>by simp[O9] at h
theorem sk {T n:Nat} {l:List (TypeId×Nat×Nat)} {ds:List (DataW Unit)} {rs:List (List PV)} (h:NF P T l n=true) (hn:n=rs.flatten.length) (hd:O9 P w ds l rs 0):Br P w T (.agg ds) rs.flatten:=fun fuel cs ps hx=>by
 unfold NF at h
 split at h
 ·rename_i fs hu
  simp only[Bool.and_eq_true,beq_iff_eq] at h
  obtain⟨rfl,rfl⟩:=h
  obtain⟨xs,m,hf,he,hl,hxs,hp⟩:=DataW.trod_struct hu hx
  simp only[Prod.mk.injEq,DataW.agg.injEq] at he
  obtain⟨rfl,_⟩:=he
  have:=EK cs _ hl (xs.map (·.1)) _ rs 0 hd (by omega) fun i d t off sz hi hj=>by
   rw[getElem?_map,Option.map_eq_some_iff] at hi hj
   obtain⟨x,hx,rfl⟩:=hi
   obtain⟨f,hf,he⟩:=hj
   injection he with e1 e2;injection e2 with e2 e3
   subst e1;subst e2;subst e3
   refine⟨m,x.2,?_⟩
   rw[hp i f (by simpa using hf),hx]
  simpa using this
 ·cases h
theorem U2 {name:String} {g T:Nat} {d:DataW Unit} {row:List PV} (hg:P.globalNamed name=some g) (hT:(P.globals[g]?).map (·.type)=some T) (hd:Br P w T d row)
  (h:∃ g t cs fuel p,P.globalNamed name=some g/\(P.globals[g]?).map (·.type)=some t/\w.var? P name=some cs/\DataW.trod (fun _=>()) P w 0 (fun _=>true) false fuel t cs.toList=some (d,p)) (h0:0 < row.length):
  Rd w (fun _=>False) (.vp row) (.pointer (some ⟨g,0,none⟩)):=by
 obtain⟨g',t',cs,fuel,p,h1,h2,h3,h4⟩:=h
 obtain rfl:g=g':=Option.some.inj (hg.symm.trans h1)
 obtain rfl:T=t':=Option.some.inj (hT.symm.trans h2)
 obtain⟨r1,r2,r3⟩:=hd fuel _ _ h4
 have hcell:∀ i,w.cell? ⟨g,i,none⟩=cs[i]? :=World.var?_cell hg h3
 have hsz:cs.size=row.length:=by simpa using r1
 have hb:g < w.heap.size:=by
  rcases Nat.lt_or_ge g w.heap.size with h7 | h7
  ·exact h7
  ·have:=hcell 0
   rw[Array.getElem?_eq_getElem (by omega)] at this
   simp[World.cell?,Array.getElem?_eq_none h7] at this
 refine .vp row g 0 (fun k=>cs.getD k undef) (fun h=>h) hb r2 (fun k hk=> ?_) (fun j q hq=> ?_)
 ·rw[Nat.zero_add,hcell,Array.getElem?_eq_getElem (by omega)]
  simp[show k < cs.size by omega]
 ·have hj:j < row.length:=(List.getElem?_eq_some_iff.1 hq).1
  refine r3 j q _ hq ?_
  rw[Array.getElem?_toList,Array.getElem?_eq_getElem (by omega)]
  simp[show j < cs.size by omega]
theorem abr {laid:List (String×DataW Unit)} {ps:List MemPlace} (h:DataW.LaidVars P w laid ps):∀ x∈laid,∃ g t cs fuel p,P.globalNamed x.1=some g/\(P.globals[g]?).map (·.type)=some t/\w.var? P x.1=some cs/\DataW.trod (fun _=>()) P w 0 (fun _=>true) false fuel t cs.toList=some (x.2,p):=by
 induction laid generalizing ps with
 | nil=>intro x hx;cases hx
 | cons y l ih=>
  intro x hx
  obtain⟨g,t,cs,fuel,p,q,h1,h2,h3,h4,h5,_⟩:=h
  rcases List.mem_cons.1 hx with rfl | hx
  ·exact⟨g,t,cs,fuel,p,h1,h2,h3,h4⟩
  ·exact ih h5 x hx
theorem SG {laid:List (String×DataW Unit)} (hp:(laid.all fun x=>x.2.handleName?.isNone)=true) (h:laidMetH P laid w):∀ x∈laid,∃ g t cs fuel p,P.globalNamed x.1=some g/\(P.globals[g]?).map (·.type)=some t/\w.var? P x.1=some cs/\DataW.trod (fun _=>()) P w 0 (fun _=>true) false fuel t cs.toList=some (x.2,p):=by
 rw[MakeChecks.laidMetH_plain _ _ _ hp] at h
 obtain⟨ps,h,_⟩:=h
 exact abr h
end
section
variable {H:Type} {enc:TypeId×Value->H} {P:Program}
end
end Go.Abs

/- Functions that are handed yield on; shifts; maps in boxes that are written no more. -/
namespace Go.Abs
open List
variable {G:List (Nat×List PV)}
open Go.RowKit
section
variable {ro:Option Nat} {P:Program} {c:Cx G} {s s':St} {o:Oper} {d:Option Nat}
end
end Go.Abs

/- Steps that often come together. -/
namespace Go.Abs
open List
variable {G:List (Nat×List PV)}
open Go.RowKit
def AE {α:Type} (fr:List (Nat×Option α)):List (Nat×Option α)->List (Nat×Option α)
 | []=>[]
 | (t,none)::l=>(t,none)::AE fr l
 | (t,some _)::l=>(t,aX t fr)::AE fr l
def Lz (ρ:Nat->Nat):List (Nat×Option AV)->List (Nat×Option AV)
 | []=>[]
 | (t,none)::l=>(t,none)::Lz ρ l
 | (t,some x)::l=>(t,some (x.map ρ))::Lz ρ l
def AI (fr:List (Nat×Option Blk)) (ρ:Nat->Nat):List (Nat×Option Blk)->List (Option Blk)
 | []=>[]
 | (_,none)::l=>none::AI fr ρ l
 | (t,some _)::l=>aX (ρ t) fr::AI fr ρ l
def Mb (ρ:Nat->Nat):List (Nat×Option Blk)->List (Option Blk)
 | []=>[]
 | (_,none)::l=>none::Mb ρ l
 | (_,some x)::l=>some (x.map ρ)::Mb ρ l
theorem xR {fr:List (Nat×Option AV)} {ρ:Nat->Nat}:∀ {l:List (Nat×Option AV)},AE fr l=Lz ρ l->SubF fr ρ l
 | [],_=>trivial
 | (_,none)::l,h=>by simp only[AE,Lz,List.cons.injEq] at h;exact xR (l:=l) h.2
 | (_,some _)::l,h=>by
  simp only[AE,Lz,List.cons.injEq,Prod.mk.injEq] at h
  exact⟨h.1.2,xR (l:=l) h.2⟩
theorem xX {fr:List (Nat×Option Blk)} {ρ:Nat->Nat}:∀ {l:List (Nat×Option Blk)},AI fr ρ l=Mb ρ l->SubH fr ρ l
 | [],_=>trivial
 | (_,none)::l,h=>by simp only[AI,Mb,List.cons.injEq] at h;exact xX (l:=l) h.2
 | (_,some _)::l,h=>by
  simp only[AI,Mb,List.cons.injEq] at h
  exact⟨h.1,xX (l:=l) h.2⟩
section
variable {ro:Option Nat} {P:Program} {c:Cx G} {Q:Exit->Act->World->Prop} {s:St} {all:List Oper} {e:Exit}
theorem bG {s s':St} (L:List Nat) (hF:AE s.fr s'.fr=Lz (fun i=>L.getD i s.next) s'.fr:=by kernel_rfl) (hH:AI s.hp (fun i=>L.getD i s.next) s'.hp=Mb (fun i=>L.getD i s.next) s'.hp:=by kernel_rfl)
  (hn:s'.n=s.n:=by exact rfl) (hnd:L.Nodup:=by decide) (hnext:s'.next=L.length:=by exact rfl) (hfree:s'.free=[]:=by exact rfl)
  (hids:(s'.hp.all fun x=>Nat.blt x.1 L.length)=true:=by exact rfl) (hys:s'.ys=s.ys:=by exact rfl) (hkt:s'.kt=s.kt:=by exact rfl):Imp c s s':=Dr L hn hnd hnext hfree (xR hF) (xX hH) hids hys hkt
theorem piz (s':St) (L:List Nat) (h':gw c Q e s') (hF:AE s.fr s'.fr=Lz (fun i=>L.getD i s.next) s'.fr:=by kernel_rfl) (hH:AI s.hp (fun i=>L.getD i s.next) s'.hp=Mb (fun i=>L.getD i s.next) s'.hp:=by kernel_rfl)
  (hn:s'.n=s.n:=by exact rfl) (hnd:L.Nodup:=by decide) (hnext:s'.next=L.length:=by exact rfl) (hfree:s'.free=[]:=by exact rfl)
  (hids:(s'.hp.all fun x=>Nat.blt x.1 L.length)=true:=by exact rfl) (hys:s'.ys=s.ys:=by exact rfl) (hkt:s'.kt=s.kt:=by exact rfl):gw c Q e s:=vn (Dr L hn hnd hnext hfree (xR hF) (xX hH) hids hys hkt) h'
class FldI (P:Program) (T f:Nat) (off:outParam Nat):Prop where
 h:uc P T f off=true
class OneI (P:Program) (T:Nat):Prop where
 h:qT P T=true
class SlcI (P:Program) (T:Nat) (e sz:outParam Nat):Prop where
 h:sliceB P T e sz=true
class AggI (P:Program) (T:Nat) (n:outParam Nat):Prop where
 h:nR P T n=true
 h0:qT P T=false
section
variable {rest:List Oper} {o:Oper} {s':St} {d:Option Nat}
theorem Yw {T f off:Nat} {x:Operand} {id k:Nat} [F:FldI P T f off] (ho:o.op= .fieldAddr T x f) (hx:ev s x=some (.lp id k)) (hd:o.dst=d) (hn:dOk s d=true):da ro P c o s (s.put d (some (.lp id (k+off)))):=gX ho hx F.h hd hn
theorem ZT {T f off:Nat} {x:Operand} {row:List PV} [F:FldI P T f off] (ho:o.op= .fieldAddr T x f) (hx:ev s x=some (.pv (.vp row))) (hd:o.dst=d) (hn:dOk s d=true):da ro P c o s (s.put d (some (.pv (.vp (row.drop off))))):=qL ho hx F.h hd hn
theorem Zp {T:Nat} {x:Operand} {id k:Nat} {t:TypeId} {cells:List AV} {v:AV} [F:OneI P T] (ho:o.op= .load T x) (hx:ev s x=some (.lp id k)) (hb:aX id s.hp=some (.box t cells)) (hc:cells[k]? =some v) (hd:o.dst=d) (hn:dOk s d=true):da ro P c o s (s.put d (some v)):=gv ho hx hb hc F.h hd hn
theorem YB {T:Nat} {x:Operand} {row:List PV} {p:PV} [F:OneI P T] (ho:o.op= .load T x) (hx:ev s x=some (.pv (.vp row))) (hp:row[0]? =some p) (hd:o.dst=d) (hn:dOk s d=true):da ro P c o s (s.put d (some (.pv p))):=yd ho hx hp F.h hd hn
theorem Ti {T:Nat} {x y:Operand} {id k:Nat} {t:TypeId} {cells:List AV} {v:AV} [F:OneI P T] (ho:o.op= .store T x y) (hx:ev s x=some (.lp id k)) (hy:ev s y=some v) (hc:v.cellish=true) (hb:aX id s.hp=some (.box t cells)) (hn1:v.cells.length=1) (hfit:Nat.ble (k+v.cells.length) cells.length=true) (hd:o.dst=d) (hk:ktB s d=true):
  da ro P c o s ((s.setBlk id (some (.box t (splice cells k v.cells)))).put d none):=kZ (n:=1) ho hx hy hc hb (DP F.h) (by rw[F.h];exact hn1) hfit hd hk
theorem SV {T n:Nat} {x y:Operand} {id k:Nat} {t:TypeId} {cells:List AV} {v:AV} [F:AggI P T n] (ho:o.op= .store T x y) (hx:ev s x=some (.lp id k)) (hy:ev s y=some v) (hc:v.cellish=true) (hb:aX id s.hp=some (.box t cells)) (hn1:v.cells.length=n) (hfit:Nat.ble (k+v.cells.length) cells.length=true) (hd:o.dst=d) (hk:ktB s d=true):
  da ro P c o s ((s.setBlk id (some (.box t (splice cells k v.cells)))).put d none):=kZ (n:=n) ho hx hy hc hb (Ef F.h) (by rw[F.h0];exact hn1) hfit hd hk
theorem adC {α:Type} {f:α->List PV} {l:List α} {T e sz sz':Nat} {x:Operand} [F:SlcI P T e sz'] (ho:o.op= .call { callee:= .builtin .len,args:= #[x],argTypes:= #[T] }) (hx:ev s x=some (.pv (.vs sz (l.map f)))) (hd:o.dst=d) (hn:dOk s d=true):da ro P c o s (s.put d (some (.pv (.int .i64 l.length)))):=Ae (n:=l.length) ho hx (length_map ..) F.h hd hn
theorem gp (h:kJ ro P c all rest Q s') (ho:da ro P c o s s':=by first
 | exact Yw rfl rfl rfl rfl
 | exact Zp rfl rfl rfl rfl rfl rfl
 | exact sf rfl rfl rfl rfl rfl rfl
 | exact Ti rfl rfl rfl rfl rfl rfl rfl rfl rfl
 | exact SV rfl rfl rfl rfl rfl rfl rfl rfl rfl
 | exact YB rfl rfl rfl rfl rfl
 | exact adC rfl rfl rfl rfl
 | exact ZT rfl rfl rfl rfl
 | exact Ql rfl rfl rfl rfl) (hg:o.guard=none:=by exact rfl):kJ ro P c all (o::rest) Q s:=ou (bQ hg) ho h
theorem gn {j d:Nat} {want t:Bool} (ht:t=want) (h:kJ ro P c all rest Q s') (ho:da ro P c o s s':=by first
 | exact Yw rfl rfl rfl rfl
 | exact Zp rfl rfl rfl rfl rfl rfl
 | exact sf rfl rfl rfl rfl rfl rfl
 | exact Ti rfl rfl rfl rfl rfl rfl rfl rfl rfl
 | exact SV rfl rfl rfl rfl rfl rfl rfl rfl rfl
 | exact YB rfl rfl rfl rfl rfl
 | exact adC rfl rfl rfl rfl
 | exact ZT rfl rfl rfl rfl
 | exact Ql rfl rfl rfl rfl
 | exact ic rfl rfl rfl rfl
 | exact ux rfl rfl rfl rfl) (hg:o.guard=some (j,want):=by exact rfl) (hj:((all[j]?).bind (·.dst))=some d:=by exact rfl) (hn:Nat.blt d s.n=true:=by exact rfl) (hl:aX d s.fr=some (.pv (.bool t)):=by exact rfl):kJ ro P c all (o::rest) Q s:=
 ou (cD hg hj hn hl ht) ho h
end
section
variable {rest:List Oper} {o:Oper} {s':St} {d:Option Nat}
def czc : Value->PV->Option PV
 | .slice none 0 0,.vs n []=>some (.vs n [])
 | v,_=>cv v
def czl : List Value->List PV->Option (List PV)
 | [],[]=>some []
 | v::vs,p::ps=>match czc v p,czl vs ps with
  | some q,some qs=>some (q::qs)
  | _,_=>none
 | _,_=>none
theorem aeF {v:Value} {p q:PV} (h:czc v p=some q) (e:q=p):cz v p:=by
 subst e
 unfold czc at h
 split at h
 ·trivial
 ·unfold cz;split
  ·trivial
  ·exact h
theorem Uz : ∀ {vs:List Value} {ps:List PV},czl vs ps=some ps->czs vs ps
 | [],[],_=>trivial
 | [],_::_,h=>by simp[czl] at h
 | _::_,[],h=>by simp[czl] at h
 | v::vs,p::ps,h=>by
  simp only[czl] at h
  split at h
  ·rename_i q qs h1 h2
   cases h
   exact⟨aeF h1 rfl,Uz h2⟩
  ·cases h
theorem al (kk:Nat) {T:Nat} {z:Value} (ps:List PV) (hz:cG P T z) (hk:ko s kk=true:=by exact rfl) (ho:o.op= .alloc T:=by exact rfl) (hp:czl z.cells.toList ps=some ps:=by kernel_rfl) (hd:o.dst=d:=by exact rfl) (hn:dOk s d=true:=by exact rfl):
  da ro P c o s ((s.addAt kk none (.box T (ps.map .pv))).put d (some (.lp kk 0))):=KQ kk hk ho hz (Uz hp) hd hn
theorem bd {T:Nat} {parts:List (Nat×Operand)} {place:List (Nat×Nat)} {z:Value} (zs r:List PV) {xs:List (Nat×AV)} (hz:cG P T z) (hpl:jg P T place=true) (ho:o.op= .build T parts.toArray:=by exact rfl) (hzs:czl z.cells.toList zs=some zs:=by kernel_rfl)
  (hx:evs s parts=some xs:=by exact rfl) (hr:ot place zs xs=some r:=by exact rfl) (hd:o.dst=d:=by exact rfl) (hn:dOk s d=true:=by exact rfl):da ro P c o s (s.put d (some (.pv (.agg r)))):=Cb ho hz (Uz hzs) hpl hx hr hd hn
theorem la {T n:Nat} {x:Operand} {id k:Nat} {t:TypeId} {cells:List AV} (ps:List PV) (ht:nR P T n=true) (ho:o.op= .load T x:=by exact rfl) (hx:ev s x=some (.lp id k):=by exact rfl) (hb:aX id s.hp=some (.box t cells):=by exact rfl)
  (hc:pvs ((cells.drop k).take n)=some ps:=by exact rfl) (hl:ps.length=n:=by exact rfl) (h1c:(ps.all PV.one)=true:=by exact rfl) (hd:o.dst=d:=by exact rfl) (hn:dOk s d=true:=by exact rfl):da ro P c o s (s.put d (some (.pv (.agg ps)))):=eZ ho hx hb hc hl h1c ht hd hn
theorem lw {T n:Nat} {x:Operand} {row:List PV} (ps:List PV) (ht:nR P T n=true) (ho:o.op= .load T x:=by exact rfl) (hx:ev s x=some (.pv (.vp row)):=by exact rfl) (hp:row.take n=ps:=by exact rfl) (hl:ps.length=n:=by exact rfl) (hd:o.dst=d:=by exact rfl) (hn:dOk s d=true:=by exact rfl):
  da ro P c o s (s.put d (some (.pv (.agg ps)))):=ru ho hx hp hl ht hd hn
theorem ix {T e sz:Nat} {x y:Operand} {k:IntKind} {n:Int} {rows:List (List PV)} {row:List PV} (hr:idx rows n=some row) (ht:sliceB P T e sz=true) (ho:o.op= .indexAddr T x y:=by exact rfl) (hx:ev s x=some (.pv (.vs sz rows)):=by exact rfl) (hy:ev s y=some (.pv (.int k n)):=by exact rfl)
  (hd:o.dst=d:=by exact rfl) (hn:dOk s d=true:=by exact rfl):da ro P c o s (s.put d (some (.pv (.vp row)))):=iI ho hx hy hr ht hd hn
theorem bo (kk:Nat) {T:Nat} {x:Operand} {v:AV} (hk:ko s kk=true:=by exact rfl) (ho:o.op= .box T x:=by exact rfl) (hx:ev s x=some v:=by exact rfl) (hc:v.cellish=true:=by exact rfl) (hd:o.dst=d:=by exact rfl) (hn:dOk s d=true:=by exact rfl):
  da ro P c o s ((s.addAt kk none (.box T v.cells)).put d (some (.lp kk 0))):=adR kk hk ho hx hc hd hn
theorem cl (kk:Nat) {fo:Operand} {xs:List Operand} {ts:Array TypeId} {f:Nat} (args:List PV) (rs:List Res) {ob:Option Blk} (h:Fn G P f (args++[]) rs) (hB:cY P f=true:=by kernel_rfl) (hk:ko s kk=true:=by exact rfl) (ho:o.op= .call { callee:= .value fo,args:=xs.toArray,argTypes:=ts }:=by exact rfl) (hf:ev s fo=some (.pv (.fn f [])):=by exact rfl) (hx:evl s xs=some (args.map .pv):=by exact rfl)
  (hob:qZ rs=some ob:=by exact rfl) (hd:o.dst=d:=by exact rfl) (hn:dOk s d=true:=by exact rfl):da ro P c o s ((s.addRes kk ob).put d (some (DV kk rs))):=dx kk hk (caps:=[]) ho hf hx hB h hob hd hn
theorem cnd {β:Type} {b:Bool} {X Y:Option β} {r:β} {x y:Code} {t:Operand} (hF:(if b=true then X else Y)=some r) (h1:b=true->X=some r->AW ro P c x Q s) (h2:b=false->Y=some r->AW ro P c y Q s) (ht:ev s t=some (.pv (.bool b)):=by exact rfl):AW ro P c (.cond t x y) Q s:=by
 rcases Sx hF with⟨h3,h4⟩ | ⟨h3,h4⟩
 ·exact gk ht h3 (h1 h3 h4)
 ·exact fg ht h3 (h2 h3 h4)
theorem bs {α β:Type} {x:Option α} {k:α->Option β} {r:β} (h:x.bind k=some r):∃ y,x=some y/\k y=some r:=bind_some h
theorem ie {β:Type} {b:Bool} {x y:Option β} {r:β} (h:(if b=true then x else y)=some r):(b=true/\x=some r)\/(b=false/\y=some r):=Sx h
theorem pcz {s1:St} (L:List Nat) (hF:AE s.fr s1.fr=Lz (fun i=>L.getD i s.next) s1.fr:=by kernel_rfl) (hH:AI s.hp (fun i=>L.getD i s.next) s1.hp=Mb (fun i=>L.getD i s.next) s1.hp:=by kernel_rfl)
  (hn:s1.n=s.n:=by exact rfl) (hnd:L.Nodup:=by decide) (hnext:s1.next=L.length:=by exact rfl) (hfree:s1.free=[]:=by exact rfl)
  (hids:(s1.hp.all fun x=>Nat.blt x.1 L.length)=true:=by exact rfl) (hys:s1.ys=s.ys:=by exact rfl) (hkt:s1.kt=s.kt:=by exact rfl):gw c (Cut c Q (fun s'=>s'=s1)) .normal s:=kf s1 rfl (Dr L hn hnd hnext hfree (xR hF) (xX hH) hids hys hkt)
theorem rcz {all:List Oper} {s1:St} (L:List Nat) (hF:AE s.fr s1.fr=Lz (fun i=>L.getD i s.next) s1.fr:=by kernel_rfl) (hH:AI s.hp (fun i=>L.getD i s.next) s1.hp=Mb (fun i=>L.getD i s.next) s1.hp:=by kernel_rfl)
  (hn:s1.n=s.n:=by exact rfl) (hnd:L.Nodup:=by decide) (hnext:s1.next=L.length:=by exact rfl) (hfree:s1.free=[]:=by exact rfl)
  (hids:(s1.hp.all fun x=>Nat.blt x.1 L.length)=true:=by exact rfl) (hys:s1.ys=s.ys:=by exact rfl) (hkt:s1.kt=s.kt:=by exact rfl):kJ ro P c all [] (Cut c Q (fun s'=>s'=s1)) s:=ci (kf s1 rfl (Dr L hn hnd hnext hfree (xR hF) (xX hH) hids hys hkt))
theorem ctx {k:Code} (s1:St) (h:AW ro P c k (Cut c Q (fun s'=>s'=s1)) s) (h2:gw c Q .normal s1):AW ro P c k Q s:=ZN _ h (fun _ e=>e ▸ h2)
theorem rnr {all:List Oper} {x:Code} {m:Nat} (h:Aj ro P c x Q m s):kJ ro P c all [] (Exit.then (Code.roundsIn (FF ro) 0 P x Q m) Q) s:=ci (fu h)
abbrev sX (n:Nat) (fr:List (Nat×Option AV)) (hp:List (Nat×Option Blk)) (k:Nat):St:=⟨n,fr,hp,k,[],[],0,[]⟩
abbrev pf (t:Nat) (p:PV):Nat×Option AV:=(t,some (.pv p))
abbrev bf (t T:Nat) (l:List PV):Nat×Option Blk:=(t,some (.box T (bxv l)))
end
section
variable {id n next ys:Nat} {kt:List Nat} {df:List Deferred} {l rest:List Oper} {o:Oper} {m0 m:Mid} {es:List Eff}
theorem dfl {t d T f off i k:Nat} [F:FldI P T f off] (h:DrW ro P c Q s id l n df next ys kt m0 ({ need:=[(t,.lp i k)],dst:=some d,val:=some (.lp i (k+off)) }::es) rest (({ need:=[(t,.lp i k)],dst:=some d,val:=some (.lp i (k+off)) }:Eff).apply m))
  (hg:o.guard=none:=by exact rfl) (ho:o.op= .fieldAddr T (.tmp t) f:=by exact rfl) (hd:o.dst=some d:=by exact rfl) (hl:aX t m.fr=some (.lp i k):=by exact rfl) (hk:dOk (m.st n df next ys kt) (some d)=true:=by exact rfl):DrW ro P c Q s id l n df next ys kt m0 es (o::rest) m:=
 bg { need:=[(t,.lp i k)],dst:=some d,val:=some (.lp i (k+off)) } (fun _ h=>bq (bQ hg) (gX ho h.1.1 F.h hd hk) rfl) ⟨⟨hl,trivial⟩,trivial,trivial⟩ h
theorem dfg {t d T f off i k j dg:Nat} {want b:Bool} [F:FldI P T f off] (hb:b=want) (h:DrW ro P c Q s id l n df next ys kt m0 ({ need:=[(dg,.pv (.bool b)),(t,.lp i k)],dst:=some d,val:=some (.lp i (k+off)) }::es) rest (({ need:=[(dg,.pv (.bool b)),(t,.lp i k)],dst:=some d,val:=some (.lp i (k+off)) }:Eff).apply m))
  (hg:o.guard=some (j,want):=by exact rfl) (hj:((l[j]?).bind (·.dst))=some dg:=by exact rfl) (hn:Nat.blt dg n=true:=by exact rfl) (hgl:aX dg m.fr=some (.pv (.bool b)):=by exact rfl) (ho:o.op= .fieldAddr T (.tmp t) f:=by exact rfl) (hd:o.dst=some d:=by exact rfl) (hl:aX t m.fr=some (.lp i k):=by exact rfl) (hk:dOk (m.st n df next ys kt) (some d)=true:=by exact rfl):DrW ro P c Q s id l n df next ys kt m0 es (o::rest) m:=
 bg { need:=[(dg,.pv (.bool b)),(t,.lp i k)],dst:=some d,val:=some (.lp i (k+off)) } (fun _ h=>bq (cD hg hj hn h.1.1 hb) (gX ho h.1.2.1 F.h hd hk) rfl) ⟨⟨hgl,hl,trivial⟩,trivial,trivial⟩ h
theorem dld {t d T i k tt:Nat} {cells:List AV} {v:AV} [F:OneI P T] (h:DrW ro P c Q s id l n df next ys kt m0 ({ need:=[(t,.lp i k)],hneed:=[(i,.box tt cells)],dst:=some d,val:=some v }::es) rest (({ need:=[(t,.lp i k)],hneed:=[(i,.box tt cells)],dst:=some d,val:=some v }:Eff).apply m))
  (hg:o.guard=none:=by exact rfl) (ho:o.op= .load T (.tmp t):=by exact rfl) (hd:o.dst=some d:=by exact rfl) (hl:aX t m.fr=some (.lp i k):=by exact rfl) (hh:aX i m.hp=some (.box tt cells):=by exact rfl) (hc:cells[k]? =some v:=by exact rfl) (hk:dOk (m.st n df next ys kt) (some d)=true:=by exact rfl):DrW ro P c Q s id l n df next ys kt m0 es (o::rest) m:=
 bg { need:=[(t,.lp i k)],hneed:=[(i,.box tt cells)],dst:=some d,val:=some v } (fun _ h=>bq (bQ hg) (gv ho h.1.1 h.2.1.1 hc F.h hd hk) rfl) ⟨⟨hl,trivial⟩,⟨hh,trivial⟩,trivial⟩ h
theorem dlg {t d T i k tt j dg:Nat} {want b:Bool} {cells:List AV} {v:AV} [F:OneI P T] (hb:b=want) (h:DrW ro P c Q s id l n df next ys kt m0 ({ need:=[(dg,.pv (.bool b)),(t,.lp i k)],hneed:=[(i,.box tt cells)],dst:=some d,val:=some v }::es) rest (({ need:=[(dg,.pv (.bool b)),(t,.lp i k)],hneed:=[(i,.box tt cells)],dst:=some d,val:=some v }:Eff).apply m))
  (hg:o.guard=some (j,want):=by exact rfl) (hj:((l[j]?).bind (·.dst))=some dg:=by exact rfl) (hn:Nat.blt dg n=true:=by exact rfl) (hgl:aX dg m.fr=some (.pv (.bool b)):=by exact rfl) (ho:o.op= .load T (.tmp t):=by exact rfl) (hd:o.dst=some d:=by exact rfl) (hl:aX t m.fr=some (.lp i k):=by exact rfl) (hh:aX i m.hp=some (.box tt cells):=by exact rfl) (hc:cells[k]? =some v:=by exact rfl) (hk:dOk (m.st n df next ys kt) (some d)=true:=by exact rfl):DrW ro P c Q s id l n df next ys kt m0 es (o::rest) m:=
 bg { need:=[(dg,.pv (.bool b)),(t,.lp i k)],hneed:=[(i,.box tt cells)],dst:=some d,val:=some v } (fun _ h=>bq (cD hg hj hn h.1.1 hb) (gv ho h.1.2.1 h.2.1.1 hc F.h hd hk) rfl) ⟨⟨hgl,hl,trivial⟩,⟨hh,trivial⟩,trivial⟩ h
theorem dig {t d T T' j dg:Nat} {want z:Bool} {op:BinOp} {k:IntKind} {a b:Int} {r:PV} {y:Value} (hb:z=want) (h:DrW ro P c Q s id l n df next ys kt m0 ({ need:=[(dg,.pv (.bool z)),(t,.pv (.int k a))],dst:=some d,val:=some (.pv r) }::es) rest (({ need:=[(dg,.pv (.bool z)),(t,.pv (.int k a))],dst:=some d,val:=some (.pv r) }:Eff).apply m))
  (hg:o.guard=some (j,want):=by exact rfl) (hj:((l[j]?).bind (·.dst))=some dg:=by exact rfl) (hn:Nat.blt dg n=true:=by exact rfl) (hgl:aX dg m.fr=some (.pv (.bool z)):=by exact rfl) (ho:o.op= .binOp op T (.tmp t) (.const y) T':=by exact rfl) (hd:o.dst=some d:=by exact rfl) (hl:aX t m.fr=some (.pv (.int k a)):=by exact rfl) (hy:cv y=some (.int k b):=by exact rfl) (hr:Eo op k a b=some r:=by exact rfl) (hk:dOk (m.st n df next ys kt) (some d)=true:=by exact rfl):DrW ro P c Q s id l n df next ys kt m0 es (o::rest) m:=
 bg { need:=[(dg,.pv (.bool z)),(t,.pv (.int k a))],dst:=some d,val:=some (.pv r) } (fun _ h=>bq (cD hg hj hn h.1.1 hb) (sf ho h.1.2.1 (show ev _ (.const y)=_ by simp only[ev,hy,Option.map_some]) hr hd hk) rfl) ⟨⟨hgl,hl,trivial⟩,trivial,trivial⟩ h
theorem dk (d:Nat) (nd:List (Nat×AV)) (v:AV) (hf:∀ m:Mid,Has ⟨nd,[],[],some d,some v,[]⟩ m->∃ s1,da ro P c o (m.st n df next ys kt) s1/\s1=(Eff.apply ⟨nd,[],[],some d,some v,[]⟩ m).st n df next ys kt)
  (h:DrW ro P c Q s id l n df next ys kt m0 (⟨nd,[],[],some d,some v,[]⟩::es) rest (Eff.apply ⟨nd,[],[],some d,some v,[]⟩ m)) (hg:o.guard=none:=by exact rfl)
  (ht:Has ⟨nd,[],[],some d,some v,[]⟩ m:=by first | exact⟨⟨rfl,trivial⟩,trivial,trivial⟩ | exact⟨⟨rfl,rfl,trivial⟩,trivial,trivial⟩ | exact⟨⟨rfl,rfl,rfl,trivial⟩,trivial,trivial⟩ | exact⟨⟨rfl,rfl,rfl,rfl,trivial⟩,trivial,trivial⟩ | exact⟨trivial,trivial,trivial⟩):DrW ro P c Q s id l n df next ys kt m0 es (o::rest) m:=
 bg _ (fun m h=>by obtain⟨s1,h1,h2⟩:=hf m h;exact bq (bQ hg) h1 h2) ht h
theorem dkg {want b:Bool} (hb:b=want) (d:Nat) {dg:Nat} (nd:List (Nat×AV)) (v:AV) (hf:∀ m:Mid,Has ⟨(dg,.pv (.bool b))::nd,[],[],some d,some v,[]⟩ m->∃ s1,da ro P c o (m.st n df next ys kt) s1/\s1=(Eff.apply ⟨(dg,.pv (.bool b))::nd,[],[],some d,some v,[]⟩ m).st n df next ys kt)
  (h:DrW ro P c Q s id l n df next ys kt m0 (⟨(dg,.pv (.bool b))::nd,[],[],some d,some v,[]⟩::es) rest (Eff.apply ⟨(dg,.pv (.bool b))::nd,[],[],some d,some v,[]⟩ m)) {j:Nat} (hg:o.guard=some (j,want):=by exact rfl) (hj:((l[j]?).bind (·.dst))=some dg:=by exact rfl) (hn:Nat.blt dg n=true:=by exact rfl)
  (ht:Has ⟨(dg,.pv (.bool b))::nd,[],[],some d,some v,[]⟩ m:=by first | exact⟨⟨rfl,trivial⟩,trivial,trivial⟩ | exact⟨⟨rfl,rfl,trivial⟩,trivial,trivial⟩ | exact⟨⟨rfl,rfl,rfl,trivial⟩,trivial,trivial⟩ | exact⟨⟨rfl,rfl,rfl,rfl,trivial⟩,trivial,trivial⟩):DrW ro P c Q s id l n df next ys kt m0 es (o::rest) m:=
 bg _ (fun m h=>by obtain⟨s1,h1,h2⟩:=hf m h;exact bq (cD hg hj hn h.1.1 hb) h1 h2) ht h
theorem dgo {g g':Prop} (h':g') (h:g'->g:=by first
 | exact fun h=>drm h
 | exact fun h=>dfl h
 | exact fun h=>dld h
 | exact fun h=>dia h
 | exact fun h=>dru h):g:=h h'
theorem dgn {b want:Bool} {g g':Prop} (hb:b=want) (h':g') (h:b=want->g'->g:=by first
 | exact fun hb h=>dfg hb h
 | exact fun hb h=>dlg hb h
 | exact fun hb h=>dig hb h):g:=h hb h'
end
theorem go {g g':Prop} (h':g') (h:g'->g:=by first
 | ((with_reducible refine(?_:_->kJ _ _ _ _ _ _ _));first
  | exact fun h=>rmv h
  | exact fun h=>gp h
  | exact fun h=>ras h
  | exact fun h=>ci (zG h)
  | exact fun h=>rgu h)
 | ((with_reducible refine(?_:_->AW _ _ _ _ _ _));first
  | with_reducible exact fun h=>aJ (zX h)
  | with_reducible exact fun h=>aJ h
  | with_reducible exact fun h=>zX h
  | with_reducible exact fun h=>UL h
  | with_reducible exact fun h=>aae h
  | with_reducible exact fun h=>cI h)
 | ((with_reducible refine(?_:_->gw _ _ _ _));first
  | with_reducible exact fun h=>zG h
  | with_reducible exact fun h=>vL h
  | with_reducible exact fun h=>AQ h
  | with_reducible exact fun h=>zt h)):g:=h h'
end
theorem go2 {g g':Prop} (h':g') (h:g'->g:=by intro h;(iterate 2 refine go ?_);exact h):g:=h h'
theorem go3 {g g':Prop} (h':g') (h:g'->g:=by intro h;(iterate 3 refine go ?_);exact h):g:=h h'
theorem go4 {g g':Prop} (h':g') (h:g'->g:=by intro h;(iterate 4 refine go ?_);exact h):g:=h h'
theorem go5 {g g':Prop} (h':g') (h:g'->g:=by intro h;(iterate 5 refine go ?_);exact h):g:=h h'
theorem go6 {g g':Prop} (h':g') (h:g'->g:=by intro h;(iterate 6 refine go ?_);exact h):g:=h h'
theorem go7 {g g':Prop} (h':g') (h:g'->g:=by intro h;(iterate 7 refine go ?_);exact h):g:=h h'
theorem go8 {g g':Prop} (h':g') (h:g'->g:=by intro h;(iterate 8 refine go ?_);exact h):g:=h h'
theorem go9 {g g':Prop} (h':g') (h:g'->g:=by intro h;(iterate 9 refine go ?_);exact h):g:=h h'
end Go.Abs

/- Maps whose keys are pairs of numbers; entries that await their value. -/
namespace Go.Abs
open List
variable {G:List (Nat×List PV)}
open Go.RowKit
section
variable {ro:Option Nat} {P:Program} {c:Cx G} {s:St} {o:Oper} {d:Option Nat}
end
end Go.Abs

/- The slice of a row's first elements, handed to a function that reads it. -/
namespace Go.Abs
open List
variable {G:List (Nat×List PV)}
open Go.RowKit
section
variable {ro:Option Nat} {P:Program} {c:Cx G} {s s':St} {o:Oper} {d:Option Nat}
end
end Go.Abs

/- A region that draws its order, in which an operation that reads a block may come ahead of one that writes it, or behind. -/
namespace Go.Abs
open List
variable {G:List (Nat×List PV)}
open Go.RowKit
section
variable {ro:Option Nat} {P:Program} {c:Cx G} {Q:Exit->Act->World->Prop} {s s':St}
end
end Go.Abs

/- Maps from numbers to rows of numbers: made by appending, and read when nothing is written any more. -/
namespace Go.Abs
open List
variable {G:List (Nat×List PV)}
open Go.RowKit
open Go.WideElems (Fit)
open Go.ChangeShapes
section
variable {ro:Option Nat} {P:Program} {c:Cx G} {s:St} {o:Oper} {d:Option Nat}
end
section
variable {ro:Option Nat} {P:Program} {c:Cx G} {s:St} {Q:Exit->Act->World->Prop}
theorem aeh {id:Nat} {l:List Oper} (hm:P.follows .mixedOrders=true) (hE:∀ i o,l[i]? =some o->∀ x∈lU o,x < i) (hG:∀ o∈l,o.guard=none) (Inv:(Nat->Bool)->Act->World->Prop)
  (h0:∀ a w,Sim c s a w->Inv (fun _=>false) a w)
  (hstep:∀ (D:Nat->Bool) (i:Nat) (o:Oper) (a:Act) (w:World),l[i]? =some o->D i=false->(∀ x∈lU o,D x=true)->Inv D a w->∀ (K:Act->World->Prop) (Q:Exit->Act->World->Prop),(∀ a' w',Inv (fun j=>if j=i then true else D j) a' w'->K a' w')->o.wpIn (FF ro) 0 P a w K Q)
  (hend:∀ (D:Nat->Bool) (a:Act) (w:World),(∀ i,i < l.length->D i=true)->Inv D a w->Q .normal a w):AW ro P c (.region id l.toArray true) Q s:=by
 have key:∀ (fuel:Nat) (listed:Array Bool) (a:Act) (w:World),listed.size=l.length->
   ((List.range l.length).filter fun i=> !listed.getD i true).length<=fuel->Inv (fun i=>listed.getD i false) a w->wpAnyIn (FF ro) 0 P .any l.toArray Q fuel listed a w:=by
  have getD_tf:∀ (listed:Array Bool) (i:Nat),i < listed.size->listed.getD i true=listed.getD i false:=fun listed i hi=>by simp[hi]
  have finish:∀ (listed:Array Bool) (a:Act) (w:World),listed.size=l.length->Region.ready .any l.toArray listed=[]->Inv (fun i=>listed.getD i false) a w->Q .normal a w:=by
   intro listed a w hsz hr hs
   refine hend _ a w (fun i=> ?_) hs
   induction i using Nat.strongRecOn with
   | _ i ih=>
    intro hi
    cases hb:listed.getD i false with
    | true=>rfl
    | false=>
     exfalso
     have hmem:i∈Region.ready .any l.toArray listed:=by
      refine uw.2 ⟨by simpa using hi,by rw[getD_tf listed i (by omega)];exact hb,l[i],by simp[hi],fun e he hbd=> ?_⟩
      have hlt:=hE i l[i] (by simp[hi]) e.on (jQ.2 ⟨e,he,hbd,rfl⟩)
      exact ih e.on hlt (by omega)
     rw[hr] at hmem;cases hmem
  intro fuel
  induction fuel with
  | zero=>
   intro listed a w hsz hc hs
   have hr:Region.ready .any l.toArray listed=[]:=by
    rw[eq_nil_iff_forall_not_mem]
    intro i hi
    obtain⟨h1,h2,_⟩:=uw.1 hi
    have:i∈(List.range l.length).filter fun i=> !listed.getD i true:=List.mem_filter.2 ⟨by simpa using h1,by simp[h2]⟩
    have:=length_pos_of_mem this
    omega
   exact⟨hr,finish listed a w hsz hr hs⟩
  | succ fuel ih=>
   intro listed a w hsz hc hs
   refine⟨fun hr=>finish listed a w hsz hr hs,fun i hi=> ?_⟩
   obtain⟨h1,h2,o,ho,hafter⟩:=uw.1 hi
   have hil:i < l.length:=by simpa using h1
   have ho':l[i]? =some o:=by simpa using ho
   have hiF:listed.getD i false=false:=by rw[<- getD_tf listed i (by omega)];exact h2
   have hset:∀ j,(listed.setIfInBounds i true).getD j false=if j=i then true else listed.getD j false:=by
    intro j
    simp only[Array.getD_eq_getD_getElem?,Array.getElem?_setIfInBounds]
    by_cases hji:j=i
    ·subst hji;simp[show j < listed.size by omega]
    ·rw[if_neg (fun e=>hji e.symm),if_neg hji]
   have hnext:∀ a' w',Inv (fun j=>if j=i then true else listed.getD j false) a' w'->wpAnyIn (FF ro) 0 P .any l.toArray Q fuel (listed.setIfInBounds i true) a' w':=by
    intro a' w' hs'
    refine ih _ a' w' (by simpa using hsz) ?_ (by rw[funext hset];exact hs')
    have hsub:((List.range l.length).filter fun j=> !(listed.setIfInBounds i true).getD j true).length+1<=((List.range l.length).filter fun j=> !listed.getD j true).length:=by
     have hg:∀ j,j < l.length->(listed.setIfInBounds i true).getD j true=if j=i then true else listed.getD j true:=by
      intro j hj
      rw[getD_tf _ j (by simp;omega),hset,getD_tf listed j (by omega)]
     have e1:((List.range l.length).filter fun j=> !(listed.setIfInBounds i true).getD j true)=((List.range l.length).filter fun j=> !listed.getD j true).filter fun j=> !(decide (j=i)):=by
      rw[filter_filter]
      refine filter_congr fun j hj=> ?_
      rw[hg j (by simpa using hj)]
      by_cases hji:j=i<;>simp[hji]
     rw[e1]
     have hmem:i∈(List.range l.length).filter fun j=> !listed.getD j true:=List.mem_filter.2 ⟨by simpa using hil,by simp[h2]⟩
     generalize ((List.range l.length).filter fun j=> !listed.getD j true)=L at hmem
     have:∀ L:List Nat,i∈L->(L.filter fun j=> !(decide (j=i))).length+1<=L.length:=by
      intro L
      induction L with
      | nil=>intro h;simp at h
      | cons x L ihL=>
       intro h
       by_cases hxi:x=i
       ·subst hxi
        have:=length_filter_le (fun j=> !(decide (j=x))) L
        simp;omega
       ·rcases List.mem_cons.1 h with h | h
        ·exact absurd h.symm hxi
        ·have:=ihL h
         simp[hxi];omega
     exact this L hmem
    omega
   unfold wpOpIn
   rw[ho]
   have hg0:=hG o (mem_of_getElem? ho')
   have hw:Region.wanted o (yielded l.toArray a.tmps)=true:=by unfold Region.wanted;rw[hg0]
   simp only[hw,if_true]
   exact hstep _ i o a w ho' hiF (fun x hx=>by
    obtain⟨e,he,hb,rfl⟩:=jQ.1 hx
    exact hafter e he hb) hs _ _ hnext
 rintro a w ⟨O,θ,hs⟩
 refine wpIn_region_any hm (key l.toArray.size _ a _ (by simp) ?_ ?_)
 ·have:=length_filter_le (fun i=> !(Array.replicate l.toArray.size false).getD i true) (List.range l.length)
  simpa using this
 ·have:(fun i=>(Array.replicate l.toArray.size false).getD i false)=fun _=>false:=by
   funext i
   simp[Array.getElem?_replicate]
   split<;>rfl
  rw[this]
  exact h0 _ _ ⟨O,θ,hs.grownNone ⟨rfl,rfl,rfl,Nat.le_refl _,fun _ _ _=>rfl⟩⟩
end
section
variable {c:Cx G} {s s':St} {O O':Nat->Prop} {θ:Nat->Option Value} {a a':Act} {w w':World}
end
section
variable {ro:Option Nat} {P:Program} {s:St} {Q:Exit->Act->World->Prop} {all rest:List Oper} {o:Oper}
end
end Go.Abs
namespace Go.Abs
open List
variable {G:List (Nat×List PV)}
open Go.RowKit
open Go.ChangeShapes
section
variable {P:Program}
section
variable {T k e b n:Nat} {f:Int->List Int} {Hid:Nat->Prop} {key x:Int} {R:Nat->Nat} {a0 a:Act} {w0 w:World} {D:Nat->Bool}
end
def AncD (l:List Oper) (D:Nat->Bool):Prop:=∀ i o,l[i]? =some o->D i=true->∀ x∈lU o,D x=true
theorem AncD.step {l:List Oper} {D:Nat->Bool} {i:Nat} {o:Oper} (h:AncD l D) (ho:l[i]? =some o) (hDe:∀ x∈lU o,D x=true):AncD l (fun j=>if j=i then true else D j):=by
 intro j o' ho' hj y hy
 show (if y=i then true else D y)=true
 by_cases e1:y=i
 ·rw[if_pos e1]
 ·rw[if_neg e1]
  by_cases e2:j=i
  ·subst e2
   rw[ho] at ho';cases ho'
   exact hDe y hy
  ·have:D j=true:=by simpa [e2] using hj
   exact h j o' ho' this y hy
end
end Go.Abs
namespace Go.Abs
open List
variable {G:List (Nat×List PV)}
open Go.RowKit
open Go.ChangeShapes
open Classical in
section
variable {ro:Option Nat} {P:Program} {s:St} {Q:Exit->Act->World->Prop} {all rest:List Oper} {o:Oper} {c:Cx G}
end
end Go.Abs

/- A region that draws its order, of which one operation waits for all others: it comes last. -/
namespace Go.Abs
open List
variable {G:List (Nat×List PV)}
open Go.RowKit
section
variable {ro:Option Nat} {P:Program} {c:Cx G} {Q:Exit->Act->World->Prop} {s s':St}
theorem Mr {id n next ys:Nat} {kt:List Nat} {df:List Deferred} {l:List Oper} {ol:Oper} (es:List Eff) (m0:Mid) (hm:P.follows .mixedOrders=true) (hs0:s=m0.st n df next ys kt) (hF:ut ro P c (l++[ol]) n df next ys kt l es) (hT:A7 es m0) (hB:Bv l es=true)
  (hG:((l++[ol]).all fun o=>o.guard.isNone)=true) (hL:((List.range l.length).all fun i=>Nat.testBit ((Xd (l++[ol]) []).getD l.length 0) i)=true) (hE:((lU ol).all fun x=>Nat.blt x l.length)=true)
  (ho:da ro P c ol ((iA (fun _=>true) 0 es m0).st n df next ys kt) s') (h:gw c Q .normal s'):AW ro P c (.region id (l++[ol]).toArray true) Q s:=by
 subst hs0
 obtain⟨hlen,hfact⟩:=Bw hF
 obtain⟨hEdge,hClash,hNames⟩:=EZ hB
 have hg0:∀ o∈l++[ol],o.guard=none:=fun o ho=>by
  have:=List.all_eq_true.1 hG o ho
  exact Option.isNone_iff_eq_none.1 this
 have hlast:∀ i,i < l.length->Anc (l++[ol]) i l.length:=fun i hi=>
  zJ (l++[ol]) i (l++[ol]) [] [] rfl rfl (by intro j h;simp at h) _ (List.all_eq_true.1 hL i (List.mem_range.2 hi))
 have hlt:∀ x∈lU ol,x < l.length:=fun x hx=>by
  have:=List.all_eq_true.1 hE x hx
  simpa [Nat.blt_eq] using this
 have hat:∀ i o,(l++[ol])[i]? =some o->(i < l.length/\l[i]? =some o)\/(i=l.length/\o=ol):=fun i o ho=>by
  rw[getElem?_append] at ho
  split at ho
  ·rename_i hi;exact .inl ⟨hi,ho⟩
  ·rename_i hi
   have h1:i - l.length=0:=by
    rcases Nat.eq_zero_or_pos (i - l.length) with h1 | h1
    ·exact h1
    ·rw[getElem?_eq_none (by simp;omega)] at ho;cases ho
   rw[h1] at ho
   simp at ho
   exact .inr ⟨by omega,ho.symm⟩
 refine aeh hm (fun i o ho x hx=> ?_) hg0 (fun D a w=>(D l.length=false/\AncD l D/\Sim c ((iA D 0 es m0).st n df next ys kt) a w)\/((∀ j,j<=l.length->D j=true)/\Sim c s' a w)) ?_ ?_ ?_
 ·rcases hat i o ho with⟨_,ho⟩ | ⟨rfl,rfl⟩
  ·exact hEdge i o ho x hx
  ·exact hlt x hx
 ·intro a w hs
  exact .inl ⟨rfl,fun _ _ _ h=>(by cases h),by rw[uF];exact hs⟩
 ·intro D i o a w ho0 hiF hafter hinv K Q2 hK
  rcases hinv with⟨hDl,hd,hs⟩ | ⟨hall,_⟩
  case inr=>
   rw[hall i (by rcases hat i o ho0 with⟨h1,_⟩ | ⟨h1,_⟩<;>omega)] at hiF;cases hiF
  rcases hat i o ho0 with⟨hil,ho'⟩ | ⟨rfl,rfl⟩
  ·have down:∀ i j,Anc l i j->D j=true->D i=true:=by
    intro i j ha
    induction ha with
    | one j o e ho he hb hi=>intro hj;rw[<- hi];exact hd j o ho hj e.on (jQ.2 ⟨e,he,hb,rfl⟩)
    | more j o e ho he hb _ ih=>intro hj;exact ih (hd j o ho hj e.on (jQ.2 ⟨e,he,hb,rfl⟩))
   have hafter:∀ e2∈o.after,Region.binds .any e2=true->D e2.on=true:=fun e2 he2 hb2=>hafter e2.on (jQ.2 ⟨e2,he2,hb2,rfl⟩)
   obtain⟨e,he⟩:∃ e,es[i]? =some e:=⟨es[i]'(by omega),getElem?_eq_getElem (by omega)⟩
   let D2:Nat->Bool:=fun j=>if j=i then true else D j
   have hset:∀ j,D2 j=if j=i then true else D j:=fun _=>rfl
   -- all that it waits for is listed
   have hanc:∀ j,Anc l j i->D j=true:=by
    intro j hj
    cases hj with
    | one _ o2 e2 ho2 he2 hb2 hi2=>
     rw[ho'] at ho2;cases ho2
     rw[<- hi2];exact hafter e2 he2 hb2
    | more _ o2 e2 ho2 he2 hb2 h3=>
     rw[ho'] at ho2;cases ho2
     exact down j e2.on h3 (hafter e2 he2 hb2)
   -- whoever clashes with it is listed just if it stands ahead of it
   have agree:∀ j ej,es[j]? =some ej->(j≠i->jW e ej=true/\jW ej e=true)->D (0+j)=Nat.blt (0+j) (0+i):=by
    intro j ej hj hcl
    simp only[Nat.zero_add]
    by_cases hji:j=i
    ·subst hji;rw[hiF];simp[Nat.blt_eq,Bool.eq_false_iff]
    ·obtain⟨c1,c2⟩:=hcl hji
     rcases Nat.lt_or_gt_of_ne hji with hlt | hlt
     ·rw[hanc j (hClash j i ej e hlt hj he c2)]
      rw[eq_comm];simpa [Nat.blt_eq] using hlt
     ·have hA:=hClash i j e ej hlt he hj c1
      have:D j=false:=by
       cases hb:D j with
       | false=>rfl
       | true=>have:=down i j hA hb;rw[hiF] at this;cases this
      rw[this];symm;rw[Bool.eq_false_iff];simp[Nat.blt_eq];omega
   have clT:∀ (t:Nat) (a b:Eff),t∈wT a->(t∈wT b\/t∈rT b)->jW a b=true/\jW b a=true:=by
    intro t a b ha hb
    constructor
    ·simp only[jW,Bool.or_eq_true,any_eq_true]
     exact .inl (.inl (.inl ⟨t,ha,by simpa using hb⟩))
    ·rcases hb with hb | hb
     ·simp only[jW,Bool.or_eq_true,any_eq_true]
      exact .inl (.inl (.inl ⟨t,hb,by simp[ha]⟩))
     ·simp only[jW,Bool.or_eq_true,any_eq_true]
      exact .inl (.inl (.inr ⟨t,ha,by simpa using hb⟩))
   have clH:∀ (t:Nat) (a b:Eff),t∈wH a->(t∈wH b\/t∈rH b)->jW a b=true/\jW b a=true:=by
    intro t a b ha hb
    constructor
    ·simp only[jW,Bool.or_eq_true,any_eq_true]
     exact .inl (.inr ⟨t,ha,by simpa using hb⟩)
    ·rcases hb with hb | hb
     ·simp only[jW,Bool.or_eq_true,any_eq_true]
      exact .inl (.inr ⟨t,hb,by simp[ha]⟩)
     ·simp only[jW,Bool.or_eq_true,any_eq_true]
      exact .inr ⟨t,ha,by simpa using hb⟩
   have hhas0:=BL es 0 m0 hT i e he
   rw[Nt] at hhas0
   have hhas:Has e (iA D 0 es m0):=by
    refine⟨HasT.iff.2 fun t x hx=> ?_,HasH.iff.2 fun t x hx=> ?_,HasN.iff.2 fun k hk=> ?_⟩
    ·rw[Aa (q:=fun j=>Nat.blt j (0+i)) es 0 m0 m0 rfl (fun j ej hj ht=>agree j ej hj fun _=>(clT t ej e ht (.inr (List.mem_map.2 ⟨_,hx,rfl⟩))).symm)]
     exact HasT.iff.1 hhas0.1 t x hx
    ·rw[zO (q:=fun j=>Nat.blt j (0+i)) es 0 m0 m0 rfl (fun j ej hj ht=>agree j ej hj fun _=>(clH t ej e ht (.inr (List.mem_map.2 ⟨_,hx,rfl⟩))).symm)]
     exact HasH.iff.1 hhas0.2.1 t x hx
    ·rw[wM (q:=fun j=>Nat.blt j (0+i)) es 0 m0 m0 Iff.rfl (fun j ej hj ht=>agree j ej hj fun _=>(clH k ej e (hNames ej (mem_of_getElem? hj) k ht) (.inl (hNames e (mem_of_getElem? he) k hk))).symm)]
     exact HasN.iff.1 hhas0.2.2 k hk
   have hstep:=hfact i o e ho' he _ hhas
   -- the state behind it
   have himp:Imp c ((e.apply (iA D 0 es m0)).st n df next ys kt) ((iA D2 0 es m0).st n df next ys kt):=by
    have later:∀ j ej,i < j->es[j]? =some ej->(jW e ej=true)->D2 (0+j)=false:=by
     intro j ej hlt hj c1
     rw[Nat.zero_add,hset,if_neg (by omega)]
     cases hb:D j with
     | false=>rfl
     | true=>have:=down i j (hClash i j e ej hlt he hj c1) hb;rw[hiF] at this;cases this
    refine QP rfl rfl rfl rfl (fun t x hx=> ?_) (fun t x hx=> ?_) (fun k hk=> ?_)
    ·by_cases ht:t∈wT e
     ·have:=DY (q:=D2) es 0 i m0 (iA D 0 es m0) e he (by simp only[Nat.zero_add];rw[hset,if_pos rfl]) ht (fun j ej hlt hj htj=>later j ej hlt hj (clT t e ej ht (.inl htj)).1)
      exact this.symm.trans hx
     ·show aX t (e.apply _).fr=some x
      rw[sw ht,<- hx]
      refine(Aa es 0 m0 m0 rfl fun j ej hj htj=> ?_).symm
      rw[hset,if_neg (fun e'=> ?_)]
      rw[Nat.zero_add] at e';subst e'
      rw[he] at hj;cases hj
      exact ht htj
    ·by_cases ht:t∈wH e
     ·have:=xN (q:=D2) es 0 i m0 (iA D 0 es m0) e he (by simp only[Nat.zero_add];rw[hset,if_pos rfl]) ht (fun j ej hlt hj htj=>later j ej hlt hj (clH t e ej ht (.inl htj)).1)
      exact this.symm.trans hx
     ·show aX t (e.apply _).hp=some x
      rw[sC ht,<- hx]
      refine(zO es 0 m0 m0 rfl fun j ej hj htj=> ?_).symm
      rw[hset,if_neg (fun e'=> ?_)]
      rw[Nat.zero_add] at e';subst e'
      rw[he] at hj;cases hj
      exact ht htj
    ·show k∈(e.apply _).free
     have hk':k∈(iA D2 0 es m0).free:=hk
     obtain⟨_,hkn⟩:=ye es 0 m0 hk'
     have hke:k ∉ e.names:=hkn i e he (by simp only[Nat.zero_add];rw[hset,if_pos rfl])
     rw[xD hke]
     refine(wM es 0 m0 m0 Iff.rfl fun j ej hj htj=> ?_).1 hk'
     rw[hset,if_neg (fun e'=> ?_)]
     rw[Nat.zero_add] at e';subst e'
     rw[he] at hj;cases hj
     exact hke htj
   have hnext:∀ a' w',Sim c ((e.apply (iA D 0 es m0)).st n df next ys kt) a' w'->K a' w':=fun a' w' hs'=>
    hK a' w' (.inl ⟨by show (if l.length=i then true else D l.length)=false;rw[if_neg (by omega)];exact hDl,hd.step ho' (fun x hx=>by
     obtain⟨e2,he2,hb2,rfl⟩:=jQ.1 hx
     exact hafter e2 he2 hb2),himp a' w' hs'⟩)
   obtain⟨O,θ,hsAt⟩:=hs
   rcases hstep with⟨_,hop⟩ | ⟨hg,_⟩
   ·exact hop a w ⟨O,θ,hsAt⟩ _ _ hnext
   ·have h1:=rf hsAt hg
    have h2:Region.wanted o (yielded (l++[ol]).toArray a.tmps)=true:=by unfold Region.wanted;rw[hg0 o (mem_of_getElem? ho0)]
    rw[h2] at h1;cases h1
  ·have down:∀ i j,Anc (l++[o]) i j->(D j=true\/j=l.length)->D i=true:=by
    have dn:∀ j o' e,(l++[o])[j]? =some o'->e∈o'.after->Region.binds .any e=true->(D j=true\/j=l.length)->D e.on=true:=by
     intro j o' e ho' he hb hj
     rcases hat j o' ho' with⟨h1,h2⟩ | ⟨rfl,rfl⟩
     ·rcases hj with hj | hj
      ·exact hd j o' h2 hj e.on (jQ.2 ⟨e,he,hb,rfl⟩)
      ·omega
     ·exact hafter e.on (jQ.2 ⟨e,he,hb,rfl⟩)
    intro i j ha
    induction ha with
    | one j o' e ho' he hb hi=>intro hj;rw[<- hi];exact dn j o' e ho' he hb hj
    | more j o' e ho' he hb _ ih=>intro hj;exact ih (.inl (dn j o' e ho' he hb hj))
   have hall:∀ j,j < l.length->D j=true:=fun j hj=>down j _ (hlast j hj) (.inr rfl)
   have e1:iA D 0 es m0=iA (fun _=>true) 0 es m0:=uZ es 0 m0 fun j hj=>by rw[Nat.zero_add];exact hall j (by omega)
   rw[e1] at hs
   exact ho a w hs K Q2 fun a' w' hs'=>hK a' w' (.inr ⟨fun j hj=>by
    show (if j=l.length then true else D j)=true
    by_cases h1:j=l.length
    ·rw[if_pos h1]
    ·rw[if_neg h1];exact hall j (by omega),hs'⟩)
 ·intro D a w hall hinv
  rcases hinv with⟨hDl,_⟩ | ⟨_,hs⟩
  ·rw[hall l.length (by simp)] at hDl;cases hDl
  ·exact h a w hs
end
section
variable {ro:Option Nat} {P:Program} {c:Cx G} {Q:Exit->Act->World->Prop} {s s':St}
theorem UZ {id n next ys:Nat} {kt:List Nat} {df:List Deferred} {l:List Oper} {o:Oper} {m0 m:Mid} {es:List Eff} (hm:P.follows .mixedOrders=true) (hs0:s=m0.st n df next ys kt) (ho:da ro P c o (m.st n df next ys kt) s') (hB:Bv l.dropLast es.reverse=true)
  (hG:(l.all fun o=>o.guard.isNone)=true) (hL:((List.range (l.length - 1)).all fun i=>Nat.testBit ((Xd l []).getD (l.length - 1) 0) i)=true) (hE:((lU o).all fun x=>Nat.blt x (l.length - 1))=true) (h:gw c Q .normal s'):DrW ro P c Q s id l n df next ys kt m0 es [o] m:=by
 rintro ⟨pre,h1,h2⟩ h3 h4
 subst h1
 have hF:=h2 [] [] trivial
 have hT:=h3 [] trivial
 rw[append_nil] at hT
 rw[append_nil,append_nil] at hF
 rw[dropLast_concat] at hB
 rw[show (pre++[o]).length - 1=pre.length by simp] at hL hE
 exact Mr es.reverse m0 hm hs0 hF hT hB hG hL hE (by rw[h4];exact ho) h
end
def abn (x:List UInt8) (n:Int):Option (List UInt8):=if 0<=n/\n<=9223372036854775807/\x.length * n.toNat<=140737488355328 then some (Lib.repeatL x n.toNat) else none
theorem Xp {P:Program} {f:Nat} (h1:∀ (s:ByteArray) (c:Nat) (w:World),c<=9223372036854775807->s.size * c<=140737488355328->Calls P f #[.string s,.int .i64 c] w fun e w'=>e= .returned (.string ⟨(Lib.repeatL s.data.toList c).toArray⟩)/\Below w.heap.size w w')
  {x r:List UInt8} {n:Int} (hr:abn x n=some r):Fn G P f [.str x,.int .i64 n] [.p (.str r)]:=by
 intro w O vs hO _ hsz hrd
 obtain⟨v0,v1,rfl⟩:=vs2 hsz
 have e0:=JH (hrd 0 _ v0 rfl rfl)
 have e1:v1= .int .i64 n:=by
  have h:=hrd 1 _ v1 rfl rfl
  cases h;rfl
 subst e0
 subst e1
 unfold abn at hr
 split at hr
 ·rename_i hb
  obtain⟨b1,b2,b3⟩:=hb
  cases hr
  have hn:((n.toNat:Nat):Int)=n:=Int.toNat_of_nonneg b1
  have hc:=h1 ⟨x.toArray⟩ n.toNat w (by omega) (by simpa [ByteArray.size] using b3)
  rw[hn] at hc
  refine hc.mono ?_
  rintro e w' ⟨rfl,hB⟩
  refine⟨_,O,rfl,zo hB,fun _ h=>h,?_⟩
  exact Rd.str _
 ·cases hr
end Go.Abs

