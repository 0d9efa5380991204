/- The abstract layer that the proof stands on: no condition. -/
import Derived.Test.YtjimbkljclfflaaGreatDoorShowTextA3
import Derived.Lib.ConvBytes
import Derived.Laws.BytesString
import Derived.Lib.Join
import Derived.Lib.AppendZeros
import Derived.Shelf.Strings.Builder1
import Derived.Test.YtjimbkljclfflaaGreatDoorShowTextA2
import Derived.ProofKit
import Derived.OpenShut
import Derived.LaidMore
import Derived.Stop.Joined
import Derived.WideKeyEntry
import Derived.DeepKeys4
/- Short words for the walks; regions that draw their order, walked step by step. -/
namespace Go.Abs
variable {G:List (Nat×List PV)}
open Go.RowKit
abbrev bxv (l:List PV):List AV:=l.map AV.pv
section
variable {ro:Option Nat} {P:Program} {c:Cx G} {Q:Exit→Act→World→Prop} {s:St}
def DrW (ro:Option Nat) (P:Program) (c:Cx G) (Q:Exit→Act→World→Prop) (s:St) (id:Nat) (l:List Oper) (n:Nat) (df:List Deferred) (next ys:Nat) (kt:List Nat) (m0:Mid) (es:List Eff) (rest:List Oper) (m:Mid):Prop:=
 (∃ pre,l=pre++rest∧∀ rest' es',rY ro P c l n df next ys kt rest' es'→rY ro P c l n df next ys kt (pre++rest') (es.reverse++es'))→(∀ es',yv es' m→yv (es.reverse++es') m0)→
  fm (fun _=>true) 0 es.reverse m0=m→AW ro P c (.region id l.toArray true) Q s
theorem Iq (p:Nat→Bool):∀ (es:List Eff) (k:Nat) (m:Mid) (e:Eff),(∀ j,p j=true)→fm p k (es++[e]) m=e.apply (fm p k es m)
 | [],k,m,e,h=>by simp[fm,h]
 | e'::es,k,m,e,h=>by
  simp only[List.cons_append,fm,h,cond_true]
  exact Iq p es (k+1) _ e h
theorem dh {id n next ys:Nat} {kt:List Nat} {df:List Deferred} {l:List Oper} (m0:Mid) (_hs0:s=m0.st n df next ys kt) (h:DrW ro P c Q s id l n df next ys kt m0 [] l m0):AW ro P c (.region id l.toArray true) Q s:=
 h ⟨[],rfl,fun _ _ h=>h⟩ (fun _ h=>h) rfl
theorem aY {id n next ys:Nat} {kt:List Nat} {df:List Deferred} {l rest:List Oper} {o:Oper} {m0 m:Mid} {es:List Eff} (e:Eff) (hf:∀ m:Mid,Has e m→uY ro P c l o (m.st n df next ys kt) ((e.apply m).st n df next ys kt)) (ht:Has e m)
  (h:DrW ro P c Q s id l n df next ys kt m0 (e::es) rest (e.apply m)):DrW ro P c Q s id l n df next ys kt m0 es (o::rest) m:=by
 rintro ⟨pre,h1,h2⟩ h3 h4
 refine h ⟨pre++[o],by rw[h1];simp,fun rest' es' h5=> ?_⟩ (fun es' h5=> ?_) ?_
 ·rw[List.reverse_cons,List.append_assoc,List.append_assoc]
  exact h2 (o::rest') (e::es') ⟨hf,h5⟩
 ·rw[List.reverse_cons,List.append_assoc]
  exact h3 (e::es') ⟨ht,h5⟩
 ·rw[List.reverse_cons,Iq _ _ _ _ _ (fun _=>rfl),h4]
theorem cY {id n next ys:Nat} {kt:List Nat} {df:List Deferred} {l:List Oper} {m0 m:Mid} {es:List Eff} (hm:P.follows .mixedOrders=true) (hs0:s=m0.st n df next ys kt) (hB:AE l es.reverse=true) (h:iv c Q .normal (m.st n df next ys kt)):DrW ro P c Q s id l n df next ys kt m0 es [] m:=by
 rintro ⟨pre,h1,h2⟩ h3 h4
 have hF:=h2 [] [] trivial
 have hT:=h3 [] trivial
 rw[List.append_nil] at h1 hT
 rw[List.append_nil,List.append_nil,← h1] at hF
 exact Sh es.reverse m0 hm hs0 hF hT hB (by rw[h4];exact h)
section
variable {id n next ys:Nat} {kt:List Nat} {df:List Deferred} {l rest:List Oper} {o:Oper} {m0 m:Mid} {es:List Eff}
theorem dru {j d:Nat} {want:Bool} (h:DrW ro P c Q s id l n df next ys kt m0 ({ need:=[(d,.tup [])],dst:=o.dst,val:=some (.tup []) }::es) rest (({ need:=[(d,.tup [])],dst:=o.dst,val:=some (.tup []) }:Eff).apply m))
  (hg:o.guard=some (j,want):=by exact rfl) (hj:((l[j]?).bind (·.dst))=some d:=by exact rfl) (hn:Nat.blt d n=true:=by exact rfl) (hl:look d m.fr=some (.tup []):=by exact rfl) (hk:ktB (m.st n df next ys kt) o.dst=true:=by exact rfl):
  DrW ro P c Q s id l n df next ys kt m0 es (o::rest) m:=
 aY { need:=[(d,.tup [])],dst:=o.dst,val:=some (.tup []) } (fun m' h=>DE (Bm hg hj hn h.1.1) hk (by cases o.dst<;>rfl)) ⟨⟨hl,trivial⟩,trivial,trivial⟩ h
theorem xc {j d:Nat} {t:Bool} (ht:t=false) (h:DrW ro P c Q s id l n df next ys kt m0 ({ need:=[(d,.pv (.bool t))],dst:=o.dst,val:=some (.tup []) }::es) rest (({ need:=[(d,.pv (.bool t))],dst:=o.dst,val:=some (.tup []) }:Eff).apply m))
  (hg:o.guard=some (j,true):=by exact rfl) (hj:((l[j]?).bind (·.dst))=some d:=by exact rfl) (hn:Nat.blt d n=true:=by exact rfl) (hl:look d m.fr=some (.pv (.bool t)):=by exact rfl) (hk:ktB (m.st n df next ys kt) o.dst=true:=by exact rfl):
  DrW ro P c Q s id l n df next ys kt m0 es (o::rest) m:=
 aY { need:=[(d,.pv (.bool t))],dst:=o.dst,val:=some (.tup []) } (fun m' h=>DE (xC hg hj hn h.1.1 ht) hk (by cases o.dst<;>rfl)) ⟨⟨hl,trivial⟩,trivial,trivial⟩ h
theorem du {j d:Nat} {t:Bool} (ht:t=true) (h:DrW ro P c Q s id l n df next ys kt m0 ({ need:=[(d,.pv (.bool t))],dst:=o.dst,val:=some (.tup []) }::es) rest (({ need:=[(d,.pv (.bool t))],dst:=o.dst,val:=some (.tup []) }:Eff).apply m))
  (hg:o.guard=some (j,false):=by exact rfl) (hj:((l[j]?).bind (·.dst))=some d:=by exact rfl) (hn:Nat.blt d n=true:=by exact rfl) (hl:look d m.fr=some (.pv (.bool t)):=by exact rfl) (hk:ktB (m.st n df next ys kt) o.dst=true:=by exact rfl):
  DrW ro P c Q s id l n df next ys kt m0 es (o::rest) m:=
 aY { need:=[(d,.pv (.bool t))],dst:=o.dst,val:=some (.tup []) } (fun m' h=>DE (xC hg hj hn h.1.1 ht) hk (by cases o.dst<;>rfl)) ⟨⟨hl,trivial⟩,trivial,trivial⟩ h
theorem drm {t d:Nat} {v:AV} (h:DrW ro P c Q s id l n df next ys kt m0 ({ need:=[(t,v)],dst:=some d,val:=some v }::es) rest (({ need:=[(t,v)],dst:=some d,val:=some v }:Eff).apply m))
  (hg:o.guard=none:=by exact rfl) (ho:o.op= .move (.tmp t):=by exact rfl) (hd:o.dst=some d:=by exact rfl) (hl:look t m.fr=some v:=by exact rfl) (hk:dOk (m.st n df next ys kt) (some d)=true:=by exact rfl):
  DrW ro P c Q s id l n df next ys kt m0 es (o::rest) m:=
 aY { need:=[(t,v)],dst:=some d,val:=some v } (fun m' h=>aX (bM hg) (ga ho h.1.1 hd hk) rfl) ⟨⟨hl,trivial⟩,trivial,trivial⟩ h
theorem jW {t d:Nat} {v:AV} {y z:Operand} {b:Bool} (hb:b=true) (h:DrW ro P c Q s id l n df next ys kt m0 ({ need:=[(t,.pv (.bool b))],dst:=some d,val:=some v }::es) rest (({ need:=[(t,.pv (.bool b))],dst:=some d,val:=some v }:Eff).apply m))
  (hg:o.guard=none:=by exact rfl) (ho:o.op= .pick (.tmp t) y z:=by exact rfl) (hd:o.dst=some d:=by exact rfl) (hl:look t m.fr=some (.pv (.bool b)):=by exact rfl) (hy:∀ m':Mid,ev (m'.st n df next ys kt) y=some v:=by exact fun _=>rfl) (hk:dOk (m.st n df next ys kt) (some d)=true:=by exact rfl):
  DrW ro P c Q s id l n df next ys kt m0 es (o::rest) m:=
 aY { need:=[(t,.pv (.bool b))],dst:=some d,val:=some v } (fun m' h=>aX (bM hg) (ba ho h.1.1 hb (hy m') hd hk) rfl) ⟨⟨hl,trivial⟩,trivial,trivial⟩ h
theorem Xi {t d:Nat} {v:AV} {y z:Operand} {b:Bool} (hb:b=false) (h:DrW ro P c Q s id l n df next ys kt m0 ({ need:=[(t,.pv (.bool b))],dst:=some d,val:=some v }::es) rest (({ need:=[(t,.pv (.bool b))],dst:=some d,val:=some v }:Eff).apply m))
  (hg:o.guard=none:=by exact rfl) (ho:o.op= .pick (.tmp t) y z:=by exact rfl) (hd:o.dst=some d:=by exact rfl) (hl:look t m.fr=some (.pv (.bool b)):=by exact rfl) (hy:∀ m':Mid,ev (m'.st n df next ys kt) z=some v:=by exact fun _=>rfl) (hk:dOk (m.st n df next ys kt) (some d)=true:=by exact rfl):
  DrW ro P c Q s id l n df next ys kt m0 es (o::rest) m:=
 aY { need:=[(t,.pv (.bool b))],dst:=some d,val:=some v } (fun m' h=>aX (bM hg) (aC ho h.1.1 hb (hy m') hd hk) rfl) ⟨⟨hl,trivial⟩,trivial,trivial⟩ h
end
section
variable {all rest:List Oper} {o:Oper} {s':St}
theorem rgu {j d:Nat} {want:Bool} {d':Option Nat} (h:nJ ro P c all rest Q (s.put d' (some (.tup [])))) (hg:o.guard=some (j,want):=by exact rfl) (hj:((all[j]?).bind (·.dst))=some d:=by exact rfl) (hn:Nat.blt d s.n=true:=by exact rfl) (hl:look d s.fr=some (.tup []):=by exact rfl) (hd:o.dst=d':=by exact rfl) (hk:ktB s d'=true:=by exact rfl):
  nJ ro P c all (o::rest) Q s:=Kw (Bm hg hj hn hl) hd hk h
theorem aQ {j d:Nat} {t:Bool} {d':Option Nat} (ht:t=false) (h:nJ ro P c all rest Q (s.put d' (some (.tup [])))) (hg:o.guard=some (j,true):=by exact rfl) (hj:((all[j]?).bind (·.dst))=some d:=by exact rfl) (hn:Nat.blt d s.n=true:=by exact rfl) (hl:look d s.fr=some (.pv (.bool t)):=by exact rfl) (hd:o.dst=d':=by exact rfl) (hk:ktB s d'=true:=by exact rfl):
  nJ ro P c all (o::rest) Q s:=Kw (xC hg hj hn hl ht) hd hk h
theorem az {j d:Nat} {t:Bool} {d':Option Nat} (ht:t=true) (h:nJ ro P c all rest Q (s.put d' (some (.tup [])))) (hg:o.guard=some (j,false):=by exact rfl) (hj:((all[j]?).bind (·.dst))=some d:=by exact rfl) (hn:Nat.blt d s.n=true:=by exact rfl) (hl:look d s.fr=some (.pv (.bool t)):=by exact rfl) (hd:o.dst=d':=by exact rfl) (hk:ktB s d'=true:=by exact rfl):
  nJ ro P c all (o::rest) Q s:=Kw (xC hg hj hn hl ht) hd hk h
theorem prt {fn:Func} {w0:World} {O0:Nat→Prop} {t:Nat} {p:PV} (hr:fn.results=[ResultVar.tmp t].toArray:=by exact rfl) (h:look t s.fr=some (.pv p):=by exact rfl) (hc:c=Fn.cx w0 O0:=by exact rfl):iv c (MI P fn w0 O0 [.p p]) .ret s:=dm hc hr (.cons _ _ _ _ _ (.tmp _ _ h) (.p _) .nil) (.inl rfl)
theorem rgp (ho:dx ro P c o s s') (h:nJ ro P c all rest Q s') (hg:o.guard=none:=by exact rfl):nJ ro P c all (o::rest) Q s:=qQ (bM hg) ho h
theorem rgn {j d:Nat} {want t:Bool} (ht:t=want) (ho:dx ro P c o s s') (h:nJ ro P c all rest Q s') (hg:o.guard=some (j,want):=by exact rfl) (hj:((all[j]?).bind (·.dst))=some d:=by exact rfl) (hn:Nat.blt d s.n=true:=by exact rfl) (hl:look d s.fr=some (.pv (.bool t)):=by exact rfl):nJ ro P c all (o::rest) Q s:=
 qQ (bZ hg hj hn hl ht) ho h
theorem rmv {x:Operand} {v:AV} {d:Option Nat} (h:nJ ro P c all rest Q (s.put d (some v))) (hg:o.guard=none:=by exact rfl) (ho:o.op= .move x:=by exact rfl) (hx:ev s x=some v:=by exact rfl) (hd:o.dst=d:=by exact rfl) (hk:dOk s d=true:=by exact rfl):
  nJ ro P c all (o::rest) Q s:=qQ (bM hg) (ga ho hx hd hk) h
theorem ras {x:Operand} {v:AV} {d:Option Nat} (h:nJ ro P c all rest Q (s.put d (some v))) (hg:o.guard=none:=by exact rfl) (ho:o.op= .assign x:=by exact rfl) (hx:ev s x=some v:=by exact rfl) (hd:o.dst=d:=by exact rfl) (hk:dOk s d=true:=by exact rfl):
  nJ ro P c all (o::rest) Q s:=qQ (bM hg) (dC ho hx hd hk) h
theorem rpt {x y z:Operand} {b:Bool} {v:AV} {d:Option Nat} (hb:b=true) (h:nJ ro P c all rest Q (s.put d (some v))) (hg:o.guard=none:=by exact rfl) (ho:o.op= .pick x y z:=by exact rfl) (hx:ev s x=some (.pv (.bool b)):=by exact rfl) (hy:ev s y=some v:=by exact rfl) (hd:o.dst=d:=by exact rfl) (hk:dOk s d=true:=by exact rfl):
  nJ ro P c all (o::rest) Q s:=qQ (bM hg) (ba ho hx hb hy hd hk) h
theorem rpf {x y z:Operand} {b:Bool} {v:AV} {d:Option Nat} (hb:b=false) (h:nJ ro P c all rest Q (s.put d (some v))) (hg:o.guard=none:=by exact rfl) (ho:o.op= .pick x y z:=by exact rfl) (hx:ev s x=some (.pv (.bool b)):=by exact rfl) (hy:ev s z=some v:=by exact rfl) (hd:o.dst=d:=by exact rfl) (hk:dOk s d=true:=by exact rfl):
  nJ ro P c all (o::rest) Q s:=qQ (bM hg) (aC ho hx hb hy hd hk) h
end
end
end Go.Abs

/- A zero value, written out as a constant, stored. -/
namespace Go.Abs
variable {G:List (Nat×List PV)}
open Go.RowKit
section
variable {ro:Option Nat} {P:Program} {c:Cx G} {s s':St} {o:Oper} {d:Option Nat}
end
end Go.Abs

/- Bits and quotients of integers; texts and bytes. -/
namespace Go.Abs
variable {G:List (Nat×List PV)}
open Go.RowKit
def Mi (k:IntKind) (f:BitVec k.bits→BitVec k.bits→BitVec k.bits) (x y:Int):Int:=k.wrap (f (BitVec.ofInt k.bits x) (BitVec.ofInt k.bits y)).toNat
def wc (k:IntKind) (x y:Int):Int:=Mi k (fun a b=>a &&& b) x y
def orI (k:IntKind) (x y:Int):Int:=Mi k (fun a b=>a ||| b) x y
def WX (k:IntKind) (x y:Int):Int:=Mi k (fun a b=>a ^^^ b) x y
def WO (k:IntKind) (x y:Int):Int:=Mi k (fun a b=>a &&& ~~~b) x y
def Av (op:BinOp) (k:IntKind) (m n:Int):Option PV:=
 match op with
 | .and=>some (.int k (wc k m n))
 | .or=>some (.int k (orI k m n))
 | .xor=>some (.int k (WX k m n))
 | .andNot=>some (.int k (WO k m n))
 | .quo=>if n=0 then none else some (.int k (k.wrap (m.tdiv n)))
 | .rem=>if n=0 then none else some (.int k (m.tmod n))
 | _=>none
def mW (l:List Int):List UInt8:=l.map fun n=>UInt8.ofNat n.toNat
def bv (l:List UInt8):List Int:=l.map fun b=>(b.toNat:Int)
theorem Sx {k:IntKind} {m n:Int} (h:n≠0):Av .quo k m n=some (.int k (k.wrap (m.tdiv n))):=by simp[Av,h]
theorem J7 {k:IntKind} {m n:Int} (h:n≠0):Av .rem k m n=some (.int k (m.tmod n)):=by simp[Av,h]
section
variable {ro:Option Nat} {P:Program} {c:Cx G} {s s':St} {o:Oper} {d:Option Nat}
theorem iz {op:BinOp} {T T':TypeId} {x y:Operand} {k:IntKind} {m n:Int} {r:PV} (ho:o.op= .binOp op T x y T') (hx:ev s x=some (.pv (.int k m))) (hy:ev s y=some (.pv (.int k n)))
  (hr:Av op k m n=some r) (hd:o.dst=d) (hn:dOk s d=true):dx ro P c o s (s.put d (some (.pv r))):=
 cd hd hn (by rw[ho];intro k h;cases h) fun a w O θ hs=>by
  have e1:=lH hs hx
  have e2:=lH hs hy
  cases op<;>simp only[Av,Option.some.injEq,reduceCtorEq] at hr
  case quo=>
   split at hr
   ·cases hr
   ·rename_i h0
    cases hr
    exact⟨_,by simp[execOp,ho,eqGuard,binOp,e1,e2,Op.intDiv,h0],.pv _ _ (.int _ _)⟩
  case rem=>
   split at hr
   ·cases hr
   ·rename_i h0
    cases hr
    exact⟨_,by simp[execOp,ho,eqGuard,binOp,e1,e2,Op.intDiv,h0],.pv _ _ (.int _ _)⟩
  all_goals subst hr
  all_goals exact⟨_,by simp[execOp,ho,eqGuard,binOp,e1,e2,Op.intBits,wc,orI,WX,WO,Mi],.pv _ _ (.int _ _)⟩
theorem MF {T T' e:TypeId} {x:Operand} {l:List UInt8} {td:TypeDesc} {u:Unit} {E:Int→List PV} (ho:o.op= .convert T T' x) (hx:ev s x=some (.pv (.str l))) (hs0:P.underlying T=some td) (hd0:P.underlying T'=some (.slice e)) (he:P.underlying e=some (.int .u8))
  (hl:bQ (l.length:Int) 1=some u) (hE:E=fun b=>[.int .u8 b]) (hd:o.dst=d) (hn:dOk s d=true):dx ro P c o s (s.put d (some (.pv (.vs 1 ((bv l).map E))))):=
 qX (s1:=s) hd hn (by rw[ho];intro k h;cases h) fun a w O θ hs=>by
  have hl:=qy hl
  subst hE
  rw[show (bv l).map (fun b=>[PV.int .u8 b])=l.map fun b=>[.int .u8 (b.toNat:Int)] by simp[bv]]
  have hsz:(⟨l.toArray⟩:ByteArray).size=l.length:=by simp[ByteArray.size]
  have hg:w.grownBy (Lib.bytesWorld w e ⟨l.toArray⟩) none:=⟨rfl,rfl,rfl,by rw[Lib.bytesWorld_size];omega,fun k hk _=>Lib.bytesWorld_at_old w e _ k hk⟩
  have hge:=grownCap_ge w l.length 0 e
  have hcm:=grownCap_le_maxLen w l.length 0 e (by unfold maxLen;omega)
  have hnO:¬ O w.heap.size:=fun h=>by have:=hs.olt _ h;omega
  have hrun:=Lib.run_convert_string_bytes w T T' e ⟨l.toArray⟩ hs0 hd0 he
  rw[hsz] at hrun
  refine⟨.slice (some ⟨w.heap.size,0,none⟩) l.length (grownCap w l.length 0 e),Lib.bytesWorld w e ⟨l.toArray⟩,O,θ,by simp[execOp,ho,wE hs hx,hrun],hs.grownNone hg,.pv _ _ ?_⟩
  have:=nT (w:=Lib.bytesWorld w e ⟨l.toArray⟩) (O:=O) (sz:=1) (rows:=l.map fun b=>[.int .u8 (b.toNat:Int)]) (us:=l.map fun b=> .int .u8 (b.toNat:Int)) (g:=w.heap.size) (cap:=grownCap w l.length 0 e) ⟨by simp,by simp,by simp[PV.one],fun i j row c u h1 h2 h3=> ?_⟩ (Lib.bytesWorld_at_new w e ⟨l.toArray⟩) (by simp[Lib.bytesCells]) hnO (by simpa using hge) hcm
  ·simpa using this
  ·rw[List.getElem?_map,Option.map_eq_some_iff] at h1
   obtain⟨b,hb,rfl⟩:=h1
   cases j with
   | zero=>
    simp at h2 h3
    obtain⟨b',hb',rfl⟩:=h3
    rw[hb] at hb';cases hb'
    subst h2
    exact .int _ _
   | succ j=>simp at h2
theorem QY {w:World} {O:Nat→Prop} {l:List Int} {v:Value} (h:Rd w O (.vs 1 (l.map fun b=>[.int .u8 b])) v):
  ∃ a cap,v= .slice a l.length cap∧(l=[]∨∃ g off,a=some ⟨g,off,none⟩∧∀ k b,l[k]? =some b→w.cell? ⟨g,off+k,none⟩=some (.int .u8 b)):=by
 generalize hr:(l.map fun b=>[PV.int .u8 b])=rows at h
 cases h with
 | vsz sz a cap h0 hm=>
  have:l=[]:=by simpa using hr
  subst this
  exact⟨a,cap,rfl,.inl rfl⟩
 | vs sz rows b off cap us h1 h2 h3 h4 h5 h6 h7 h8=>
  refine⟨some ⟨b,off,none⟩,cap,by rw[← hr];simp,.inr ⟨b,off,rfl,fun k x hk=> ?_⟩⟩
  have hrow:rows[k]? =some [.int .u8 x]:=by rw[← hr,List.getElem?_map,hk];rfl
  have hlt:k < rows.length:=(List.getElem?_eq_some_iff.1 hrow).1
  have:=h8 k 0 _ _ hrow rfl
  rw[h7 k (by omega)]
  have e:us (k * 1+0)=us k:=by simp
  rw[e] at this
  generalize us k=u at this
  cases this;rfl
theorem Lc : ∀ (l:List Int) (acc:ByteArray),l.foldl (fun r n=>r.push (UInt8.ofNat n.toNat)) acc=⟨acc.data++(mW l).toArray⟩
 | [],acc=>by simp[mW]
 | b::l,acc=>by
  rw[List.foldl_cons,Lc l]
  simp[ByteArray.push,mW]
theorem wr {T T' e:TypeId} {x:Operand} {l:List Int} {E:Int→List PV} (ho:o.op= .convert T T' x) (hx:ev s x=some (.pv (.vs 1 (l.map E)))) (hE:E=fun b=>[.int .u8 b]) (hs0:P.underlying T=some (.slice e)) (he:P.underlying e=some (.int .u8)) (hd0:P.underlying T'=some .string)
  (hd:o.dst=d) (hn:dOk s d=true):dx ro P c o s (s.put d (some (.pv (.str (mW l))))):=
 cd hd hn (by rw[ho];intro k h;cases h) fun a w O θ hs=>by
  subst hE
  obtain⟨ad,cap,hv,h⟩:=QY (rK hs hx)
  refine⟨.string ⟨(mW l).toArray⟩,?_,.pv _ _ (.str _)⟩
  have hrun:(convert T T' (.slice ad l.length cap)).run P w= .ok (.string ⟨(mW l).toArray⟩) w:=by
   rw[run_convert_bytes_string w T T' e ad l.length cap hs0 he hd0]
   rcases h with rfl | ⟨g,off,rfl,h⟩
   ·cases ad with
    | none=>simp[Conv.bytesToString,Sem.run_pure];rfl
    | some a0=>
     have:=run_bytesToString (P:=P) w a0 0 cap [] (by simp[loadCells,loadCellsFrom,Sem.run_pure])
     simp only[List.foldl_nil] at this
     exact this
   ·have h1:=run_loadCells_list (P:=P) w ⟨g,off,none⟩ (l.map fun b=>Value.int .u8 b) (fun j v hj=>by
     rw[List.getElem?_map,Option.map_eq_some_iff] at hj
     obtain⟨b,hb,rfl⟩:=hj
     have:=h j b hb
     simp only[Addr.add]
     split
     ·rename_i h0;subst h0;simpa using this
     ·simpa using this)
    rw[List.length_map] at h1
    have h2:=run_bytesToString (P:=P) w ⟨g,off,none⟩ l.length cap l (by rw[h1])
    rw[Lc] at h2
    simpa using h2
  simp[execOp,ho,hv,hrun]
end
end Go.Abs

/- Package variables: an array of known elements. -/
namespace Go.Abs
variable {G:List (Nat×List PV)}
open Go.RowKit
section
variable {ro:Option Nat} {P:Program} {c:Cx G} {s s':St} {o:Oper} {d:Option Nat}
theorem Pq {O:Nat→Prop} {θ:Nat→Option Value} {a:Act} {w:World} (hs:SimAt c s O θ a w) {g:Nat} {row:List PV} (hg:(g,row)∈G):Rd w O (.vp row) (a.eval (.global g)):=by
 have h:=c.JG hs.jn _ hg
 exact h
theorem WQ {w:World} {O:Nat→Prop} {sz b off:Nat} {α:Type} {f:α→List PV} {l:List α} {i:Int} {z:α} (h:Rd w O (.vp (l.map f).flatten) (.pointer (some ⟨b,off,none⟩))) (hf:∀ z,(f z).length=sz) (hi:idx l i=some z):
  Rd w O (.vp (f z)) (.pointer (some ⟨b,off+i.toNat * sz,none⟩)):=by
 obtain⟨i0,i1,i2⟩:=rh hi
 obtain⟨b',off',us,hv,h1,h2,h3,h4,h5⟩:=Ff h
 injection hv with hv;injection hv with hv;injection hv with e1 e2;subst e1;subst e2
 have hfl:((l.map f).flatten).length=l.length * sz:=by
  rw[nq (sz:=sz) (fun row hr=>by obtain⟨z,_,rfl⟩:=List.mem_map.1 hr;exact hf z),List.length_map]
 have hget:∀ (l:List α) (k:Nat) (z:α) (j:Nat),l[k]? =some z→j < sz→((l.map f).flatten)[k * sz+j]? =(f z)[j]? :=by
  intro l
  induction l with
  | nil=>intro k z j hk;simp at hk
  | cons x l ih=>
   intro k z j hk hj
   rw[List.map_cons,List.flatten_cons]
   cases k with
   | zero=>
    simp at hk;subst hk
    rw[Nat.zero_mul,Nat.zero_add,List.getElem?_append_left (by rw[hf];exact hj)]
   | succ k=>
    rw[List.getElem?_append_right (by rw[hf,Nat.add_mul];omega),hf]
    have:(k+1) * sz+j - sz=k * sz+j:=by rw[Nat.add_mul];omega
    rw[this]
    exact ih k z j (by simpa using hk) hj
 have hlt:i.toNat < l.length:=(List.getElem?_eq_some_iff.1 i1).1
 refine .vp _ b _ (fun j=>us (i.toNat * sz+j)) h1 h2 (fun q hq=> ?_) (fun j hj=> ?_) (fun j q hq=> ?_)
 ·refine h3 q (List.mem_flatten.2 ⟨f z,List.mem_map.2 ⟨z,List.mem_of_getElem? i1,rfl⟩,hq⟩)
 ·rw[hf] at hj
  rw[Nat.add_assoc]
  exact h4 _ (by rw[hfl];exact qV hlt hj)
 ·have hj:j < sz:=by have:=(List.getElem?_eq_some_iff.1 hq).1;rwa [hf] at this
  exact h5 _ q (by rw[hget l _ z j i1 hj];exact hq)
theorem Gm {T n e sz g:Nat} {y:Operand} {k:IntKind} {i:Int} {row:List PV} {α:Type} {l:List α} {f:α→List PV} {z:α} (ho:o.op= .indexAddr T (.global g) y) (hG:(g,row)∈G) (hy:ev s y=some (.pv (.int k i))) (ht:rp P T n e sz=true)
  (hrow:row=(l.map f).flatten) (hf:∀ z,(f z).length=sz) (hl:l.length=n) (hi:idx l i=some z) (hd:o.dst=d) (hn:dOk s d=true):
  dx ro P c o s (s.put d (some (.pv (.vp (f z))))):=
 cd hd hn (by rw[ho];intro k h;cases h) fun a w O θ hs=>by
  have hv:=Pq hs hG
  have he:a.eval (.global g)= .pointer (some ⟨g,0,none⟩):=rfl
  rw[he,hrow] at hv
  obtain⟨i0,i1,i2⟩:=rh hi
  have hm:i=((i.toNat:Nat):Int):=by omega
  have hlt:i.toNat < n:=by omega
  have hrun:=tw (P:=P) ht (k:=k) (m:=i.toNat) (by simpa [Nat.blt_eq] using hlt) w g 0
  rw[← hm] at hrun
  exact⟨.pointer (some ⟨g,0+i.toNat * sz,none⟩),by simp[execOp,ho,he,lH hs hy,hrun],.pv _ _ (WQ hv hf hi)⟩
theorem yg {T n e sz g:Nat} {row:List PV} {α:Type} {f:α→List PV} {l:List α} (ho:o.op= .slice T (.global g) none none none) (hG:(g,row)∈G)
  (ht:rp P T n e sz=true) (hrow:row=(l.map f).flatten) (hf:∀ z,(f z).length=sz) (hl:l.length=n) (hnm:Nat.ble n maxLen=true) (hd:o.dst=d) (hn:dOk s d=true):dx ro P c o s (s.put d (some (.pv (.vs sz (l.map f))))):=
 cd hd hn (by rw[ho];intro k h;cases h) fun a w O θ hs=>by
  obtain⟨i,t1,t2,t3⟩:=wo ht
  have hv:=Pq hs hG
  have he:a.eval (.global g)= .pointer (some ⟨g,0,none⟩):=rfl
  rw[he] at hv
  have hfl:((l.map f).flatten).length=n * sz:=by
   rw[nq (sz:=sz) (fun row hr=>by obtain⟨z,_,rfl⟩:=List.mem_map.1 hr;exact hf z),List.length_map,hl]
  have hv2:=RE (n:=n) (sz:=sz) hv (by rw[hrow,List.take_of_length_le (by omega)]) hf hl (Nat.le_of_ble_eq_true hnm)
  have e0:(l.map f).length=n:=by rw[List.length_map,hl]
  rw[e0] at hv2
  refine⟨.slice (some ⟨g,0,none⟩) n n,?_,.pv _ _ hv2⟩
  by_cases h0:n=0
  ·subst h0
   simp[execOp,ho,he,Instr.sliceAt,run_underlying t1,Instr.sureAddr,Instr.sliceBounds,sizeOf,typeInfo,t2,t3,Addr.add_lit]
  ·simp[execOp,ho,he,Instr.sliceAt,run_underlying t1,Instr.sureAddr,Instr.sliceBounds,sizeOf,typeInfo,t2,t3,Addr.add_lit]
end
theorem NB {w:World} {O:Nat→Prop}:GlobOk [] w O:=fun x hx=>by cases hx
theorem AU {w:World} {O:Nat→Prop} {x:Nat×List PV} {l:List (Nat×List PV)} (h:Rd w O (.vp x.2) (.pointer (some ⟨x.1,0,none⟩))) (hl:GlobOk l w O):GlobOk (x::l) w O:=fun y hy=>by
 rcases List.mem_cons.1 hy with rfl | hy
 ·exact h
 ·exact hl y hy
end Go.Abs

/- An array of a box, as a slice that is copied into. -/
namespace Go.Abs
variable {G:List (Nat×List PV)}
open Go.RowKit
section
variable {ro:Option Nat} {P:Program} {c:Cx G} {s s':St} {o:Oper} {d:Option Nat}
end
end Go.Abs

/- Functions of Go's library, by the contracts of the kit's shelf. -/
namespace Go.Abs
variable {G:List (Nat×List PV)}
open Go.RowKit
theorem xf {w w':World} (h:Below w.heap.size w w'):w.grownBy w' none:=⟨h.os,h.tape,h.output,h.size,fun k hk _=>h.block k hk⟩
theorem CY {w:World} {O:Nat→Prop} {s:List UInt8} {v:Value} (h:Rd w O (.str s) v):v= .string ⟨s.toArray⟩:=by cases h;rfl
theorem vs2 {vs:Array Value} (h:vs.size=2):∃ a b,vs= #[a,b]:=by
 obtain⟨l⟩:=vs
 match l,h with
 | [a,b],_=>exact⟨a,b,rfl⟩
def Br (xs:List (List UInt8)) (sep:List UInt8):Option (List UInt8):=if xs.length≤140737488355328∧(Lib.join xs sep).length≤140737488355328 then some (Lib.join xs sep) else none
theorem TW {P:Program} {f:Nat} (h0:∀ (a:Option Addr) (c:Nat) (sep:ByteArray) (w:World),Calls P f #[.slice a 0 c,.string sep] w fun e w'=>e= .returned (.string ⟨#[]⟩)∧w'=w)
  (h1:∀ (bk o c:Nat) (xs:List ByteArray) (sep:ByteArray) (w:World),(∀ (j:Nat) x,xs[j]? =some x→w.cell? ⟨bk,o+j,none⟩=some (.string x))→bk < w.heap.size→xs.length≤140737488355328→xs.length≤c→(Lib.join (xs.map (·.data.toList)) sep.data.toList).length≤140737488355328→
   Calls P f #[.slice (some ⟨bk,o,none⟩) xs.length c,.string sep] w fun e w'=>e= .returned (.string ⟨(Lib.join (xs.map (·.data.toList)) sep.data.toList).toArray⟩)∧Below w.heap.size w w')
  {xs:List (List UInt8)} {sep r:List UInt8} (hr:Br xs sep=some r):Fn G P f [.vs 1 (xs.map eS),.str sep] [.p (.str r)]:=by
 intro w O vs hO _ hsz hrd
 obtain⟨v0,v1,rfl⟩:=vs2 hsz
 have e0:=hrd 0 _ v0 rfl rfl
 have e1:=CY (hrd 1 _ v1 rfl rfl)
 subst e1
 unfold Br at hr
 split at hr
 ·rename_i hb
  cases hr
  rcases AJ e0 with⟨a,cap,rfl,hx,_,_⟩ | ⟨b,off,cap,us,rfl,hb1,hb2,hb3,hb4,hb5,hb6,hb7,hb8⟩
  ·have hx':xs=[]:=by simpa using hx
   subst hx'
   refine(h0 a cap _ w).mono ?_
   rintro e w' ⟨rfl,rfl⟩
   exact⟨_,O,rfl,World.grownBy.refl _ _,fun _ h=>h,Rd.str []⟩
  ·have hl:(xs.map eS).length=(xs.map fun x=>(⟨x.toArray⟩:ByteArray)).length:=by simp
   have hmm:(xs.map fun x=>(⟨x.toArray⟩:ByteArray)).map (·.data.toList)=xs:=by
    rw[List.map_map]
    refine(List.map_congr_left fun x _=> ?_).trans (List.map_id xs)
    simp
   rw[hl]
   refine(h1 b off cap (xs.map fun x=>(⟨x.toArray⟩:ByteArray)) ⟨sep.toArray⟩ w ?_ hb2 (by simpa using hb.1) (by simpa using hb3) (by rw[hmm];simpa using hb.2)).mono ?_
   ·intro j x hj
    rw[List.getElem?_map,Option.map_eq_some_iff] at hj
    obtain⟨y,hy,rfl⟩:=hj
    have hlt:j < xs.length:=(List.getElem?_eq_some_iff.1 hy).1
    rw[hb7 j (by simp;omega)]
    have:=hb8 j 0 (eS y) (.str y) (by rw[List.getElem?_map,hy];rfl) rfl
    rw[Nat.mul_one,Nat.add_zero] at this
    rw[CY this]
   ·rintro e w' ⟨rfl,hB⟩
    refine⟨_,O,rfl,xf hB,fun _ h=>h,?_⟩
    rw[hmm]
    exact Rd.str _
 ·cases hr
end Go.Abs

/- A row of the call's own, cut short; zeros behind nil; what a nil slice has room for. -/
namespace Go.Abs
variable {G:List (Nat×List PV)}
open Go.RowKit
section
variable {ro:Option Nat} {P:Program} {c:Cx G} {s s':St} {o:Oper} {d:Option Nat}
theorem Je (kk:Nat) (hk:jf s kk=true) {T e sz:Nat} {x y:Operand} {k:IntKind} {n:Int} {id:Nat} {rows rows':List (List PV)} (ho:o.op= .slice T x none (some y) none) (hx:ev s x=some (.ls id)) (hb:look id s.hp=some (.row e sz rows)) (hy:ev s y=some (.pv (.int k n)))
  (ht:sliceB P T e sz=true) (hr:jG rows 0 n=some rows') (hd:o.dst=d) (hn:dOk s d=true):dx ro P c o s ((s.addAt kk (some id) (.row e sz rows')).put d (some (.ls kk))):=
 qX (s1:=s.addAt kk (some id) (.row e sz rows')) hd hn (by rw[ho];intro k h;cases h) fun a w O θ hs=>by
  obtain⟨q0,q1,q2,rfl⟩:=uq hr
  obtain⟨i,h1,h2,h3⟩:=jQ ht
  have h:=iO hs hx
  have hi:=lH hs hy
  generalize ha:a.eval x=u at h
  cases h with
  | ls _ _ h=>
   obtain⟨v',hv',⟨us,hown,hrd⟩,hO2⟩:=hs.hp id _ hb
   rw[h] at hv';cases hv'
   have hl:((rows.take n.toNat).drop (0:Int).toNat).length=n.toNat:=by simp;omega
   have hrw:(rows.take n.toNat).drop (0:Int).toNat=rows.take n.toNat:=by simp
   have hrd2:RowsRd w O sz (rows.take n.toNat) (us.take (n.toNat * sz)):=by
    refine⟨?_,fun row hr=>hrd.hz row (List.mem_of_mem_take hr),fun row hr=>hrd.one row (List.mem_of_mem_take hr),fun i j row x u h1 h2 h3=> ?_⟩
    ·have:n.toNat * sz≤rows.length * sz:=Nat.mul_le_mul_right _ (by omega)
     rw[List.length_take,List.length_take,hrd.len,Nat.min_eq_left this,Nat.min_eq_left (by omega)]
    ·rw[List.getElem?_take] at h1 h3
     split at h1
     ·split at h3
      ·exact hrd.rd i j row x u h1 h2 h3
      ·cases h3
     ·cases h1
   have key:∃ v,(execOp a.eval o).run P w= .ok (.value v) w∧bT v=bT u∧v.oneCell'=true∧ownsW w e sz v n.toNat (us.take (n.toNat * sz)):=by
    have htl:(us.take (n.toNat * sz)).length=n.toNat * sz:=by
     have:n.toNat * sz≤rows.length * sz:=Nat.mul_le_mul_right _ (by omega)
     rw[List.length_take,hown.1,Nat.min_eq_left this]
    rcases hown.2 with⟨rfl,h6⟩ | ⟨g,cap,cur,rfl,_,hg,hnc,hcm,hcs,htk⟩
    ·have hn0:n=0:=by omega
     subst hn0
     have b1:=cu (P:=P) (w:=w) (k:=k) (n:=0) (y:=0) (code:= .sliceAcap) (by omega) (by omega)
     refine⟨.slice none 0 0,?_,rfl,rfl,?_⟩
     ·simp[execOp,ho,ha,hi,Instr.sliceAt,run_underlying h1,Instr.slice,Instr.sliceBounds,sizeOf,typeInfo,h2,h3,b1]
     ·have:us.take ((0:Int).toNat * sz)=[]:=by simp
      rw[this]
      exact xF w e sz
    ·have b1:=cu (P:=P) (w:=w) (k:=k) (n:=n) (y:=cap) (code:= .sliceAcap) (by omega) (by omega)
     refine⟨.slice (some ⟨g,0,none⟩) n.toNat cap,?_,rfl,rfl,htl,.inr ⟨g,cap,cur,rfl,trivial,hg,by omega,hcm,hcs,?_⟩⟩
     ·by_cases hc0:cap=0
      ·subst hc0
       simp[execOp,ho,ha,hi,Instr.sliceAt,run_underlying h1,Instr.slice,Instr.sliceBounds,sizeOf,typeInfo,h2,h3,b1,Addr.add_lit]
      ·simp[execOp,ho,ha,hi,Instr.sliceAt,run_underlying h1,Instr.slice,Instr.sliceBounds,sizeOf,typeInfo,h2,h3,b1,Addr.add_lit]
     ·rw[← htk,List.take_take,Nat.min_eq_left (Nat.mul_le_mul_right _ (by omega))]
   obtain⟨v,hrun,hbv,hone,hown2⟩:=key
   have hg:=World.grownBy.refl w (bT u)
   obtain⟨O',θ',h4,h5,h6,h7⟩:=hs.addAt (w':=w) (row:=bT u) (v:=v) (b:= .row e sz ((rows.take n.toNat).drop (0:Int).toNat)) kk hk (some id)
    (fun A' e=>by cases e;exact⟨_,_,hb,h,rfl⟩) (fun e=>by cases e) hg
    (fun g hg'=>by rw[hbv] at hg';exact⟨(hO2 g hg').2.1,.inr hg'⟩) hone (fun O' θ' hO' hθ'=>by
     rw[hrw]
     refine⟨us.take (n.toNat * sz),by rw[← hrw,hl];exact hown2,hrd2.mono (Nat.le_refl _) fun b hb1 hb2=>⟨fun hh=> ?_,rfl⟩⟩
     rcases(hO' b).1 hh with hh | hh
     ·exact hb2 hh
     ·rw[hbv] at hh;exact hb2 (hO2 b hh).1)
   exact⟨v,w,O',θ',hrun,h7,.ls _ _ h6⟩
end
end Go.Abs
namespace Go.Abs
end Go.Abs
namespace Go.Abs
variable {G:List (Nat×List PV)}
open Go.RowKit
section
variable {ro:Option Nat} {P:Program} {c:Cx G} {s s':St} {o:Oper} {d:Option Nat}
theorem Uy {T e sz:Nat} {us0:Array Value} {z:Value} {zs:List PV} {rows:List (List PV)} (ho:o.op= .buildSlice T 1 #[(0,.const (.agg us0))]) (ht:sliceB P T e sz=true) (hz:dd P e z) (hzs:czs z.cells.toList zs) (hz0:czs us0.toList zs)
  (hzl:zs.length=sz) (hsz:Nat.blt 0 sz=true) (hlen:Nat.ble (1 * sz) 16777216=true) (hf:nK [(0,sz)] (zs++[]) [(0,.pv (.agg zs))]=some (zs++[])) (he:rows=[zs])
  (hd:o.dst=d) (hn:dOk s d=true):dx ro P c o s (s.put d (some (.pv (.vs sz rows)))):=by
 subst he
 refine TU (parts:=[(0,.const (.agg us0))]) (xs:=[(0,.pv (.agg zs))]) (z:=z) (zs:=zs) ho rfl ht hz hzs hzl hsz hlen (fun a w O θ hs=>⟨rfl,.pv _ _ ?_,trivial⟩) ?_ (by simp[hzl]) hd hn
 ·have h1:=zV (w:=w) (O:=O) (vk hz0)
  rw[show us0.toList.toArray=us0 by simp] at h1
  exact h1
 ·simpa using hf
end
end Go.Abs
namespace Go.Abs
theorem WN {α:Type} {f:α→List PV} {g:List α→List (List PV)} (hm:∀ l,g l=l.map f) {xs r:List α} {lo hi:Int} (e:jG xs lo hi=some r):jG (g xs) lo hi=some (g r):=by rw[hm,hm];exact Mq f e
end Go.Abs

/- A box that holds a function which holds that box: a function that calls itself by its own variable. -/
namespace Go.Abs
variable {G:List (Nat×List PV)}
open Go.RowKit
end Go.Abs

/- Calls that hand back a pointer into the caller's box; the complement of a number. -/
namespace Go.Abs
variable {G:List (Nat×List PV)}
open Go.RowKit
section
variable {ro:Option Nat} {P:Program} {c:Cx G} {s s':St} {o:Oper} {d:Option Nat}
end
end Go.Abs

/- Texts that are built piece by piece: strings.Builder. -/
namespace Go.Abs
variable {G:List (Nat×List PV)}
open Go.RowKit
section
variable {P:Program}
theorem BH {w:World} {t u ty e:TypeId} {i:TypeInfo} (ht:P.underlying t=some (.slice e)) (hu:P.underlying u=some .string) (hi:P.info? e=some i) (hz:i.zero=some (.int .u8 0))
  (hsize:i.size=1) (hby:i.bytes=1) {v:Value} {n:Nat} {xs:List Value} (hown:ownsW w e 1 v n xs) (s:ByteArray) (hbytes:n+s.size≤140737488355328):
  ∃ v' w',(Builtin.append_ #[t,u] ty #[v,.string s]).run P w= .ok v' w'∧ownsW w' e 1 v' (n+s.size) (xs++Lib.strCells s)∧w.grownBy w' (bT v)∧(bT v'=bT v∨bT v'=some w.heap.size):=by
 have h0:n+s.size≤maxLen:=by unfold maxLen;omega
 have hsmall:n+s.size≤9223372036854775807:=by omega
 have hxl:xs.length=n:=by simpa using hown.1
 have hlen:(xs++Lib.strCells s).length=(n+s.size) * 1:=by rw[List.length_append,hxl,Lib.strCells_length,Nat.mul_one]
 rcases hown.2 with⟨rfl,rfl⟩ | ⟨g,cap,cur,rfl,_,hg,hnc,hcm,hcs,htake⟩
 ·have hx:xs=[]:=List.eq_nil_of_length_eq_zero hxl
  subst hx
  obtain⟨v',w',h1,h2,h3,h4⟩:=Lib.run_append_own_string (P:=P) w 0 t u ty e i ht hu hi hz hsize hby (.slice none 0 0) 0 [] (World.ownsRow_nil w 0 e 1) s h0 hbytes (Nat.zero_le _)
  refine⟨v',w',h1,?_,h3,?_⟩
  ·refine⟨h2.1,?_⟩
   rcases h2.2 with h | ⟨g,cap,cur,r1,_,r2,r3,r4,r5,r6⟩
   ·exact .inl h
   ·exact .inr ⟨g,cap,cur,r1,trivial,r2,r3,r4,by omega,r6⟩
  ·rcases h2.2 with⟨rfl,_⟩ | ⟨g,cap,cur,rfl,_,r2,_⟩
   ·exact .inl rfl
   ·by_cases hm:s.size=0
    ·exact absurd (h4.2 ⟨rfl,hm⟩) (by simp)
    ·right
     have hr:=Go.run_append_nil_string (P:=P) w t u ty e i (.int .u8 0) ht hu hi hz s (by omega) (by omega) (by rw[hby];omega)
     rw[h1] at hr
     injection hr with hr1 hr2
     injection hr1 with hr3 hr4
     rw[hr3];rfl
 ·by_cases hroom:n+s.size≤cap
  ·have hcs':cap≤cur.size:=by simpa using hcs
   have hr:=Lib.run_append_room_string (P:=P) w t u ty e i ht hu hi hsize g n cap cur hg s hroom (by omega)
   refine⟨_,_,hr,⟨hlen,.inr ⟨g,cap,_,rfl,trivial,setRow_heap w g cur _ e _ hg,hroom,hcm,?_,?_⟩⟩,⟨rfl,rfl,rfl,by simp,fun k _ hk=>setRow_other w g k _ (fun e=>hk (by simp[bT,e]))⟩,.inl rfl⟩
   ·simp only[List.size_toArray,List.length_append,List.length_take,List.length_drop,Array.length_toList,Lib.strCells_length]
    omega
   ·have ht':cur.toList.take n=xs:=by simpa using htake
    rw[ht',← hlen]
    exact List.take_left
  ·have holds:∀ j u,xs[j]? =some u→w.cell? ((⟨g,0,none⟩:Addr).add j)=some u:=hown.cells (g:=g) rfl
   have hr:=Lib.run_append_grow_string (P:=P) w t u ty e i (.int .u8 0) ht hu hi hz ⟨g,0,none⟩ n cap xs (by rw[hsize];simpa using hxl) holds s (by omega) (by omega) (by rw[hby];exact growslice_fits (by omega) (by omega))
   have hge:=grownCap_ge w (n+s.size) cap e
   have hcm2:grownCap w (n+s.size) cap e≤maxLen:=grownCap_le_maxLen w (n+s.size) cap e h0
   refine⟨_,_,hr,⟨hlen,.inr ⟨w.heap.size,_,_,rfl,trivial,heap_alloc_new w.drew _,hge,hcm2,?_,?_⟩⟩,⟨rfl,rfl,rfl,by simp,fun k hk _=>Lib.alloc_old w.drew _ k hk⟩,.inr rfl⟩
   ·have hz1:(Value.int IntKind.u8 0).cells.size=1:=rfl
    simp only[Array.size_append,List.size_toArray,size_zeroCells,hz1,hxl,Lib.strCells_length]
    omega
   ·simp only[Array.toList_append,List.append_assoc]
    rw[← List.append_assoc,← hlen]
    exact List.take_left
theorem sO {w:World} {ops:Array Oper} {rest:List Oper} {o:Oper} {a:Act} {Q:Exit→Act→World→Prop} (hgd:o.guard=none) (sl x:Operand) (t u:TypeId)
  (ho:o.op= .call { callee:= .builtin .append,args:= #[sl,x],argTypes:= #[t,u] }) (e:TypeId) (i:TypeInfo) (ht:P.underlying t=some (.slice e)) (hu:P.underlying u=some .string) (hi:P.info? e=some i)
  (hz:i.zero=some (.int .u8 0)) (hsize:i.size=1) (hby:i.bytes=1) (v:Value) (n:Nat) (xs:List Value) (hs:a.eval sl=v) (hown:ownsW w e 1 v n xs) (s:ByteArray) (hx:a.eval x= .string s)
  (hbytes:n+s.size≤140737488355328)
  (h:∀ v' w',ownsW w' e 1 v' (n+s.size) (xs++Lib.strCells s)→w.grownBy w' (bT v)→(bT v'=bT v∨bT v'=some w.heap.size)→wpList P ops Q rest (a.put o.dst v') w'):wpList P ops Q (o::rest) a w:=by
 refine wpList_plain hgd fun K hK=> ?_
 obtain⟨v',w',hr,h2,h3,h4⟩:=BH (ty:=o.type) ht hu hi hz hsize hby hown s hbytes
 unfold Oper.wp execOp
 simp only[ho,resolve,invoke,builtin,Sem.run_bind,Sem.run_pure,Result.andThen_ok,List.map_toArray,List.map_cons,List.map_nil,hs,hx,hr]
 exact hK _ _ (h v' w' h2 h3 h4)
theorem sx {w:World} {ops:Array Oper} {rest:List Oper} {o:Oper} {a:Act} {Q:Exit→Act→World→Prop} (hgd:o.guard=none) (sl x:Operand) (t:TypeId)
  (ho:o.op= .call { callee:= .builtin .append,args:= #[sl,x],argTypes:= #[t,t] }) (e:TypeId) (i:TypeInfo) (ht:P.underlying t=some (.slice e)) (hi:P.info? e=some i)
  (hz:i.zero=some (.int .u8 0)) (hsize:i.size=1) (hby:i.bytes=1) (v:Value) (n:Nat) (xs:List Value) (hs:a.eval sl=v) (hown:ownsW w e 1 v n xs) (ad:Addr) (c:Int) (hx:a.eval x= .slice (some ad) 1 1)
  (hnews:∀ j u,[Value.int .u8 c][j]? =some u→w.cell? (ad.add j)=some u) (hbytes:n+1≤140737488355328)
  (h:∀ v' w',ownsW w' e 1 v' (n+1) (xs++[.int .u8 c])→w.grownBy w' (bT v)→(bT v'=bT v∨bT v'=some w.heap.size)→wpList P ops Q rest (a.put o.dst v') w'):wpList P ops Q (o::rest) a w:=by
 refine wpList_plain hgd fun K hK=> ?_
 obtain⟨v',w',hr,h2,h3,h4⟩:=vo (ty:=o.type) ht hi hz hsize hby rfl hown ad 1 1 [.int .u8 c] rfl hnews (by intro u hu;simp at hu;subst hu;rfl) (by unfold maxLen;omega) (by omega)
 unfold Oper.wp execOp
 simp only[ho,resolve,invoke,builtin,Sem.run_bind,Sem.run_pure,Result.andThen_ok,List.map_toArray,List.map_cons,List.map_nil,hs,hx,hr]
 exact hK _ _ (h v' w' h2 h3 h4)
end
theorem ownsW.kept {w w':World} {e:TypeId} {sz n:Nat} {v:Value} {xs:List Value} {row:Option Nat} (h:ownsW w e sz v n xs) (hg:w.grownBy w' row) (hne:∀ g,bT v=some g→some g≠row):ownsW w' e sz v n xs:=by
 refine⟨h.1,?_⟩
 rcases h.2 with hn | ⟨g,cap,cur,rfl,_,hgg,rest⟩
 ·exact .inl hn
 ·refine .inr ⟨g,cap,cur,rfl,trivial,?_,rest⟩
  rw[hg.block g (Array.getElem?_eq_some_iff.1 hgg).1 (hne g rfl)]
  exact hgg
structure BldFr (b:Nat) (v:Value) (w w':World):Prop where
 os:w'.os=w.os
 tape:w'.tape=w.tape
 output:w'.output=w.output
 size:w.heap.size≤w'.heap.size
 block:∀ k,k < w.heap.size→k≠b→bT v≠some k→w'.heap[k]? =w.heap[k]?
theorem MN (b:Nat) (v:Value) (w:World):BldFr b v w w.drew:=⟨rfl,rfl,rfl,Nat.le_refl _,fun _ _ _ _=>rfl⟩
theorem Bl (b:Nat) (v:Value) (w:World) (o:Obj):BldFr b v w (w.drew.alloc o):=⟨rfl,rfl,rfl,by show w.heap.size≤(w.heap.push o).size;simp,fun k hk _ _=>Lib.alloc_old w.drew o k hk⟩
theorem za (b:Nat) (v:Value) (w:World) (o:Obj):BldFr b v w (w.alloc o).drew:=⟨rfl,rfl,rfl,by show w.heap.size≤(w.heap.push o).size;simp,fun k hk _ _=>Lib.alloc_old w.drew o k hk⟩
theorem zQ {b g:Nat} {v:Value} (w:World) (n off:Nat) (h:bT v=some g):BldFr b v w (w.drew.freeze ⟨g,off,none⟩ n):=by
 unfold World.freeze
 split
 ·exact MN b v w
 ·exact⟨rfl,rfl,rfl,by show w.heap.size≤(w.heap.modify _ _).size;simp,fun k hk _ h2=>by
   simp only[Array.getElem?_modify]
   rw[if_neg (by intro e;exact h2 (by rw[h,e]))];rfl⟩
theorem E8 {w:World} {b j:Nat} {p v u:Value} {T:TypeId} (h:w.heap[b]? =some (.cells #[p,v] T (0,0))):(w.setCell ⟨b,1,none⟩ u).heap[b]? =some (.cells #[p,u] T (0,0)):=by
 simp[World.setCell,Array.getElem?_modify,h]
theorem mw (w:World) (b j:Nat) (u:Value):w.grownBy (w.setCell ⟨b,j,none⟩ u) (some b):=⟨rfl,rfl,rfl,by simp[World.setCell],fun k _ hk=>Below.heap_setCell _ _ _ _ (fun e=>hk (by simp[e]))⟩
theorem KF {w:World} {b:Nat} {p v u:Value} {T:TypeId} (h:w.heap[b]? =some (.cells #[p,v] T (0,0))):(w.setCell ⟨b,0,none⟩ u).heap[b]? =some (.cells #[u,v] T (0,0)):=by
 simp[World.setCell,Array.getElem?_modify,h]
theorem od {w:World} {e T:TypeId} {sz n b:Nat} {v:Value} {xs:List Value} {cs:Array Value} (h:ownsW w e sz v n xs) (hb:w.heap[b]? =some (.cells cs T (0,0))) (hne:T≠e):bT v≠some b:=by
 rcases h.2 with⟨rfl,_⟩ | ⟨g,cap,cur,rfl,_,hg,_⟩
 ·simp[bT]
 ·intro h1
  simp only[bT,Option.some.injEq] at h1
  subst h1
  rw[hg] at hb
  simp only[Option.some.injEq,Obj.cells.injEq] at hb
  exact hne hb.2.1.symm
theorem OM {w:World} {O:Nat→Prop}:∀ {x:List Int} {us:List Value},RowsRd w O 1 (x.map fun b=>[PV.int .u8 b]) us→us=x.map (.int .u8):=by
 intro x us h
 have hl:us.length=x.length:=by have:=h.len;simpa using this
 apply List.ext_getElem?
 intro j
 by_cases hj:j < x.length
 ·have hu:us[j]? =some us[j]:=List.getElem?_eq_getElem (by omega)
  have:=h.rd j 0 [PV.int .u8 x[j]] (PV.int .u8 x[j]) us[j] (by rw[List.getElem?_map,List.getElem?_eq_getElem hj];rfl) rfl (by simp)
  rw[hu,List.getElem?_map,List.getElem?_eq_getElem hj]
  generalize us[j]=z at this
  cases this
  rfl
 ·rw[List.getElem?_eq_none (by omega),List.getElem?_eq_none (by simp;omega)]
theorem Oi (w:World) (O:Nat→Prop) (x:List Int):RowsRd w O 1 (x.map fun b=>[PV.int .u8 b]) (x.map (.int .u8)) where
 len:=by simp
 hz:=fun row hr=>by obtain⟨b,_,rfl⟩:=List.mem_map.1 hr;rfl
 one:=fun row hr c hc=>by obtain⟨b,_,rfl⟩:=List.mem_map.1 hr;simp at hc;subst hc;rfl
 rd:=fun i j row c u h1 h2 h3=>by
  rw[List.getElem?_map,Option.map_eq_some_iff] at h1
  obtain⟨b,hb,rfl⟩:=h1
  cases j with
  | succ j=>simp at h2
  | zero=>
   simp at h2
   subst h2
   rw[Nat.mul_one,Nat.add_zero,List.getElem?_map,hb] at h3
   cases h3
   exact .int _ _
structure BldAt (w:World) (O:Nat→Prop) (θ:Nat→Option Value) (B:TypeId) (x:List Int) (g:Nat) (p v:Value):Prop where
 t0:θ 0=some (.pointer (some ⟨g,0,none⟩))
 t1:θ 1=some v
 heap:w.heap[g]? =some (.cells #[p,v] B (0,0))
 self:p= .pointer none∨p= .pointer (some ⟨g,0,none⟩)
 own:ownsW w 5 1 v x.length (x.map (.int .u8))
 og:O g
 ov:∀ k,bT v=some k→O k∧k < w.heap.size
theorem Lm {w:World} {O:Nat→Prop} {θ:Nat→Option Value} {B:TypeId} {x:List Int} (h:PreW w O θ [(0,some (.box B [.bp 0,.ls 1])),(1,some (.row 5 1 (x.map fun b=>[PV.int .u8 b])))] 2):∃ g p v,BldAt w O θ B x g p v:=by
 obtain⟨v0,h0,⟨g,us,rfl,hg,hs,hc⟩,ho⟩:=h.own 0 _ rfl
 obtain⟨v1,h1,⟨us1,hw,hr⟩,ho1⟩:=h.own 1 _ rfl
 obtain⟨p,v,rfl⟩:=vs2 hs
 have e0:=(hc 0 _ p rfl rfl).1
 have e1:=(hc 1 _ v rfl rfl).1
 have hv:v=v1:=by
  cases e1 with
  | ls _ _ h=>rw[h1] at h;cases h;rfl
 subst hv
 refine⟨g,p,v,h0,h1,hg,?_,?_,(ho g rfl).1,ho1⟩
 ·cases e0 with
  | bp0 _=>exact .inl rfl
  | bp1 _ g' h=>rw[h0] at h;cases h;exact .inr rfl
 ·have:=OM hr
  rw[← this]
  simpa using hw
theorem PH {P:Program} {f B:Nat} (hB:B≠5) (xa:AV) (xv:Value) (hx:∀ (w:World) (O:Nat→Prop) (θ:Nat→Option Value) v,RdA w O θ xa v→v=xv) (news:List Int) (rs:List AV) (res:Value)
  (hres:∀ (w:World) (O:Nat→Prop) (θ:Nat→Option Value),RdA w O θ (NI rs) res)
  (raw:∀ (b n:Nat) (p v:Value) (xs:List Value) (w:World),w.heap[b]? =some (.cells #[p,v] B (0,0))→(p= .pointer none∨p= .pointer (some ⟨b,0,none⟩))→ownsW w 5 1 v n xs→n+news.length≤140737488355328→
   Calls P f #[.pointer (some ⟨b,0,none⟩),xv] w fun e w'=>e= .returned res∧∃ v',w'.heap[b]? =some (.cells #[.pointer (some ⟨b,0,none⟩),v'] B (0,0))∧ownsW w' 5 1 v' (n+news.length) (xs++news.map (.int .u8))∧
    (bT v'=bT v∨∃ g,bT v'=some g∧w.heap.size≤g)∧BldFr b v w w') {x:List Int} (hlen:x.length+news.length≤140737488355328):
  FnW G P f [.lp 0 0,xa] [(0,some (.box B [.bp 0,.ls 1])),(1,some (.row 5 1 (x.map fun b=>[PV.int .u8 b])))] 2 [(0,0)] rs [(0,some (.box B [.bp 0,.ls 1])),(1,some (.row 5 1 ((x++news).map fun b=>[PV.int .u8 b])))] 2:=by
 intro w O θ vs hO _ hpre hsz hrd
 obtain⟨g,p,v,hb⟩:=Lm hpre
 obtain⟨a0,a1,rfl⟩:=vs2 hsz
 have e0:=hrd 0 _ a0 rfl rfl
 have e1:=hx _ _ _ _ (hrd 1 _ a1 rfl rfl)
 subst e1
 have ha0:a0= .pointer (some ⟨g,0,none⟩):=by
  cases e0 with
  | lp _ _ g' h=>rw[hb.t0] at h;cases h;rfl
 subst ha0
 refine(raw g x.length p v _ w hb.heap hb.self hb.own hlen).mono ?_
 rintro e w' ⟨rfl,v',hh,hown,hblk,hfr⟩
 have hgl:g < w.heap.size:=(Array.getElem?_eq_some_iff.1 hb.heap).1
 have hnv':bT v'≠some g:=od hown hh hB
 have hv'lt:∀ k,bT v'=some k→k < w'.heap.size:=by
  intro k hk
  rcases hown.2 with⟨rfl,_⟩ | ⟨g',cap,cur,rfl,_,hg',_⟩
  ·simp[bT] at hk
  ·simp only[bT,Option.some.injEq] at hk
   subst hk
   exact(Array.getElem?_eq_some_iff.1 hg').1
 have hv'one:v'.oneCell'=true:=by
  rcases hown.2 with⟨rfl,_⟩ | ⟨g',cap,cur,rfl,_,_⟩<;>rfl
 have hH0:pu [(0,some (.box B [.bp 0,.ls 1])),(1,some (.row 5 1 (x.map fun b=>[PV.int .u8 b])))] θ g:=⟨0,_,_,rfl,hb.t0,rfl⟩
 have hH1:∀ k,bT v=some k→pu [(0,some (.box B [.bp 0,.ls 1])),(1,some (.row 5 1 (x.map fun b=>[PV.int .u8 b])))] θ k:=fun k hk=>⟨1,_,_,rfl,hb.t1,hk⟩
 refine⟨res,fun k=>O k∨bT v'=some k,fun i=>if i=0 then some (.pointer (some ⟨g,0,none⟩)) else if i=1 then some v' else none,rfl,⟨hfr.os,hfr.tape,hfr.output,hfr.size,fun k hk hn=>hfr.block k hk (fun e=>hn (e ▸ hH0)) (fun e=>hn (hH1 k e))⟩,
  fun k hk _=> .inl hk,?_,?_,?_,?_,?_,hres _ _ _⟩
 ·rintro k (hk | hk)
  ·exact Nat.lt_of_lt_of_le (hO k hk) hfr.size
  ·exact hv'lt k hk
 ·rintro k (hk | hk) hlt
  ·exact hk
  ·rcases hblk with h | ⟨g',h,hge⟩
   ·exact(hb.ov k (by rw[← h];exact hk)).1
   ·rw[hk] at h;cases h;omega
 ·refine⟨fun id bk hid=> ?_,fun i j bi bj vi vj k hi hj h1 h2 h3 h4=> ?_,fun id v2 hv=> ?_,fun id v2 hv=> ?_⟩
  ·by_cases h0:id=0
   ·subst h0
    cases hid
    refine⟨_,rfl,⟨g,#[.pointer (some ⟨g,0,none⟩),v'],rfl,hh,rfl,fun j c u hc hu=> ?_⟩,fun k hk=> ?_⟩
    ·match j,hc,hu with
     | 0,hc,hu=>cases hc;cases hu;exact⟨.bp1 0 g rfl,rfl⟩
     | 1,hc,hu=>cases hc;cases hu;exact⟨.ls 1 _ rfl,hv'one⟩
    ·cases hk;exact⟨.inl hb.og,Nat.lt_of_lt_of_le hgl hfr.size⟩
   ·by_cases h1:id=1
    ·subst h1
     cases hid
     refine⟨v',rfl,⟨(x++news).map (.int .u8),?_,Oi _ _ _⟩,fun k hk=>⟨.inr hk,hv'lt k hk⟩⟩
     rw[List.length_map,List.length_append,List.map_append]
     exact hown
    ·simp[look,Nat.beq_eq,h0,h1,Ne.symm h0,Ne.symm h1] at hid
     cases id with
     | zero=>exact absurd rfl h0
     | succ id=>cases id with
      | zero=>exact absurd rfl h1
      | succ id=>simp[Nat.beq] at hid
  ·have hi2:∀ (i:Nat) (b:Blk),look i ([(0,some (.box B [.bp 0,.ls 1])),(1,some (.row 5 1 ((x++news).map fun b=>[PV.int .u8 b])))]:List (Nat×Option Blk))=some b→i=0∨i=1:=by
    intro i b hi
    cases i with
    | zero=>exact .inl rfl
    | succ i=>cases i with
     | zero=>exact .inr rfl
     | succ i=>simp[look,Nat.beq] at hi
   rcases hi2 i bi hi with rfl | rfl<;>rcases hi2 j bj hj with rfl | rfl
   ·rfl
   ·cases h1;cases h2;cases h3;exact absurd h4 hnv'
   ·cases h1;cases h2;cases h4;exact absurd h3 hnv'
   ·rfl
  ·show id < 2
   by_cases h0:id=0
   ·omega
   ·by_cases h1:id=1
    ·omega
    ·simp[h0,h1] at hv
  ·by_cases h0:id=0
   ·subst h0;cases hv;rfl
   ·by_cases h1:id=1
    ·subst h1;cases hv;exact hv'one
    ·simp[h0,h1] at hv
 ·rintro k ⟨id,bk,v2,h1,h2,h3⟩
  by_cases h0:id=0
  ·subst h0;cases h2;cases h3;exact .inl hH0
  ·by_cases h1':id=1
   ·subst h1'
    cases h2
    rcases hblk with h | ⟨g',h,hge⟩
    ·exact .inl (hH1 k (by rw[← h];exact h3))
    ·rw[h3] at h;cases h;exact .inr hge
   ·simp[h0,h1'] at h2
 ·intro ij hij
  simp at hij
  subst hij
  simp[hb.t0]
def Gv (x:List Int):Option (List UInt8):=if x=bv (mW x) then some (mW x) else none
theorem Fe (l:List UInt8):Gv (bv l)=some l:=by
 have h:mW (bv l)=l:=by
  unfold mW bv
  rw[List.map_map]
  conv=>rhs;rw[← List.map_id l]
  apply List.map_congr_left
  intro b _
  simp
 unfold Gv
 rw[h,if_pos rfl]
theorem SG {P:Program} {f B:Nat} (raw:∀ (b:Nat) (p v:Value) (l:List UInt8) (w:World),w.heap[b]? =some (.cells #[p,v] B (0,0))→ownsW w 5 1 v l.length (Lib.byteCells l)→
   Calls P f #[.pointer (some ⟨b,0,none⟩)] w fun e w'=>e= .returned (.string ⟨l.toArray⟩)∧BldFr b v w w') {x:List Int} {s:List UInt8} (hs:Gv x=some s):
  FnW G P f [.lp 0 0] [(0,some (.box B [.bp 0,.ls 1])),(1,some (.row 5 1 (x.map fun b=>[PV.int .u8 b])))] 2 [] [.pv (.str s)] [] 0:=by
 intro w O θ vs hO _ hpre hsz hrd
 obtain⟨g,p,v,hb⟩:=Lm hpre
 have hx:x=bv s:=by
  unfold Gv at hs
  split at hs
  ·rename_i h;cases hs;exact h
  ·cases hs
 have hown:=hb.own
 have hlx:x.length=s.length:=by rw[hx];simp[bv]
 have hc:x.map (.int .u8)=Lib.byteCells s:=by rw[hx];simp[bv,Lib.byteCells]
 rw[hlx,hc] at hown
 obtain⟨a0,rfl⟩:∃ a0,vs= #[a0]:=by
  obtain⟨l⟩:=vs
  match l,hsz with
  | [a],_=>exact⟨a,rfl⟩
 have e0:=hrd 0 _ a0 rfl rfl
 have ha0:a0= .pointer (some ⟨g,0,none⟩):=by
  cases e0 with
  | lp _ _ g' h=>rw[hb.t0] at h;cases h;rfl
 subst ha0
 refine(raw g p v s w hb.heap hown).mono ?_
 rintro e w' ⟨rfl,hfr⟩
 refine⟨_,O,fun _=>none,rfl,⟨hfr.os,hfr.tape,hfr.output,hfr.size,fun k hk hn=>hfr.block k hk (fun e=>hn (e ▸ ⟨0,_,_,rfl,hb.t0,rfl⟩)) (fun e=>hn ⟨1,_,_,rfl,hb.t1,e⟩)⟩,
  fun k hk _=>hk,fun k hk=>Nat.lt_of_lt_of_le (hO k hk) hfr.size,fun k hk _=>hk,⟨fun id b h=>(by simp[look] at h),fun i j bi bj vi vj k hi=>(by simp[look] at hi),fun id v h=>(by cases h),fun id v h=>(by cases h)⟩,
  fun k ⟨id,b,v,h,_⟩=>(by simp[look] at h),fun ij h=>(by cases h),.pv _ _ (.str _)⟩
theorem Si {c:Cx G} {s:St} (id:Nat) {t:TypeId} {cells:List AV} (hb:look id s.hp=some (.box t (.pv .nilp::cells))):Imp c s (s.setBlk id (some (.box t (.bp id::cells)))):=by
 rintro a w ⟨O,θ,h⟩
 refine⟨O,θ,?_⟩
 obtain⟨v,hv,hbk,_⟩:=h.hp id _ hb
 refine h.upd (w':=w) hb hv (World.grownBy.refl _ _) ?_
 obtain⟨g,us,rfl,h1,h2,h3⟩:=hbk
 refine⟨g,us,rfl,h1,by simpa using h2,fun j x u hx hu=> ?_⟩
 cases j with
 | zero=>
  simp at hx
  subst hx
  have:=(h3 0 _ u rfl hu)
  refine⟨?_,this.2⟩
  cases this.1 with
  | pv _ _ hp=>cases hp;exact .bp0 _
 | succ j=>exact h3 (j+1) x u (by simpa using hx) hu
end Go.Abs

/- Values that hold rows of the call's own among their cells. -/
namespace Go.Abs
variable {G:List (Nat×List PV)}
open Go.RowKit
structure ReadsA (w:World) (O:Nat→Prop) (θ:Nat→Option Value) (us:List Value) (cells:List AV):Prop where
 len:us.length=cells.length
 one:∀ (j:Nat) (u:Value),us[j]? =some u→u.oneCell'=true
 rd:∀ (j:Nat) (c:AV) (u:Value),cells[j]? =some c→us[j]? =some u→RdA w O θ c u
theorem ReadsA.agg {w:World} {O:Nat→Prop} {θ:Nat→Option Value} {us:List Value} {cells:List AV} (h:ReadsA w O θ us cells):RdA w O θ (.agg cells) (.agg us.toArray):=
 .agg _ _ (by simpa using h.len) (fun j u hu=>h.one j u (by simpa using hu)) (fun j c u hc hu=>h.rd j c u hc (by simpa using hu))
theorem ReadsA.cut {w:World} {O:Nat→Prop} {θ:Nat→Option Value} {us:List Value} {cells:List AV} (h:ReadsA w O θ us cells) (k n:Nat):ReadsA w O θ ((us.drop k).take n) ((cells.drop k).take n) where
 len:=by rw[List.length_take,List.length_take,List.length_drop,List.length_drop,h.len]
 one:=fun j u hu=>by
  rw[List.getElem?_take] at hu
  split at hu
  ·rw[List.getElem?_drop] at hu;exact h.one _ u hu
  ·cases hu
 rd:=fun j c u hc hu=>by
  rw[List.getElem?_take] at hc hu
  split at hc
  ·rename_i hj
   rw[if_pos hj,List.getElem?_drop] at hu
   rw[List.getElem?_drop] at hc
   exact h.rd _ c u hc hu
  ·cases hc
theorem ReadsA.splice {w:World} {O:Nat→Prop} {θ:Nat→Option Value} {us vs:List Value} {ps qs:List AV} {k:Nat} (h:ReadsA w O θ us ps) (h':ReadsA w O θ vs qs) (hk:k+qs.length≤ps.length):ReadsA w O θ (Go.Abs.splice us k vs) (Go.Abs.splice ps k qs):=by
 have hk':k+vs.length≤us.length:=by rw[h'.len,h.len];exact hk
 refine⟨by rw[fG _ _ _ hk',fG _ _ _ hk];exact h.len,fun j u hu=> ?_,fun j p u hp hu=> ?_⟩
 ·rw[gQ _ _ _ hk'] at hu
  split at hu
  ·exact h'.one _ u hu
  ·exact h.one _ u hu
 ·rw[gQ _ _ _ hk] at hp
  rw[gQ _ _ _ hk',h'.len] at hu
  split at hp
  ·rename_i hj;rw[if_pos hj] at hu;exact h'.rd _ p u hp hu
  ·rename_i hj;rw[if_neg hj] at hu;exact h.rd _ p u hp hu
theorem JV {w:World} {O:Nat→Prop} {θ:Nat→Option Value} {us:List Value} {ps:List PV} (h:Reads1 w O us ps) (h1:∀ (j:Nat) (u:Value),us[j]? =some u→u.oneCell'=true):ReadsA w O θ us (ps.map .pv) where
 len:=by simpa using h.1
 one:=h1
 rd:=fun j c u hc hu=>by
  rw[List.getElem?_map,Option.map_eq_some_iff] at hc
  obtain⟨p,hp,rfl⟩:=hc
  exact .pv _ _ (h.2.2 j p u hp hu)
def CW (place:List (Nat×Nat)):List AV→List (Nat×AV)→Option (List AV)
 | cells,[]=>some cells
 | cells,(i,v)::vs=>match place[i]? with
  | some (off,size)=>bif Nat.beq v.cells.length size&&(v.cellish&&Nat.ble (off+v.cells.length) cells.length) then CW place (splice cells off v.cells) vs else none
  | none=>none
section
variable {ro:Option Nat} {P:Program} {c:Cx G} {s s':St} {o:Oper} {d:Option Nat}
theorem qZ {k:Nat} (h:s.free.elem k=true):Ak s k=true:=by simp only[Ak,h,Bool.or_true]
theorem iK {T n:Nat} {x:Operand} {id k:Nat} {t:TypeId} {cells cs:List AV} (ho:o.op= .load T x) (hx:ev s x=some (.lp id k)) (hb:look id s.hp=some (.box t cells))
  (hc:(cells.drop k).take n=cs) (hl:cs.length=n) (ht:nN P T n=true) (hd:o.dst=d) (hn:dOk s d=true):
  dx ro P c o s (s.put d (some (.agg cs))):=
 cd hd hn (by rw[ho];intro k h;cases h) fun a w O θ hs=>by
  have h:=iO hs hx
  generalize hv:a.eval x=u at h
  cases h with
  | lp _ _ g h=>
   obtain⟨v',hv',⟨g',us,he,h1,h2,h3⟩,_⟩:=hs.hp id _ hb
   rw[h] at hv';cases hv'
   cases he
   have hR:ReadsA w O θ us.toList cells:=⟨by simpa using h2,fun j u hu=>by
     have hlt:j < cells.length:=by rw[← h2];simpa using (List.getElem?_eq_some_iff.1 hu).1
     exact(h3 j cells[j] u (List.getElem?_eq_getElem hlt) (by simpa using hu)).2,fun j c u hc hu=>(h3 j c u hc (by simpa using hu)).1⟩
   have hlen:k+n≤us.size∨n=0:=by
    have:((cells.drop k).take n).length=n:=by rw[hc];exact hl
    rw[List.length_take,List.length_drop,← h2] at this
    omega
   have hcut:=hR.cut k n
   rw[hc] at hcut
   refine⟨.agg ((us.toList.drop k).take n).toArray,?_,hcut.agg⟩
   have:=kw (P:=P) ht w ⟨g,k,none⟩ ((us.toList.drop k).take n) (by simp;omega) (fun j u hu=> ?_)
   ·simp[execOp,ho,hv,this]
   ·rw[List.getElem?_take] at hu
    split at hu
    ·rw[List.getElem?_drop] at hu
     rw[Addr.add_lit,cell_of_row w g _ us t (0,0) h1]
     simpa using hu
    ·cases hu
theorem LZ {place:List (Nat×Nat)} {pf:Nat→Option (Nat×Nat)} (hpf:∀ i p,place[i]? =some p→pf i=some p) {O:Nat→Prop} {θ:Nat→Option Value} {a:Act} {w:World} (hs:SimAt c s O θ a w):
  ∀ (parts:List (Nat×Operand)) (xs:List (Nat×AV)) (cells:List AV) (us:Array Value) (r:List AV),EvL w O θ a.eval parts xs→CW place cells xs=some r→ReadsA w O θ us.toList cells→
  ∃ us',Instr.fill pf us (parts.map fun(i,x)=>(i,a.eval x))=some us'∧ReadsA w O θ us'.toList r
 | [],xs,cells,us,r,h1,h2,h3=>by
  cases xs with
  | cons _ _=>cases h1
  | nil=>
  simp[CW] at h2;subst h2
  exact⟨us,rfl,h3⟩
 | (i,x)::parts,xs,cells,us,r,h1,h2,h3=>by
  cases xs with
  | nil=>cases h1
  | cons xv vs=>
  obtain⟨i',v⟩:=xv
  obtain⟨rfl,hv,hvs⟩:=h1
  simp only[CW] at h2
  split at h2
  ·rename_i off size hpl
   simp only[cond_eq_ite] at h2
   split at h2
   ·rename_i hc
    simp only[Bool.and_eq_true] at hc
    have hc1:v.cells.length=size:=Nat.eq_of_beq_eq_true hc.1
    have hc2:off+v.cells.length≤cells.length:=Nat.le_of_ble_eq_true hc.2.2
    obtain⟨q1,q2,q3⟩:=AV.cells_ok hv hc.2.1 hs.one
    have hr1:ReadsA w O θ (a.eval x).cells.toList v.cells:=⟨by simpa using q1,fun j u hu=>q2 u (List.mem_of_getElem? hu),fun j c u hc hu=>q3 j c u hc (by simpa using hu)⟩
    have hsz:(a.eval x).cells.size=size:=by rw[q1,hc1]
    have hus:us.size=cells.length:=by have:=h3.len;simpa using this
    have hsp:=zc (a.eval x).cells off us (by omega)
    obtain⟨us',e1,e2⟩:=LZ hpf hs parts vs _ ((a.eval x).cells.zipIdx.foldl (fun cs (c,j)=>cs.setIfInBounds (off+j) c) us) r hvs h2 (by rw[hsp];exact h3.splice hr1 hc2)
    refine⟨us',?_,e2⟩
    simp only[List.map_cons,Instr.fill,hpf _ _ hpl]
    rw[if_neg (by simp[hsz];omega)]
    exact e1
   ·cases h2
  ·cases h2
theorem Ug {vs:List Value} {ps:List PV} (h:czs vs ps):∀ (j:Nat) (u:Value),vs[j]? =some u→u.oneCell'=true:=by
 obtain⟨h1,h2⟩:=zN h
 intro j u hu
 have hlt:j < ps.length:=by have:=(List.getElem?_eq_some_iff.1 hu).1;omega
 exact(NT (h2 j _ u (List.getElem?_eq_getElem hlt) hu)).2
theorem sf {T:Nat} {parts:List (Nat×Operand)} {place:List (Nat×Nat)} {z:Value} {zs:List PV} {r:List AV} {xs:List (Nat×AV)} (ho:o.op= .build T parts.toArray) (hz:dd P T z) (hzs:czs z.cells.toList zs) (hpl:ju P T place=true)
  (hx:evs s parts=some xs) (hr:CW place (zs.map .pv) xs=some r) (hd:o.dst=d) (hn:dOk s d=true):dx ro P c o s (s.put d (some (.agg r))):=
 cd hd hn (by rw[ho];intro k h;cases h) fun a w O θ hs=>by
  obtain⟨fs,hu,hfs⟩:=zw hpl
  obtain⟨us',h1,h2⟩:=LZ (place:=place) (pf:=(place[·]?)) (fun _ _ h=>h) hs parts xs (zs.map .pv) z.cells r (EvL.of hs hx) hr (JV (vk hzs) (Ug hzs))
  refine⟨.agg us',?_,?_⟩
  ·have hfs':=hfs w
   simp only[bind_pure_comp] at hfs'
   simp[execOp,ho,Instr.build,(pb hz w).1,run_underlying hu,hfs',h1]
  ·have:=h2.agg;simpa using this
end
theorem zH {c:Cx G} {s:St} (id off:Nat) {t:TypeId} {cells:List AV} (hb:look id s.hp=some (.box t cells)):Imp c s (s.setBlk id (some (.box t (cells.set off .any)))):=by
 rintro a w ⟨O,θ,h⟩
 refine⟨O,θ,?_⟩
 obtain⟨v,hv,hbk,_⟩:=h.hp id _ hb
 refine h.upd (w':=w) hb hv (World.grownBy.refl _ _) ?_
 obtain⟨g,us,rfl,h1,h2,h3⟩:=hbk
 refine⟨g,us,rfl,h1,by simpa using h2,fun j x u hx hu=> ?_⟩
 by_cases hj:off=j
 ·subst hj
  have hlt:off < cells.length:=by rw[← h2];exact(Array.getElem?_eq_some_iff.1 hu).1
  rw[List.getElem?_set_self hlt] at hx
  cases hx
  exact⟨.any u,(h3 off cells[off] u (List.getElem?_eq_getElem hlt) hu).2⟩
 ·rw[List.getElem?_set_ne hj] at hx
  exact h3 j x u hx hu
end Go.Abs

/- From the arguments' readings to abstract values; a law's row, out of its contract. -/
namespace Go.Abs
variable {G:List (Nat×List PV)}
open Go.ChangeShapes Go.WideShapes Go.ChangeAt Go.RowKit
section
variable {H:Type} (enc:TypeId×Value→H) (P:Program) (w:World)
def UC (fuel:Nat) (T:TypeId) {α:Type} (e:α→List PV) (good:α→Prop):Prop:=
 ∀ (cs:List Value) (x:DataW H×List MemPlace),DataW.trod enc P w 0 (fun _=>true) true fuel T cs=some x→∃ y,good y∧Reads1 w (fun _=>False) cs (e y)
variable {enc P w}
theorem mO {v:Value} {p:PV} (h:Rd w (fun _=>False) p v) (hp:p.one=true):Reads1 w (fun _=>False) [v] [p]:=by
 refine⟨rfl,by simpa using hp,fun j q u hq hu=> ?_⟩
 cases j with
 | zero=>simp at hq hu;subst hq;subst hu;exact h
 | succ j=>simp at hq
theorem QJ {fuel T:Nat} (h:P.underlying T=some .bool):UC enc P w fuel T eB (fun _=>True):=fun cs x hx=>by
 obtain⟨b,rfl,_⟩:=DataW.trod_bool h hx
 exact⟨b,trivial,mO (.bool b) rfl⟩
def tz (n:Int):Prop:= -9223372036854775808≤n∧n≤9223372036854775807
theorem Uh {fuel T:Nat} (h:P.underlying T=some (.int .i64)):UC enc P w fuel T eI tz:=fun cs x hx=>by
 obtain⟨n,rfl,_,hw⟩:=DataW.trod_int h hx
 exact⟨n,bounds_i64 hw,mO (.int _ n) rfl⟩
def uC (s:List UInt8):Prop:=s.length≤maxLen
def jy {α:Type} (good:α→Prop) (l:List α):Prop:=l.length≤maxLen∧∀ y∈l,good y
def J9 (P:Program) (T:TypeId) (l:List (TypeId×Nat×Nat)) (n:Nat):Bool:=
 match P.underlying T with
 | some (.struct fs)=>(fs.toList.map (fun f=>(f.type,f.offset,P.cellsOf f.type))==l)&&P.cellsOf T==n
 | _=>false
theorem mg {cs:List Value} {off:Nat} (h:cs.length=off):Reads1 w (fun _=>False) (cs.drop off) []:=by
 rw[List.drop_eq_nil_of_le (by omega)]
 exact⟨rfl,by simp,fun j p u hp=>by simp at hp⟩
theorem ci {cs:List Value} {off sz:Nat} {p q:List PV} (h1:Reads1 w (fun _=>False) ((cs.drop off).take sz) p) (hp:p.length=sz) (h2:Reads1 w (fun _=>False) (cs.drop (off+sz)) q):Reads1 w (fun _=>False) (cs.drop off) (p++q):=by
 have e:cs.drop off=(cs.drop off).take sz++cs.drop (off+sz):=by
  rw[← List.drop_drop,List.take_append_drop]
 rw[e]
 have hl:((cs.drop off).take sz).length=sz:=by rw[h1.1,hp]
 refine⟨by rw[List.length_append,List.length_append,h1.1,h2.1],fun x hx=> ?_,fun j x u hx hu=> ?_⟩
 ·rcases List.mem_append.1 hx with h | h
  ·exact h1.2.1 x h
  ·exact h2.2.1 x h
 ·rw[List.getElem?_append] at hx hu
  rw[hl] at hu;rw[hp] at hx
  split at hx
  ·rename_i hj;rw[if_pos hj] at hu;exact h1.2.2 j x u hx hu
  ·rename_i hj;rw[if_neg hj] at hu;exact h2.2.2 _ x u hx hu
def Rr (P:Program) (T:TypeId) (n E sz:Nat):Bool:=
 match P.underlying T with
 | some (.array m e)=>(m==n&&e==E)&&(P.cellsOf E==sz&&P.cellsOf T==n * sz)
 | _=>false
end
end Go.Abs
namespace Go.Abs
variable {G:List (Nat×List PV)}
theorem yU {w:World} {cs:List Value} {p:List PV} (h:Reads1 w (fun _=>False) (cs.drop 0) p):Reads1 w (fun _=>False) cs p:=by simpa using h
end Go.Abs
namespace Go.Abs
variable {G:List (Nat×List PV)}
open Go.ChangeShapes Go.WideShapes Go.ChangeAt Go.RowKit
section
variable {H:Type} {enc:TypeId×Value→H} {P:Program} {w:World}
end
end Go.Abs

/- A law's row, out of its contract. -/
namespace Go.Abs
variable {G:List (Nat×List PV)}
open Go.ChangeShapes Go.WideShapes Go.ChangeAt Go.RowKit
section
variable {H:Type} {enc:TypeId×Value→H} {P:Program}
def Lk (P:Program) (ts:List TypeId):Bool:=ts.all fun t=>P.readableRec t&&decide (t < P.types.size)
theorem yo (hl:laidOutB P=true) {W W':World} (hb:Below W.heap.size W W'):∀ {ts:List TypeId} {vs:List Value} {ds:List (DataW H)} {ps:List MemPlace},Lk P ts=true→DataW.TrodAll enc P W 0 (fun _=>true) true ts vs ds ps→(∀ x∈ps,x.block < W.heap.size)→
  DataW.TrodAll enc P W' 0 (fun b=>decide (b < W.heap.size)) true ts vs ds ps
 | [],vs,ds,ps,_,h,_=>by
  obtain⟨rfl,rfl,rfl⟩:=trodAll_nil h
  rfl
 | t::ts,vs,ds,ps,hr,h,hlt=>by
  obtain⟨v,vs',d,ds',p,q,rfl,rfl,rfl,h1,h2⟩:=trodAll_cons h
  unfold Lk at hr
  rw[List.all_cons] at hr
  simp only[Bool.and_eq_true,decide_eq_true_eq] at hr
  exact⟨p,q,Below.trod hl hr.1.1 hr.1.2 h1 hb (fun x hx=>hlt x (by simp[hx])),yo hl hb (by unfold Lk;exact hr.2) h2 (fun x hx=>hlt x (by simp[hx])),rfl⟩
theorem QO {f:Func} {s:ChangeSpec} {apart fresh handsOn:Bool} {W W':World} {args:Array Value} {ds:List (DataW H)} {ps:List MemPlace} {B:TypeId} (hl:laidOutB P=true) (hr:Lk P f.params.toList=true) (hvars:s.vars=[])
  (hW:DataW.Whole enc P f.params.toList s.vars apart W args.toList ds [] ps) (hA:DataW.TrodAll enc P W 0 (fun _=>true) true f.params.toList args.toList ds ps) (hg:W.grownBy W' none) (hres:f.resultTypes= #[B]) (hB:P.underlying B=some .bool)
  (hs:s.fn H ds={ results:=[.lit (.bool true)],args:=ds }):s.post enc P f apart fresh handsOn false W args (.bool true) W':=by
 have hb:Below W.heap.size W W':=(Below.refl _ W).grown hg (Nat.le_refl _) (by simp)
 have hlt:∀ x∈ps,x.block < W.heap.size:=fun x hx=>by simpa using hW.lt x hx
 refine⟨ds,[],ps,[],ps,[],hW,?_,?_,?_,hb.frame _,fun h=>by cases h⟩
 ·rw[List.append_nil,hs,hres]
  exact trodAll_mk1 (shut_bool hB true)
 ·rw[List.append_nil,hs]
  exact yo hl hb hr hA hlt
 ·rw[List.append_nil,hs,hvars]
  rfl
def QH (W:World) (asx:List PV) (args:Array Value):Prop:=args.size=asx.length∧∀ (i:Nat) (p:PV) (v:Value),asx[i]? =some p→args[i]? =some v→Rd W (fun _=>False) p v
end
def RdAll (W:World):List PV→List Value→Prop
 | [],[]=>True
 | p::ps,v::vs=>Rd W (fun _=>False) p v∧RdAll W ps vs
 | _,_=>False
theorem RdAll.args {W:World}:∀ {asx:List PV} {vs:List Value},RdAll W asx vs→vs.length=asx.length∧∀ (i:Nat) (p:PV) (v:Value),asx[i]? =some p→vs[i]? =some v→Rd W (fun _=>False) p v
 | [],[],_=>⟨rfl,fun i p v h=>by simp at h⟩
 | p::ps,v::vs,h=>by
  obtain⟨h1,h2⟩:=h.2.args
  refine⟨by simp[h1],fun i q u hq hu=> ?_⟩
  cases i with
  | zero=>simp at hq hu;subst hq;subst hu;exact h.1
  | succ i=>exact h2 i q u (by simpa using hq) (by simpa using hu)
 | [],_::_,h | _::_,[],h=>by simp[RdAll] at h
theorem Nk {W:World} {xs:List PV} {args:Array Value} (h:RdAll W xs args.toList):QH W xs args:=by
 obtain⟨h1,h2⟩:=h.args
 exact⟨by simpa using h1,fun i p v hp hv=>h2 i p v hp (by simpa using hv)⟩
def WS (P:Program) (T:TypeId):Bool:=match P.underlying T with
 | some .bool | some (.int _) | some .string | some (.slice _)=>true
 | _=>false
theorem Ux {W:World} {P:Program} {base:Nat} {T:TypeId} {v:Value} {p:PV} (h:Reads1 W (fun _=>False) v.cells.toList [p]) (hv:Value.okWide P W .any base T v) (ht:WS P T=true):Rd W (fun _=>False) p v:=by
 have:v.cells.toList=[v]:=by
  unfold WS at ht
  unfold Value.okWide at hv
  split at hv
  ·rename_i hu;rw[hu] at ht;cases ht
  ·rename_i hu;rw[hu] at ht;cases ht
  ·unfold Cell.okWide at hv
   cases v<;>first | rfl | skip
   all_goals
    exfalso
    revert hv
    split<;>simp_all [Cell.ok]
    try (split<;>simp_all)
 rw[this] at h
 exact h.2.2 0 p v rfl rfl
end Go.Abs

/- A law's row whose package variables are listed, out of its contract. -/
namespace Go.Abs
variable {G:List (Nat×List PV)}
open Go.ChangeShapes Go.WideShapes Go.ChangeAt Go.RowKit
section
variable {P:Program} {w:World}
def yw (P:Program) (w:World) (T:TypeId) (d:DataW Unit) (row:List PV):Prop:=
 ∀ (fuel:Nat) (cs:List Value) (ps:List MemPlace),DataW.trod (fun _=>()) P w 0 (fun _=>true) false fuel T cs=some (d,ps)→Reads1 w (fun _=>False) cs row
theorem eK {T:TypeId} (h:P.underlying T=some .string) (s:List UInt8):yw P w T (.lit (.string s)) [.str s]:=fun fuel cs ps hx=>by
 obtain⟨b,rfl,he,_⟩:=DataW.trod_string h hx
 simp only[Prod.mk.injEq,DataW.lit.injEq,Lit.string.injEq] at he
 obtain⟨rfl,_⟩:=he
 refine mO ?_ rfl
 have:=Rd.str (w:=w) (O:=fun _=>False) b.data.toList
 simpa using this
theorem oM {T:TypeId} {k:IntKind} (h:P.underlying T=some (.int k)) (n:Int):yw P w T (.lit (.int k n)) [.int k n]:=fun fuel cs ps hx=>by
 obtain⟨m,rfl,he,_⟩:=DataW.trod_int h hx
 simp only[Prod.mk.injEq,DataW.lit.injEq,Lit.int.injEq,true_and] at he
 obtain⟨rfl,_⟩:=he
 exact mO (.int k n) rfl
def zP (P:Program) (w:World) (E:TypeId):List (DataW Unit)→List (List PV)→Prop
 | [],[]=>True
 | d::ds,r::rs=>yw P w E d r∧zP P w E ds rs
 | _,_=>False
theorem ET {E sz:Nat} (cs:List Value):∀ (ds:List (DataW Unit)) (rs:List (List PV)) (k:Nat),zP P w E ds rs→(∀ r∈rs,r.length=sz)→cs.length=(k+ds.length) * sz→
  (∀ i d,ds[i]? =some d→∃ m ps,DataW.trod (fun _=>()) P w 0 (fun _=>true) false m E ((cs.drop ((k+i) * sz)).take sz)=some (d,ps))→Reads1 w (fun _=>False) (cs.drop (k * sz)) rs.flatten
 | [],[],k,_,_,hl,_=>by simpa using mg (w:=w) (cs:=cs) (off:=k * sz) (by simpa using hl)
 | d::ds,r::rs,k,h,hz,hl,hp=>by
  rw[List.flatten_cons]
  refine ci (sz:=sz) ?_ (hz r (by simp)) ?_
  ·obtain⟨m,ps,h0⟩:=hp 0 d rfl
   exact h.1 m _ ps (by simpa using h0)
  ·have e:k * sz+sz=(k+1) * sz:=by rw[Nat.add_mul];omega
   rw[e]
   refine ET cs ds rs (k+1) h.2 (fun r hr=>hz r (by simp[hr])) (by rw[hl];simp only[List.length_cons];congr 1;omega) fun i d hi=> ?_
   have:=hp (i+1) d (by simpa using hi)
   rw[show k+(i+1)=k+1 + i by omega] at this
   exact this
 | [],_::_,_,h,_,_,_ | _::_,[],_,h,_,_,_=>by simp[zP] at h
theorem GM {T E n sz:Nat} {ds:List (DataW Unit)} {rs:List (List PV)} (h:Rr P T n E sz=true) (hn:ds.length=n) (hz:∀ r∈rs,r.length=sz) (hd:zP P w E ds rs):yw P w T (.agg ds) rs.flatten:=fun fuel cs ps hx=>by
 unfold Rr at h
 split at h
 ·rename_i m e hu
  simp only[Bool.and_eq_true,beq_iff_eq] at h
  obtain⟨⟨rfl,rfl⟩,rfl,h4⟩:=h
  obtain⟨xs,m',hf,he,hl,hxs,hp⟩:=DataW.trod_array hu hx
  simp only[Prod.mk.injEq,DataW.agg.injEq] at he
  obtain⟨rfl,_⟩:=he
  have:=ET (sz:=P.cellsOf e) cs (xs.map (·.1)) rs 0 hd hz (by rw[hl,h4];simp[hxs]) fun i d hi=>by
   rw[List.getElem?_map,Option.map_eq_some_iff] at hi
   obtain⟨x,hx,rfl⟩:=hi
   have hlt:i < m:=by rw[← hxs];exact(List.getElem?_eq_some_iff.1 hx).1
   refine⟨m',x.2,?_⟩
   have:=hp i hlt
   rw[hx] at this
   rw[Nat.zero_add]
   exact this
  simpa using this
 ·cases h
def Ji (P:Program) (w:World):List (DataW Unit)→List (TypeId×Nat×Nat)→List (List PV)→Nat→Prop
 | [],[],[],_=>True
 | d::ds,(t,off,sz)::l,r::rs,k=>off=k∧r.length=sz∧yw P w t d r∧Ji P w ds l rs (k+sz)
 | _,_,_,_=>False
theorem AK (cs:List Value) (n:Nat) (hl:cs.length=n):∀ (ds:List (DataW Unit)) (l:List (TypeId×Nat×Nat)) (rs:List (List PV)) (k:Nat),Ji P w ds l rs k→n=k+rs.flatten.length→
  (∀ (i:Nat) (d:DataW Unit) (t off sz:Nat),ds[i]? =some d→l[i]? =some (t,off,sz)→∃ m ps,DataW.trod (fun _=>()) P w 0 (fun _=>true) false m t ((cs.drop off).take sz)=some (d,ps))→Reads1 w (fun _=>False) (cs.drop k) rs.flatten
 | [],[],[],k,_,hn,_=>by simpa using mg (w:=w) (cs:=cs) (off:=k) (by simpa [hl] using hn)
 | d::ds,(t,off,sz)::l,r::rs,k,h,hn,hp=>by
  obtain⟨rfl,rfl,h3,h4⟩:=h
  rw[List.flatten_cons]
  refine ci (sz:=r.length) ?_ rfl (AK cs n hl ds l rs _ h4 (by rw[hn,List.flatten_cons,List.length_append];omega) fun i d t off sz hi hj=>hp (i+1) d t off sz (by simpa using hi) (by simpa using hj))
  obtain⟨m,ps,h0⟩:=hp 0 d t off r.length rfl rfl
  exact h3 m _ ps h0
 | [],[],_::_,_,h,_,_ | [],_::_,_,_,h,_,_ | _::_,[],_,_,h,_,_ | _::_,_::_,[],_,h,_,_=>by simp[Ji] at h
theorem qj {T n:Nat} {l:List (TypeId×Nat×Nat)} {ds:List (DataW Unit)} {rs:List (List PV)} (h:J9 P T l n=true) (hn:n=rs.flatten.length) (hd:Ji P w ds l rs 0):yw P w T (.agg ds) rs.flatten:=fun fuel cs ps hx=>by
 unfold J9 at h
 split at h
 ·rename_i fs hu
  simp only[Bool.and_eq_true,beq_iff_eq] at h
  obtain⟨rfl,rfl⟩:=h
  obtain⟨xs,m,hf,he,hl,hxs,hp⟩:=DataW.trod_struct hu hx
  simp only[Prod.mk.injEq,DataW.agg.injEq] at he
  obtain⟨rfl,_⟩:=he
  have:=AK cs _ hl (xs.map (·.1)) _ rs 0 hd (by omega) fun i d t off sz hi hj=>by
   rw[List.getElem?_map,Option.map_eq_some_iff] at hi hj
   obtain⟨x,hx,rfl⟩:=hi
   obtain⟨f,hf,he⟩:=hj
   injection he with e1 e2;injection e2 with e2 e3
   subst e1;subst e2;subst e3
   refine⟨m,x.2,?_⟩
   rw[hp i f (by simpa using hf),hx]
  simpa using this
 ·cases h
theorem Oj {name:String} {g T:Nat} {d:DataW Unit} {row:List PV} (hg:P.globalNamed name=some g) (hT:(P.globals[g]?).map (·.type)=some T) (hd:yw P w T d row)
  (h:∃ g t cs fuel p,P.globalNamed name=some g∧(P.globals[g]?).map (·.type)=some t∧w.var? P name=some cs∧DataW.trod (fun _=>()) P w 0 (fun _=>true) false fuel t cs.toList=some (d,p)) (h0:0 < row.length):
  Rd w (fun _=>False) (.vp row) (.pointer (some ⟨g,0,none⟩)):=by
 obtain⟨g',t',cs,fuel,p,h1,h2,h3,h4⟩:=h
 obtain rfl:g=g':=Option.some.inj (hg.symm.trans h1)
 obtain rfl:T=t':=Option.some.inj (hT.symm.trans h2)
 obtain⟨r1,r2,r3⟩:=hd fuel _ _ h4
 have hcell:∀ i,w.cell? ⟨g,i,none⟩=cs[i]? :=World.var?_cell hg h3
 have hsz:cs.size=row.length:=by simpa using r1
 have hb:g < w.heap.size:=by
  rcases Nat.lt_or_ge g w.heap.size with h7 | h7
  ·exact h7
  ·have:=hcell 0
   rw[Array.getElem?_eq_getElem (by omega)] at this
   simp[World.cell?,Array.getElem?_eq_none h7] at this
 refine .vp row g 0 (fun k=>cs.getD k undef) (fun h=>h) hb r2 (fun k hk=> ?_) (fun j q hq=> ?_)
 ·rw[Nat.zero_add,hcell,Array.getElem?_eq_getElem (by omega)]
  simp[show k < cs.size by omega]
 ·have hj:j < row.length:=(List.getElem?_eq_some_iff.1 hq).1
  refine r3 j q _ hq ?_
  rw[Array.getElem?_toList,Array.getElem?_eq_getElem (by omega)]
  simp[show j < cs.size by omega]
theorem Ub {laid:List (String×DataW Unit)} {ps:List MemPlace} (h:DataW.LaidVars P w laid ps):∀ x∈laid,∃ g t cs fuel p,P.globalNamed x.1=some g∧(P.globals[g]?).map (·.type)=some t∧w.var? P x.1=some cs∧DataW.trod (fun _=>()) P w 0 (fun _=>true) false fuel t cs.toList=some (x.2,p):=by
 induction laid generalizing ps with
 | nil=>intro x hx;cases hx
 | cons y l ih=>
  intro x hx
  obtain⟨g,t,cs,fuel,p,q,h1,h2,h3,h4,h5,_⟩:=h
  rcases List.mem_cons.1 hx with rfl | hx
  ·exact⟨g,t,cs,fuel,p,h1,h2,h3,h4⟩
  ·exact ih h5 x hx
theorem MC {laid:List (String×DataW Unit)} (hp:(laid.all fun x=>x.2.handleName?.isNone)=true) (h:laidMetH P laid w):∀ x∈laid,∃ g t cs fuel p,P.globalNamed x.1=some g∧(P.globals[g]?).map (·.type)=some t∧w.var? P x.1=some cs∧DataW.trod (fun _=>()) P w 0 (fun _=>true) false fuel t cs.toList=some (x.2,p):=by
 rw[MakeChecks.laidMetH_plain _ _ _ hp] at h
 obtain⟨ps,h,_⟩:=h
 exact Ub h
end
section
variable {H:Type} {enc:TypeId×Value→H} {P:Program}
end
end Go.Abs

/- Functions that are handed yield on; shifts; maps in boxes that are written no more. -/
namespace Go.Abs
variable {G:List (Nat×List PV)}
open Go.RowKit
structure ItFx (c:Cx G) (w:World) (O I:Nat→Prop):Prop where
 w0:c.w0=w
 X:c.X=I
 K:c.K=I
 L:c.L=fun g=>O g∧¬ I g
section
variable {ro:Option Nat} {P:Program} {c:Cx G} {s s':St} {o:Oper} {d:Option Nat}
end
end Go.Abs

/- Steps that often come together. -/
namespace Go.Abs
variable {G:List (Nat×List PV)}
open Go.RowKit
def zl {α:Type} (fr:List (Nat×Option α)):List (Nat×Option α)→List (Nat×Option α)
 | []=>[]
 | (t,none)::l=>(t,none)::zl fr l
 | (t,some _)::l=>(t,look t fr)::zl fr l
def JR (ρ:Nat→Nat):List (Nat×Option AV)→List (Nat×Option AV)
 | []=>[]
 | (t,none)::l=>(t,none)::JR ρ l
 | (t,some x)::l=>(t,some (x.map ρ))::JR ρ l
def zm (fr:List (Nat×Option Blk)) (ρ:Nat→Nat):List (Nat×Option Blk)→List (Option Blk)
 | []=>[]
 | (_,none)::l=>none::zm fr ρ l
 | (t,some _)::l=>look (ρ t) fr::zm fr ρ l
def J8 (ρ:Nat→Nat):List (Nat×Option Blk)→List (Option Blk)
 | []=>[]
 | (_,none)::l=>none::J8 ρ l
 | (_,some x)::l=>some (x.map ρ)::J8 ρ l
theorem xD {fr:List (Nat×Option AV)} {ρ:Nat→Nat}:∀ {l:List (Nat×Option AV)},zl fr l=JR ρ l→SubF fr ρ l
 | [],_=>trivial
 | (_,none)::l,h=>by simp only[zl,JR,List.cons.injEq] at h;exact xD (l:=l) h.2
 | (_,some _)::l,h=>by
  simp only[zl,JR,List.cons.injEq,Prod.mk.injEq] at h
  exact⟨h.1.2,xD (l:=l) h.2⟩
theorem xu {fr:List (Nat×Option Blk)} {ρ:Nat→Nat}:∀ {l:List (Nat×Option Blk)},zm fr ρ l=J8 ρ l→SubH fr ρ l
 | [],_=>trivial
 | (_,none)::l,h=>by simp only[zm,J8,List.cons.injEq] at h;exact xu (l:=l) h.2
 | (_,some _)::l,h=>by
  simp only[zm,J8,List.cons.injEq] at h
  exact⟨h.1,xu (l:=l) h.2⟩
section
variable {ro:Option Nat} {P:Program} {c:Cx G} {Q:Exit→Act→World→Prop} {s:St} {all:List Oper} {e:Exit}
theorem bc {s s':St} (L:List Nat) (hF:zl s.fr s'.fr=JR (fun i=>L.getD i s.next) s'.fr:=by kernel_rfl) (hH:zm s.hp (fun i=>L.getD i s.next) s'.hp=J8 (fun i=>L.getD i s.next) s'.hp:=by kernel_rfl)
  (hn:s'.n=s.n:=by exact rfl) (hnd:L.Nodup:=by decide) (hnext:s'.next=L.length:=by exact rfl) (hfree:s'.free=[]:=by exact rfl)
  (hids:(s'.hp.all fun x=>Nat.blt x.1 L.length)=true:=by exact rfl) (hys:s'.ys=s.ys:=by exact rfl) (hkt:s'.kt=s.kt:=by exact rfl):Imp c s s':=CN L hn hnd hnext hfree (xD hF) (xu hH) hids hys hkt
theorem piz (s':St) (L:List Nat) (h':iv c Q e s') (hF:zl s.fr s'.fr=JR (fun i=>L.getD i s.next) s'.fr:=by kernel_rfl) (hH:zm s.hp (fun i=>L.getD i s.next) s'.hp=J8 (fun i=>L.getD i s.next) s'.hp:=by kernel_rfl)
  (hn:s'.n=s.n:=by exact rfl) (hnd:L.Nodup:=by decide) (hnext:s'.next=L.length:=by exact rfl) (hfree:s'.free=[]:=by exact rfl)
  (hids:(s'.hp.all fun x=>Nat.blt x.1 L.length)=true:=by exact rfl) (hys:s'.ys=s.ys:=by exact rfl) (hkt:s'.kt=s.kt:=by exact rfl):iv c Q e s:=sC (CN L hn hnd hnext hfree (xD hF) (xu hH) hids hys hkt) h'
class FldI (P:Program) (T f:Nat) (off:outParam Nat):Prop where
 h:pR P T f off=true
class OneI (P:Program) (T:Nat):Prop where
 h:px P T=true
class SlcI (P:Program) (T:Nat) (e sz:outParam Nat):Prop where
 h:sliceB P T e sz=true
class AggI (P:Program) (T:Nat) (n:outParam Nat):Prop where
 h:nN P T n=true
 h0:px P T=false
section
variable {rest:List Oper} {o:Oper} {s':St} {d:Option Nat}
theorem UN {T f off:Nat} {x:Operand} {id k:Nat} [F:FldI P T f off] (ho:o.op= .fieldAddr T x f) (hx:ev s x=some (.lp id k)) (hd:o.dst=d) (hn:dOk s d=true):dx ro P c o s (s.put d (some (.lp id (k+off)))):=eZ ho hx F.h hd hn
theorem UB {T f off:Nat} {x:Operand} {row:List PV} [F:FldI P T f off] (ho:o.op= .fieldAddr T x f) (hx:ev s x=some (.pv (.vp row))) (hd:o.dst=d) (hn:dOk s d=true):dx ro P c o s (s.put d (some (.pv (.vp (row.drop off))))):=jH ho hx F.h hd hn
theorem UT {T:Nat} {x:Operand} {id k:Nat} {t:TypeId} {cells:List AV} {v:AV} [F:OneI P T] (ho:o.op= .load T x) (hx:ev s x=some (.lp id k)) (hb:look id s.hp=some (.box t cells)) (hc:cells[k]? =some v) (hd:o.dst=d) (hn:dOk s d=true):dx ro P c o s (s.put d (some v)):=di ho hx hb hc F.h hd hn
theorem Uz {T:Nat} {x:Operand} {row:List PV} {p:PV} [F:OneI P T] (ho:o.op= .load T x) (hx:ev s x=some (.pv (.vp row))) (hp:row[0]? =some p) (hd:o.dst=d) (hn:dOk s d=true):dx ro P c o s (s.put d (some (.pv p))):=iC ho hx hp F.h hd hn
theorem Rf {T:Nat} {x y:Operand} {id k:Nat} {t:TypeId} {cells:List AV} {v:AV} [F:OneI P T] (ho:o.op= .store T x y) (hx:ev s x=some (.lp id k)) (hy:ev s y=some v) (hc:v.cellish=true) (hb:look id s.hp=some (.box t cells)) (hn1:v.cells.length=1) (hfit:Nat.ble (k+v.cells.length) cells.length=true) (hd:o.dst=d) (hk:ktB s d=true):
  dx ro P c o s ((s.setBlk id (some (.box t (splice cells k v.cells)))).put d none):=pg (n:=1) ho hx hy hc hb (Af F.h) (by rw[F.h];exact hn1) hfit hd hk
theorem Rn {T n:Nat} {x y:Operand} {id k:Nat} {t:TypeId} {cells:List AV} {v:AV} [F:AggI P T n] (ho:o.op= .store T x y) (hx:ev s x=some (.lp id k)) (hy:ev s y=some v) (hc:v.cellish=true) (hb:look id s.hp=some (.box t cells)) (hn1:v.cells.length=n) (hfit:Nat.ble (k+v.cells.length) cells.length=true) (hd:o.dst=d) (hk:ktB s d=true):
  dx ro P c o s ((s.setBlk id (some (.box t (splice cells k v.cells)))).put d none):=pg (n:=n) ho hx hy hc hb (MZ F.h) (by rw[F.h0];exact hn1) hfit hd hk
theorem Wz {α:Type} {f:α→List PV} {l:List α} {T e sz sz':Nat} {x:Operand} [F:SlcI P T e sz'] (ho:o.op= .call { callee:= .builtin .len,args:= #[x],argTypes:= #[T] }) (hx:ev s x=some (.pv (.vs sz (l.map f)))) (hd:o.dst=d) (hn:dOk s d=true):dx ro P c o s (s.put d (some (.pv (.int .i64 l.length)))):=bL (n:=l.length) ho hx (List.length_map ..) F.h hd hn
theorem gp (h:nJ ro P c all rest Q s') (ho:dx ro P c o s s':=by first
 | exact UN rfl rfl rfl rfl
 | exact UT rfl rfl rfl rfl rfl rfl
 | exact jg rfl rfl rfl rfl rfl rfl
 | exact Rf rfl rfl rfl rfl rfl rfl rfl rfl rfl
 | exact Rn rfl rfl rfl rfl rfl rfl rfl rfl rfl
 | exact Uz rfl rfl rfl rfl rfl
 | exact Wz rfl rfl rfl rfl
 | exact UB rfl rfl rfl rfl
 | exact yE rfl rfl rfl rfl) (hg:o.guard=none:=by exact rfl):nJ ro P c all (o::rest) Q s:=qQ (bM hg) ho h
theorem gn {j d:Nat} {want t:Bool} (ht:t=want) (h:nJ ro P c all rest Q s') (ho:dx ro P c o s s':=by first
 | exact UN rfl rfl rfl rfl
 | exact UT rfl rfl rfl rfl rfl rfl
 | exact jg rfl rfl rfl rfl rfl rfl
 | exact Rf rfl rfl rfl rfl rfl rfl rfl rfl rfl
 | exact Rn rfl rfl rfl rfl rfl rfl rfl rfl rfl
 | exact Uz rfl rfl rfl rfl rfl
 | exact Wz rfl rfl rfl rfl
 | exact UB rfl rfl rfl rfl
 | exact yE rfl rfl rfl rfl
 | exact ga rfl rfl rfl rfl
 | exact dC rfl rfl rfl rfl) (hg:o.guard=some (j,want):=by exact rfl) (hj:((all[j]?).bind (·.dst))=some d:=by exact rfl) (hn:Nat.blt d s.n=true:=by exact rfl) (hl:look d s.fr=some (.pv (.bool t)):=by exact rfl):nJ ro P c all (o::rest) Q s:=
 qQ (bZ hg hj hn hl ht) ho h
end
section
variable {rest:List Oper} {o:Oper} {s':St} {d:Option Nat}
def czc : Value→PV→Option PV
 | .slice none 0 0,.vs n []=>some (.vs n [])
 | v,_=>cv v
def czl : List Value→List PV→Option (List PV)
 | [],[]=>some []
 | v::vs,p::ps=>match czc v p,czl vs ps with
  | some q,some qs=>some (q::qs)
  | _,_=>none
 | _,_=>none
theorem WB {v:Value} {p q:PV} (h:czc v p=some q) (e:q=p):cz v p:=by
 subst e
 unfold czc at h
 split at h
 ·trivial
 ·unfold cz;split
  ·trivial
  ·exact h
theorem NK : ∀ {vs:List Value} {ps:List PV},czl vs ps=some ps→czs vs ps
 | [],[],_=>trivial
 | [],_::_,h=>by simp[czl] at h
 | _::_,[],h=>by simp[czl] at h
 | v::vs,p::ps,h=>by
  simp only[czl] at h
  split at h
  ·rename_i q qs h1 h2
   cases h
   exact⟨WB h1 rfl,NK h2⟩
  ·cases h
theorem al (kk:Nat) {T:Nat} {z:Value} (ps:List PV) (hz:dd P T z) (hk:jf s kk=true:=by exact rfl) (ho:o.op= .alloc T:=by exact rfl) (hp:czl z.cells.toList ps=some ps:=by kernel_rfl) (hd:o.dst=d:=by exact rfl) (hn:dOk s d=true:=by exact rfl):
  dx ro P c o s ((s.addAt kk none (.box T (ps.map .pv))).put d (some (.lp kk 0))):=LG kk hk ho hz (NK hp) hd hn
theorem bd {T:Nat} {parts:List (Nat×Operand)} {place:List (Nat×Nat)} {z:Value} (zs r:List PV) {xs:List (Nat×AV)} (hz:dd P T z) (hpl:ju P T place=true) (ho:o.op= .build T parts.toArray:=by exact rfl) (hzs:czl z.cells.toList zs=some zs:=by kernel_rfl)
  (hx:evs s parts=some xs:=by exact rfl) (hr:nK place zs xs=some r:=by exact rfl) (hd:o.dst=d:=by exact rfl) (hn:dOk s d=true:=by exact rfl):dx ro P c o s (s.put d (some (.pv (.agg r)))):=Ry ho hz (NK hzs) hpl hx hr hd hn
theorem la {T n:Nat} {x:Operand} {id k:Nat} {t:TypeId} {cells:List AV} (ps:List PV) (ht:nN P T n=true) (ho:o.op= .load T x:=by exact rfl) (hx:ev s x=some (.lp id k):=by exact rfl) (hb:look id s.hp=some (.box t cells):=by exact rfl)
  (hc:pvs ((cells.drop k).take n)=some ps:=by exact rfl) (hl:ps.length=n:=by exact rfl) (h1c:(ps.all PV.one)=true:=by exact rfl) (hd:o.dst=d:=by exact rfl) (hn:dOk s d=true:=by exact rfl):dx ro P c o s (s.put d (some (.pv (.agg ps)))):=dR ho hx hb hc hl h1c ht hd hn
theorem lw {T n:Nat} {x:Operand} {row:List PV} (ps:List PV) (ht:nN P T n=true) (ho:o.op= .load T x:=by exact rfl) (hx:ev s x=some (.pv (.vp row)):=by exact rfl) (hp:row.take n=ps:=by exact rfl) (hl:ps.length=n:=by exact rfl) (hd:o.dst=d:=by exact rfl) (hn:dOk s d=true:=by exact rfl):
  dx ro P c o s (s.put d (some (.pv (.agg ps)))):=cU ho hx hp hl ht hd hn
theorem ix {T e sz:Nat} {x y:Operand} {k:IntKind} {n:Int} {rows:List (List PV)} {row:List PV} (hr:idx rows n=some row) (ht:sliceB P T e sz=true) (ho:o.op= .indexAddr T x y:=by exact rfl) (hx:ev s x=some (.pv (.vs sz rows)):=by exact rfl) (hy:ev s y=some (.pv (.int k n)):=by exact rfl)
  (hd:o.dst=d:=by exact rfl) (hn:dOk s d=true:=by exact rfl):dx ro P c o s (s.put d (some (.pv (.vp row)))):=cC ho hx hy hr ht hd hn
theorem bo (kk:Nat) {T:Nat} {x:Operand} {v:AV} (hk:jf s kk=true:=by exact rfl) (ho:o.op= .box T x:=by exact rfl) (hx:ev s x=some v:=by exact rfl) (hc:v.cellish=true:=by exact rfl) (hd:o.dst=d:=by exact rfl) (hn:dOk s d=true:=by exact rfl):
  dx ro P c o s ((s.addAt kk none (.box T v.cells)).put d (some (.lp kk 0))):=Vg kk hk ho hx hc hd hn
theorem cl (kk:Nat) {fo:Operand} {xs:List Operand} {ts:Array TypeId} {f:Nat} (args:List PV) (rs:List Res) {ob:Option Blk} (h:Fn G P f (args++[]) rs) (hB:cT P f=true:=by kernel_rfl) (hk:jf s kk=true:=by exact rfl) (ho:o.op= .call { callee:= .value fo,args:=xs.toArray,argTypes:=ts }:=by exact rfl) (hf:ev s fo=some (.pv (.fn f [])):=by exact rfl) (hx:evl s xs=some (args.map .pv):=by exact rfl)
  (hob:qe rs=some ob:=by exact rfl) (hd:o.dst=d:=by exact rfl) (hn:dOk s d=true:=by exact rfl):dx ro P c o s ((s.addRes kk ob).put d (some (EW kk rs))):=cJ kk hk (caps:=[]) ho hf hx hB h hob hd hn
theorem cnd {β:Type} {b:Bool} {X Y:Option β} {r:β} {x y:Code} {t:Operand} (hF:(if b=true then X else Y)=some r) (h1:b=true→X=some r→AW ro P c x Q s) (h2:b=false→Y=some r→AW ro P c y Q s) (ht:ev s t=some (.pv (.bool b)):=by exact rfl):AW ro P c (.cond t x y) Q s:=by
 rcases Mn hF with⟨h3,h4⟩ | ⟨h3,h4⟩
 ·exact eO ht h3 (h1 h3 h4)
 ·exact ez ht h3 (h2 h3 h4)
theorem bs {α β:Type} {x:Option α} {k:α→Option β} {r:β} (h:x.bind k=some r):∃ y,x=some y∧k y=some r:=bind_some h
theorem ie {β:Type} {b:Bool} {x y:Option β} {r:β} (h:(if b=true then x else y)=some r):(b=true∧x=some r)∨(b=false∧y=some r):=Mn h
theorem pcz {s1:St} (L:List Nat) (hF:zl s.fr s1.fr=JR (fun i=>L.getD i s.next) s1.fr:=by kernel_rfl) (hH:zm s.hp (fun i=>L.getD i s.next) s1.hp=J8 (fun i=>L.getD i s.next) s1.hp:=by kernel_rfl)
  (hn:s1.n=s.n:=by exact rfl) (hnd:L.Nodup:=by decide) (hnext:s1.next=L.length:=by exact rfl) (hfree:s1.free=[]:=by exact rfl)
  (hids:(s1.hp.all fun x=>Nat.blt x.1 L.length)=true:=by exact rfl) (hys:s1.ys=s.ys:=by exact rfl) (hkt:s1.kt=s.kt:=by exact rfl):iv c (Cut c Q (fun s'=>s'=s1)) .normal s:=kX s1 rfl (CN L hn hnd hnext hfree (xD hF) (xu hH) hids hys hkt)
theorem rcz {all:List Oper} {s1:St} (L:List Nat) (hF:zl s.fr s1.fr=JR (fun i=>L.getD i s.next) s1.fr:=by kernel_rfl) (hH:zm s.hp (fun i=>L.getD i s.next) s1.hp=J8 (fun i=>L.getD i s.next) s1.hp:=by kernel_rfl)
  (hn:s1.n=s.n:=by exact rfl) (hnd:L.Nodup:=by decide) (hnext:s1.next=L.length:=by exact rfl) (hfree:s1.free=[]:=by exact rfl)
  (hids:(s1.hp.all fun x=>Nat.blt x.1 L.length)=true:=by exact rfl) (hys:s1.ys=s.ys:=by exact rfl) (hkt:s1.kt=s.kt:=by exact rfl):nJ ro P c all [] (Cut c Q (fun s'=>s'=s1)) s:=bN (kX s1 rfl (CN L hn hnd hnext hfree (xD hF) (xu hH) hids hys hkt))
theorem ctx {k:Code} (s1:St) (h:AW ro P c k (Cut c Q (fun s'=>s'=s1)) s) (h2:iv c Q .normal s1):AW ro P c k Q s:=Qy _ h (fun _ e=>e ▸ h2)
theorem rnr {all:List Oper} {x:Code} {m:Nat} (h:BG ro P c x Q m s):nJ ro P c all [] (Exit.then (Code.roundsIn (FF ro) 0 P x Q m) Q) s:=bN (nc h)
abbrev sX (n:Nat) (fr:List (Nat×Option AV)) (hp:List (Nat×Option Blk)) (k:Nat):St:=⟨n,fr,hp,k,[],[],0,[]⟩
abbrev pf (t:Nat) (p:PV):Nat×Option AV:=(t,some (.pv p))
abbrev bf (t T:Nat) (l:List PV):Nat×Option Blk:=(t,some (.box T (bxv l)))
end
section
variable {id n next ys:Nat} {kt:List Nat} {df:List Deferred} {l rest:List Oper} {o:Oper} {m0 m:Mid} {es:List Eff}
theorem dfl {t d T f off i k:Nat} [F:FldI P T f off] (h:DrW ro P c Q s id l n df next ys kt m0 ({ need:=[(t,.lp i k)],dst:=some d,val:=some (.lp i (k+off)) }::es) rest (({ need:=[(t,.lp i k)],dst:=some d,val:=some (.lp i (k+off)) }:Eff).apply m))
  (hg:o.guard=none:=by exact rfl) (ho:o.op= .fieldAddr T (.tmp t) f:=by exact rfl) (hd:o.dst=some d:=by exact rfl) (hl:look t m.fr=some (.lp i k):=by exact rfl) (hk:dOk (m.st n df next ys kt) (some d)=true:=by exact rfl):DrW ro P c Q s id l n df next ys kt m0 es (o::rest) m:=
 aY { need:=[(t,.lp i k)],dst:=some d,val:=some (.lp i (k+off)) } (fun _ h=>aX (bM hg) (eZ ho h.1.1 F.h hd hk) rfl) ⟨⟨hl,trivial⟩,trivial,trivial⟩ h
theorem dfg {t d T f off i k j dg:Nat} {want b:Bool} [F:FldI P T f off] (hb:b=want) (h:DrW ro P c Q s id l n df next ys kt m0 ({ need:=[(dg,.pv (.bool b)),(t,.lp i k)],dst:=some d,val:=some (.lp i (k+off)) }::es) rest (({ need:=[(dg,.pv (.bool b)),(t,.lp i k)],dst:=some d,val:=some (.lp i (k+off)) }:Eff).apply m))
  (hg:o.guard=some (j,want):=by exact rfl) (hj:((l[j]?).bind (·.dst))=some dg:=by exact rfl) (hn:Nat.blt dg n=true:=by exact rfl) (hgl:look dg m.fr=some (.pv (.bool b)):=by exact rfl) (ho:o.op= .fieldAddr T (.tmp t) f:=by exact rfl) (hd:o.dst=some d:=by exact rfl) (hl:look t m.fr=some (.lp i k):=by exact rfl) (hk:dOk (m.st n df next ys kt) (some d)=true:=by exact rfl):DrW ro P c Q s id l n df next ys kt m0 es (o::rest) m:=
 aY { need:=[(dg,.pv (.bool b)),(t,.lp i k)],dst:=some d,val:=some (.lp i (k+off)) } (fun _ h=>aX (bZ hg hj hn h.1.1 hb) (eZ ho h.1.2.1 F.h hd hk) rfl) ⟨⟨hgl,hl,trivial⟩,trivial,trivial⟩ h
theorem dld {t d T i k tt:Nat} {cells:List AV} {v:AV} [F:OneI P T] (h:DrW ro P c Q s id l n df next ys kt m0 ({ need:=[(t,.lp i k)],hneed:=[(i,.box tt cells)],dst:=some d,val:=some v }::es) rest (({ need:=[(t,.lp i k)],hneed:=[(i,.box tt cells)],dst:=some d,val:=some v }:Eff).apply m))
  (hg:o.guard=none:=by exact rfl) (ho:o.op= .load T (.tmp t):=by exact rfl) (hd:o.dst=some d:=by exact rfl) (hl:look t m.fr=some (.lp i k):=by exact rfl) (hh:look i m.hp=some (.box tt cells):=by exact rfl) (hc:cells[k]? =some v:=by exact rfl) (hk:dOk (m.st n df next ys kt) (some d)=true:=by exact rfl):DrW ro P c Q s id l n df next ys kt m0 es (o::rest) m:=
 aY { need:=[(t,.lp i k)],hneed:=[(i,.box tt cells)],dst:=some d,val:=some v } (fun _ h=>aX (bM hg) (di ho h.1.1 h.2.1.1 hc F.h hd hk) rfl) ⟨⟨hl,trivial⟩,⟨hh,trivial⟩,trivial⟩ h
theorem dlg {t d T i k tt j dg:Nat} {want b:Bool} {cells:List AV} {v:AV} [F:OneI P T] (hb:b=want) (h:DrW ro P c Q s id l n df next ys kt m0 ({ need:=[(dg,.pv (.bool b)),(t,.lp i k)],hneed:=[(i,.box tt cells)],dst:=some d,val:=some v }::es) rest (({ need:=[(dg,.pv (.bool b)),(t,.lp i k)],hneed:=[(i,.box tt cells)],dst:=some d,val:=some v }:Eff).apply m))
  (hg:o.guard=some (j,want):=by exact rfl) (hj:((l[j]?).bind (·.dst))=some dg:=by exact rfl) (hn:Nat.blt dg n=true:=by exact rfl) (hgl:look dg m.fr=some (.pv (.bool b)):=by exact rfl) (ho:o.op= .load T (.tmp t):=by exact rfl) (hd:o.dst=some d:=by exact rfl) (hl:look t m.fr=some (.lp i k):=by exact rfl) (hh:look i m.hp=some (.box tt cells):=by exact rfl) (hc:cells[k]? =some v:=by exact rfl) (hk:dOk (m.st n df next ys kt) (some d)=true:=by exact rfl):DrW ro P c Q s id l n df next ys kt m0 es (o::rest) m:=
 aY { need:=[(dg,.pv (.bool b)),(t,.lp i k)],hneed:=[(i,.box tt cells)],dst:=some d,val:=some v } (fun _ h=>aX (bZ hg hj hn h.1.1 hb) (di ho h.1.2.1 h.2.1.1 hc F.h hd hk) rfl) ⟨⟨hgl,hl,trivial⟩,⟨hh,trivial⟩,trivial⟩ h
theorem dia {t d T T':Nat} {op:BinOp} {k:IntKind} {a b:Int} {r:PV} {y:Value} (h:DrW ro P c Q s id l n df next ys kt m0 ({ need:=[(t,.pv (.int k a))],dst:=some d,val:=some (.pv r) }::es) rest (({ need:=[(t,.pv (.int k a))],dst:=some d,val:=some (.pv r) }:Eff).apply m))
  (hg:o.guard=none:=by exact rfl) (ho:o.op= .binOp op T (.tmp t) (.const y) T':=by exact rfl) (hd:o.dst=some d:=by exact rfl) (hl:look t m.fr=some (.pv (.int k a)):=by exact rfl) (hy:cv y=some (.int k b):=by exact rfl) (hr:PM op k a b=some r:=by exact rfl) (hk:dOk (m.st n df next ys kt) (some d)=true:=by exact rfl):DrW ro P c Q s id l n df next ys kt m0 es (o::rest) m:=
 aY { need:=[(t,.pv (.int k a))],dst:=some d,val:=some (.pv r) } (fun _ h=>aX (bM hg) (jg ho h.1.1 (show ev _ (.const y)=_ by simp only[ev,hy,Option.map_some]) hr hd hk) rfl) ⟨⟨hl,trivial⟩,trivial,trivial⟩ h
theorem dig {t d T T' j dg:Nat} {want z:Bool} {op:BinOp} {k:IntKind} {a b:Int} {r:PV} {y:Value} (hb:z=want) (h:DrW ro P c Q s id l n df next ys kt m0 ({ need:=[(dg,.pv (.bool z)),(t,.pv (.int k a))],dst:=some d,val:=some (.pv r) }::es) rest (({ need:=[(dg,.pv (.bool z)),(t,.pv (.int k a))],dst:=some d,val:=some (.pv r) }:Eff).apply m))
  (hg:o.guard=some (j,want):=by exact rfl) (hj:((l[j]?).bind (·.dst))=some dg:=by exact rfl) (hn:Nat.blt dg n=true:=by exact rfl) (hgl:look dg m.fr=some (.pv (.bool z)):=by exact rfl) (ho:o.op= .binOp op T (.tmp t) (.const y) T':=by exact rfl) (hd:o.dst=some d:=by exact rfl) (hl:look t m.fr=some (.pv (.int k a)):=by exact rfl) (hy:cv y=some (.int k b):=by exact rfl) (hr:PM op k a b=some r:=by exact rfl) (hk:dOk (m.st n df next ys kt) (some d)=true:=by exact rfl):DrW ro P c Q s id l n df next ys kt m0 es (o::rest) m:=
 aY { need:=[(dg,.pv (.bool z)),(t,.pv (.int k a))],dst:=some d,val:=some (.pv r) } (fun _ h=>aX (bZ hg hj hn h.1.1 hb) (jg ho h.1.2.1 (show ev _ (.const y)=_ by simp only[ev,hy,Option.map_some]) hr hd hk) rfl) ⟨⟨hgl,hl,trivial⟩,trivial,trivial⟩ h
theorem dk (d:Nat) (nd:List (Nat×AV)) (v:AV) (hf:∀ m:Mid,Has ⟨nd,[],[],some d,some v,[]⟩ m→∃ s1,dx ro P c o (m.st n df next ys kt) s1∧s1=(Eff.apply ⟨nd,[],[],some d,some v,[]⟩ m).st n df next ys kt)
  (h:DrW ro P c Q s id l n df next ys kt m0 (⟨nd,[],[],some d,some v,[]⟩::es) rest (Eff.apply ⟨nd,[],[],some d,some v,[]⟩ m)) (hg:o.guard=none:=by exact rfl)
  (ht:Has ⟨nd,[],[],some d,some v,[]⟩ m:=by first | exact⟨⟨rfl,trivial⟩,trivial,trivial⟩ | exact⟨⟨rfl,rfl,trivial⟩,trivial,trivial⟩ | exact⟨⟨rfl,rfl,rfl,trivial⟩,trivial,trivial⟩ | exact⟨⟨rfl,rfl,rfl,rfl,trivial⟩,trivial,trivial⟩ | exact⟨trivial,trivial,trivial⟩):DrW ro P c Q s id l n df next ys kt m0 es (o::rest) m:=
 aY _ (fun m h=>by obtain⟨s1,h1,h2⟩:=hf m h;exact aX (bM hg) h1 h2) ht h
theorem dkg {want b:Bool} (hb:b=want) (d:Nat) {dg:Nat} (nd:List (Nat×AV)) (v:AV) (hf:∀ m:Mid,Has ⟨(dg,.pv (.bool b))::nd,[],[],some d,some v,[]⟩ m→∃ s1,dx ro P c o (m.st n df next ys kt) s1∧s1=(Eff.apply ⟨(dg,.pv (.bool b))::nd,[],[],some d,some v,[]⟩ m).st n df next ys kt)
  (h:DrW ro P c Q s id l n df next ys kt m0 (⟨(dg,.pv (.bool b))::nd,[],[],some d,some v,[]⟩::es) rest (Eff.apply ⟨(dg,.pv (.bool b))::nd,[],[],some d,some v,[]⟩ m)) {j:Nat} (hg:o.guard=some (j,want):=by exact rfl) (hj:((l[j]?).bind (·.dst))=some dg:=by exact rfl) (hn:Nat.blt dg n=true:=by exact rfl)
  (ht:Has ⟨(dg,.pv (.bool b))::nd,[],[],some d,some v,[]⟩ m:=by first | exact⟨⟨rfl,trivial⟩,trivial,trivial⟩ | exact⟨⟨rfl,rfl,trivial⟩,trivial,trivial⟩ | exact⟨⟨rfl,rfl,rfl,trivial⟩,trivial,trivial⟩ | exact⟨⟨rfl,rfl,rfl,rfl,trivial⟩,trivial,trivial⟩):DrW ro P c Q s id l n df next ys kt m0 es (o::rest) m:=
 aY _ (fun m h=>by obtain⟨s1,h1,h2⟩:=hf m h;exact aX (bZ hg hj hn h.1.1 hb) h1 h2) ht h
theorem dgo {g g':Prop} (h':g') (h:g'→g:=by first
 | exact fun h=>drm h
 | exact fun h=>dfl h
 | exact fun h=>dld h
 | exact fun h=>dia h
 | exact fun h=>dru h):g:=h h'
theorem dgn {b want:Bool} {g g':Prop} (hb:b=want) (h':g') (h:b=want→g'→g:=by first
 | exact fun hb h=>dfg hb h
 | exact fun hb h=>dlg hb h
 | exact fun hb h=>dig hb h):g:=h hb h'
end
theorem go {g g':Prop} (h':g') (h:g'→g:=by first
 | ((with_reducible refine(?_:_→nJ _ _ _ _ _ _ _));first
  | exact fun h=>rmv h
  | exact fun h=>gp h
  | exact fun h=>ras h
  | exact fun h=>bN (GG h)
  | exact fun h=>rgu h)
 | ((with_reducible refine(?_:_→AW _ _ _ _ _ _));first
  | with_reducible exact fun h=>ap (Ii h)
  | with_reducible exact fun h=>ap h
  | with_reducible exact fun h=>Ii h
  | with_reducible exact fun h=>Ud h
  | with_reducible exact fun h=>Wk h
  | with_reducible exact fun h=>aM h)
 | ((with_reducible refine(?_:_→iv _ _ _ _));first
  | with_reducible exact fun h=>GG h
  | with_reducible exact fun h=>zG h
  | with_reducible exact fun h=>FQ h
  | with_reducible exact fun h=>C9 h)):g:=h h'
end
theorem go2 {g g':Prop} (h':g') (h:g'→g:=by intro h;(iterate 2 refine go ?_);exact h):g:=h h'
theorem go3 {g g':Prop} (h':g') (h:g'→g:=by intro h;(iterate 3 refine go ?_);exact h):g:=h h'
theorem go4 {g g':Prop} (h':g') (h:g'→g:=by intro h;(iterate 4 refine go ?_);exact h):g:=h h'
theorem go5 {g g':Prop} (h':g') (h:g'→g:=by intro h;(iterate 5 refine go ?_);exact h):g:=h h'
theorem go6 {g g':Prop} (h':g') (h:g'→g:=by intro h;(iterate 6 refine go ?_);exact h):g:=h h'
theorem go7 {g g':Prop} (h':g') (h:g'→g:=by intro h;(iterate 7 refine go ?_);exact h):g:=h h'
theorem go8 {g g':Prop} (h':g') (h:g'→g:=by intro h;(iterate 8 refine go ?_);exact h):g:=h h'
theorem go9 {g g':Prop} (h':g') (h:g'→g:=by intro h;(iterate 9 refine go ?_);exact h):g:=h h'
end Go.Abs

/- Maps whose keys are pairs of numbers; entries that await their value. -/
namespace Go.Abs
variable {G:List (Nat×List PV)}
open Go.RowKit
def kb2 (a b:Int):List UInt8:=keyBytes [.int .i64 a,.int .i64 b]
def Um (n:Int):Bool:=decide (IntKind.i64.min≤n)&&decide (n≤IntKind.i64.max)
theorem SS {n:Int} (h:Um n=true):(Lit.int .i64 n).wf=true:=h
structure Map2 (P:Program) (T k e E:Nat):Prop where
 m1:P.underlying T=some (.map k e)
 m3:P.underlying e=some (.int .i64)
 ka:P.underlying k=some (.array 2 E)
 kE:P.underlying E=some (.int .i64)
 ck:P.cellsOf k=2
 cE:P.cellsOf E=1
 kt:P.keyType k=true
 kt3:P.keyTypeAt 3 k=true
 lt:k < P.types.size
 laid:laidOutB P=true
theorem Map2.key {P:Program} {T k e E:Nat} (h:Map2 P T k e E) {a b:Int} (ha:Um a=true) (hb:Um b=true):keyOf P k (.agg #[.int .i64 a,.int .i64 b])=some (.string (kb2 a b)):=by
 have hsz:∃ d,P.types.size=d+1:=⟨P.types.size - 1,by have:=h.lt;omega⟩
 obtain⟨d,hd⟩:=hsz
 unfold keyOf
 rw[h.ka]
 have hf:(Value.agg #[.int .i64 a,.int .i64 b]).formed P k=true:=by
  unfold Value.formed;rw[h.ka];simp[h.ck]
 have h1:∀ n:Int,Um n=true→P.keyLits (d+1) E [.int .i64 n]=some [.int .i64 n]:=by
  intro n hn
  unfold Program.keyLits
  rw[h.kE]
  simp[SS hn]
 have h2:P.keyLits (d+1 + 1) k [.int .i64 a,.int .i64 b]=some [.int .i64 a,.int .i64 b]:=by
  have e1:=h1 a ha
  have e2:=h1 b hb
  generalize hd1:d+1=d1 at e1 e2
  unfold Program.keyLits
  rw[h.ka]
  simp[h.ck,h.cE,List.range_succ,e1,e2]
 simp only[h.kt,hf,Bool.and_self,if_true]
 rw[hd]
 show Option.map _ (P.keyLits (d+1 + 1) k [.int .i64 a,.int .i64 b])=_
 rw[h2];rfl
theorem SimAt.name {c:Cx G} {s:St} {O:Nat→Prop} {θ:Nat→Option Value} {a:Act} {w:World} (h:SimAt c s O θ a w) (k:Nat) (hk:jf s k=true) {v:Value} (hv:bT v=none) (hone:v.oneCell'=true):
  SimAt c { s with next:=bif Nat.beq k s.next then k+1 else s.next,free:=s.free.filter fun x=> !([k].elem x) } O (fun i=>if i=k then some v else θ i) a w∧(∀ i u,θ i=some u→(if i=k then some v else θ i)=some u):=by
 have hkne:∀ i u,θ i=some u→i≠k:=by
  intro i u hi e
  subst e
  have h1:=h.dom i u hi
  simp only[jf,Bool.or_eq_true,List.elem_eq_mem,decide_eq_true_eq] at hk
  rcases hk with hk | hk
  ·have:=Nat.eq_of_beq_eq_true hk;omega
  ·exact h1.2 hk
 have hθ:∀ i u,θ i=some u→(if i=k then some v else θ i)=some u:=by
  intro i u hi
  rw[if_neg (hkne i u hi)];exact hi
 have hback:∀ i u,(if i=k then some v else θ i)=some u→(i=k∧u=v)∨θ i=some u:=by
  intro i u hi
  split at hi
  ·rename_i e;cases hi;exact .inl ⟨e,rfl⟩
  ·exact .inr hi
 have hm:∀ b,b < w.heap.size→¬ O b→¬ O b∧w.heap[b]? =w.heap[b]? :=fun b _ hn=>⟨hn,rfl⟩
 refine⟨⟨h.size,h.df,fun t x hx=>(h.fr t x hx).mono (Nat.le_refl _) hm hθ,fun id b hb=> ?_,fun i j bi bj vi vj g hi hj hvi hvj hgi hgj=> ?_,fun id u hu=> ?_,fun x hx=> ?_,fun id u hu=> ?_,h.olt,h.ext,h.xo,h.xlt,h.llt,h.marks,h.oc,h.kp,?_⟩,hθ⟩
 ·obtain⟨u,hu,hbo,hg⟩:=h.hp id b hb
  exact⟨u,hθ _ _ hu,hbo.mono (Nat.le_refl _) hm hθ (fun _ _=>rfl),hg⟩
 ·rcases hback i vi hvi with⟨_,rfl⟩ | h1
  ·rw[hv] at hgi;cases hgi
  ·rcases hback j vj hvj with⟨_,rfl⟩ | h2
   ·rw[hv] at hgj;cases hgj
   ·exact h.inj i j bi bj vi vj g hi hj h1 h2 hgi hgj
 ·show id < (bif Nat.beq k s.next then k+1 else s.next)∧id ∉ s.free.filter fun x=> !([k].elem x)
  rcases hback id u hu with⟨rfl,_⟩ | h1
  ·refine⟨?_,by simp⟩
   cases hb:Nat.beq id s.next with
   | true=>simp
   | false=>
    simp only[cond_false]
    simp only[jf,hb,Bool.false_or,List.elem_eq_mem,decide_eq_true_eq] at hk
    exact h.flt id hk
  ·obtain⟨d1,d2⟩:=h.dom id u h1
   refine⟨?_,fun hm=>d2 (List.mem_filter.1 hm).1⟩
   cases hb:Nat.beq k s.next with
   | true=>have:=Nat.eq_of_beq_eq_true hb;simp;omega
   | false=>simpa using d1
 ·show x < (bif Nat.beq k s.next then k+1 else s.next)
  have h1:=h.flt x (List.mem_filter.1 hx).1
  cases hb:Nat.beq k s.next with
  | true=>have:=Nat.eq_of_beq_eq_true hb;simp;omega
  | false=>simpa using h1
 ·rcases hback id u hu with⟨_,rfl⟩ | h1
  ·exact hone
  ·exact h.one id u h1
 ·refine c.Jst h.jn ⟨rfl,rfl,rfl,Nat.le_refl _,fun _ _ _=>rfl,fun g h=> .inl h,fun g h _=>h,h.olt,fun g hI=> .inl ?_⟩
  rcases hI with hI | ⟨id,b,u,h1,h2,h3⟩ | hI
  ·exact .inl hI
  ·rcases hback id u h2 with⟨_,rfl⟩ | h4
   ·rw[hv] at h3;cases h3
   ·exact .inr (.inl ⟨id,b,u,h1,h4,h3⟩)
  ·exact .inr (.inr hI)
section
variable {ro:Option Nat} {P:Program} {c:Cx G} {s:St} {o:Oper} {d:Option Nat}
end
end Go.Abs

/- The slice of a row's first elements, handed to a function that reads it. -/
namespace Go.Abs
variable {G:List (Nat×List PV)}
open Go.RowKit
section
variable {ro:Option Nat} {P:Program} {c:Cx G} {s s':St} {o:Oper} {d:Option Nat}
end
end Go.Abs

/- A region that draws its order, in which an operation that reads a block may come ahead of one that writes it, or behind. -/
namespace Go.Abs
variable {G:List (Nat×List PV)}
open Go.RowKit
def exB (hid:Nat) (ep eq2:Eff):Bool:=ep.upd.isEmpty&&(rH ep==[hid])&&(wT ep).all (fun t=> !((wT eq2).elem t)&& !((rT eq2).elem t))&&(wT eq2).all fun t=> !((rT ep).elem t)
theorem Ma {hid:Nat} {ep eq2:Eff} (h:exB hid ep eq2=true):wH ep=[]∧True∧rH ep=[hid]∧(∀ t∈wT ep,t ∉ wT eq2∧t ∉ rT eq2)∧∀ t∈wT eq2,t ∉ rT ep:=by
 simp only[exB,Bool.and_eq_true,List.all_eq_true,beq_iff_eq,List.isEmpty_iff] at h
 obtain⟨⟨⟨h1,h2⟩,h3⟩,h4⟩:=h
 exact⟨by simp[wH,h1],trivial,h2,fun t ht=>by have:=h3 t ht;simpa using this,fun t ht=>by have:=h4 t ht;simpa using this⟩
section
variable {ro:Option Nat} {P:Program} {c:Cx G} {Q:Exit→Act→World→Prop} {s s':St}
end
end Go.Abs

