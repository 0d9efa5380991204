/- The abstract layer that the proof stands on: no condition. -/
import Derived.OrdersIn
import Derived.Laws.OwnMore
import Derived.Laws.AppendOwnNone
import Derived.Laws.MakeOwn
import Derived.Laws.CopyOwn
import Derived.Below
import Derived.Maps.Views
import Derived.Maps.Own
import Derived.TacticsIn
import Derived.LoopNIn
import Derived.OwnWalkIn
import Derived.Laws.StructEq
import Derived.Laws.Entries
import Derived.Laws.Cells
import Derived.KernelRfl
import Derived.Laws.CopyRow
/- Abstract values over the model's memory: what a Go value reads as, with no word on where it lies. -/
namespace Go.Abs
open List
open Go.RowKit
def MapAt (w:World) (P:Program) (t n:Nat) (m:List UInt8->Option Int) (b:Nat):Prop:=
 ∃ (k e:Nat) (D:DataW Unit),P.underlying t=some (.map k e)/\WideMaps.KeyLaw P k/\P.underlying e=some (.int .i64)/\w.ownsMap P k (plainElem P e) b n D/\Maps.IsMap D/\
  ∀ key:List UInt8,Maps.has D (.string key)=(m key).isSome/\D.atKey (.string key) (.lit (.int .i64 0))= .lit (.int .i64 ((m key).getD 0))
theorem MapAt.of_block {w w':World} {P:Program} {t n:Nat} {m:List UInt8->Option Int} {b:Nat} (h:MapAt w P t n m b) (hb:w'.heap[b]? =w.heap[b]?):MapAt w' P t n m b:=by
 obtain⟨k,e,D,h1,h2,h3,⟨es,clock,q1,q2⟩,h5⟩:=h
 exact⟨k,e,D,h1,h2,h3,⟨es,clock,by rw[hb];exact q1,q2⟩,h5⟩
def EntAt (w:World) (P:Program) (t n:Nat) (m:List UInt8->Option Int) (key:List UInt8) (b st:Nat):Prop:=
 (∃ (n':Nat) (m':List UInt8->Option Int),MapAt w P t n' m' b/\∀ y,(m' y).getD 0=(m y).getD 0)/\∃ (es:Array MapEntry) (clock:Nat),w.heap[b]? =some (.map es clock)/\∀ (w2:World) (x:Int),w2.heap[b]? =some (.map es clock)->IntKind.i64.min<=x->x<=IntKind.i64.max->
  ∃ w3,(Instr.entryStore t (.map (some b)) (goInt st) (.int .i64 x)).run P w2= .ok () w3/\w2.grownBy w3 (some b)/\MapAt w3 P t (n+1) (fun y=>if y=key then some x else m y) b
theorem EntAt.of_block {w w':World} {P:Program} {t n:Nat} {m:List UInt8->Option Int} {key:List UInt8} {b st:Nat} (h:EntAt w P t n m key b st) (hb:w'.heap[b]? =w.heap[b]?):EntAt w' P t n m key b st:=by
 obtain⟨⟨n',m',h3,h4⟩,es,clock,h1,h2⟩:=h
 exact⟨⟨n',m',h3.of_block hb,h4⟩,es,clock,by rw[hb];exact h1,h2⟩
def IntsAt (w:World) (O:Nat->Prop) (u:Value) (zs:List Int):Prop:=
 (u= .slice none 0 0/\zs=[])\/∃ (g cap:Nat),u= .slice (some ⟨g,0,none⟩) zs.length cap/\¬ O g/\g < w.heap.size/\zs.length<=cap/\cap<=maxLen/\∀ k,k < zs.length->w.cell? ⟨g,k,none⟩=some (.int .i64 (zs.getD k 0))
def RowsAt (w:World) (O:Nat->Prop) (P:Program) (t:Nat) (f:Int->List Int) (b:Nat):Prop:=
 ∃ (es:Array MapEntry) (clock:Nat),w.heap[b]? =some (.map es clock)/\∀ key:Int,IntKind.i64.min<=key->key<=IntKind.i64.max->∀ w2:World,w2.heap[b]? =some (.map es clock)->∃ u,IntsAt w O u (f key)/\(Instr.lookup t (.map (some b)) (.int .i64 key) false).run P w2= .ok u w2
theorem IntsAt.mono {w w':World} {O O':Nat->Prop} (hsz:w.heap.size<=w'.heap.size) (hO:∀ b,b < w.heap.size->¬ O b->¬ O' b/\∀ k u,w.cell? ⟨b,k,none⟩=some u->w'.cell? ⟨b,k,none⟩=some u) {u:Value} {zs:List Int} (h:IntsAt w O u zs):IntsAt w' O' u zs:=by
 rcases h with h | ⟨g,cap,h1,h2,h3,h4,h5,h6⟩
 ·exact .inl h
 ·obtain⟨h7,h8⟩:=hO g h3 h2
  exact .inr ⟨g,cap,h1,h7,by omega,h4,h5,fun k hk=>h8 k _ (h6 k hk)⟩
theorem RowsAt.mono {w w':World} {O O':Nat->Prop} {P:Program} {t:Nat} {f:Int->List Int} {b:Nat} (hsz:w.heap.size<=w'.heap.size) (hO:∀ b,b < w.heap.size->¬ O b->¬ O' b/\∀ k u,w.cell? ⟨b,k,none⟩=some u->w'.cell? ⟨b,k,none⟩=some u)
  (h:RowsAt w O P t f b) (hb:w'.heap[b]? =w.heap[b]?):RowsAt w' O' P t f b:=by
 obtain⟨es,clock,h1,h2⟩:=h
 refine⟨es,clock,by rw[hb];exact h1,fun key k1 k2 w2 hw=> ?_⟩
 obtain⟨u,h3,h4⟩:=h2 key k1 k2 w2 hw
 exact⟨u,h3.mono hsz hO,h4⟩
inductive PV where
 | int (k:IntKind) (n:Int)
 | bool (b:Bool)
 | str (s:List UInt8)
 | agg (cs:List PV)
 | vs (sz:Nat) (rows:List (List PV))
 | vp (row:List PV)
 | nilp
 | nils
 | fn (f:Nat) (caps:List PV)
 | nilf
 | nili
 | nilm
 | yld (l:Nat)
 | mpv (P:Program) (t:Nat) (m:List UInt8->Option Int)
 | mrv (P:Program) (t:Nat) (f:Int->List Int)
 | raw (v:Value)
def PV.one : PV->Bool
 | .agg _=>false
 | _=>true
inductive Rd (w:World) (O:Nat->Prop):PV->Value->Prop
 | int (k:IntKind) (n:Int):Rd w O (.int k n) (.int k n)
 | bool (b:Bool):Rd w O (.bool b) (.bool b)
 | str (s:List UInt8):Rd w O (.str s) (.string ⟨s.toArray⟩)
 | agg (cs:List PV) (us:Array Value) (hn:us.size=cs.length) (hone:∀ c∈cs,c.one=true)
   (h:∀ (i:Nat) (c:PV) (u:Value),cs[i]? =some c->us[i]? =some u->Rd w O c u):Rd w O (.agg cs) (.agg us)
 | vsz (sz:Nat) (a:Option Addr) (cap:Nat) (h0:a=none->cap=0) (hm:cap<=maxLen):Rd w O (.vs sz []) (.slice a 0 cap)
 | vs (sz:Nat) (rows:List (List PV)) (b off cap:Nat) (us:Nat->Value) (hO:¬ O b) (hb:b < w.heap.size) (hc:rows.length<=cap) (hm:cap<=maxLen)
   (hz:∀ row∈rows,row.length=sz) (hone:∀ row∈rows,∀ c∈row,c.one=true)
   (hcell:∀ k,k < rows.length * sz->w.cell? ⟨b,off+k,none⟩=some (us k))
   (h:∀ (i j:Nat) (row:List PV) (c:PV),rows[i]? =some row->row[j]? =some c->Rd w O c (us (i * sz+j))):
   Rd w O (.vs sz rows) (.slice (some ⟨b,off,none⟩) rows.length cap)
 | vp (row:List PV) (b off:Nat) (us:Nat->Value) (hO:¬ O b) (hb:b < w.heap.size) (hone:∀ c∈row,c.one=true)
   (hcell:∀ k,k < row.length->w.cell? ⟨b,off+k,none⟩=some (us k))
   (h:∀ (j:Nat) (c:PV),row[j]? =some c->Rd w O c (us j)):
   Rd w O (.vp row) (.pointer (some ⟨b,off,none⟩))
 | nilp:Rd w O .nilp (.pointer none)
 | nils:Rd w O .nils (.slice none 0 0)
 | fn (f:Nat) (caps:List PV) (us:Array Value) (hn:us.size=caps.length)
   (h:∀ (i:Nat) (c:PV) (u:Value),caps[i]? =some c->us[i]? =some u->Rd w O c u):Rd w O (.fn f caps) (.func (.func f) #[] us)
 | nilf:Rd w O .nilf .nilFunc
 | nili:Rd w O .nili .nilIface
 | nilm:Rd w O .nilm (.map none)
 | yld (l:Nat):Rd w O (.yld l) (.func (.yield l) #[] #[])
 | mpv (P:Program) (t n:Nat) (m:List UInt8->Option Int) (b:Nat) (hO:¬ O b) (hb:b < w.heap.size) (h:MapAt w P t n m b):Rd w O (.mpv P t m) (.map (some b))
 | mrv (P:Program) (t:Nat) (f:Int->List Int) (b:Nat) (hO:¬ O b) (hb:b < w.heap.size) (h:RowsAt w O P t f b):Rd w O (.mrv P t f) (.map (some b))
 | raw (v:Value) (h:v.oneCell'=true):Rd w O (.raw v) v
theorem Rd.mono {w w':World} {O O':Nat->Prop} (hsz:w.heap.size<=w'.heap.size)
  (hO:∀ b,b < w.heap.size->¬ O b->¬ O' b/\w'.heap[b]? =w.heap[b]?):∀ {p:PV} {v:Value},Rd w O p v->Rd w' O' p v:=by
 intro p v h
 induction h with
 | int k n=>exact .int k n
 | bool b=>exact .bool b
 | str s=>exact .str s
 | agg cs us hn hone h ih=>exact .agg cs us hn hone ih
 | vsz sz a cap h0 hm=>exact .vsz sz a cap h0 hm
 | vs sz rows b off cap us h1 h2 h3 h4 h5 h6 h7 h8 ih=>
  obtain⟨h9,h11⟩:=hO b h2 h1
  exact .vs sz rows b off cap us h9 (by omega) h3 h4 h5 h6 (fun k hk=>(World.cell?_of_block (a:=⟨b,off+k,none⟩) h11).trans (h7 k hk)) ih
 | vp row b off us h1 h2 h3 h4 h5 ih=>
  obtain⟨h9,h11⟩:=hO b h2 h1
  exact .vp row b off us h9 (by omega) h3 (fun k hk=>(World.cell?_of_block (a:=⟨b,off+k,none⟩) h11).trans (h4 k hk)) ih
 | nilp=>exact .nilp
 | nils=>exact .nils
 | fn f caps us hn h ih=>exact .fn f caps us hn ih
 | nilf=>exact .nilf
 | nili=>exact .nili
 | nilm=>exact .nilm
 | yld l=>exact .yld l
 | mpv P t n m b h1 h2 h3=>
  obtain⟨h9,h11⟩:=hO b h2 h1
  exact .mpv P t n m b h9 (by omega) (h3.of_block h11)
 | mrv P t f b h1 h2 h3=>
  obtain⟨h9,h11⟩:=hO b h2 h1
  exact .mrv P t f b h9 (by omega) (h3.mono hsz (fun b h2 h1=>⟨(hO b h2 h1).1,fun k u hk=>(World.cell?_of_block (a:=⟨b,k,none⟩) (hO b h2 h1).2).trans hk⟩) h11)
 | raw v h=>exact .raw v h
theorem Rd.vs0 {w:World} {O:Nat->Prop} (sz:Nat):Rd w O (.vs sz []) (.slice none 0 0):= .vsz sz none 0 (fun _=>rfl) (Nat.zero_le _)
theorem Rd.one_ {w:World} {O:Nat->Prop} {p:PV} {v:Value} (h:Rd w O p v) (hp:p.one=true):v.oneCell'=true:=by
 cases h<;>first | rfl | assumption | simp[PV.one] at hp
inductive AV where
 | pv (p:PV)
 | ls (id:Nat)
 | le (id sz i off:Nat)
 | lp (id off:Nat)
 | cs (sz:Nat) (rows:List (List PV))
 | ra (id m:Nat)
 | aw (id off n:Nat)
 | sp (id sz:Nat) (r:List (List PV))
 | bp (id:Nat)
 | fn (f:Nat) (caps:List AV)
 | mv (f:Nat) (fst:List AV)
 | tup (vs:List AV)
 | agg (vs:List AV)
 | any
def adT (m:Nat):Value->Option Value
 | .slice a n cap=>if m<=n then some (.slice a m cap) else none
 | _=>none
inductive RdA (w:World) (O:Nat->Prop) (θ:Nat->Option Value):AV->Value->Prop
 | pv (p:PV) (v:Value) (h:Rd w O p v):RdA w O θ (.pv p) v
 | ls (id:Nat) (v:Value) (h:θ id=some v):RdA w O θ (.ls id) v
 | le (id sz i off g n cap:Nat) (h:θ id=some (.slice (some ⟨g,0,none⟩) n cap)):RdA w O θ (.le id sz i off) (.pointer (some ⟨g,i * sz+off,none⟩))
 | lp (id off g:Nat) (h:θ id=some (.pointer (some ⟨g,0,none⟩))):RdA w O θ (.lp id off) (.pointer (some ⟨g,off,none⟩))
 | ra (id m g n cap:Nat) (h:θ id=some (.slice (some ⟨g,0,none⟩) n cap)) (h0:0 < m):RdA w O θ (.ra id m) (.slice (some ⟨g,0,none⟩) m m)
 | aw (id off n g:Nat) (h:θ id=some (.pointer (some ⟨g,0,none⟩))):RdA w O θ (.aw id off n) (.slice (some ⟨g,off,none⟩) n n)
 | sp (id sz:Nat) (r:List (List PV)) (v0 v:Value) (h:θ id=some v0) (hc:adT r.length v0=some v):RdA w O θ (.sp id sz r) v
 | bp0 (id:Nat):RdA w O θ (.bp id) (.pointer none)
 | bp1 (id g:Nat) (h:θ id=some (.pointer (some ⟨g,0,none⟩))):RdA w O θ (.bp id) (.pointer (some ⟨g,0,none⟩))
 | cs (sz:Nat) (rows:List (List PV)) (v:Value) (h:Rd w O (.vs sz rows) v) (hc:∃ a n,v= .slice a n n):RdA w O θ (.cs sz rows) v
 | fn (f:Nat) (caps:List AV) (us:Array Value) (hn:us.size=caps.length)
   (h:∀ (i:Nat) (c:AV) (u:Value),caps[i]? =some c->us[i]? =some u->RdA w O θ c u):RdA w O θ (.fn f caps) (.func (.func f) #[] us)
 | mv (f:Nat) (fst:List AV) (us:Array Value) (hn:us.size=fst.length)
   (h:∀ (i:Nat) (c:AV) (u:Value),fst[i]? =some c->us[i]? =some u->RdA w O θ c u):RdA w O θ (.mv f fst) (.func (.func f) us #[])
 | tup (xs:List AV) (us:Array Value) (hn:us.size=xs.length)
   (h:∀ (i:Nat) (c:AV) (u:Value),xs[i]? =some c->us[i]? =some u->RdA w O θ c u):RdA w O θ (.tup xs) (.tuple us)
 | any (v:Value):RdA w O θ .any v
 | agg (xs:List AV) (us:Array Value) (hn:us.size=xs.length) (h1:∀ (i:Nat) (u:Value),us[i]? =some u->u.oneCell'=true)
   (h:∀ (i:Nat) (c:AV) (u:Value),xs[i]? =some c->us[i]? =some u->RdA w O θ c u):RdA w O θ (.agg xs) (.agg us)
theorem RdA.mono {w w':World} {O O':Nat->Prop} {θ θ':Nat->Option Value} (hsz:w.heap.size<=w'.heap.size)
  (hO:∀ b,b < w.heap.size->¬ O b->¬ O' b/\w'.heap[b]? =w.heap[b]?) (hθ:∀ i v,θ i=some v->θ' i=some v):∀ {x:AV} {v:Value},RdA w O θ x v->RdA w' O' θ' x v:=by
 intro x v h
 induction h with
 | pv p v h=>exact .pv p v (h.mono hsz hO)
 | ls id v h=>exact .ls id v (hθ _ _ h)
 | le id sz i off g n cap h=>exact .le id sz i off g n cap (hθ _ _ h)
 | lp id off g h=>exact .lp id off g (hθ _ _ h)
 | ra id m g n cap h h0=>exact .ra id m g n cap (hθ _ _ h) h0
 | aw id off n g h=>exact .aw id off n g (hθ _ _ h)
 | sp id sz r v0 v h hc=>exact .sp id sz r v0 v (hθ _ _ h) hc
 | bp0 id=>exact .bp0 id
 | bp1 id g h=>exact .bp1 id g (hθ _ _ h)
 | cs sz rows v h hc=>exact .cs sz rows v (h.mono hsz hO) hc
 | fn f caps us hn h ih=>exact .fn f caps us hn ih
 | mv f fst us hn h ih=>exact .mv f fst us hn ih
 | tup xs us hn h ih=>exact .tup xs us hn ih
 | agg xs us hn h1 h ih=>exact .agg xs us hn h1 ih
 | any v=>exact .any v
mutual
def AV.map (ρ:Nat->Nat):AV->AV
 | .pv p=> .pv p
 | .ls id=> .ls (ρ id)
 | .le id sz i off=> .le (ρ id) sz i off
 | .lp id off=> .lp (ρ id) off
 | .cs sz rows=> .cs sz rows
 | .ra id m=> .ra (ρ id) m
 | .aw id off n=> .aw (ρ id) off n
 | .sp id sz r=> .sp (ρ id) sz r
 | .bp id=> .bp (ρ id)
 | .fn f caps=> .fn f (AV.mapL ρ caps)
 | .mv f fst=> .mv f (AV.mapL ρ fst)
 | .tup vs=> .tup (AV.mapL ρ vs)
 | .agg vs=> .agg (AV.mapL ρ vs)
 | .any=> .any
def AV.mapL (ρ:Nat->Nat):List AV->List AV
 | []=>[]
 | x::l=>x.map ρ::AV.mapL ρ l
end
theorem AV.mapL_get (ρ:Nat->Nat):∀ (l:List AV) (i:Nat),(AV.mapL ρ l)[i]? =(l[i]?).map (AV.map ρ)
 | [],i=>by simp[AV.mapL]
 | x::l,0=>by simp[AV.mapL]
 | x::l,i+1=>by simp[AV.mapL,AV.mapL_get ρ l i]
theorem AV.mapL_length (ρ:Nat->Nat):∀ (l:List AV),(AV.mapL ρ l).length=l.length
 | []=>by simp[AV.mapL]
 | x::l=>by simp[AV.mapL,AV.mapL_length ρ l]
theorem RdA.ren {w:World} {O:Nat->Prop} {θ θ':Nat->Option Value} (ρ:Nat->Nat) (hθ:∀ i v,θ (ρ i)=some v->θ' i=some v):
  ∀ {y:AV} {v:Value},RdA w O θ y v->∀ x:AV,y=x.map ρ->RdA w O θ' x v:=by
 intro y v h
 induction h with
 | pv p v h=>intro x hx;cases x<;>simp[AV.map] at hx;subst hx;exact .pv _ v h
 | ls id v h=>intro x hx;cases x<;>simp[AV.map] at hx;subst hx;exact .ls _ v (hθ _ _ h)
 | le id sz i off g n cap h=>intro x hx;cases x<;>simp[AV.map] at hx;obtain⟨rfl,rfl,rfl,rfl⟩:=hx;exact .le _ _ _ _ g n cap (hθ _ _ h)
 | lp id off g h=>intro x hx;cases x<;>simp[AV.map] at hx;obtain⟨rfl,rfl⟩:=hx;exact .lp _ _ g (hθ _ _ h)
 | ra id m g n cap h h0=>intro x hx;cases x<;>simp[AV.map] at hx;obtain⟨rfl,rfl⟩:=hx;exact .ra _ _ g n cap (hθ _ _ h) h0
 | aw id off n g h=>intro x hx;cases x<;>simp[AV.map] at hx;obtain⟨rfl,rfl,rfl⟩:=hx;exact .aw _ _ _ g (hθ _ _ h)
 | sp id sz r v0 v h hc=>intro x hx;cases x<;>simp[AV.map] at hx;obtain⟨rfl,rfl,rfl⟩:=hx;exact .sp _ _ _ v0 v (hθ _ _ h) hc
 | bp0 id=>intro x hx;cases x<;>simp[AV.map] at hx;exact .bp0 _
 | any v=>intro x hx;cases x<;>simp[AV.map] at hx;exact .any v
 | bp1 id g h=>intro x hx;cases x<;>simp[AV.map] at hx;subst hx;exact .bp1 _ g (hθ _ _ h)
 | cs sz rows v h hc=>intro x hx;cases x<;>simp[AV.map] at hx;obtain⟨rfl,rfl⟩:=hx;exact .cs _ _ v h hc
 | fn f caps us hn h ih=>
  intro x hx;cases x<;>simp[AV.map] at hx
  rename_i g cs
  obtain⟨rfl,rfl⟩:=hx
  refine .fn _ cs us (by rw[hn,AV.mapL_length]) fun i c u hc hu=> ?_
  have:=ih i (c.map ρ) u (by rw[AV.mapL_get,hc];rfl) hu
  exact this c rfl
 | mv f fst us hn h ih=>
  intro x hx;cases x<;>simp[AV.map] at hx
  rename_i g cs
  obtain⟨rfl,rfl⟩:=hx
  refine .mv _ cs us (by rw[hn,AV.mapL_length]) fun i c u hc hu=> ?_
  have:=ih i (c.map ρ) u (by rw[AV.mapL_get,hc];rfl) hu
  exact this c rfl
 | tup xs us hn h ih=>
  intro x hx;cases x<;>simp[AV.map] at hx
  rename_i cs
  subst hx
  refine .tup cs us (by rw[hn,AV.mapL_length]) fun i c u hc hu=> ?_
  have:=ih i (c.map ρ) u (by rw[AV.mapL_get,hc];rfl) hu
  exact this c rfl
 | agg xs us hn h1 h ih=>
  intro x hx;cases x<;>simp[AV.map] at hx
  rename_i cs
  subst hx
  refine .agg cs us (by rw[hn,AV.mapL_length]) h1 fun i c u hc hu=> ?_
  have:=ih i (c.map ρ) u (by rw[AV.mapL_get,hc];rfl) hu
  exact this c rfl
inductive Blk where
 | row (e:TypeId) (sz:Nat) (rows:List (List PV))
 | box (t:TypeId) (cells:List AV)
 | dict (P:Program) (t:TypeId) (n:Nat) (m:List UInt8->Option Int)
 | dictE (P:Program) (t:TypeId) (n:Nat) (m:List UInt8->Option Int) (key:List UInt8) (id2:Nat)
def Blk.map (ρ:Nat->Nat):Blk->Blk
 | .row e sz rows=> .row e sz rows
 | .box t cells=> .box t (AV.mapL ρ cells)
 | .dict P t n m=> .dict P t n m
 | .dictE P t n m key id2=> .dictE P t n m key (ρ id2)
def bU : Value->Option Nat
 | .slice (some a) _ _=>some a.block
 | .pointer (some a)=>some a.block
 | .map (some b)=>some b
 | _=>none
structure RowsRd (w:World) (O:Nat->Prop) (sz:Nat) (rows:List (List PV)) (us:List Value):Prop where
 len:us.length=rows.length * sz
 hz:∀ row∈rows,row.length=sz
 one:∀ row∈rows,∀ c∈row,c.one=true
 rd:∀ (i j:Nat) (row:List PV) (c:PV) (u:Value),rows[i]? =some row->row[j]? =some c->us[i * sz+j]? =some u->Rd w O c u
def ownsW (w:World) (e:TypeId) (size:Nat) (v:Value) (n:Nat) (xs:List Value):Prop:=
 xs.length=n * size/\
 ((v= .slice none 0 0/\n=0)\/
  ∃ g cap cur,v= .slice (some ⟨g,0,none⟩) n cap/\True/\w.heap[g]? =some (.cells cur e (0,0))/\n<=cap/\cap<=maxLen/\cap * size<=cur.size/\cur.toList.take (n * size)=xs)
theorem zU (w:World) (e:TypeId) (size:Nat):ownsW w e size (.slice none 0 0) 0 []:=⟨by simp,.inl ⟨rfl,rfl⟩⟩
theorem ownsW.cells {w:World} {e:TypeId} {size n:Nat} {v:Value} {xs:List Value} (h:ownsW w e size v n xs) {g:Nat} (hg:bU v=some g):∀ j u,xs[j]? =some u->w.cell? ((⟨g,0,none⟩:Addr).add j)=some u:=by
 intro j u hu
 rcases h.2 with⟨rfl,_⟩ | ⟨g',cap,cur,rfl,_,hgg,_,_,_,ht⟩
 ·cases hg
 ·cases hg
  rw[Addr.add_lit,cell_of_row w g' _ cur e (0,0) hgg,Nat.zero_add]
  rw[<- ht,getElem?_take] at hu
  split at hu
  ·simpa using hu
  ·cases hu
def BlkOk (w:World) (O:Nat->Prop) (θ:Nat->Option Value) (v:Value):Blk->Prop
 | .row e sz rows=>∃ us,ownsW w e sz v rows.length us/\RowsRd w O sz rows us
 | .box t cells=>∃ g us,v= .pointer (some ⟨g,0,none⟩)/\w.heap[g]? =some (.cells us t (0,0))/\us.size=cells.length/\
   ∀ (j:Nat) (c:AV) (u:Value),cells[j]? =some c->us[j]? =some u->RdA w O θ c u/\u.oneCell'=true
 | .dict P t n m=>∃ b:Nat,v= .map (some b)/\MapAt w P t n m b
 | .dictE P t n m key id2=>∃ (b:Nat) (st:Nat),v= .map (some b)/\θ id2=some (goInt st)/\EntAt w P t n m key b st
structure St where
 n:Nat
 fr:List (Nat×Option AV)
 hp:List (Nat×Option Blk)
 next:Nat
 df:List Deferred:=[]
 free:List Nat:=[]
 ys:Nat:=0
 kt:List Nat:=[]
def aX {α:Type} (t:Nat):List (Nat×Option α)->Option α
 | []=>none
 | (k,x)::l=>bif Nat.beq k t then x else aX t l
def St.put (s:St) (d:Option Nat) (x:Option AV):St:=
 match d with
 | some d=>{ s with fr:=(d,x)::s.fr }
 | none=>s
def St.setBlk (s:St) (id:Nat) (b:Option Blk):St:={ s with hp:=(id,b)::s.hp }
structure Stp (O I:Nat->Prop) (w:World) (O' I':Nat->Prop) (w':World):Prop where
 os:w'.os=w.os
 tape:w'.tape=w.tape
 output:w'.output=w.output
 size:w.heap.size<=w'.heap.size
 block:∀ b,b < w.heap.size->(¬ I b\/¬ O b)->w'.heap[b]? =w.heap[b]?
 o1:∀ g,O' g->O g\/w.heap.size<=g
 o2:∀ g,O g->¬ I g->O' g
 olt:∀ g,O' g->g < w'.heap.size
 i1:∀ g,I' g->I g\/w.heap.size<=g
variable {G:List (Nat×List PV)}
def GlobOk (G:List (Nat×List PV)) (w:World) (O:Nat->Prop):Prop:=∀ x∈G,Rd w O (.vp x.2) (.pointer (some ⟨x.1,0,none⟩))
theorem GlobOk.stp {O I:Nat->Prop} {w:World} {O' I':Nat->Prop} {w':World} (h:GlobOk G w O) (s:Stp O I w O' I' w'):GlobOk G w' O':=fun x hx=>
 (h x hx).mono s.size fun b hb hO=>⟨fun h4=>by
  rcases s.o1 _ h4 with h5 | h5
  ·exact hO h5
  ·omega,s.block b hb (.inr hO)⟩
theorem GlobOk.shut {O:Nat->Prop} {w:World} (h:GlobOk G w O):GlobOk G w (fun _=>False):=fun x hx=>(h x hx).mono (Nat.le_refl _) fun _ _ _=>⟨fun h=>h,rfl⟩
structure Cx (G:List (Nat×List PV)) where
 w0:World
 L:Nat->Prop
 X:Nat->Prop
 K:Nat->Prop
 J:Nat->(Nat->Prop)->(Nat->Prop)->World->Prop
 Jst:∀ {k:Nat} {O I:Nat->Prop} {w:World} {O' I':Nat->Prop} {w':World},J k O I w->Stp O I w O' I' w'->J k O' I' w'
 KX:∀ g,K g->X g
 JG:∀ {k:Nat} {O I:Nat->Prop} {w:World},J k O I w->GlobOk G w O
 t0:Array Value
structure Ext (L:Nat->Prop) (w0 w:World):Prop where
 os:w.os=w0.os
 tape:w.tape=w0.tape
 output:w.output=w0.output
 size:w0.heap.size<=w.heap.size
 block:∀ b,b < w0.heap.size->¬ L b->w.heap[b]? =w0.heap[b]?
def HpB (s:St) (θ:Nat->Option Value) (g:Nat):Prop:=∃ id b v,aX id s.hp=some b/\θ id=some v/\bU v=some g
def DfB (df:List Deferred) (g:Nat):Prop:=∃ d∈df,d.target= .collected g
def Ce (c:Cx G) (s:St) (θ:Nat->Option Value) (df:List Deferred) (g:Nat):Prop:=c.K g\/HpB s θ g\/DfB df g
structure SimAt (c:Cx G) (s:St) (O:Nat->Prop) (θ:Nat->Option Value) (a:Act) (w:World):Prop where
 size:a.tmps.size=s.n
 df:a.defers.Nodup
 fr:∀ t x,aX t s.fr=some x->RdA w O θ x (a.tmps.getD t undef)
 hp:∀ id b,aX id s.hp=some b->∃ v,θ id=some v/\BlkOk w O θ v b/\
  ∀ g,bU v=some g->O g/\g < w.heap.size/\(¬ c.L g->c.w0.heap.size<=g)/\¬ c.X g
 inj:∀ i j bi bj vi vj g,aX i s.hp=some bi->aX j s.hp=some bj->θ i=some vi->θ j=some vj->bU vi=some g->bU vj=some g->i=j
 dom:∀ id v,θ id=some v->id < s.next/\id ∉ s.free
 flt:∀ k∈s.free,k < s.next
 one:∀ id v,θ id=some v->v.oneCell'=true
 olt:∀ g,O g->g < w.heap.size
 ext:Ext c.L c.w0 w
 xo:∀ g,c.X g->O g
 xlt:∀ g,c.X g->g < c.w0.heap.size
 llt:∀ g,c.L g->g < c.w0.heap.size
 marks:∀ d∈a.defers,∃ D,d={ target:= .collected D,args:= #[] }/\w.heap[D]? =some (.deferred (some []))/\O D/\c.w0.heap.size<=D
 oc:∀ g,O g->g < c.w0.heap.size->c.X g\/c.L g
 kp:∀ t∈s.kt,a.tmps.getD t undef=c.t0.getD t undef
 jn:c.J s.ys O (Ce c s θ a.defers) w
def Sim (c:Cx G) (s:St) (a:Act) (w:World):Prop:=∃ O θ,SimAt c s O θ a w
end Go.Abs

namespace Go.Abs
open List
variable {G:List (Nat×List PV)}
open Go.RowKit
theorem Ay {a:Act} {t:Nat} {v:Value} (h:t < a.tmps.size):(a.put (some t) v).tmps.getD t undef=v:=by
 simp[Act.put,h]
theorem qu {a:Act} {t t':Nat} {v:Value} (h:t≠t'):(a.put (some t) v).tmps.getD t' undef=a.tmps.getD t' undef:=by
 simp[Act.put,Array.getElem?_setIfInBounds_ne h]
theorem JB (a:Act) (d:Option Nat) (v:Value):(a.put d v).tmps.size=a.tmps.size:=by cases d<;>simp[Act.put]
theorem BU (a:Act) (d:Option Nat) (v:Value):(a.put d v).defers=a.defers:=by cases d<;>rfl
theorem dH {α:Type} (t k:Nat) (x:Option α) (l:List (Nat×Option α)):aX t ((k,x)::l)=if k=t then x else aX t l:=by
 simp only[aX]
 by_cases h:k=t
 ·subst h;simp
 ·rw[if_neg h];rw[show Nat.beq k t=false from Bool.eq_false_iff.2 (fun e=>h (Nat.eq_of_beq_eq_true e))];rfl
section
variable {c:Cx G} {s:St} {O:Nat->Prop} {θ:Nat->Option Value} {a:Act} {w:World}
theorem SimAt.put (h:SimAt c s O θ a w) (d:Option Nat) (x:AV) (v:Value) (hd:∀ t,d=some t->t < s.n) (hk:∀ t,d=some t->t ∉ s.kt) (hv:RdA w O θ x v):
  SimAt c (s.put d (some x)) O θ (a.put d v) w:=by
 cases d with
 | none=>exact h
 | some t=>
  refine⟨by rw[JB];exact h.size,by rw[BU];exact h.df,?_,h.hp,h.inj,h.dom,h.flt,h.one,h.olt,h.ext,h.xo,h.xlt,h.llt,h.marks,h.oc,fun t' ht'=>(qu (fun e=>hk t rfl (by rw[e];exact ht'))).trans (h.kp t' ht'),h.jn⟩
  intro t' x' hx
  simp only[St.put,dH] at hx
  split at hx
  ·rename_i e;subst e
   cases hx
   rw[Ay (by rw[h.size];exact hd _ rfl)]
   exact hv
  ·rename_i e
   rw[qu e]
   exact h.fr _ _ hx
theorem SimAt.skip (h:SimAt c s O θ a w) (d:Option Nat) (v:Value) (hk:∀ t,d=some t->t ∉ s.kt):SimAt c (s.put d none) O θ (a.put d v) w:=by
 cases d with
 | none=>exact h
 | some t=>
  refine⟨by rw[JB];exact h.size,by rw[BU];exact h.df,?_,h.hp,h.inj,h.dom,h.flt,h.one,h.olt,h.ext,h.xo,h.xlt,h.llt,h.marks,h.oc,fun t' ht'=>(qu (fun e=>hk t rfl (by rw[e];exact ht'))).trans (h.kp t' ht'),h.jn⟩
  intro t' x' hx
  simp only[St.put,dH] at hx
  split at hx
  ·cases hx
  ·rename_i e
   rw[qu e]
   exact h.fr _ _ hx
theorem SimAt.skipU (h:SimAt c s O θ a w) (d:Option Nat) (hk:∀ t,d=some t->t ∉ s.kt):SimAt c (s.put d (some (.tup []))) O θ (a.put d undef) w:=by
 cases d with
 | none=>exact h
 | some t=>
  refine⟨by rw[JB];exact h.size,by rw[BU];exact h.df,?_,h.hp,h.inj,h.dom,h.flt,h.one,h.olt,h.ext,h.xo,h.xlt,h.llt,h.marks,h.oc,fun t' ht'=>(qu (fun e=>hk t rfl (by rw[e];exact ht'))).trans (h.kp t' ht'),h.jn⟩
  intro t' x' hx
  simp only[St.put,dH] at hx
  split at hx
  ·rename_i e
   subst e
   cases hx
   have:(a.put (some t) undef).tmps.getD t undef=undef:=by
    by_cases ht:t < a.tmps.size
    ·exact Ay ht
    ·simp[Act.put,ht]
   rw[this]
   exact .tup [] #[] rfl (by simp)
  ·rename_i e
   rw[qu e]
   exact h.fr _ _ hx
theorem wK {w w':World} {e size n:Nat} {v:Value} {xs:List Value} (h:ownsW w e size v n xs)
  (hb:∀ g,bU v=some g->w'.heap[g]? =w.heap[g]?):ownsW w' e size v n xs:=by
 refine⟨h.1,?_⟩
 rcases h.2 with h2 | ⟨g,cap,cur,hv,hg,hh,r⟩
 ·exact .inl h2
 ·exact .inr ⟨g,cap,cur,hv,hg,by rw[hb g (by rw[hv];rfl)];exact hh,r⟩
theorem RowsRd.mono {w w':World} {O O':Nat->Prop} {sz:Nat} {rows:List (List PV)} {us:List Value} (hsz:w.heap.size<=w'.heap.size)
  (hO:∀ b,b < w.heap.size->¬ O b->¬ O' b/\w'.heap[b]? =w.heap[b]?) (h:RowsRd w O sz rows us):RowsRd w' O' sz rows us:=
 ⟨h.len,h.hz,h.one,fun i j row c u h1 h2 h3=>(h.rd i j row c u h1 h2 h3).mono hsz hO⟩
theorem BlkOk.mono {w w':World} {O O':Nat->Prop} {θ θ':Nat->Option Value} {v:Value} {b:Blk} (hsz:w.heap.size<=w'.heap.size)
  (hO:∀ b,b < w.heap.size->¬ O b->¬ O' b/\w'.heap[b]? =w.heap[b]?) (hθ:∀ i v,θ i=some v->θ' i=some v)
  (hb:∀ g,bU v=some g->w'.heap[g]? =w.heap[g]?) (h:BlkOk w O θ v b):BlkOk w' O' θ' v b:=by
 cases b with
 | row e sz rows=>
  obtain⟨us,h1,h2⟩:=h
  exact⟨us,wK h1 hb,h2.mono hsz hO⟩
 | box t cells=>
  obtain⟨g,us,rfl,h1,h2,h3⟩:=h
  exact⟨g,us,rfl,by rw[hb g rfl];exact h1,h2,fun j c u hc hu=>⟨(h3 j c u hc hu).1.mono hsz hO hθ,(h3 j c u hc hu).2⟩⟩
 | dict P t n m=>
  obtain⟨b,rfl,h4⟩:=h
  exact⟨b,rfl,h4.of_block (hb b rfl)⟩
 | dictE P t n m key id2=>
  obtain⟨b,st,rfl,h4,h5⟩:=h
  exact⟨b,st,rfl,hθ _ _ h4,h5.of_block (hb b rfl)⟩
def abv : Obj->Bool
 | .cells _ _ _=>true
 | .map _ _=>true
 | _=>false
theorem BlkOk.cells {w:World} {O:Nat->Prop} {θ:Nat->Option Value} {v:Value} {b:Blk} {g:Nat} (h:BlkOk w O θ v b) (hg:bU v=some g):∃ o,w.heap[g]? =some o/\abv o=true:=by
 cases b with
 | row e sz rows=>
  obtain⟨us,h1,_⟩:=h
  rcases h1.2 with⟨rfl,_⟩ | ⟨g',cap,cur,rfl,_,hh,_⟩
  ·cases hg
  ·cases hg;exact⟨_,hh,rfl⟩
 | box t cells=>
  obtain⟨g',us,rfl,h1,_⟩:=h
  cases hg;exact⟨_,h1,rfl⟩
 | dict P t n m=>
  obtain⟨b,rfl,k,e,D,h1,h2,h3,⟨es,clock,q1,q2⟩,h5⟩:=h
  cases hg;exact⟨_,q1,rfl⟩
 | dictE P t n m key id2=>
  obtain⟨b,st,rfl,h4,_,es,clock,q1,q2⟩:=h
  cases hg;exact⟨_,q1,rfl⟩
theorem Stp.of_grown {O I O' I':Nat->Prop} {w w':World} {row:Option Nat} (hg:w.grownBy w' row) (hr:∀ g,row=some g->I g/\O g) (o1:∀ g,O' g->O g\/w.heap.size<=g) (o2:∀ g,O g->¬ I g->O' g) (olt:∀ g,O' g->g < w'.heap.size)
  (i1:∀ g,I' g->I g\/w.heap.size<=g):Stp O I w O' I' w':=
 ⟨hg.os,hg.tape,hg.output,hg.size,fun b hb hn=>hg.block b hb (fun e=>hn.elim (fun h=>h (hr b e.symm).1) (fun h=>h (hr b e.symm).2)),o1,o2,olt,i1⟩
theorem Ext.grown {L:Nat->Prop} {w0 w w':World} {row:Option Nat} (h:Ext L w0 w) (hg:w.grownBy w' row) (hr:∀ g,row=some g->w0.heap.size<=g\/L g):Ext L w0 w':=
 ⟨hg.os.trans h.os,hg.tape.trans h.tape,hg.output.trans h.output,Nat.le_trans h.size hg.size,fun b hb hL=>
  (hg.block b (Nat.lt_of_lt_of_le hb h.size) (fun e=>by rcases hr b e.symm with h1 | h1;omega;exact hL h1)).trans (h.block b hb hL)⟩
theorem SimAt.upd (h:SimAt c s O θ a w) {w':World} {A:Nat} {vA:Value} {bA b':Blk} (hA:aX A s.hp=some bA) (hvA:θ A=some vA)
  (hg:w.grownBy w' (bU vA)) (hb':BlkOk w' O θ vA b'):SimAt c (s.setBlk A (some b')) O θ a w':=by
 obtain⟨vA',hvA',hboA,hgA⟩:=h.hp A bA hA
 obtain rfl:vA'=vA:=by rw[hvA] at hvA';cases hvA';rfl
 have hO:∀ b,b < w.heap.size->¬ O b->¬ O b/\w'.heap[b]? =w.heap[b]? :=fun b hb hn=>⟨hn,hg.block b hb (fun e=>hn (hgA b e.symm).1)⟩
 refine⟨h.size,h.df,fun t x hx=>(h.fr t x hx).mono hg.size hO (fun _ _ hi=>hi),?_,?_,h.dom,h.flt,h.one,fun g hg'=>Nat.lt_of_lt_of_le (h.olt g hg') hg.size,?_,h.xo,h.xlt,h.llt,?_,h.oc,h.kp,c.Jst h.jn (.of_grown hg (fun g e=>⟨.inr (.inl ⟨A,bA,vA',hA,hvA,e⟩),(hgA g e).1⟩) (fun g hO=> .inl hO) (fun g hO _=>hO) (fun g hO=>Nat.lt_of_lt_of_le (h.olt g hO) hg.size) (fun g hI=> .inl ?_))⟩
 ·intro id b hb
  simp only[St.setBlk,dH] at hb
  split at hb
  ·rename_i e;subst e;cases hb
   refine⟨vA',hvA,hb',fun g hgg=> ?_⟩
   obtain⟨h1,h2,h3⟩:=hgA g hgg
   exact⟨h1,Nat.lt_of_lt_of_le h2 hg.size,h3⟩
  ·rename_i e
   obtain⟨v,hv,hbo,hgv⟩:=h.hp id b hb
   refine⟨v,hv,hbo.mono hg.size hO (fun _ _ hi=>hi) ?_,fun g hgg=> ?_⟩
   ·intro g hgg
    refine hg.block g (hgv g hgg).2.1 (fun e2=>e ?_)
    exact h.inj A id bA b vA' v g hA hb hvA hv e2.symm hgg
   ·obtain⟨h1,h2,h3⟩:=hgv g hgg
    exact⟨h1,Nat.lt_of_lt_of_le h2 hg.size,h3⟩
 ·intro i j bi bj vi vj g hi hj hvi hvj hgi hgj
  simp only[St.setBlk,dH] at hi hj
  have hi':∃ bi',aX i s.hp=some bi':=by
   split at hi
   ·rename_i e;exact⟨bA,e ▸ hA⟩
   ·exact⟨bi,hi⟩
  have hj':∃ bj',aX j s.hp=some bj':=by
   split at hj
   ·rename_i e;exact⟨bA,e ▸ hA⟩
   ·exact⟨bj,hj⟩
  obtain⟨bi',hi'⟩:=hi'
  obtain⟨bj',hj'⟩:=hj'
  exact h.inj i j bi' bj' vi vj g hi' hj' hvi hvj hgi hgj
 ·refine h.ext.grown hg fun g hgg=> ?_
  by_cases hL:c.L g
  ·exact .inr hL
  ·exact .inl ((hgA g hgg).2.2.1 hL)
 ·intro d hd
  obtain⟨D,rfl,hD,hOD,h0⟩:=h.marks d hd
  have hlt:D < w.heap.size:=by
   rcases Nat.lt_or_ge D w.heap.size with h1 | h1
   ·exact h1
   ·rw[Array.getElem?_eq_none h1] at hD;cases hD
  exact⟨D,rfl,by rw[hg.block D hlt (fun e=>by obtain⟨_,hh,ho⟩:=hboA.cells e.symm;rw[hD] at hh;cases hh;cases ho)];exact hD,hOD,h0⟩
 ·rcases hI with hI | ⟨id,b,v,h1,h2,h3⟩ | hI
  ·exact .inl hI
  ·refine .inr (.inl ?_)
   simp only[St.setBlk,dH] at h1
   split at h1
   ·rename_i e;subst e;exact⟨A,bA,v,hA,h2,h3⟩
   ·exact⟨id,b,v,h1,h2,h3⟩
  ·exact .inr (.inr hI)
def St.addAt (s:St) (k:Nat) (A:Option Nat) (b:Blk):St:=
 { s with hp:=(k,some b)::(match A with | some A=>(A,none)::s.hp | none=>s.hp),next:=bif Nat.beq k s.next then k+1 else s.next,free:=s.free.filter fun x=> !([k].elem x) }
def ko (s:St) (k:Nat):Bool:=Nat.beq k s.next||s.free.elem k
theorem SimAt.addAt (h:SimAt c s O θ a w) {w':World} (k:Nat) (hk:ko s k=true) (A:Option Nat) {row:Option Nat} {v:Value} {b:Blk}
  (hA:∀ A',A=some A'->∃ bA vA,aX A' s.hp=some bA/\θ A'=some vA/\row=bU vA) (hnA:A=none->row=none)
  (hg:w.grownBy w' row) (hv:∀ g,bU v=some g->g < w'.heap.size/\(w.heap.size<=g\/row=some g))
  (hone:v.oneCell'=true) (hb:∀ O' θ',(∀ g,O' g↔O g\/bU v=some g)->(∀ i u,θ i=some u->θ' i=some u)->BlkOk w' O' θ' v b):
  ∃ O' θ',(∀ g,O' g↔O g\/bU v=some g)/\(∀ i u,θ i=some u->θ' i=some u)/\θ' k=some v/\SimAt c (s.addAt k A b) O' θ' a w':=by
 have hrow:∀ g,row=some g->O g/\g < w.heap.size/\(¬ c.L g->c.w0.heap.size<=g)/\¬ c.X g/\HpB s θ g/\∃ o,w.heap[g]? =some o/\abv o=true:=by
  intro g hgg
  cases A with
  | none=>rw[hnA rfl] at hgg;cases hgg
  | some A'=>
   obtain⟨bA,vA,h1,h2,h3⟩:=hA A' rfl
   obtain⟨v1,hv1,hbo1,hg1⟩:=h.hp A' bA h1
   obtain rfl:v1=vA:=by rw[h2] at hv1;cases hv1;rfl
   obtain⟨h5,h6,h7,h8⟩:=hg1 g (by rw[<- h3];exact hgg)
   exact⟨h5,h6,h7,h8,⟨A',bA,v1,h1,h2,by rw[<- h3];exact hgg⟩,hbo1.cells (by rw[<- h3];exact hgg)⟩
 have hkne:∀ i u,θ i=some u->i≠k:=by
  intro i u hi e
  subst e
  have h1:=h.dom i u hi
  simp only[ko,Bool.or_eq_true,elem_eq_mem,decide_eq_true_eq] at hk
  rcases hk with hk | hk
  ·have:=Nat.eq_of_beq_eq_true hk;omega
  ·exact h1.2 hk
 have hθ:∀ i u,θ i=some u->(if i=k then some v else θ i)=some u:=by
  intro i u hi
  rw[if_neg (hkne i u hi)];exact hi
 have hO:∀ b,b < w.heap.size->¬ O b->¬ (O b\/bU v=some b)/\w'.heap[b]? =w.heap[b]? :=by
  intro b hbs hn
  refine⟨fun hh=> ?_,hg.block b hbs (fun e=>hn (hrow b e.symm).1)⟩
  rcases hh with hh | hh
  ·exact hn hh
  ·rcases(hv b hh).2 with h1 | h1
   ·omega
   ·exact hn (hrow b h1).1
 have hget:∀ id bb,aX id (s.addAt k A b).hp=some bb->(id=k/\bb=b)\/(id≠k/\(∀ A',A=some A'->id≠A')/\aX id s.hp=some bb):=by
  intro id bb hb1
  simp only[St.addAt,dH] at hb1
  split at hb1
  ·rename_i e;cases hb1;exact .inl ⟨e.symm,rfl⟩
  ·rename_i e
   refine .inr ⟨fun e'=>e e'.symm,?_,?_⟩
   ·intro A' e1;subst e1
    simp only[dH] at hb1
    split at hb1
    ·cases hb1
    ·rename_i e2;exact fun e3=>e2 e3.symm
   ·cases A with
    | none=>exact hb1
    | some A'=>
     simp only[dH] at hb1
     split at hb1
     ·cases hb1
     ·exact hb1
 -- the block of an elder name that stays is not the turned one
 have hstay:∀ id bb u g,(∀ A',A=some A'->id≠A')->aX id s.hp=some bb->θ id=some u->bU u=some g->row≠some g:=by
  intro id bb u g hne hl hu hgu e
  cases A with
  | none=>rw[hnA rfl] at e;cases e
  | some A'=>
   obtain⟨bA,vA,h1,h2,h3⟩:=hA A' rfl
   exact hne A' rfl (h.inj id A' bb bA u vA g hl h1 hu h2 hgu (by rw[<- h3];exact e))
 have hw0:∀ g,bU v=some g->(¬ c.L g->c.w0.heap.size<=g)/\¬ c.X g:=by
  intro g hgg
  rcases(hv g hgg).2 with h1 | h1
  ·exact⟨fun _=>Nat.le_trans h.ext.size h1,fun hX=>by have:=h.xlt g hX;have:=h.ext.size;omega⟩
  ·exact⟨(hrow g h1).2.2.1,(hrow g h1).2.2.2.1⟩
 refine⟨fun g=>O g\/bU v=some g,fun i=>if i=k then some v else θ i,fun _=>Iff.rfl,hθ,by simp,?_⟩
 refine⟨h.size,h.df,fun t x hx=>(h.fr t x hx).mono hg.size hO hθ,?_,?_,?_,?_,?_,?_,?_,?_,h.xlt,h.llt,?_,?_,h.kp,?_⟩
 ·intro id bb hb1
  rcases hget id bb hb1 with⟨rfl,rfl⟩ | ⟨h1,h2,h3⟩
  ·refine⟨v,by simp,hb _ _ (fun _=>Iff.rfl) hθ,fun g hgg=> ?_⟩
   exact⟨.inr hgg,(hv g hgg).1,hw0 g hgg⟩
  ·obtain⟨u,hu,hbo,hgu⟩:=h.hp id bb h3
   refine⟨u,hθ _ _ hu,hbo.mono hg.size hO hθ ?_,fun g hgg=> ?_⟩
   ·intro g hgg
    exact hg.block g (hgu g hgg).2.1 (fun e=>hstay id bb u g h2 h3 hu hgg e.symm)
   ·obtain⟨h5,h6,h7⟩:=hgu g hgg
    exact⟨.inl h5,Nat.lt_of_lt_of_le h6 hg.size,h7⟩
 ·intro i j bi bj vi vj g hi hj hvi hvj hgi hgj
  have fresh:∀ id bb u,id≠k->(∀ A',A=some A'->id≠A')->aX id s.hp=some bb->θ id=some u->bU u=some g->bU v=some g->False:=by
   intro id bb u _ hne hl hu hgu hgv
   obtain⟨u',hu',_,hgu'⟩:=h.hp id bb hl
   obtain rfl:u'=u:=by rw[hu] at hu';cases hu';rfl
   rcases(hv g hgv).2 with h1 | h1
   ·have:=(hgu' g hgu).2.1;omega
   ·exact hstay id bb u' g hne hl hu hgu h1
  rcases hget i bi hi with⟨rfl,rfl⟩ | ⟨h1,h2,h3⟩<;>rcases hget j bj hj with⟨rfl,rfl⟩ | ⟨h4,h5,h6⟩
  ·rfl
  ·simp only[if_true,Option.some.injEq] at hvi;subst hvi
   rw[if_neg h4] at hvj
   exact(fresh j bj vj h4 h5 h6 hvj hgj hgi).elim
  ·simp only[if_true,Option.some.injEq] at hvj;subst hvj
   rw[if_neg h1] at hvi
   exact(fresh i bi vi h1 h2 h3 hvi hgi hgj).elim
  ·rw[if_neg h1] at hvi;rw[if_neg h4] at hvj
   exact h.inj i j bi bj vi vj g h3 h6 hvi hvj hgi hgj
 ·intro id u hu
  show id < (bif Nat.beq k s.next then k+1 else s.next)/\id ∉ s.free.filter fun x=> !([k].elem x)
  by_cases e:id=k
  ·subst e
   refine⟨?_,by simp⟩
   cases hb:Nat.beq id s.next with
   | true=>simp
   | false=>
    simp only[cond_false]
    simp only[ko,hb,Bool.false_or,elem_eq_mem,decide_eq_true_eq] at hk
    exact h.flt id hk
  ·simp only[if_neg e] at hu
   obtain⟨h1,h2⟩:=h.dom id u hu
   refine⟨?_,fun hm=>h2 (List.mem_filter.1 hm).1⟩
   cases hb:Nat.beq k s.next with
   | true=>have:=Nat.eq_of_beq_eq_true hb;simp only[cond_true];omega
   | false=>exact h1
 ·intro x hx
  have h1:=h.flt x (List.mem_filter.1 hx).1
  show x < (bif Nat.beq k s.next then k+1 else s.next)
  cases hb:Nat.beq k s.next with
  | true=>have:=Nat.eq_of_beq_eq_true hb;simp only[cond_true];omega
  | false=>exact h1
 ·intro id u hu
  by_cases e:id=k
  ·simp only[if_pos e,Option.some.injEq] at hu;subst hu;exact hone
  ·simp only[if_neg e] at hu;exact h.one id u hu
 ·intro g hg'
  rcases hg' with h1 | h1
  ·exact Nat.lt_of_lt_of_le (h.olt g h1) hg.size
  ·exact(hv g h1).1
 ·refine h.ext.grown hg fun g hgg=> ?_
  by_cases hL:c.L g
  ·exact .inr hL
  ·exact .inl ((hrow g hgg).2.2.1 hL)
 ·intro g hx;exact .inl (h.xo g hx)
 ·intro d hd
  obtain⟨D,rfl,hD,hOD,h0⟩:=h.marks d hd
  have hlt:D < w.heap.size:=by
   rcases Nat.lt_or_ge D w.heap.size with h1 | h1
   ·exact h1
   ·rw[Array.getElem?_eq_none h1] at hD;cases hD
  exact⟨D,rfl,by rw[hg.block D hlt (fun e=>by obtain⟨_,hh,ho⟩:=(hrow D e.symm).2.2.2.2.2;rw[hD] at hh;cases hh;cases ho)];exact hD,.inl hOD,h0⟩
 ·intro g hg' hlt
  rcases hg' with h1 | h1
  ·exact h.oc g h1 hlt
  ·by_cases hL:c.L g
   ·exact .inr hL
   ·have:=(hw0 g h1).1 hL;omega
 ·refine c.Jst h.jn (.of_grown hg (fun g e=>⟨.inr (.inl (hrow g e).2.2.2.2.1),(hrow g e).1⟩) (fun g hO=> ?_) (fun g hO _=> .inl hO) (fun g hO=> ?_) (fun g hI=> ?_))
  ·rcases hO with h1 | h1
   ·exact .inl h1
   ·rcases(hv g h1).2 with h2 | h2
    ·exact .inr h2
    ·exact .inl (hrow g h2).1
  ·rcases hO with h1 | h1
   ·exact Nat.lt_of_lt_of_le (h.olt g h1) hg.size
   ·exact(hv g h1).1
  ·rcases hI with hI | ⟨id,bb,u,h1,h2,h3⟩ | hI
   ·exact .inl (.inl hI)
   ·rcases hget id bb h1 with⟨rfl,rfl⟩ | ⟨h4,h5,h6⟩
    ·simp only[if_true,Option.some.injEq] at h2;subst h2
     rcases(hv g h3).2 with h2 | h2
     ·exact .inr h2
     ·exact .inl (.inr (.inl (hrow g h2).2.2.2.2.1))
    ·simp only[if_neg h4] at h2
     exact .inl (.inr (.inl ⟨id,bb,u,h6,h2,h3⟩))
   ·exact .inl (.inr (.inr hI))
theorem SimAt.grownNone {w':World} (hs:SimAt c s O θ a w) (hg:w.grownBy w' none):SimAt c s O θ a w':=by
 have hO:∀ b,b < w.heap.size->¬ O b->¬ O b/\w'.heap[b]? =w.heap[b]? :=fun b hb hn=>⟨hn,hg.block b hb (by simp)⟩
 refine⟨hs.size,hs.df,fun t x hx=>(hs.fr t x hx).mono hg.size hO (fun _ _ e=>e),fun id b hb=> ?_,hs.inj,hs.dom,hs.flt,hs.one,fun g hg'=>Nat.lt_of_lt_of_le (hs.olt g hg') hg.size,hs.ext.grown hg (by simp),hs.xo,hs.xlt,hs.llt,fun d hd=> ?_,hs.oc,hs.kp,?_⟩
 ·obtain⟨v,hv,hbo,hgv⟩:=hs.hp id b hb
  exact⟨v,hv,hbo.mono hg.size hO (fun _ _ e=>e) (fun g hgg=>hg.block g (hgv g hgg).2.1 (by simp)),fun g hgg=>⟨(hgv g hgg).1,Nat.lt_of_lt_of_le (hgv g hgg).2.1 hg.size,(hgv g hgg).2.2⟩⟩
 ·obtain⟨D,rfl,hD,hOD,h0⟩:=hs.marks d hd
  have hlt:D < w.heap.size:=by
   rcases Nat.lt_or_ge D w.heap.size with h1 | h1
   ·exact h1
   ·rw[Array.getElem?_eq_none h1] at hD;cases hD
  exact⟨D,rfl,by rw[hg.block D hlt (by simp)];exact hD,hOD,h0⟩
 ·exact c.Jst hs.jn (.of_grown hg (by simp) (fun g h=> .inl h) (fun g h _=>h) (fun g h=>Nat.lt_of_lt_of_le (hs.olt g h) hg.size) (fun g h=> .inl h))
end
end Go.Abs

namespace Go.Abs
open List
variable {G:List (Nat×List PV)}
open Go.RowKit
def FF (ro:Option Nat):Fence:={ Fence.wide with round:=ro }
section
variable (ro:Option Nat) (P:Program) (c:Cx G)
def gw (Q:Exit->Act->World->Prop) (e:Exit) (s:St):Prop:=∀ a w,Sim c s a w->Q e a w
def AW (k:Code) (Q:Exit->Act->World->Prop) (s:St):Prop:=∀ a w,Sim c s a w->k.wpIn (FF ro) 0 P Q a w
def kJ (all:List Oper) (l:List Oper) (Q:Exit->Act->World->Prop) (s:St):Prop:=∀ a w,Sim c s a w->wpListIn (FF ro) 0 P all.toArray Q l a w
def Aj (k:Code) (Q:Exit->Act->World->Prop) (m:Nat) (s:St):Prop:=∀ a w,Sim c s a w->Code.roundsIn (FF ro) 0 P k Q m a w
def da (o:Oper) (s s':St):Prop:=
 ∀ a w,Sim c s a w->∀ (K:Act->World->Prop) (Q:Exit->Act->World->Prop),(∀ a' w',Sim c s' a' w'->K a' w')->o.wpIn (FF ro) 0 P a w K Q
def uf (all:List Oper) (s:St) (o:Oper) (b:Bool):Prop:=
 match o.guard with
 | none=>b=true
 | some (j,want)=>∃ d,((all[j]?).bind (·.dst))=some d/\d < s.n/\((∃ t,aX d s.fr=some (.pv (.bool t))/\b=(t==want))\/(aX d s.fr=some (.tup [])/\b=false))
end
section
variable {ro:Option Nat} {P:Program} {c:Cx G} {Q:Exit->Act->World->Prop} {s s':St}
theorem UL (h:gw c Q .normal s):AW ro P c .skip Q s:=fun a w hs=>wpIn_skip (h a w hs)
theorem aae (h:gw c Q .ret s):AW ro P c .ret Q s:=fun a w hs=>wpIn_ret (h a w hs)
theorem uv {id:Nat} (h:gw c Q (.exit id) s):AW ro P c (.exit id) Q s:=fun a w hs=>wpIn_exit (h a w hs)
theorem aJ {x y:Code} (h:AW ro P c x (Exit.then (y.wpIn (FF ro) 0 P Q) Q) s):AW ro P c (.seq x y) Q s:=fun a w hs=>wpIn_seq (h a w hs)
theorem cI {id:Nat} {x:Code} (h:AW ro P c x (Exit.inBlock id Q) s):AW ro P c (.block id x) Q s:=fun a w hs=>wpIn_block (h a w hs)
theorem tp {x:Code} {m:Nat} (h:AW ro P c x (Exit.then (Code.roundsIn (FF ro) 0 P x Q m) Q) s):Aj ro P c x Q (m+1) s:=fun a w hs=>h a w hs
theorem zG {y:Code} (h:AW ro P c y Q s):gw c (Exit.then (y.wpIn (FF ro) 0 P Q) Q) .normal s:=h
theorem fu {x:Code} {m:Nat} (h:Aj ro P c x Q m s):gw c (Exit.then (Code.roundsIn (FF ro) 0 P x Q m) Q) .normal s:=h
theorem di {K:Act->World->Prop} {id:Nat} (h:gw c Q (.exit id) s):gw c (Exit.then K Q) (.exit id) s:=h
theorem AQ {K:Act->World->Prop} (h:gw c Q .ret s):gw c (Exit.then K Q) .ret s:=h
theorem zt {id:Nat} (h:gw c Q .ret s):gw c (Exit.inBlock id Q) .ret s:=h
theorem vL {id:Nat} (h:gw c Q .normal s):gw c (Exit.inBlock id Q) .normal s:=h
theorem jF {id:Nat} (h:gw c Q .normal s):gw c (Exit.inBlock id Q) (.exit id) s:=fun a w hs=>by
 have:=h a w hs
 simpa [Exit.inBlock] using this
theorem dZ {id id':Nat} (hne:Nat.beq id id'=false) (h:gw c Q (.exit id') s):gw c (Exit.inBlock id Q) (.exit id') s:=fun a w hs=>by
 have:=h a w hs
 have hne':¬ id'=id:=fun e=>by subst e;simp at hne
 simpa [Exit.inBlock,hne'] using this
def cv : Value->Option PV
 | .int k n=>some (.int k n)
 | .bool b=>some (.bool b)
 | .string ⟨⟨l⟩⟩=>some (.str l)
 | .pointer none=>some .nilp
 | .slice none 0 0=>some .nils
 | .nilFunc=>some .nilf
 | .map none=>some .nilm
 | _=>none
def ev (s:St):Operand->Option AV
 | .tmp t=>aX t s.fr
 | .const v=>(cv v).map .pv
 | .func f=>some (.pv (.fn f []))
 | .global _=>none
theorem acB {w:World} {O:Nat->Prop} {v:Value} {p:PV} (h:cv v=some p):Rd w O p v:=by
 unfold cv at h
 split at h<;>cases h
 ·exact .int _ _
 ·exact .bool _
 ·exact .str _
 ·exact .nilp
 ·exact .nils
 ·exact .nilf
 ·exact .nilm
theorem jJ {O:Nat->Prop} {θ:Nat->Option Value} {a:Act} {w:World} (h:SimAt c s O θ a w) {x:Operand} {v:AV} (hx:ev s x=some v):RdA w O θ v (a.eval x):=by
 cases x with
 | tmp t=>exact h.fr t v hx
 | const u=>
  simp only[ev,Option.map_eq_some_iff] at hx
  obtain⟨p,hp,rfl⟩:=hx
  exact .pv _ _ (acB hp)
 | global g=>cases hx
 | func f=>
  cases hx
  exact .pv _ _ (.fn f [] #[] rfl (fun i c u hi _=>by simp at hi))
theorem Vr {x y:Code} {t:Operand} {b:Bool} (ht:ev s t=some (.pv (.bool b))) (h1:b=true->AW ro P c x Q s) (h2:b=false->AW ro P c y Q s):AW ro P c (.cond t x y) Q s:=by
 rintro a w ⟨O,θ,hs⟩
 have h:=jJ hs ht
 cases h with
 | pv p v h=>
  generalize hv:a.eval t=v at h
  cases h
  refine wpIn_cond hv ?_
  cases b with
  | true=>exact h1 rfl a w ⟨O,θ,hs⟩
  | false=>exact h2 rfl a w ⟨O,θ,hs⟩
theorem zX {id:Nat} {l:List Oper} (h:kJ ro P c l l Q s):AW ro P c (.region id l.toArray false) Q s:=fun a w hs=>wpIn_region_lit (h a w hs)
theorem ci {all:List Oper} (h:gw c Q .normal s):kJ ro P c all [] Q s:=fun a w hs=>wpListIn_nil (h a w hs)
theorem SR {all:List Oper} {O:Nat->Prop} {θ:Nat->Option Value} {a:Act} {w:World} (h:SimAt c s O θ a w) {j d:Nat} {t:Bool}
  (h1:((all[j]?).bind (·.dst))=some d) (h2:d < s.n) (h3:aX d s.fr=some (.pv (.bool t))):yielded all.toArray a.tmps j=some t:=by
 have h4:=h.fr d _ h3
 have hd:d < a.tmps.size:=by rw[h.size];exact h2
 have h5:a.tmps[d]? =some (a.tmps.getD d undef):=by simp[hd]
 cases h4 with
 | pv p v h4=>
  generalize hv:a.tmps.getD d undef=v at h4 h5
  cases h4
  simp only[yielded,getElem?_toArray,h1,Option.bind_some,h5]
theorem rf {all:List Oper} {O:Nat->Prop} {θ:Nat->Option Value} {a:Act} {w:World} (h:SimAt c s O θ a w) {o:Oper} {b:Bool} (hg:uf all s o b):
  Region.wanted o (yielded all.toArray a.tmps)=b:=by
 unfold uf at hg
 unfold Region.wanted
 split at hg
 ·rename_i e;rw[e,hg]
 ·rename_i j want e
  obtain⟨d,h1,h2,⟨t,h3,rfl⟩ | ⟨h3,rfl⟩⟩:=hg
  ·rw[e]
   simp only[SR h h1 h2 h3]
   cases t<;>cases want<;>rfl
  ·rw[e]
   have h4:=h.fr d _ h3
   have hd:d < a.tmps.size:=by rw[h.size];exact h2
   have h5:a.tmps[d]? =some (a.tmps.getD d undef):=by simp[hd]
   generalize hv:a.tmps.getD d undef=v at h4 h5
   cases h4
   simp[yielded,getElem?_toArray,h1,Option.bind_some,h5]
theorem ou {all rest:List Oper} {o:Oper} (hg:uf all s o true) (ho:da ro P c o s s') (h:kJ ro P c all rest Q s'):kJ ro P c all (o::rest) Q s:=by
 rintro a w ⟨O,θ,hs⟩
 simp only[wpListIn,rf hs hg,if_true]
 exact ho a w ⟨O,θ,hs⟩ _ _ h
def ktB (s:St):Option Nat->Bool
 | none=>true
 | some d=> !s.kt.elem d
theorem Kv {s:St} {d:Option Nat} (h:ktB s d=true):∀ t,d=some t->t ∉ s.kt:=by
 rintro t rfl
 simpa [ktB] using h
theorem Ia {all rest:List Oper} {o:Oper} {d:Option Nat} (hg:uf all s o false) (hd:o.dst=d) (hk:ktB s d=true) (h:kJ ro P c all rest Q (s.put d (some (.tup [])))):kJ ro P c all (o::rest) Q s:=by
 rintro a w ⟨O,θ,hs⟩
 subst hd
 simp only[wpListIn,rf hs hg,Bool.false_eq_true,if_false]
 exact⟨fun f _=>trivial,h _ _ ⟨O,θ,hs.skipU _ (Kv hk)⟩⟩
def dOk (s:St):Option Nat->Bool
 | none=>true
 | some d=>Nat.blt d s.n&& !s.kt.elem d
theorem BT {s:St} {d:Option Nat} (h:dOk s d=true):∀ t,d=some t->t < s.n:=by
 rintro t rfl
 simp only[dOk,Bool.and_eq_true] at h
 simpa [Nat.blt_eq] using h.1
theorem Bm {s:St} {d:Option Nat} (h:dOk s d=true):∀ t,d=some t->t ∉ s.kt:=by
 rintro t rfl
 simp only[dOk,Bool.and_eq_true] at h
 simpa using h.2
theorem ca {o:Oper} {d:Option Nat} {x:AV} (hd:o.dst=d) (hn:dOk s d=true) (hdef:∀ k,o.op≠ .defer k)
  (h:∀ a w O θ,SimAt c s O θ a w->∃ v,(execOp a.eval o).run P w= .ok (.value v) w/\RdA w O θ x v):da ro P c o s (s.put d (some x)):=by
 rintro a w ⟨O,θ,hs⟩ K Q hK
 obtain⟨v,hr,hv⟩:=h a w O θ hs
 refine⟨fun f _=>trivial,?_⟩
 rw[Oper.semAt_plain _ _ _ hdef,hr]
 subst hd
 exact hK _ _ ⟨O,θ,hs.put _ x v (BT hn) (Bm hn) hv⟩
theorem sY {o:Oper} {d:Option Nat} {x:AV} {s1:St} (hd:o.dst=d) (hn:dOk s1 d=true) (hdef:∀ k,o.op≠ .defer k)
  (h:∀ a w O θ,SimAt c s O θ a w->∃ v w' O' θ',(execOp a.eval o).run P w= .ok (.value v) w'/\SimAt c s1 O' θ' a w'/\RdA w' O' θ' x v):da ro P c o s (s1.put d (some x)):=by
 rintro a w ⟨O,θ,hs⟩ K Q hK
 obtain⟨v,w',O',θ',hr,hs1,hv⟩:=h a w O θ hs
 refine⟨fun f _=>trivial,?_⟩
 rw[Oper.semAt_plain _ _ _ hdef,hr]
 subst hd
 exact hK _ _ ⟨O',θ',hs1.put _ x v (BT hn) (Bm hn) hv⟩
theorem Nq {o:Oper} {d:Option Nat} {s1:St} (hd:o.dst=d) (hk:ktB s1 d=true) (hdef:∀ k,o.op≠ .defer k)
  (h:∀ a w O θ,SimAt c s O θ a w->∃ w' O' θ',(execOp a.eval o).run P w= .ok .skip w'/\SimAt c s1 O' θ' a w'):da ro P c o s (s1.put d none):=by
 rintro a w ⟨O,θ,hs⟩ K Q hK
 obtain⟨w',O',θ',hr,hs1⟩:=h a w O θ hs
 refine⟨fun f _=>trivial,?_⟩
 rw[Oper.semAt_plain _ _ _ hdef,hr]
 subst hd
 exact hK _ _ ⟨O',θ',hs1.skip _ _ (Kv hk)⟩
theorem ic {o:Oper} {d:Option Nat} {x:Operand} {v:AV} (ho:o.op= .move x) (hx:ev s x=some v) (hd:o.dst=d) (hn:dOk s d=true):da ro P c o s (s.put d (some v)):=
 ca hd hn (by rw[ho];intro k h;cases h) fun a w O θ hs=>⟨a.eval x,by simp[execOp,ho],jJ hs hx⟩
theorem ux {o:Oper} {d:Option Nat} {x:Operand} {v:AV} (ho:o.op= .assign x) (hx:ev s x=some v) (hd:o.dst=d) (hn:dOk s d=true):da ro P c o s (s.put d (some v)):=
 ca hd hn (by rw[ho];intro k h;cases h) fun a w O θ hs=>⟨a.eval x,by simp[execOp,ho],jJ hs hx⟩
theorem GW {O:Nat->Prop} {θ:Nat->Option Value} {a:Act} {w:World} (h:SimAt c s O θ a w) {x:Operand} {b:Bool} (hx:ev s x=some (.pv (.bool b))):a.eval x= .bool b:=by
 have:=jJ h hx
 cases this with | pv _ _ h=>generalize a.eval x=v at h;cases h;rfl
theorem mI {O:Nat->Prop} {θ:Nat->Option Value} {a:Act} {w:World} (h:SimAt c s O θ a w) {x:Operand} {k:IntKind} {n:Int} (hx:ev s x=some (.pv (.int k n))):a.eval x= .int k n:=by
 have:=jJ h hx
 cases this with | pv _ _ h=>generalize a.eval x=v at h;cases h;rfl
theorem zp {O:Nat->Prop} {θ:Nat->Option Value} {a:Act} {w:World} (h:SimAt c s O θ a w) {x:Operand} {l:List UInt8} (hx:ev s x=some (.pv (.str l))):a.eval x= .string ⟨l.toArray⟩:=by
 have:=jJ h hx
 cases this with | pv _ _ h=>generalize a.eval x=v at h;cases h;rfl
theorem ug {O:Nat->Prop} {θ:Nat->Option Value} {a:Act} {w:World} (h:SimAt c s O θ a w) {x:Operand} {p:PV} (hx:ev s x=some (.pv p)):Rd w O p (a.eval x):=by
 have:=jJ h hx
 cases this with | pv _ _ h=>exact h
theorem VD {o:Oper} {d:Option Nat} {x y z:Operand} {b:Bool} {v:AV} (ho:o.op= .pick x y z) (hx:ev s x=some (.pv (.bool b))) (hv:ev s (bif b then y else z)=some v)
  (hd:o.dst=d) (hn:dOk s d=true):da ro P c o s (s.put d (some v)):=
 ca hd hn (by rw[ho];intro k h;cases h) fun a w O θ hs=>by
  refine⟨a.eval (bif b then y else z),?_,jJ hs hv⟩
  have:=GW hs hx
  cases b<;>simp[execOp,ho,this,asBool]
def Eo (op:BinOp) (k:IntKind) (m n:Int):Option PV:=
 match op with
 | .add=>some (.int k (k.wrap (m+n)))
 | .sub=>some (.int k (k.wrap (m - n)))
 | .mul=>some (.int k (k.wrap (m * n)))
 | .eql=>some (.bool (m==n))
 | .neq=>some (.bool (m != n))
 | .lss=>some (.bool (decide (m < n)))
 | .leq=>some (.bool (decide (m<=n)))
 | .gtr=>some (.bool (decide (m > n)))
 | .geq=>some (.bool (decide (m >= n)))
 | _=>none
theorem sf {o:Oper} {d:Option Nat} {op:BinOp} {T T':TypeId} {x y:Operand} {k:IntKind} {m n:Int} {r:PV} (ho:o.op= .binOp op T x y T') (hx:ev s x=some (.pv (.int k m))) (hy:ev s y=some (.pv (.int k n)))
  (hr:Eo op k m n=some r) (hd:o.dst=d) (hn:dOk s d=true):da ro P c o s (s.put d (some (.pv r))):=
 ca hd hn (by rw[ho];intro k h;cases h) fun a w O θ hs=>by
  have e1:=mI hs hx
  have e2:=mI hs hy
  cases op<;>simp only[Eo,Option.some.injEq] at hr<;>cases hr
  all_goals refine⟨_,?_,.pv _ _ (by constructor)⟩
  all_goals simp[execOp,ho,eqGuard,binOp,e1,e2,Op.intArith,Op.intCmp]
end
end Go.Abs

namespace Go.Abs
open List
variable {G:List (Nat×List PV)}
open Go.RowKit
def uc (P:Program) (T f off:Nat):Bool:=
 match P.underlying T with
 | some (.struct fs)=>match fs[f]? with
  | some fld=>fld.offset==off&&(match P.info? fld.type with | some i=>i.size != 0 | none=>false)
  | none=>false
 | _=>false
def sliceB (P:Program) (T e sz:Nat):Bool:=
 match P.underlying T with
 | some (.slice e')=>e'==e&&(match P.info? e' with | some i=>i.size==sz | none=>false)
 | _=>false
def nR (P:Program) (T n:Nat):Bool:=
 (match P.underlying T with | some (.struct _)=>true | some (.array _ _)=>true | _=>false)&&(match P.info? T with | some i=>i.size==n | none=>false)
def qT (P:Program) (T:Nat):Bool:=
 (match P.underlying T with | some (.struct _)=>false | some (.array _ _)=>false | some _=>true | none=>false)&&(match P.info? T with | some i=>i.size==1 | none=>false)
section
variable {P:Program} {T f off e sz n:Nat}
theorem Qv (h:uc P T f off=true):∃ fs fld i,P.underlying T=some (.struct fs)/\fs[f]? =some fld/\fld.offset=off/\P.info? fld.type=some i/\i.size≠0:=by
 unfold uc at h
 split at h
 ·rename_i fs hu
  split at h
  ·rename_i fld hf
   simp only[Bool.and_eq_true,beq_iff_eq] at h
   obtain⟨h1,h2⟩:=h
   split at h2
   ·rename_i i hi;exact⟨fs,fld,i,hu,hf,h1,hi,by simpa using h2⟩
   ·cases h2
  ·cases h
 ·cases h
theorem mu (h:sliceB P T e sz=true):∃ i,P.underlying T=some (.slice e)/\P.info? e=some i/\i.size=sz:=by
 unfold sliceB at h
 split at h
 ·rename_i e' hu
  simp only[Bool.and_eq_true,beq_iff_eq] at h
  obtain⟨rfl,h2⟩:=h
  split at h2
  ·rename_i i hi;exact⟨i,hu,hi,by simpa using h2⟩
  ·cases h2
 ·cases h
theorem DT (h:nR P T n=true):(∀ w,(isAgg T).run P w= .ok true w)/\(∀ w,(sizeOf T).run P w= .ok n w)/\∃ i,P.info? T=some i/\i.size=n:=by
 unfold nR at h
 simp only[Bool.and_eq_true] at h
 obtain⟨h1,h2⟩:=h
 split at h2
 ·rename_i i hi
  have hs:i.size=n:=by simpa using h2
  refine⟨fun w=> ?_,fun w=>by simp[sizeOf,typeInfo,hi,hs],i,hi,hs⟩
  split at h1
  ·rename_i fs hu;simp[isAgg,run_underlying hu]
  ·rename_i a b hu;simp[isAgg,run_underlying hu]
  ·cases h1
 ·cases h2
theorem zR (h:qT P T=true):(∀ w,(isAgg T).run P w= .ok false w)/\(∀ w,(sizeOf T).run P w= .ok 1 w)/\∃ i,P.info? T=some i/\i.size=1:=by
 unfold qT at h
 simp only[Bool.and_eq_true] at h
 obtain⟨h1,h2⟩:=h
 split at h2
 ·rename_i i hi
  have hs:i.size=1:=by simpa using h2
  refine⟨fun w=> ?_,fun w=>by simp[sizeOf,typeInfo,hi,hs],i,hi,hs⟩
  split at h1
  ·cases h1
  ·cases h1
  ·rename_i d hn1 hn2 hu
   cases d<;>first | (simp[isAgg,run_underlying hu];done) | (exact absurd rfl (hn1 _)) | (exact absurd rfl (hn2 _ _))
  ·cases h1
 ·cases h2
end
def idx {α:Type} (l:List α) (n:Int):Option α:=if 0<=n then l[n.toNat]? else none
theorem kR {α β:Type} (f:α->β) {l:List α} {n:Int} {y:α} (h:idx l n=some y):idx (l.map f) n=some (f y):=by
 unfold idx at *
 split at h
 ·rename_i h0;rw[if_pos h0,getElem?_map,h];rfl
 ·cases h
theorem rM {α:Type} {l:List α} {n:Int} {y:α} (h:idx l n=some y):0<=n/\l[n.toNat]? =some y/\n < l.length:=by
 unfold idx at h
 split at h
 ·rename_i h0
  have:=(List.getElem?_eq_some_iff.1 h).1
  exact⟨h0,h,by omega⟩
 ·cases h
section
variable {w:World} {O:Nat->Prop}
theorem Ko {row:List PV} {v:Value} (h:Rd w O (.vp row) v):∃ (b off:Nat) (us:Nat->Value),v= .pointer (some ⟨b,off,none⟩)/\¬ O b/\b < w.heap.size/\(∀ x∈row,x.one=true)/\
  (∀ k,k < row.length->w.cell? ⟨b,off+k,none⟩=some (us k))/\∀ (j:Nat) (x:PV),row[j]? =some x->Rd w O x (us j):=by
 cases h with | vp _ b off us h1 h2 h3 h4 h5=>exact⟨b,off,us,rfl,h1,h2,h3,h4,h5⟩
theorem JM {ps:List PV} {v:Value} (h:Rd w O (.agg ps) v):∃ us:Array Value,v= .agg us/\us.size=ps.length/\(∀ x∈ps,x.one=true)/\
  ∀ (i:Nat) (x:PV) (u:Value),ps[i]? =some x->us[i]? =some u->Rd w O x u:=by
 cases h with | agg _ us h1 h2 h3=>exact⟨us,rfl,h1,h2,h3⟩
theorem Fh {sz:Nat} {rows:List (List PV)} {v:Value} (h:Rd w O (.vs sz rows) v):(∃ (a:Option Addr) (cap:Nat),v= .slice a 0 cap/\rows=[]/\(a=none->cap=0)/\cap<=maxLen)\/∃ (b off cap:Nat) (us:Nat->Value),v= .slice (some ⟨b,off,none⟩) rows.length cap/\¬ O b/\b < w.heap.size/\rows.length<=cap/\cap<=maxLen/\
  (∀ row∈rows,row.length=sz)/\(∀ row∈rows,∀ x∈row,x.one=true)/\(∀ k,k < rows.length * sz->w.cell? ⟨b,off+k,none⟩=some (us k))/\
  ∀ (i j:Nat) (row:List PV) (x:PV),rows[i]? =some row->row[j]? =some x->Rd w O x (us (i * sz+j)):=by
 cases h with
 | vsz _ a cap h0 hm=>exact .inl ⟨a,cap,rfl,rfl,h0,hm⟩
 | vs _ _ b off cap us h1 h2 h3 h4 h5 h6 h7 h8=>exact .inr ⟨b,off,cap,us,rfl,h1,h2,h3,h4,h5,h6,h7,h8⟩
theorem Nv {sz:Nat} {rows:List (List PV)} {v:Value} (h:Rd w O (.vs sz rows) v):∃ a cap,v= .slice a rows.length cap/\rows.length<=maxLen:=by
 rcases Fh h with⟨a,cap,rfl,rfl,_,_⟩ | ⟨b,off,cap,us,rfl,_,_,h1,h2,_⟩
 ·exact⟨a,cap,rfl,by simp⟩
 ·exact⟨_,cap,rfl,by omega⟩
theorem sI {i j n sz:Nat} (hi:i < n) (hj:j < sz):i * sz+j < n * sz:=by
 have:(i+1) * sz<=n * sz:=Nat.mul_le_mul_right sz hi
 rw[Nat.add_mul] at this
 omega
theorem acZ {sz:Nat} {rows:List (List PV)} {b off cap n:Nat} {row:List PV} (h:Rd w O (.vs sz rows) (.slice (some ⟨b,off,none⟩) rows.length cap)) (hr:rows[n]? =some row):Rd w O (.vp row) (.pointer (some ⟨b,off+n * sz,none⟩)):=by
 rcases Fh h with⟨_,_,_,rfl,_⟩ | ⟨b',off',cap',us,h,h1,h2,h3,h4,h5,h6,h7,h8⟩
 ·simp at hr
 ·injection h with ha _ _
  injection ha with ha;injection ha with e1 e2
  subst e1;subst e2
  have hn:n < rows.length:=(List.getElem?_eq_some_iff.1 hr).1
  have hm:row∈rows:=mem_of_getElem? hr
  have hl:row.length=sz:=h5 row hm
  refine .vp row b _ (fun k=>us (n * sz+k)) h1 h2 (h6 row hm) (fun k hk=> ?_) (fun j x hx=>h8 n j row x hr hx)
  have:=sI hn (show k < sz by omega)
  rw[Nat.add_assoc]
  exact h7 _ this
end
section
variable {ro:Option Nat} {P:Program} {c:Cx G} {s s':St} {o:Oper} {d:Option Nat}
theorem EO {T f off:Nat} (hf:uc P T f off=true) (w:World) (b k:Nat):
  (Instr.fieldAt T (.pointer (some ⟨b,k,none⟩)) f).run P w= .ok (.pointer (some ⟨b,k+off,none⟩)) w:=by
 obtain⟨fs,fld,i,h1,h2,h3,h4,h5⟩:=Qv hf
 simp[Instr.fieldAt,run_underlying h1,h2,Instr.sureAddr,fieldPlace,sizeOf,typeInfo,h4,h5,Addr.add_lit,h3]
theorem qL {T f off:Nat} {x:Operand} {row:List PV} (ho:o.op= .fieldAddr T x f) (hx:ev s x=some (.pv (.vp row))) (hf:uc P T f off=true) (hd:o.dst=d) (hn:dOk s d=true):
  da ro P c o s (s.put d (some (.pv (.vp (row.drop off))))):=
 ca hd hn (by rw[ho];intro k h;cases h) fun a w O θ hs=>by
  obtain⟨b,k,us,hv,h1,h2,h3,h4,h5⟩:=Ko (ug hs hx)
  refine⟨.pointer (some ⟨b,k+off,none⟩),by simp[execOp,ho,hv,EO hf],.pv _ _ (.vp _ b _ (fun j=>us (off+j)) h1 h2 (fun y hy=>h3 y (mem_of_mem_drop hy)) (fun j hj=> ?_) (fun j y hy=>h5 _ y ?_))⟩
  ·rw[length_drop] at hj
   rw[Nat.add_assoc]
   exact h4 _ (by omega)
  ·rwa [getElem?_drop] at hy
theorem gX {T f off:Nat} {x:Operand} {id k:Nat} (ho:o.op= .fieldAddr T x f) (hx:ev s x=some (.lp id k)) (hf:uc P T f off=true) (hd:o.dst=d) (hn:dOk s d=true):
  da ro P c o s (s.put d (some (.lp id (k+off)))):=
 ca hd hn (by rw[ho];intro k h;cases h) fun a w O θ hs=>by
  have h:=jJ hs hx
  generalize hv:a.eval x=v at h
  cases h with
  | lp _ _ g h=>exact⟨_,by simp[execOp,ho,hv,EO hf],.lp _ _ g h⟩
theorem iI {T e sz:Nat} {x y:Operand} {k:IntKind} {n:Int} {rows:List (List PV)} {row:List PV} (ho:o.op= .indexAddr T x y) (hx:ev s x=some (.pv (.vs sz rows))) (hy:ev s y=some (.pv (.int k n)))
  (hr:idx rows n=some row) (ht:sliceB P T e sz=true) (hd:o.dst=d) (hn:dOk s d=true):da ro P c o s (s.put d (some (.pv (.vp row)))):=
 ca hd hn (by rw[ho];intro k h;cases h) fun a w O θ hs=>by
  obtain⟨h0,hr',hlt⟩:=rM hr
  obtain⟨i,h1,h2,h3⟩:=mu ht
  have hv:=ug hs hx
  have hi:=mI hs hy
  rcases Fh hv with⟨_,_,_,rfl,_⟩ | ⟨b,off,cap,us,he,h4⟩
  ·simp at hlt;omega
  ·rw[he] at hv
   refine⟨_,?_,.pv _ _ (acZ hv hr')⟩
   simp[execOp,ho,he,hi,Instr.indexAt,asIntOf,run_underlying h1,h0,hlt,sizeOf,typeInfo,h2,h3,Addr.add_lit]
theorem qD {T e e' sz:Nat} {x y:Operand} {k:IntKind} {n:Int} {id:Nat} {rows:List (List PV)} {row:List PV} (ho:o.op= .indexAddr T x y) (hx:ev s x=some (.ls id)) (hy:ev s y=some (.pv (.int k n)))
  (hb:aX id s.hp=some (.row e' sz rows)) (hr:idx rows n=some row) (ht:sliceB P T e sz=true) (hd:o.dst=d) (hn:dOk s d=true):da ro P c o s (s.put d (some (.le id sz n.toNat 0))):=
 ca hd hn (by rw[ho];intro k h;cases h) fun a w O θ hs=>by
  obtain⟨h0,hr',hlt⟩:=rM hr
  obtain⟨i,h1,h2,h3⟩:=mu ht
  have h:=jJ hs hx
  have hi:=mI hs hy
  generalize hv:a.eval x=v at h
  cases h with
  | ls _ _ h=>
   obtain⟨v',hv',⟨us,hown,_⟩,_⟩:=hs.hp id _ hb
   rw[h] at hv';cases hv'
   rcases hown.2 with⟨_,h4⟩ | ⟨g,cap,cur,he,_⟩
   ·rw[h4] at hlt;simp at hlt;omega
   ·subst he
    exact⟨.pointer (some ⟨g,n.toNat * sz,none⟩),by simp[execOp,ho,hv,hi,Instr.indexAt,asIntOf,run_underlying h1,h0,hlt,sizeOf,typeInfo,h2,h3,Addr.add_lit],.le _ _ _ 0 g _ cap h⟩
theorem rh {T:Nat} (ht:qT P T=true) (w:World) (a:Addr) (u:Value) (h:w.cell? a=some u):(Instr.loadAt T (.pointer (some a))).run P w= .ok u w:=by
 obtain⟨h1,h2,_⟩:=zR ht
 simp[Instr.loadAt,Instr.sureAddr,loadVar,h1,load,Sem.run,h]
theorem lV {T n:Nat} (ht:nR P T n=true) (w:World) (a:Addr) (us:List Value) (hl:us.length=n) (h:∀ j u,us[j]? =some u->w.cell? (a.add j)=some u):
  (Instr.loadAt T (.pointer (some a))).run P w= .ok (.agg us.toArray) w:=by
 obtain⟨h1,h2,_⟩:=DT ht
 have:=run_loadCells_list (P:=P) w a us h
 rw[hl] at this
 simp[Instr.loadAt,Instr.sureAddr,loadVar,h1,h2,this]
theorem yd {T:Nat} {x:Operand} {row:List PV} {p:PV} (ho:o.op= .load T x) (hx:ev s x=some (.pv (.vp row))) (hp:row[0]? =some p) (ht:qT P T=true) (hd:o.dst=d) (hn:dOk s d=true):
  da ro P c o s (s.put d (some (.pv p))):=
 ca hd hn (by rw[ho];intro k h;cases h) fun a w O θ hs=>by
  obtain⟨b,k,us,hv,h1,h2,h3,h4,h5⟩:=Ko (ug hs hx)
  have h0:=h4 0 (List.getElem?_eq_some_iff.1 hp).1
  rw[Nat.add_zero] at h0
  exact⟨us 0,by simp[execOp,ho,hv,rh ht w _ _ h0],.pv _ _ (h5 0 p hp)⟩
theorem ru {T n:Nat} {x:Operand} {row:List PV} {ps:List PV} (ho:o.op= .load T x) (hx:ev s x=some (.pv (.vp row))) (hp:row.take n=ps) (hl:ps.length=n) (ht:nR P T n=true) (hd:o.dst=d) (hn:dOk s d=true):
  da ro P c o s (s.put d (some (.pv (.agg ps)))):=
 ca hd hn (by rw[ho];intro k h;cases h) fun a w O θ hs=>by
  obtain⟨b,k,us,hv,h1,h2,h3,h4,h5⟩:=Ko (ug hs hx)
  subst hp
  rw[length_take] at hl
  refine⟨_,by
   have:=lV (P:=P) ht w ⟨b,k,none⟩ ((List.range n).map us) (by simp) (fun j u hu=> ?_)
   ·simp[execOp,ho,hv,this];rfl
   ·rw[getElem?_map,Option.map_eq_some_iff] at hu
    obtain⟨j',hj,rfl⟩:=hu
    obtain⟨hj1,hj2⟩:=List.getElem?_eq_some_iff.1 hj
    simp at hj1 hj2;subst hj2
    rw[Addr.add_lit]
    exact h4 _ (by omega),.pv _ _ (.agg _ _ (by simp;omega) (fun y hy=>h3 y (mem_of_mem_take hy)) (fun j y u hy hu=> ?_))⟩
  have hj:j < n:=by
   have:=(List.getElem?_eq_some_iff.1 hy).1
   simp at this;omega
  simp[hj] at hu
  subst hu
  exact h5 j y (by rw[getElem?_take,if_pos hj] at hy;exact hy)
theorem gv {T:Nat} {x:Operand} {id k:Nat} {t:TypeId} {cells:List AV} {v:AV} (ho:o.op= .load T x) (hx:ev s x=some (.lp id k)) (hb:aX id s.hp=some (.box t cells)) (hc:cells[k]? =some v) (ht:qT P T=true) (hd:o.dst=d) (hn:dOk s d=true):
  da ro P c o s (s.put d (some v)):=
 ca hd hn (by rw[ho];intro k h;cases h) fun a w O θ hs=>by
  have h:=jJ hs hx
  generalize hv:a.eval x=u at h
  cases h with
  | lp _ _ g h=>
   obtain⟨v',hv',⟨g',us,he,h1,h2,h3⟩,_⟩:=hs.hp id _ hb
   rw[h] at hv';cases hv'
   cases he
   have hk:k < us.size:=by rw[h2];exact(List.getElem?_eq_some_iff.1 hc).1
   have hu:us[k]? =some us[k]:=by simp[hk]
   refine⟨us[k],by simp[execOp,ho,hv,rh ht w ⟨g,k,none⟩ us[k] (by rw[cell_of_row w g k us t (0,0) h1];exact hu)],(h3 k v _ hc hu).1⟩
def pvs : List AV->Option (List PV)
 | []=>some []
 | .pv p::l=>match pvs l with
  | some ps=>some (p::ps)
  | none=>none
 | _::_=>none
theorem wZ : ∀ {l:List AV} {ps:List PV},pvs l=some ps->l=ps.map .pv
 | [],ps,h=>by simp[pvs] at h;subst h;rfl
 | .pv p::l,ps,h=>by
  simp only[pvs] at h
  split at h
  ·rename_i qs hq;cases h;rw[wZ hq];rfl
  ·cases h
 | .ls _::_,_,h | .le _ _ _ _::_,_,h | .lp _ _::_,_,h | .cs _ _::_,_,h | .ra _ _::_,_,h | .aw _ _ _::_,_,h | .fn _ _::_,_,h | .tup _::_,_,h=>by simp[pvs] at h
theorem lm {w:World} {O:Nat->Prop} {θ:Nat->Option Value} {p:PV} {u:Value} (h:RdA w O θ (.pv p) u):Rd w O p u:=by cases h with | pv _ _ h=>exact h
theorem eZ {T n:Nat} {x:Operand} {id k:Nat} {t:TypeId} {cells:List AV} {ps:List PV} (ho:o.op= .load T x) (hx:ev s x=some (.lp id k)) (hb:aX id s.hp=some (.box t cells))
  (hc:pvs ((cells.drop k).take n)=some ps) (hl:ps.length=n) (h1c:(ps.all PV.one)=true) (ht:nR P T n=true) (hd:o.dst=d) (hn:dOk s d=true):
  da ro P c o s (s.put d (some (.pv (.agg ps)))):=
 ca hd hn (by rw[ho];intro k h;cases h) fun a w O θ hs=>by
  have h:=jJ hs hx
  generalize hv:a.eval x=u at h
  cases h with
  | lp _ _ g h=>
   obtain⟨v',hv',⟨g',us,he,h1,h2,h3⟩,_⟩:=hs.hp id _ hb
   rw[h] at hv';cases hv'
   cases he
   have hc':=wZ hc
   have hps:∀ j p,ps[j]? =some p->j < n/\cells[k+j]? =some (.pv p):=by
    intro j p hj
    have hjn:j < n:=by have:=(List.getElem?_eq_some_iff.1 hj).1;omega
    refine⟨hjn,?_⟩
    have:((cells.drop k).take n)[j]? =some (.pv p):=by rw[hc',getElem?_map,hj];rfl
    rw[getElem?_take,if_pos hjn,getElem?_drop] at this
    exact this
   have hlen:k+n<=us.size\/n=0:=by
    rcases Nat.eq_zero_or_pos n with h0 | h0
    ·exact .inr h0
    ·left
     obtain⟨p,hp⟩:∃ p,ps[n - 1]? =some p:=⟨ps[n - 1]'(by omega),getElem?_eq_getElem (by omega)⟩
     have:=(List.getElem?_eq_some_iff.1 (hps _ p hp).2).1
     omega
   refine⟨.agg ((us.toList.drop k).take n).toArray,?_,.pv _ _ (.agg _ _ ?_ (by simpa using h1c) ?_)⟩
   ·have:=lV (P:=P) ht w ⟨g,k,none⟩ ((us.toList.drop k).take n) (by simp;omega) (fun j u hu=> ?_)
    ·simp[execOp,ho,hv,this]
    ·rw[getElem?_take] at hu
     split at hu
     ·rw[getElem?_drop] at hu
      rw[Addr.add_lit,cell_of_row w g _ us t (0,0) h1]
      simpa using hu
     ·cases hu
   ·simp;omega
   ·intro j p u hp hu
    obtain⟨hjn,hcj⟩:=hps j p hp
    have hu':us[k+j]? =some u:=by
     simp only[getElem?_toArray,getElem?_take,if_pos hjn,getElem?_drop] at hu
     simpa using hu
    exact lm (h3 (k+j) _ u hcj hu').1
theorem J0 {T:Nat} {x:Operand} {id sz i k:Nat} {e:TypeId} {rows:List (List PV)} {row:List PV} {p:PV} (ho:o.op= .load T x) (hx:ev s x=some (.le id sz i k)) (hb:aX id s.hp=some (.row e sz rows))
  (hr:rows[i]? =some row) (hp:row[k]? =some p) (ht:qT P T=true) (hd:o.dst=d) (hn:dOk s d=true):da ro P c o s (s.put d (some (.pv p))):=
 ca hd hn (by rw[ho];intro k h;cases h) fun a w O θ hs=>by
  have h:=jJ hs hx
  generalize hv:a.eval x=u at h
  cases h with
  | le _ _ _ _ g n cap h=>
   obtain⟨v',hv',⟨us,hown,hrd⟩,_⟩:=hs.hp id _ hb
   rw[h] at hv';cases hv'
   have hi:i < rows.length:=(List.getElem?_eq_some_iff.1 hr).1
   have hk:k < sz:=by have:=(List.getElem?_eq_some_iff.1 hp).1;rw[hrd.hz row (mem_of_getElem? hr)] at this;exact this
   have hlt:i * sz+k < us.length:=by rw[hrd.len];exact sI hi hk
   have hu:us[i * sz+k]? =some us[i * sz+k]:=getElem?_eq_getElem hlt
   have hcell:=hown.cells (g:=g) rfl (i * sz+k) _ hu
   rw[Addr.add_lit,Nat.zero_add] at hcell
   exact⟨_,by simp[execOp,ho,hv,rh ht w _ _ hcell],.pv _ _ (hrd.rd i k row p _ hr hp hu)⟩
theorem IG {T n:Nat} {x:Operand} {id sz i k:Nat} {e:TypeId} {rows:List (List PV)} {row ps:List PV} (ho:o.op= .load T x) (hx:ev s x=some (.le id sz i k)) (hb:aX id s.hp=some (.row e sz rows))
  (hr:rows[i]? =some row) (hp:(row.drop k).take n=ps) (hl:ps.length=n) (ht:nR P T n=true) (hd:o.dst=d) (hn:dOk s d=true):da ro P c o s (s.put d (some (.pv (.agg ps)))):=
 ca hd hn (by rw[ho];intro k h;cases h) fun a w O θ hs=>by
  have h:=jJ hs hx
  generalize hv:a.eval x=u at h
  cases h with
  | le _ _ _ _ g m cap h=>
   obtain⟨v',hv',⟨us,hown,hrd⟩,_⟩:=hs.hp id _ hb
   rw[h] at hv';cases hv'
   have hi:i < rows.length:=(List.getElem?_eq_some_iff.1 hr).1
   have hrl:row.length=sz:=hrd.hz row (mem_of_getElem? hr)
   subst hp
   simp only[length_take,length_drop] at hl
   have hus:∀ j,j < n->i * sz+k + j < us.length:=by
    intro j hj
    rw[hrd.len,Nat.add_assoc]
    exact sI hi (by omega)
   refine⟨.agg ((us.drop (i * sz+k)).take n).toArray,?_,.pv _ _ (.agg _ _ ?_ (fun y hy=>hrd.one row (mem_of_getElem? hr) y (mem_of_mem_drop (mem_of_mem_take hy))) ?_)⟩
   ·have:=lV (P:=P) ht w ⟨g,i * sz+k,none⟩ ((us.drop (i * sz+k)).take n) (by
     simp only[length_take,length_drop]
     rcases Nat.eq_zero_or_pos n with h0 | h0
     ·omega
     ·have:=hus (n - 1) (by omega);omega) (fun j u hu=> ?_)
    ·simp[execOp,ho,hv,this]
    ·rw[getElem?_take] at hu
     split at hu
     ·rw[getElem?_drop] at hu
      have:=hown.cells (g:=g) rfl _ _ hu
      rw[Addr.add_lit,Nat.zero_add] at this
      rw[Addr.add_lit];exact this
     ·cases hu
   ·simp only[size_toArray,length_take,length_drop]
    rcases Nat.eq_zero_or_pos n with h0 | h0
    ·omega
    ·have:=hus (n - 1) (by omega);omega
   ·intro j p u hp hu
    have hjn:j < n:=by have:=(List.getElem?_eq_some_iff.1 hp).1;simp at this;omega
    simp only[getElem?_toArray,getElem?_take,if_pos hjn,getElem?_drop] at hu hp
    exact hrd.rd i (k+j) row p u hr hp (by rw[<- Nat.add_assoc];exact hu)
end
end Go.Abs

namespace Go.Abs
open List
variable {G:List (Nat×List PV)}
open Go.RowKit
def splice {α:Type} (l:List α) (k:Nat) (v:List α):List α:=l.take k++(v++l.drop (k+v.length))
theorem iV {α:Type} (l:List α) (k:Nat) (v:List α) (h:k+v.length<=l.length) (j:Nat):
  (splice l k v)[j]? =if k<=j/\j < k+v.length then v[j - k]? else l[j]? :=by
 unfold splice
 rw[getElem?_append,length_take,getElem?_append,getElem?_drop,getElem?_take]
 have e:min k l.length=k:=by omega
 rw[e]
 by_cases h1:j < k
 ·rw[if_pos h1,if_pos h1,if_neg (by omega)]
 ·rw[if_neg h1]
  by_cases h2:j - k < v.length
  ·rw[if_pos h2,if_pos ⟨by omega,by omega⟩]
  ·rw[if_neg h2,if_neg (by omega)]
   congr 1
   omega
theorem gD {α:Type} (l:List α) (k:Nat) (v:List α) (h:k+v.length<=l.length):(splice l k v).length=l.length:=by
 simp[splice];omega
theorem Ny (w:World) (g:Nat) (cur cs:Array Value) (t:TypeId) (f:Nat×Nat) (h:w.heap[g]? =some (.cells cur t f)):(w.setRow g cs).heap[g]? =some (.cells cs t f):=by
 simp[World.setRow,Array.getElem?_modify,h]
theorem Dc (w:World) (g:Nat) (cs:Array Value):w.grownBy (w.setRow g cs) (some g):=
 ⟨rfl,rfl,rfl,by simp[World.setRow],fun k _ hk=>by
  simp only[World.setRow,Array.getElem?_modify]
  rw[if_neg (fun e=>hk (by rw[e]))]⟩
section
variable {ro:Option Nat} {P:Program} {c:Cx G} {s s':St} {o:Oper} {d:Option Nat}
theorem EA {T n:Nat} (hsz:∀ w,(sizeOf T).run P w= .ok n w) (w:World) (g k:Nat) (v:Value) (cur:Array Value) (t:TypeId) (hv:v.cells.size=n) (h1:∀ u∈v.cells.toList,u.oneCell'=true)
  (hg:w.heap[g]? =some (.cells cur t (0,0))) (hfit:k+n<=cur.size):
  (Instr.storeAt T (.pointer (some ⟨g,k,none⟩)) v).run P w= .ok () (w.setRow g (splice cur.toList k v.cells.toList).toArray):=by
 have:=run_storeCells_at P g k t v.cells.toList 0 cur w hg (by simp;omega) h1
 simp only[Nat.add_zero,append_assoc] at this
 simp only[Instr.storeAt,Instr.sureAddr,storeVar,Sem.run_bind,hsz,Sem.run_pure,Result.andThen_ok,hv,ne_eq,not_true_eq_false,if_false]
 exact this
def AV.cells : AV->List AV
 | .pv (.agg ps)=>ps.map .pv
 | .agg xs=>xs
 | x=>[x]
def AV.cellish : AV->Bool
 | .tup _=>false
 | .any=>false
 | _=>true
theorem AV.cells_ok {w:World} {O:Nat->Prop} {θ:Nat->Option Value} {x:AV} {v:Value} (h:RdA w O θ x v) (hx:x.cellish=true) (hθ:∀ id u,θ id=some u->u.oneCell'=true):
  v.cells.size=x.cells.length/\(∀ u∈v.cells.toList,u.oneCell'=true)/\∀ (j:Nat) (y:AV) (u:Value),x.cells[j]? =some y->v.cells[j]? =some u->RdA w O θ y u:=by
 have single:∀ (v:Value),v.cells= #[v]->x.cells=[x]->RdA w O θ x v->v.oneCell'=true->(v.cells.size=x.cells.length/\(∀ u∈v.cells.toList,u.oneCell'=true)/\∀ (j:Nat) (y:AV) (u:Value),x.cells[j]? =some y->v.cells[j]? =some u->RdA w O θ y u):=by
  intro v h1 h2 h3 h4
  rw[h1,h2]
  refine⟨rfl,by simp[h4],fun j y u hy hu=> ?_⟩
  cases j with
  | zero=>simp at hy hu;subst hy;subst hu;exact h3
  | succ j=>simp at hy
 cases h with
 | pv p v h=>
  by_cases hp:p.one=true
  ·have h4:=h.one_ hp
   refine single v ?_ ?_ (.pv p v h) h4
   ·cases v<;>first | rfl | simp[Value.oneCell'] at h4
   ·cases p<;>first | rfl | simp[PV.one] at hp
  ·cases p<;>first | exact absurd rfl hp | skip
   rename_i ps
   obtain⟨us,rfl,h1,h2,h3⟩:=JM h
   refine⟨by simp[Value.cells,AV.cells,h1],fun u hu=> ?_,fun j y u hy hu=> ?_⟩
   ·obtain⟨j,hj⟩:=getElem?_of_mem hu
    simp only[Value.cells,Array.getElem?_toList] at hj
    have hj':j < ps.length:=by rw[<- h1];exact(Array.getElem?_eq_some_iff.1 hj).1
    exact(h3 j ps[j] u (getElem?_eq_getElem hj') hj).one_ (h2 _ (getElem_mem hj'))
   ·simp only[AV.cells,getElem?_map,Option.map_eq_some_iff] at hy
    obtain⟨p,hp,rfl⟩:=hy
    exact .pv _ _ (h3 j p u hp hu)
 | ls id v h=>
  have h4:=hθ id v h
  exact single v (by cases v<;>first | rfl | simp[Value.oneCell'] at h4) rfl (.ls id v h) h4
 | le id sz i off g n cap h=>exact single _ rfl rfl (.le id sz i off g n cap h) rfl
 | lp id off g h=>exact single _ rfl rfl (.lp id off g h) rfl
 | ra id m g n cap h h0=>exact single _ rfl rfl (.ra id m g n cap h h0) rfl
 | aw id off n g h=>exact single _ rfl rfl (.aw id off n g h) rfl
 | sp id sz r v0 v h hc=>
  cases v0 with
  | slice a n cap=>
   have hc':=hc
   simp only[adT] at hc'
   split at hc'
   ·cases hc';exact single _ rfl rfl (.sp id sz r _ _ h hc) rfl
   ·cases hc'
  | _=>simp[adT] at hc
 | bp0 id=>exact single _ rfl rfl (.bp0 id) rfl
 | bp1 id g h=>exact single _ rfl rfl (.bp1 id g h) rfl
 | cs sz rows v h hc=>obtain⟨a,n,rfl⟩:=hc;exact single _ rfl rfl (.cs sz rows _ h ⟨a,n,rfl⟩) rfl
 | fn f caps us hn h=>exact single _ rfl rfl (.fn f caps us hn h) rfl
 | mv f fst us hn h=>exact single _ rfl rfl (.mv f fst us hn h) rfl
 | tup xs us hn h=>simp[AV.cellish] at hx
 | any v=>simp[AV.cellish] at hx
 | agg xs us hn h1 h=>
  refine⟨by simp[Value.cells,AV.cells,hn],fun u hu=> ?_,fun j y u hy hu=>h j y u hy (by simpa [Value.cells] using hu)⟩
  obtain⟨j,hj⟩:=getElem?_of_mem hu
  simp only[Value.cells,Array.getElem?_toList] at hj
  exact h1 j u hj
theorem kZ {T n:Nat} {x y:Operand} {id k:Nat} {t:TypeId} {cells:List AV} {v:AV} (ho:o.op= .store T x y) (hx:ev s x=some (.lp id k)) (hy:ev s y=some v) (hc:v.cellish=true)
  (hb:aX id s.hp=some (.box t cells)) (hT:(qT P T||nR P T n)=true) (hn1:v.cells.length=(bif qT P T then 1 else n)) (hfit:Nat.ble (k+v.cells.length) cells.length=true) (hd:o.dst=d) (hk:ktB s d=true):
  da ro P c o s ((s.setBlk id (some (.box t (splice cells k v.cells)))).put d none):=
 Nq hd (by cases d<;>exact hk) (by rw[ho];intro k h;cases h) fun a w O θ hs=>by
  have h:=jJ hs hx
  have hv:=jJ hs hy
  generalize ha:a.eval x=u at h
  generalize hb':a.eval y=z at hv
  have hsz:∀ w,(sizeOf T).run P w= .ok v.cells.length w:=by
   rw[hn1]
   cases e:qT P T with
   | true=>exact(zR e).2.1
   | false=>rw[e] at hT;exact(DT (by simpa using hT)).2.1
  cases h with
  | lp _ _ g h=>
   obtain⟨v',hv',⟨g',us,he,h1,h2,h3⟩,_⟩:=hs.hp id _ hb
   rw[h] at hv';cases hv'
   cases he
   obtain⟨c1,c2,c3⟩:=AV.cells_ok hv hc hs.one
   have hfit':k+v.cells.length<=us.size:=by rw[h2];exact Nat.le_of_ble_eq_true hfit
   have hrun:=EA (P:=P) (T:=T) hsz w g k z us t c1 c2 h1 hfit'
   refine⟨w.setRow g (splice us.toList k z.cells.toList).toArray,O,θ,by simp[execOp,ho,ha,hb',hrun],?_⟩
   have hg:=Dc w g (splice us.toList k z.cells.toList).toArray
   have hO:∀ b,b < w.heap.size->¬ O b->¬ O b/\(w.setRow g (splice us.toList k z.cells.toList).toArray).heap[b]? =w.heap[b]? :=by
    intro b hb1 hb2
    refine⟨hb2,hg.block b hb1 (fun e=>hb2 ?_)⟩
    obtain⟨v2,hv2,_,hO2⟩:=hs.hp id _ hb
    rw[h] at hv2;cases hv2
    exact(hO2 b (by simpa [bU] using e.symm)).1
   have hzl:z.cells.toList.length=v.cells.length:=by simpa using c1
   refine hs.upd hb h hg ⟨g,_,rfl,Ny w g us _ t (0,0) h1,?_,?_⟩
   ·simp only[size_toArray]
    rw[gD _ _ _ (by simpa [hzl] using hfit'),gD _ _ _ (Nat.le_of_ble_eq_true hfit)]
    simpa using h2
   ·intro j y u hy hu
    rw[iV _ _ _ (Nat.le_of_ble_eq_true hfit)] at hy
    rw[getElem?_toArray,iV _ _ _ (by simpa [hzl] using hfit'),hzl] at hu
    split at hy
    ·rename_i hj;rw[if_pos hj] at hu
     rw[Array.getElem?_toList] at hu
     exact⟨(c3 _ y u hy hu).mono hg.size hO (fun _ _ e=>e),c2 u (Array.mem_toList_iff.2 (Array.mem_of_getElem? hu))⟩
    ·rename_i hj;rw[if_neg hj] at hu
     rw[Array.getElem?_toList] at hu
     exact⟨(h3 j y u hy hu).1.mono hg.size hO (fun _ _ e=>e),(h3 j y u hy hu).2⟩
theorem yQ {T n:Nat} {x y:Operand} {id sz i k:Nat} {e:TypeId} {rows rows':List (List PV)} {row:List PV} {v:AV} {ps:List PV} (ho:o.op= .store T x y) (hx:ev s x=some (.le id sz i k)) (hy:ev s y=some v) (hc:pvs v.cells=some ps)
  (hb:aX id s.hp=some (.row e sz rows)) (hr:rows[i]? =some row) (hT:(qT P T||nR P T n)=true) (hn1:v.cells.length=(bif qT P T then 1 else n)) (hfit:Nat.ble (k+v.cells.length) sz=true)
  (hrows:rows.set i (splice row k ps)=rows') (hd:o.dst=d) (hk:ktB s d=true):
  da ro P c o s ((s.setBlk id (some (.row e sz rows'))).put d none):=
 Nq hd (by cases d<;>exact hk) (by rw[ho];intro k h;cases h) fun a w O θ hs=>by
  subst hrows
  have h:=jJ hs hx
  have hv:=jJ hs hy
  generalize ha:a.eval x=u at h
  generalize hb':a.eval y=z at hv
  have hsz:∀ w,(sizeOf T).run P w= .ok v.cells.length w:=by
   rw[hn1]
   cases e:qT P T with
   | true=>exact(zR e).2.1
   | false=>rw[e] at hT;exact(DT (by simpa using hT)).2.1
  have hcel:v.cellish=true:=by
   cases v<;>first | rfl | simp[AV.cells,pvs] at hc
  cases h with
  | le _ _ _ _ g m cap h=>
   obtain⟨v',hv',⟨us,hown,hrd⟩,hO2⟩:=hs.hp id _ hb
   rw[h] at hv';cases hv'
   obtain⟨c1,c2,c3⟩:=AV.cells_ok hv hcel hs.one
   have hvc:=wZ hc
   have hpl:ps.length=v.cells.length:=by rw[hvc];simp
   have hzl:z.cells.toList.length=v.cells.length:=by simpa using c1
   have hi:i < rows.length:=(List.getElem?_eq_some_iff.1 hr).1
   have hrl:row.length=sz:=hrd.hz row (mem_of_getElem? hr)
   have hkv:k+v.cells.length<=sz:=Nat.le_of_ble_eq_true hfit
   rcases hown.2 with⟨h',_⟩ | ⟨g',cap',cur,h',hb0,hg0,hnc,hcm,hcs,htake⟩
   ·cases h'
   ·simp only[Value.slice.injEq,Option.some.injEq,Addr.mk.injEq,and_true] at h'
    obtain⟨rfl,hml,rfl⟩:=h'
    have hrange:i * sz+k + v.cells.length<=rows.length * sz:=by
     have:(i+1) * sz<=rows.length * sz:=Nat.mul_le_mul_right sz hi
     rw[Nat.add_mul] at this;omega
    have hcapsz:rows.length * sz<=cur.size:=Nat.le_trans (Nat.mul_le_mul_right sz hnc) hcs
    have hrun:=EA (P:=P) (T:=T) hsz w g (i * sz+k) z cur e c1 c2 hg0 (by omega)
    refine⟨w.setRow g (splice cur.toList (i * sz+k) z.cells.toList).toArray,O,θ,by simp[execOp,ho,ha,hb',hrun],?_⟩
    have hg:=Dc w g (splice cur.toList (i * sz+k) z.cells.toList).toArray
    have hO:∀ b,b < w.heap.size->¬ O b->¬ O b/\(w.setRow g (splice cur.toList (i * sz+k) z.cells.toList).toArray).heap[b]? =w.heap[b]? :=by
     intro b hb1 hb2
     exact⟨hb2,hg.block b hb1 (fun e=>hb2 (hO2 b (by simpa [bU] using e.symm)).1)⟩
    have hfitl:i * sz+k + z.cells.toList.length<=cur.toList.length:=by rw[hzl];simp;omega
    refine hs.upd hb h hg ⟨(splice cur.toList (i * sz+k) z.cells.toList).take (rows.length * sz),⟨?_,?_⟩,⟨?_,?_,?_,?_⟩⟩
    ·rw[length_take,gD _ _ _ hfitl,length_set];simp;omega
    ·exact .inr ⟨g,cap,_,by rw[length_set];rw[hml],hb0,Ny w g cur _ e (0,0) hg0,by rw[length_set];exact hnc,hcm,by simp only[size_toArray];rw[gD _ _ _ hfitl];simpa using hcs,by rw[length_set]⟩
    ·rw[length_take,gD _ _ _ hfitl,length_set];simp;omega
    ·intro row' hrow'
     rcases mem_or_eq_of_mem_set hrow' with h1 | h1
     ·exact hrd.hz row' h1
     ·rw[h1,gD _ _ _ (by omega)];exact hrl
    ·intro row' hrow' y hy'
     rcases mem_or_eq_of_mem_set hrow' with h1 | h1
     ·exact hrd.one row' h1 y hy'
     ·rw[h1] at hy'
      obtain⟨j,hj⟩:=getElem?_of_mem hy'
      rw[iV _ _ _ (by omega)] at hj
      split at hj
      ·have hz:∃ u,z.cells[j - k]? =some u:=by
        have:=(List.getElem?_eq_some_iff.1 hj).1
        exact⟨z.cells[j - k]'(by rw[c1];omega),by simp⟩
       obtain⟨u,hu⟩:=hz
       have h4:=c3 (j - k) (.pv y) u (by rw[hvc,getElem?_map,hj];rfl) hu
       have h5:=c2 u (Array.mem_toList_iff.2 (Array.mem_of_getElem? hu))
       have h6:=lm h4
       cases h6<;>first | rfl | simp[Value.oneCell'] at h5
      ·exact hrd.one row (mem_of_getElem? hr) y (mem_of_getElem? hj)
    ·intro i' j' row' y u hr' hy' hu
     rw[getElem?_take] at hu
     split at hu
     ·rename_i hlt
      rw[iV _ _ _ hfitl,hzl] at hu
      rw[getElem?_set] at hr'
      by_cases hii:i=i'
      ·subst hii
       rw[if_pos rfl,if_pos hi] at hr'
       cases hr'
       rw[iV _ _ _ (by omega)] at hy'
       by_cases hj:k<=j'/\j' < k+ps.length
       ·rw[if_pos hj] at hy'
        rw[if_pos ⟨by omega,by omega⟩,Array.getElem?_toList] at hu
        have h4:=c3 (j' - k) (.pv y) u (by rw[hvc,getElem?_map,hy'];rfl) (by rw[<- hu];congr 1;omega)
        exact(lm h4).mono hg.size hO
       ·rw[if_neg hj] at hy'
        rw[if_neg (by omega)] at hu
        refine(hrd.rd i j' row y u hr hy' ?_).mono hg.size hO
        rw[<- htake,getElem?_take,if_pos hlt];exact hu
      ·rw[if_neg hii] at hr'
       have hi':i' < rows.length:=(List.getElem?_eq_some_iff.1 hr').1
       have hj':j' < sz:=by have:=(List.getElem?_eq_some_iff.1 hy').1;rw[hrd.hz row' (mem_of_getElem? hr')] at this;exact this
       have hout:¬ (i * sz+k<=i' * sz+j'/\i' * sz+j' < i * sz+k + v.cells.length):=by
        rintro ⟨h1,h2⟩
        rcases Nat.lt_or_gt_of_ne hii with h3 | h3
        ·have:(i+1) * sz<=i' * sz:=Nat.mul_le_mul_right sz h3
         rw[Nat.add_mul] at this;omega
        ·have:(i'+1) * sz<=i * sz:=Nat.mul_le_mul_right sz h3
         rw[Nat.add_mul] at this;omega
       rw[if_neg hout] at hu
       refine(hrd.rd i' j' row' y u hr' hy' ?_).mono hg.size hO
       rw[<- htake,getElem?_take,if_pos hlt];exact hu
     ·cases hu
end
end Go.Abs

namespace Go.Abs
open List
variable {G:List (Nat×List PV)}
open Go.RowKit
def cG (P:Program) (T:Nat) (z:Value):Prop:=(P.info? T).bind (·.zero)=some z
theorem tA {P:Program} {T:Nat} {z:Value} (h:cG P T z) (w:World):(zeroValue T).run P w= .ok z w/\∃ i,P.info? T=some i/\i.zero=some z:=by
 unfold cG at h
 cases hi:P.info? T with
 | none=>rw[hi] at h;cases h
 | some i=>
  rw[hi] at h
  have hz:i.zero=some z:=h
  exact⟨by simp[zeroValue,typeInfo,hi,hz],i,rfl,hz⟩
def cz : Value->PV->Prop
 | .slice none 0 0,.vs _ []=>True
 | v,p=>cv v=some p
theorem aar {w:World} {O:Nat->Prop} {v:Value} {p:PV} (h:cz v p):Rd w O p v:=by
 unfold cz at h
 split at h
 ·exact .vs0 _
 ·exact acB h
theorem Tz {v:Value} {p:PV} (h:cz v p):p.one=true/\v.oneCell'=true:=by
 have h1:=aar (w:=default) (O:=fun _=>False) h
 have:p.one=true:=by
  unfold cz at h
  split at h
  ·rfl
  ·unfold cv at h;split at h<;>cases h<;>rfl
 exact⟨this,h1.one_ this⟩
def czs : List Value->List PV->Prop
 | [],[]=>True
 | v::vs,p::ps=>cz v p/\czs vs ps
 | _,_=>False
theorem Cw : ∀ {vs:List Value} {ps:List PV},czs vs ps->vs.length=ps.length/\∀ (j:Nat) (p:PV) (u:Value),ps[j]? =some p->vs[j]? =some u->cz u p
 | [],[],_=>⟨rfl,fun j p u h=>by simp at h⟩
 | v::vs,p::ps,h=>by
  obtain⟨h1,h2⟩:=h
  obtain⟨h3,h4⟩:=Cw h2
  refine⟨by simp[h3],fun j q u hq hu=> ?_⟩
  cases j with
  | zero=>simp at hq hu;subst hq;subst hu;exact h1
  | succ j=>simp at hq hu;exact h4 j q u hq hu
 | [],_::_,h | _::_,[],h=>by simp[czs] at h
section
variable {ro:Option Nat} {P:Program} {c:Cx G} {s s':St} {o:Oper} {d:Option Nat}
theorem sK (w:World) (ob:Obj):w.grownBy (w.alloc ob) none:=World.grownBy_alloc w ob none
theorem KQ (kk:Nat) (hk:ko s kk=true) {T:Nat} {z:Value} {ps:List PV} (ho:o.op= .alloc T) (hz:cG P T z) (hp:czs z.cells.toList ps) (hd:o.dst=d) (hn:dOk s d=true):
  da ro P c o s ((s.addAt kk none (.box T (ps.map .pv))).put d (some (.lp kk 0))):=
 sY (s1:=s.addAt kk none (.box T (ps.map .pv))) hd hn (by rw[ho];intro k h;cases h) fun a w O θ hs=>by
  obtain⟨h1,h2⟩:=Cw hp
  obtain⟨O',θ',h3,h4,h5,h6⟩:=hs.addAt (w':=w.alloc (.cells z.cells T)) (row:=none) (v:= .pointer (some ⟨w.heap.size,0,none⟩)) (b:= .box T (ps.map .pv)) kk hk none (by simp) (fun _=>rfl) (sK w _)
   (fun g hg=>by simp[bU] at hg;subst hg;simp) rfl (fun O' θ' _ _=>⟨w.heap.size,z.cells,rfl,heap_alloc_new w _,by simpa using h1,fun j x u hx hu=>by
    simp only[getElem?_map,Option.map_eq_some_iff] at hx
    obtain⟨p,hp,rfl⟩:=hx
    have:=h2 j p u hp (by simpa using hu)
    exact⟨.pv _ _ (aar this),(Tz this).2⟩⟩)
  refine⟨_,_,O',θ',?_,h6,.lp _ _ _ h5⟩
  simp[execOp,ho,Instr.alloc,(tA hz _).1,newVar,newRow,newObj,Sem.run]
theorem adR (kk:Nat) (hk:ko s kk=true) {T:Nat} {x:Operand} {v:AV} (ho:o.op= .box T x) (hx:ev s x=some v) (hc:v.cellish=true) (hd:o.dst=d) (hn:dOk s d=true):
  da ro P c o s ((s.addAt kk none (.box T v.cells)).put d (some (.lp kk 0))):=
 sY (s1:=s.addAt kk none (.box T v.cells)) hd hn (by rw[ho];intro k h;cases h) fun a w O θ hs=>by
  have hv:=jJ hs hx
  generalize ha:a.eval x=z at hv
  obtain⟨c1,c2,c3⟩:=AV.cells_ok hv hc hs.one
  have hg:=sK w (.cells z.cells T)
  obtain⟨O',θ',h3,h4,h5,h6⟩:=hs.addAt (w':=w.alloc (.cells z.cells T)) (row:=none) (v:= .pointer (some ⟨w.heap.size,0,none⟩)) (b:= .box T v.cells) kk hk none (by simp) (fun _=>rfl) hg
   (fun g hg=>by simp[bU] at hg;subst hg;simp) rfl (fun O' θ' hO' hθ'=>⟨w.heap.size,z.cells,rfl,heap_alloc_new w _,c1,fun j y u hy hu=>
    ⟨(c3 j y u hy hu).mono hg.size (fun b hb hn=>⟨fun hh=>by
     rcases(hO' b).1 hh with h | h
     ·exact hn h
     ·simp[bU] at h;omega,hg.block b hb (by simp)⟩) hθ',c2 u (Array.mem_toList_iff.2 (Array.mem_of_getElem? hu))⟩⟩)
  refine⟨_,_,O',θ',?_,h6,.lp _ _ _ h5⟩
  simp[execOp,ho,Instr.box,ha,newVar,newRow,newObj,Sem.run]
theorem Ql {T:TypeId} {x:Operand} {b:Bool} (ho:o.op= .unOp .not T x) (hx:ev s x=some (.pv (.bool b))) (hd:o.dst=d) (hn:dOk s d=true):da ro P c o s (s.put d (some (.pv (.bool (!b))))):=
 ca hd hn (by rw[ho];intro k h;cases h) fun a w O θ hs=>⟨_,by simp[execOp,ho,Op.unary,GW hs hx],.pv _ _ (.bool _)⟩
theorem acJ {T:TypeId} {x:Operand} {k:IntKind} {n:Int} (ho:o.op= .unOp .neg T x) (hx:ev s x=some (.pv (.int k n))) (hd:o.dst=d) (hn:dOk s d=true):da ro P c o s (s.put d (some (.pv (.int k (k.wrap (0 - n)))))):=
 ca hd hn (by rw[ho];intro k h;cases h) fun a w O θ hs=>⟨_,by simp only[execOp,ho,Op.unary,mI hs hx,Op.intArith];simp,.pv _ _ (.int _ _)⟩
theorem sh {x:Operand} {n:Nat} {vs:List AV} {v:AV} (ho:o.op= .extract x n) (hx:ev s x=some (.tup vs)) (hv:vs[n]? =some v) (hd:o.dst=d) (hn:dOk s d=true):da ro P c o s (s.put d (some v)):=
 ca hd hn (by rw[ho];intro k h;cases h) fun a w O θ hs=>by
  have h:=jJ hs hx
  generalize ha:a.eval x=u at h
  cases h with
  | tup _ us h1 h2=>
   have hlt:n < us.size:=by rw[h1];exact(List.getElem?_eq_some_iff.1 hv).1
   have hu:us[n]? =some us[n]:=by simp[hlt]
   exact⟨us[n],by simp[execOp,ho,ha,Instr.extract,hu],h2 n v _ hv hu⟩
theorem ia {x:Operand} {v:AV} (ho:o.op= .nilCheck x) (hx:ev s x=some v) (hp:(match v with | .pv (.vp _)=>true | .lp _ _=>true | .le _ _ _ _=>true | .pv (.fn _ _)=>true | .fn _ _=>true | _=>false)=true) (hd:o.dst=d) (hn:dOk s d=true):
  da ro P c o s (s.put d (some v)):=
 ca hd hn (by rw[ho];intro k h;cases h) fun a w O θ hs=>by
  have h:=jJ hs hx
  refine⟨a.eval x,?_,h⟩
  generalize ha:a.eval x=u at h
  cases h with
  | pv p _ h=>cases h<;>first | (simp at hp;done) | (simp[execOp,ho,ha];done)
  | ls=>simp at hp
  | le=>simp[execOp,ho,ha]
  | lp=>simp[execOp,ho,ha]
  | cs=>simp at hp
  | ra=>simp at hp
  | aw=>simp at hp
  | sp=>simp at hp
  | bp0=>simp at hp
  | bp1=>simp at hp
  | fn=>simp[execOp,ho,ha]
  | mv=>simp at hp
  | tup=>simp at hp
  | agg=>simp at hp
  | any=>simp at hp
theorem dJ {T:TypeId} {x:Operand} {l:List UInt8} (ho:o.op= .call { callee:= .builtin .len,args:= #[x],argTypes:= #[T] }) (hx:ev s x=some (.pv (.str l))) (ht:P.underlying T=some .string) (hd:o.dst=d) (hn:dOk s d=true):
  da ro P c o s (s.put d (some (.pv (.int .i64 l.length)))):=
 ca hd hn (by rw[ho];intro k h;cases h) fun a w O θ hs=>⟨.int .i64 l.length,by
  have hsz:(⟨l.toArray⟩:ByteArray).size=l.length:=by simp[ByteArray.size]
  simp[execOp,ho,resolve,invoke,builtin,zp hs hx,Builtin.len_,run_underlying ht,goInt,hsz],.pv _ _ (.int _ _)⟩
theorem Ae {n:Nat} {T e sz sz':Nat} {x:Operand} {rows:List (List PV)} (ho:o.op= .call { callee:= .builtin .len,args:= #[x],argTypes:= #[T] }) (hx:ev s x=some (.pv (.vs sz rows))) (hlen:rows.length=n) (ht:sliceB P T e sz'=true) (hd:o.dst=d) (hn:dOk s d=true):
  da ro P c o s (s.put d (some (.pv (.int .i64 n)))):=
 ca hd hn (by rw[ho];intro k h;cases h) fun a w O θ hs=>by
  subst hlen
  obtain⟨i,h1,_,_⟩:=mu ht
  obtain⟨ad,cap,hv,_⟩:=Nv (ug hs hx)
  exact⟨.int .i64 rows.length,by simp[execOp,ho,resolve,invoke,builtin,hv,Builtin.len_,run_underlying h1,goInt],.pv _ _ (.int _ _)⟩
theorem jv {n:Nat} {T e sz sz' e':Nat} {x:Operand} {id:Nat} {rows:List (List PV)} (ho:o.op= .call { callee:= .builtin .len,args:= #[x],argTypes:= #[T] }) (hx:ev s x=some (.ls id)) (hb:aX id s.hp=some (.row e' sz rows)) (hlen:rows.length=n) (ht:sliceB P T e sz'=true) (hd:o.dst=d) (hn:dOk s d=true):
  da ro P c o s (s.put d (some (.pv (.int .i64 n)))):=
 ca hd hn (by rw[ho];intro k h;cases h) fun a w O θ hs=>by
  subst hlen
  obtain⟨i,h1,_,_⟩:=mu ht
  have h:=jJ hs hx
  generalize ha:a.eval x=u at h
  cases h with
  | ls _ _ h=>
   obtain⟨v',hv',⟨us,hown,_⟩,_⟩:=hs.hp id _ hb
   rw[h] at hv';cases hv'
   refine⟨.int .i64 rows.length,?_,.pv _ _ (.int _ _)⟩
   rcases hown.2 with⟨rfl,h4⟩ | ⟨g,cap,cur,rfl,_⟩
   ·simp[execOp,ho,resolve,invoke,builtin,ha,Builtin.len_,run_underlying h1,goInt,h4]
   ·simp[execOp,ho,resolve,invoke,builtin,ha,Builtin.len_,run_underlying h1,goInt]
theorem OD (l:List UInt8):(⟨l.toArray⟩:ByteArray).toList=l:=by rw[ByteArray.toList_eq]
def aco (op:BinOp) (x y:List UInt8):Option PV:=
 match op with
 | .eql=>some (.bool (x==y))
 | .neq=>some (.bool (!(x==y)))
 | .lss=>some (.bool (Op.bytesLess x y))
 | .gtr=>some (.bool (!(Op.bytesLess x y||x==y)))
 | .leq=>some (.bool (Op.bytesLess x y||x==y))
 | .geq=>some (.bool (!(Op.bytesLess x y)))
 | _=>none
theorem dQ {op:BinOp} {T T':TypeId} {x y:Operand} {l m:List UInt8} {r:PV} (ho:o.op= .binOp op T x y T') (hx:ev s x=some (.pv (.str l))) (hy:ev s y=some (.pv (.str m))) (hr:aco op l m=some r) (hd:o.dst=d) (hn:dOk s d=true):
  da ro P c o s (s.put d (some (.pv r))):=
 ca hd hn (by rw[ho];intro k h;cases h) fun a w O θ hs=>by
  have e1:=zp hs hx
  have e2:=zp hs hy
  cases op<;>simp only[aco,Option.some.injEq] at hr<;>cases hr
  all_goals refine⟨_,?_,.pv _ _ (.bool _)⟩
  all_goals simp[execOp,ho,eqGuard,binOp,e1,e2,Op.stringOp]
theorem pj {T T':TypeId} {x y:Operand} {l m:List UInt8} (ho:o.op= .binOp .add T x y T') (hx:ev s x=some (.pv (.str l))) (hy:ev s y=some (.pv (.str m))) (hr:l.length+m.length<=9223372036854775807) (hd:o.dst=d) (hn:dOk s d=true):
  da ro P c o s (s.put d (some (.pv (.str (l++m))))):=
 ca hd hn (by rw[ho];intro k h;cases h) fun a w O θ hs=>by
  have e1:=zp hs hx
  have e2:=zp hs hy
  refine⟨.string ⟨(l++m).toArray⟩,?_,.pv _ _ (.str _)⟩
  have h2:¬ ((((⟨l.toArray⟩:ByteArray).size+(⟨m.toArray⟩:ByteArray).size:Nat):Int) > IntKind.i64.max):=by
   simp only[ByteArray.size,size_toArray]
   have:IntKind.i64.max=9223372036854775807:=by decide
   omega
  have h3:((⟨l.toArray⟩:ByteArray)++(⟨m.toArray⟩:ByteArray))=⟨(l++m).toArray⟩:=by
   apply ByteArray.ext
   simp[ByteArray.data_append]
  simp only[execOp,ho,eqGuard,binOp,e1,e2,Op.stringOp,if_neg h2,h3]
  simp
theorem Xn {op:BinOp} {T T':TypeId} {x y:Operand} {b b':Bool} (ho:o.op= .binOp op T x y T') (hop:op= .eql\/op= .neq) (hx:ev s x=some (.pv (.bool b))) (hy:ev s y=some (.pv (.bool b'))) (ht:P.underlying T=some .bool) (hd:o.dst=d) (hn:dOk s d=true):
  da ro P c o s (s.put d (some (.pv (.bool (match op with | .eql=>b==b' | _=> !(b==b')))))):=
 ca hd hn (by rw[ho];intro k h;cases h) fun a w O θ hs=>by
  have e1:=GW hs hx
  have e2:=GW hs hy
  rcases hop with rfl | rfl
  ·exact⟨_,by simp[execOp,ho,eqGuard,binOp,e1,e2,Op.equal,Op.maxDepth,run_equalIn_bool' w _ T _ _ ht],.pv _ _ (.bool _)⟩
  ·exact⟨_,by simp[execOp,ho,eqGuard,binOp,e1,e2,Op.equal,Op.maxDepth,run_equalIn_bool' w _ T _ _ ht],.pv _ _ (.bool _)⟩
end
end Go.Abs

namespace Go.Abs
open List
variable {G:List (Nat×List PV)}
open Go.RowKit
def jg (P:Program) (T:Nat) (l:List (Nat×Nat)):Bool:=
 match P.underlying T with
 | some (.struct fs)=>(fs.toList.map fun f=>(f.offset,match P.info? f.type with | some i=>i.size | none=>0))==l&&fs.toList.all fun f=>(P.info? f.type).isSome
 | _=>false
def ot (place:List (Nat×Nat)) (cells:List PV):List (Nat×AV)->Option (List PV)
 | []=>some cells
 | (i,v)::rest=>
  match place[i]?,pvs v.cells with
  | some (off,size),some ps=>bif Nat.beq ps.length size&&Nat.ble (off+ps.length) cells.length then ot place (splice cells off ps) rest else none
  | _,_=>none
theorem Da (us:Array Value) (off:Nat):∀ (cells:Array Value),off+us.size<=cells.size->
  (us.zipIdx.foldl (fun cs (c,j)=>cs.setIfInBounds (off+j) c) cells).toList=splice cells.toList off us.toList:=by
 obtain⟨l⟩:=us
 intro cells
 rw[<- Array.foldl_toList,Array.toList_zipIdx]
 have key:∀ (l:List Value) (k:Nat) (cells:Array Value),off+k + l.length<=cells.size->
   ((l.zipIdx k).foldl (fun cs (c,j)=>cs.setIfInBounds (off+j) c) cells).toList=splice cells.toList (off+k) l:=by
  intro l
  induction l with
  | nil=>intro k cells h;simp[splice]
  | cons x l ih=>
   intro k cells h
   simp only[zipIdx_cons,foldl_cons]
   simp only[length_cons] at h
   rw[ih (k+1) _ (by simp;omega)]
   apply ext_getElem?
   intro j
   rw[iV _ _ _ (by simp;omega),iV _ _ _ (by simp;omega)]
   simp only[Array.toList_setIfInBounds,length_cons,getElem?_set]
   by_cases h1:j=off+k
   ·subst h1
    rw[if_neg (by omega),if_pos rfl,if_pos (by simpa using (by omega:off+k < cells.size)),if_pos ⟨by omega,by omega⟩]
    simp
   ·rw[if_neg (show ¬ off+k=j from fun e=>h1 e.symm)]
    by_cases h2:off+(k+1)<=j/\j < off+(k+1)+l.length
    ·rw[if_pos h2,if_pos ⟨by omega,by omega⟩,show j - (off+k)=(j - (off+(k+1)))+1 by omega,getElem?_cons_succ]
    ·rw[if_neg h2,if_neg (by omega)]
 intro h
 simpa using key l 0 cells (by simpa using h)
section
variable {ro:Option Nat} {P:Program} {c:Cx G} {s s':St} {o:Oper} {d:Option Nat}
def evs (s:St):List (Nat×Operand)->Option (List (Nat×AV))
 | []=>some []
 | (i,x)::l=>match ev s x,evs s l with
  | some v,some vs=>some ((i,v)::vs)
  | _,_=>none
def Reads1 (w:World) (O:Nat->Prop) (us:List Value) (ps:List PV):Prop:=
 us.length=ps.length/\(∀ p∈ps,p.one=true)/\∀ (j:Nat) (p:PV) (u:Value),ps[j]? =some p->us[j]? =some u->Rd w O p u
theorem Reads1.splice_ {w:World} {O:Nat->Prop} {us vs:List Value} {ps qs:List PV} {k:Nat} (h:Reads1 w O us ps) (h':Reads1 w O vs qs) (hk:k+qs.length<=ps.length):Reads1 w O (splice us k vs) (splice ps k qs):=by
 have hk':k+vs.length<=us.length:=by rw[h'.1,h.1];exact hk
 refine⟨by rw[gD _ _ _ hk',gD _ _ _ hk];exact h.1,?_,?_⟩
 ·intro p hp
  obtain⟨j,hj⟩:=getElem?_of_mem hp
  rw[iV _ _ _ hk] at hj
  split at hj
  ·exact h'.2.1 p (mem_of_getElem? hj)
  ·exact h.2.1 p (mem_of_getElem? hj)
 ·intro j p u hp hu
  rw[iV _ _ _ hk] at hp
  rw[iV _ _ _ hk',h'.1] at hu
  split at hp
  ·rename_i hj;rw[if_pos hj] at hu;exact h'.2.2 _ p u hp hu
  ·rename_i hj;rw[if_neg hj] at hu;exact h.2.2 _ p u hp hu
theorem FE {w:World} {O:Nat->Prop} {θ:Nat->Option Value} {x:AV} {v:Value} {ps:List PV} (h:RdA w O θ x v) (hp:pvs x.cells=some ps) (hθ:∀ id u,θ id=some u->u.oneCell'=true):Reads1 w O v.cells.toList ps:=by
 have hcel:x.cellish=true:=by cases x<;>first | rfl | simp[AV.cells,pvs] at hp
 obtain⟨c1,c2,c3⟩:=AV.cells_ok h hcel hθ
 have hx:=wZ hp
 have hl:v.cells.size=ps.length:=by rw[c1,hx];simp
 have rd:∀ (j:Nat) (p:PV) (u:Value),ps[j]? =some p->v.cells.toList[j]? =some u->Rd w O p u:=fun j p u hj hu=>
  lm (c3 j (.pv p) u (by rw[hx,getElem?_map,hj];rfl) (by simpa using hu))
 refine⟨by simpa using hl,fun p hp=> ?_,rd⟩
 obtain⟨j,hj⟩:=getElem?_of_mem hp
 have hlt:j < v.cells.toList.length:=by have:=(List.getElem?_eq_some_iff.1 hj).1;simp;omega
 have h4:=rd j p _ hj (getElem?_eq_getElem hlt)
 have h5:=c2 _ (getElem_mem hlt)
 generalize v.cells.toList[j]=u at h4 h5
 cases h4<;>first | rfl | simp[Value.oneCell'] at h5
theorem xB {w:World} {O:Nat->Prop} {vs:List Value} {ps:List PV} (h:czs vs ps):Reads1 w O vs ps:=by
 obtain⟨h1,h2⟩:=Cw h
 refine⟨h1,fun p hp=> ?_,fun j p u hp hu=>aar (h2 j p u hp hu)⟩
 obtain⟨j,hj⟩:=getElem?_of_mem hp
 have hlt:j < vs.length:=by have:=(List.getElem?_eq_some_iff.1 hj).1;omega
 exact(Tz (h2 j p _ hj (getElem?_eq_getElem hlt))).1
theorem Db {w:World} {O:Nat->Prop} {us:List Value} {ps:List PV} (h:Reads1 w O us ps):Rd w O (.agg ps) (.agg us.toArray):=
 .agg _ _ (by simpa using h.1) h.2.1 (fun j p u hp hu=>h.2.2 j p u hp (by simpa using hu))
def EvL (w:World) (O:Nat->Prop) (θ:Nat->Option Value) (f:Operand->Value):List (Nat×Operand)->List (Nat×AV)->Prop
 | [],[]=>True
 | (i,x)::l,(j,v)::m=>i=j/\RdA w O θ v (f x)/\EvL w O θ f l m
 | _,_=>False
theorem EvL.of {O:Nat->Prop} {θ:Nat->Option Value} {a:Act} {w:World} (hs:SimAt c s O θ a w):∀ {parts:List (Nat×Operand)} {xs:List (Nat×AV)},evs s parts=some xs->EvL w O θ a.eval parts xs
 | [],xs,h=>by simp[evs] at h;subst h;trivial
 | (i,x)::parts,xs,h=>by
  simp only[evs] at h
  split at h
  ·rename_i v vs hv hvs
   cases h
   exact⟨rfl,jJ hs hv,EvL.of hs hvs⟩
  ·cases h
theorem KR {place:List (Nat×Nat)} {pf:Nat->Option (Nat×Nat)} (hpf:∀ i p,place[i]? =some p->pf i=some p) {O:Nat->Prop} {θ:Nat->Option Value} {a:Act} {w:World} (hs:SimAt c s O θ a w):∀ (parts:List (Nat×Operand)) (xs:List (Nat×AV)) (cells:List PV) (us:Array Value) (r:List PV),
  EvL w O θ a.eval parts xs->ot place cells xs=some r->Reads1 w O us.toList cells->
  ∃ us',Instr.fill pf us (parts.map fun(i,x)=>(i,a.eval x))=some us'/\Reads1 w O us'.toList r
 | [],xs,cells,us,r,h1,h2,h3=>by
  cases xs with
  | cons _ _=>cases h1
  | nil=>
  simp[ot] at h2;subst h2
  exact⟨us,rfl,h3⟩
 | (i,x)::parts,xs,cells,us,r,h1,h2,h3=>by
  cases xs with
  | nil=>cases h1
  | cons xv vs=>
  obtain⟨i',v⟩:=xv
  obtain⟨rfl,hv,hvs⟩:=h1
  simp only[ot] at h2
  split at h2
  ·rename_i off size ps hpl hps
   simp only[cond_eq_ite] at h2
   split at h2
   ·rename_i hc
    simp only[Bool.and_eq_true] at hc
    have hc1:ps.length=size:=Nat.eq_of_beq_eq_true hc.1
    have hc2:off+ps.length<=cells.length:=Nat.le_of_ble_eq_true hc.2
    have hr1:=FE hv hps hs.one
    have hsz:(a.eval x).cells.size=size:=by have:=hr1.1;simp at this;omega
    have hus:us.size=cells.length:=by have:=h3.1;simpa using this
    have hsp:=Da (a.eval x).cells off us (by have:=hr1.1;simp at this;omega)
    obtain⟨us',e1,e2⟩:=KR hpf hs parts vs _ ((a.eval x).cells.zipIdx.foldl (fun cs (c,j)=>cs.setIfInBounds (off+j) c) us) r hvs h2 (by rw[hsp];exact h3.splice_ hr1 hc2)
    refine⟨us',?_,e2⟩
    simp only[map_cons,Instr.fill,hpf _ _ hpl]
    rw[if_neg (by simp[hsz];have:=hr1.1;simp at this;omega)]
    exact e1
   ·cases h2
  ·cases h2
theorem aaS {place:List (Nat×Nat)} {pf:Nat->Option (Nat×Nat)} (hpf:∀ i p,place[i]? =some p->pf i=some p) {O:Nat->Prop} {θ:Nat->Option Value} {a:Act} {w:World} (hs:SimAt c s O θ a w):∀ (parts:List (Nat×Operand)) (xs:List (Nat×AV)) (cells:List PV) (us:Array Value) (r:List PV),
  evs s parts=some xs->ot place cells xs=some r->Reads1 w O us.toList cells->
  ∃ us',Instr.fill pf us (parts.map fun(i,x)=>(i,a.eval x))=some us'/\Reads1 w O us'.toList r:=
 fun parts xs cells us r h1 h2 h3=>KR hpf hs parts xs cells us r (EvL.of hs h1) h2 h3
theorem Cn {T:Nat} {l:List (Nat×Nat)} (h:jg P T l=true):∃ fs,P.underlying T=some (.struct fs)/\
  ∀ w,(fs.mapM fun f=>(do pure (f.offset,<- sizeOf f.type):Sem (Nat×Nat))).run P w= .ok l.toArray w:=by
 unfold jg at h
 split at h
 ·rename_i fs hu
  simp only[Bool.and_eq_true,beq_iff_eq,all_eq_true] at h
  obtain⟨h1,h2⟩:=h
  refine⟨fs,hu,fun w=> ?_⟩
  subst h1
  obtain⟨fs⟩:=fs
  simp only[mapM_toArray]
  simp only at h2
  have:∀ fs:List Field,(∀ f∈fs,(P.info? f.type).isSome=true)->(fs.mapM fun f=>(do pure (f.offset,<- sizeOf f.type):Sem (Nat×Nat))).run P w= .ok (fs.map fun f=>(f.offset,match P.info? f.type with | some i=>i.size | none=>0)) w:=by
   intro fs
   induction fs with
   | nil=>intro _;simp
   | cons f fs ih=>
    intro hf
    have h3:=hf f (by simp)
    cases hi:P.info? f.type with
    | none=>rw[hi] at h3;cases h3
    | some i=>
     simp only[mapM_cons,Sem.run_bind,sizeOf,typeInfo,run_program,Result.andThen_ok,hi,Sem.run_pure,map_cons]
     have:=ih (fun f hf'=>hf f (by simp[hf']))
     simp only[Sem.run_bind,sizeOf,typeInfo,run_program,Result.andThen_ok,Sem.run_pure] at this
     rw[this]
     simp[Result.andThen]
  simp only[Sem.run_map,this fs h2]
  rfl
 ·cases h
theorem Cb {T:Nat} {parts:List (Nat×Operand)} {place:List (Nat×Nat)} {z:Value} {zs r:List PV} {xs:List (Nat×AV)} (ho:o.op= .build T parts.toArray) (hz:cG P T z) (hzs:czs z.cells.toList zs) (hpl:jg P T place=true)
  (hx:evs s parts=some xs) (hr:ot place zs xs=some r) (hd:o.dst=d) (hn:dOk s d=true):da ro P c o s (s.put d (some (.pv (.agg r)))):=
 ca hd hn (by rw[ho];intro k h;cases h) fun a w O θ hs=>by
  obtain⟨fs,hu,hfs⟩:=Cn hpl
  obtain⟨us',h1,h2⟩:=aaS (place:=place) (pf:=(place[·]?)) (fun _ _ h=>h) hs parts xs zs z.cells r hx hr (xB hzs)
  refine⟨.agg us',?_,.pv _ _ (by have:=Db h2;simpa using this)⟩
  have hfs':=hfs w
  simp only[bind_pure_comp] at hfs'
  simp[execOp,ho,Instr.build,(tA hz w).1,run_underlying hu,hfs',h1]
end
end Go.Abs

