/- A part of the proof that the law ShowAgain gives true for every input. -/
import Derived.Test.YtjimbkljclfflaaGreatDoorShowAgainKL1
import Derived.Test.YtjimbkljclfflaaGreatDoorShowAgainA2
import Derived.Test.YtjimbkljclfflaaGreatDoorShowAgainA3
import Derived.Test.YtjimbkljclfflaaGreatDoorShowAgainT
import Derived.Test.YtjimbkljclfflaaGreatDoorShowAgainA5
import Derived.Test.YtjimbkljclfflaaGreatDoorShowAgainA4
import Derived.Test.YtjimbkljclfflaaGreatDoorShowAgainD
/- The plain law. -/
namespace Go.Proofs.YtjimbkljclfflaaGreatDoor
open List
open Go.RowKit Go.Abs
def eqP (b:List KT):List KT:=(0,[32])::(4,[61])::(0,[32])::b
def plP (ps:List (List UInt8)) (k:Int) (y nm:List UInt8) (t:cd) (e:au) (ar:List au):List KT:=
 if k=1 then eP e 0 else if k=2 then [yP y,(4,[46]),(1,nm)] else if k=3 then yP y::(4,[46])::(1,nm)::eqP (eP e 0)
 else if k=4 then yP y::(4,[46])::(1,nm)::(4,[40])::(cmP (ar.map (eP · 0))++[(4,[41])])
 else if k=5 then(3,[110,101,119])::(0,[32])::tyP ps t else if k=6 then(3,[99,97,115,116])::(0,[32])::(tyP ps t++(0,[32])::eP e 0)
 else if k=7 then [(3,[109,111,118,101]),(0,[32]),(1,y)] else if k=8 then [(3,[100,101,108,101,116,101]),(0,[32]),(1,y)]
 else if eX e=[] then [(3,[114,101,116,117,114,110])] else(3,[114,101,116,117,114,110])::(0,[32])::eP e 0
def xP (x:List UInt8) (b:List KT):List KT:=if x=[] then b else(1,x)::eqP b
def tbP (d:Nat) (b:List KT):List KT:=if d=0 then b else(0,tB d)::b
def ifK (k:Int):KT:=(3,if k=10 then [119,104,105,108,101] else [105,102])
mutual
def stP (ps:List (List UInt8)):ap->Nat->List KT
 | ⟨k,x,y,nm,t,e,ar,bo,el,_⟩,d=>
  if k=9\/k=10 then tbP d (ifK k::(0,[32])::(4,[40])::(eP e 0++(4,[41])::(0,[32])::(4,[123])::(0,[10])::(vw ps bo (d+1)++((if el.length=0 then [] else tbP d ((4,[125])::(0,[32])::(3,[101,108,115,101])::(0,[32])::(4,[123])::(0,[10])::vw ps el (d+1)))++tbP d [(4,[125]),(0,[10])]))))
  else tbP d (xP x (plP ps k y nm t e ar++[(4,[59]),(0,[10])]))
def vw (ps:List (List UInt8)):List ap->Nat->List KT
 | [],_=>[]
 | s::l,d=>stP ps s d++vw ps l d
end
theorem Qm {ps s} (h:s.aa=9\/s.aa=10) (d:Nat):stP ps s d=tbP d (ifK s.aa::(0,[32])::(4,[40])::(eP s.fE 0++(4,[41])::(0,[32])::(4,[123])::(0,[10])::(vw ps s.aC (d+1)++((if s.bQ.length=0 then [] else tbP d ((4,[125])::(0,[32])::(3,[101,108,115,101])::(0,[32])::(4,[123])::(0,[10])::vw ps s.bQ (d+1)))++tbP d [(4,[125]),(0,[10])])))):=by
 cases s;rw[stP,if_pos h]
theorem Qg {ps s} (h:¬ (s.aa=9\/s.aa=10)) (d:Nat):stP ps s d=tbP d (xP s.fX (plP ps s.aa s.fY s.ai s.aJ s.fE s.cO++[(4,[59]),(0,[10])])):=by
 cases s;rw[stP,if_neg h]
structure ON (ps:List (List UInt8)) (s:ap):Prop where
 k:1<=s.aa/\s.aa<=11
 x1:s.aa=1\/s.aa=2\/s.aa=5\/s.aa=6\/s.aa=7->db s.fX=true
 x4:s.aa=4->s.fX=[]\/db s.fX=true
 x0:s.aa=3\/s.aa=8\/s.aa=9\/s.aa=10\/s.aa=11->s.fX=[]
 y1:s.aa=2\/s.aa=3\/s.aa=4->db s.fY=true\/s.fY=[116,104,105,115]
 y7:s.aa=7\/s.aa=8->db s.fY=true
 y0:s.aa=1\/s.aa=5\/s.aa=6\/s.aa=9\/s.aa=10\/s.aa=11->s.fY=[]
 n1:s.aa=2\/s.aa=3\/s.aa=4->db s.ai=true
 n0:¬ (s.aa=2\/s.aa=3\/s.aa=4)->s.ai=[]
 t5:s.aa=5\/s.aa=6->s.aJ.aa=2/\WT ps s.aJ
 t0:¬ (s.aa=5\/s.aa=6)->s.aJ=zT
 e1:s.aa=1\/s.aa=3\/s.aa=9\/s.aa=10\/s.aa=6->fq s.fE=true
 e6:s.aa=6->s.fE.aa=2\/s.fE.aa=3\/s.fE.aa=4
 e11:s.aa=11->s.fE=bT\/fq s.fE=true
 e0:s.aa=2\/s.aa=4\/s.aa=5\/s.aa=7\/s.aa=8->s.fE=bT
 a4:s.aa=4->s.cO.length<=5/\∀ e∈s.cO,fq e=true
 a0:s.aa≠4->s.cO=[]
 b0:¬ (s.aa=9\/s.aa=10)->s.aC=[]
 l0:s.aa≠9->s.bQ=[]
theorem NI {e} (h:Af e=true):e=bT:=by
 unfold Af at h
 simp only[Bool.and_eq_true,decide_eq_true_eq,beq_iff_eq] at h
 have h4:=eq_nil_of_length_eq_zero h.2.2.2
 cases e
 simp only at h h4
 rw[h.1,h.2.1,h.2.2.1,h4]
theorem abI {ps s} (h:ur (ps.length:Int) s=true) (hw:s.aJ.aa=2->wrS s.aJ (ps.length:Int)=true):ON ps s:=by
 unfold ur at h
 simp only[Bool.and_eq_true,decide_eq_true_eq] at h
 obtain⟨hk,hx,hy,hn,ht,he,ha,hb⟩:=h
 unfold bS at hb
 simp only[Bool.and_eq_true,Bool.or_eq_true,decide_eq_true_eq] at hb
 refine⟨hk,fun q=> ?_,fun q=> ?_,fun q=> ?_,fun q=> ?_,fun q=> ?_,fun q=> ?_,fun q=> ?_,fun q=> ?_,fun q=> ?_,fun q=> ?_,fun q=> ?_,fun q=> ?_,fun q=> ?_,fun q=> ?_,fun q=> ?_,fun q=> ?_,fun q=> ?_,fun q=> ?_⟩
 ·unfold xS at hx;rw[if_pos (by omega)] at hx;exact hx
 ·unfold xS at hx;rw[if_neg (by omega),if_pos q] at hx;simpa using hx
 ·unfold xS at hx;rw[if_neg (by omega),if_neg (by omega)] at hx;simpa using hx
 ·unfold yS at hy;rw[if_pos (by omega)] at hy;simpa using hy
 ·unfold yS at hy;rw[if_neg (by omega),if_pos q] at hy;exact hy
 ·unfold yS at hy;rw[if_neg (by omega),if_neg (by omega)] at hy;simpa using hy
 ·unfold nS at hn;rw[if_pos q] at hn;exact hn
 ·unfold nS at hn;rw[if_neg q] at hn;simpa using hn
 ·unfold tS at ht;rw[if_pos q,Bool.and_eq_true,decide_eq_true_eq] at ht;exact⟨ht.1,hw ht.1⟩
 ·unfold tS at ht;rw[if_neg q] at ht;exact aaq ht
 ·unfold eS8 at he
  by_cases q6:s.aa=6
  ·rw[if_neg (by omega),if_pos q6,Bool.and_eq_true] at he;exact he.1
  ·rw[if_pos (by omega)] at he;exact he
 ·unfold eS8 at he;rw[if_neg (by omega),if_pos q,Bool.and_eq_true] at he;simpa using he.2
 ·unfold eS8 at he
  rw[if_neg (by omega),if_neg (by omega),if_pos q,Bool.or_eq_true] at he
  exact he.imp_left NI
 ·unfold eS8 at he;rw[if_neg (by omega),if_neg (by omega),if_neg (by omega)] at he;exact NI he
 ·unfold aS at ha;rw[if_pos q,Bool.and_eq_true,decide_eq_true_eq,all_eq_true] at ha;exact ha
 ·unfold aS at ha;rw[if_neg q,decide_eq_true_eq] at ha;exact eq_nil_of_length_eq_zero ha
 ·exact eq_nil_of_length_eq_zero (by omega)
 ·exact eq_nil_of_length_eq_zero (by omega)
theorem Eh {e} (h:fq e=true):tx (eP e 0)=eX e:=by rw[acA (ja h),eX,if_pos h]
theorem ZC : eX bT=[]:=by decide
theorem XM {e} (h:fq e=true):eX e≠[]:=by
 rw[eX,if_pos h]
 obtain⟨p,c,e2,-⟩:=XW _ e 0 (Nat.le_refl _) (ja h)
 rw[e2];simp
theorem YJ {l} (h:∀ e∈l,fq e=true):tx (cmP (l.map (eP · 0)))=LF l:=by
 rw[KQ,LF,map_map]
 exact congrArg cm (map_congr_left fun e he=>Eh (h e he))
theorem Mq (d:Nat) (b:List KT):tx (tbP d b)=tB d++tx b:=by
 unfold tbP
 split
 ·rename_i h;rw[h];rfl
 ·rw[dT]
theorem abx {ps s} (h:ON ps s) (h9:¬ (s.aa=9\/s.aa=10)):tx (plP ps s.aa s.fY s.ai s.aJ s.fE s.cO)=plS ps s.aa s.fY s.ai s.aJ s.fE s.cO:=by
 have hy:tx [yP s.fY]=s.fY:=by unfold yP;split<;>simp[dT,kR]
 have hy2:∀ b,tx (yP s.fY::b)=s.fY++tx b:=fun b=>by unfold yP;split<;>rw[dT]
 have hk:s.aa=1\/s.aa=2\/s.aa=3\/s.aa=4\/s.aa=5\/s.aa=6\/s.aa=7\/s.aa=8\/s.aa=11:=by have:=h.k;omega
 unfold plP plS
 rcases hk with k | k | k | k | k | k | k | k | k
 ·rw[if_pos k,if_pos k,Eh (h.e1 (by omega))]
 ·rw[k];simp[dT,kR,hy2]
 ·rw[k];simp[dT,hy2,eqP,Eh (h.e1 (by omega))]
 ·rw[k];simp[dT,mw,kR,hy2,YJ (h.a4 k).2]
 ·rw[k];simp[dT,KI (h.t5 (by omega)).2]
 ·rw[k];simp[dT,mw,KI (h.t5 (by omega)).2,Eh (h.e1 (by omega))]
 ·rw[k];simp[dT,kR]
 ·rw[k];simp[dT,kR]
 ·rw[k]
  rcases h.e11 k with e | e
  ·rw[e,ZC];rfl
  ·simp[XM e,dT,Eh e]
theorem adr (x:List UInt8) (b:List KT):tx (xP x b)=xxS x++tx b:=by
 unfold xP xxS
 split
 ·rfl
 ·simp[dT,eqP]
theorem acW {k:Int} (h:k=9\/k=10) (b:List UInt8):hdW k++b=(ifK k).2++([32]++([40]++b)):=by rcases h with rfl | rfl<;>rfl
inductive OA (ps:List (List UInt8)):ap->Prop
 | mk (s:ap) (h:ON ps s) (b:∀ x∈s.aC,OA ps x) (e:∀ x∈s.bQ,OA ps x):OA ps s
theorem Yp {ps}:∀ (f:Nat) (s:ap),cf s<=f->fmS (ps.length:Int) s=true->opS (ps.length:Int) s=true->OA ps s
 | 0,s,h,_,_=>by have:=nf s;omega
 | f+1,s,h,h1,h2=>by
  rw[Lq] at h1
  rw[Kx,ux,ux] at h2
  simp only[Bool.and_eq_true,Bool.or_eq_true,Bool.not_eq_true',decide_eq_false_iff_not,all_eq_true] at h1 h2
  exact .mk s (abI h1.1 fun k=>h2.1.resolve_left fun q=>q k) (fun x hx=>Yp f x (by have:=yy hx;omega) (h1.2.1 x hx) (h2.2.1 x hx)) (fun x hx=>Yp f x (by have:=yE hx;omega) (h1.2.2 x hx) (h2.2.2 x hx))
theorem DA {ps d}:∀ {l:List ap},(∀ x∈l,tx (stP ps x d)=stT ps x d)->tx (vw ps l d)=uJ ps l d
 | [],_=>rfl
 | x::l,h=>by rw[vw,uJ,mw,h x (by simp),DA fun y hy=>h y (by simp[hy])]
theorem Qz {ps}:∀ (f:Nat) (s:ap) (d:Nat),cf s<=f->OA ps s->tx (stP ps s d)=stT ps s d
 | 0,s,d,h,_=>by have:=nf s;omega
 | f+1,s,d,h,ha=>by
  cases ha with
  | mk _ ho hb he=>
   by_cases hk:s.aa=9\/s.aa=10
   ·have b1:=DA (d:=d+1) fun x hx=>Qz f x (d+1) (by have:=yy hx;omega) (hb x hx)
    have b2:=DA (d:=d+1) fun x hx=>Qz f x (d+1) (by have:=yE hx;omega) (he x hx)
    rw[Qm hk,QP hk,Mq,acW hk]
    by_cases h0:s.bQ.length=0
    ·rw[if_pos h0,if_pos h0];simp[dT,mw,kR,Mq,b1,Eh (ho.e1 (by omega))]
    ·rw[if_neg h0,if_neg h0];simp[dT,mw,kR,Mq,b1,b2,Eh (ho.e1 (by omega))]
   ·rw[Qg hk,Rj hk,Mq,adr,mw,abx ho hk];rfl
theorem Vk {y} (h:db y=true\/y=[116,104,105,115]):ok [yP y]=true:=by
 unfold yP
 by_cases hy:y=[116,104,105,115]
 ·rw[if_pos hy,hy];decide
 ·rw[if_neg hy];exact sb (h.resolve_right hy)
theorem Yg {a b} (ha:ok a=true) (hb:ok b=true):ok (a++eqP b)=true:=by
 refine fx ha (by decide) ?_
 have h:=eG (q:=(0,[32])) (by decide) hb
 show (vld (4,[61])&&(jn (4,[61]) ((0,[32])::b)&&ok ((0,[32])::b)))=true
 rw[h];rfl
theorem abA {ps} (hp:PN ps) {s} (h:ON ps s) (h9:¬ (s.aa=9\/s.aa=10)):ok (plP ps s.aa s.fY s.ai s.aJ s.fE s.cO)=true:=by
 have hk:s.aa=1\/s.aa=2\/s.aa=3\/s.aa=4\/s.aa=5\/s.aa=6\/s.aa=7\/s.aa=8\/s.aa=11:=by have:=h.k;omega
 unfold plP
 rcases hk with k | k | k | k | k | k | k | k | k
 ·rw[if_pos k];exact JL (ja (h.e1 (by omega))) 0
 ·rw[k];exact fx (a:=[yP s.fY]) (Vk (h.y1 (by omega))) (by decide) (sb (h.n1 (by omega)))
 ·rw[k];exact fx (a:=[yP s.fY]) (Vk (h.y1 (by omega))) (by decide) (Yg (sb (h.n1 (by omega))) (JL (ja (h.e1 (by omega))) 0))
 ·rw[k];exact fx (a:=[yP s.fY]) (Vk (h.y1 (by omega))) (by decide) (fx (sb (h.n1 (by omega))) (by decide) (fx (Ku fun x hx=>by
   obtain⟨e,he,rfl⟩:=List.mem_map.1 hx
   exact JL (ja ((h.a4 k).2 e he)) 0) (by decide) rfl))
 ·rw[k];exact fx (a:=[(3,[110,101,119])]) (by decide) (by decide) (Ke hp (h.t5 (by omega)).2)
 ·rw[k];exact fx (a:=[(3,[99,97,115,116])]) (by decide) (by decide) (fx (Ke hp (h.t5 (by omega)).2) (by decide) (JL (ja (h.e1 (by omega))) 0))
 ·rw[k];exact fx (a:=[(3,[109,111,118,101])]) (by decide) (by decide) (sb (h.y7 (by omega)))
 ·rw[k];exact fx (a:=[(3,[100,101,108,101,116,101])]) (by decide) (by decide) (sb (h.y7 (by omega)))
 ·rw[k]
  rcases h.e11 k with e | e
  ·rw[e,ZC];show ok [(3,[114,101,116,117,114,110])]=true;decide
  ·simp only[XM e,if_false]
   exact fx (a:=[(3,[114,101,116,117,114,110])]) (by decide) (by decide) (JL (ja e) 0)
def OX (p:List KT):Prop:=∀ b,ok b=true->ok (p++b)=true
theorem KG {d b} (h:ok b=true):ok (tbP d b)=true:=by
 unfold tbP
 split
 ·exact h
 ·rename_i hd
  refine eG ?_ h
  have h1:(tB d).all blk=true:=by unfold tB;rw[all_eq_true];intro x hx;rw[(List.mem_replicate.1 hx).2];rfl
  have h2:tB d≠[]:=by unfold tB;simp[hd]
  have h3:tB d≠[61]:=fun e=>by rw[e] at h1;revert h1;decide
  unfold sp vld
  simp[h1,h2,h3]
theorem DB {ps d}:∀ {l:List ap},(∀ x∈l,OX (stP ps x d))->OX (vw ps l d)
 | [],_=>fun b hb=>hb
 | x::l,h=>fun b hb=>by
  rw[vw,append_assoc]
  exact h x (by simp) _ (DB (fun y hy=>h y (by simp[hy])) b hb)
theorem DC (d:Nat) (a b:List KT):tbP d a++b=tbP d (a++b):=by unfold tbP;split<;>rfl
theorem QX {ps} (hp:PN ps):∀ (f:Nat) (s:ap) (d:Nat),cf s<=f->OA ps s->OX (stP ps s d)
 | 0,s,d,h,_=>by have:=nf s;omega
 | f+1,s,d,h,ha=>by
  intro b hb
  cases ha with
  | mk _ ho hbo hel=>
   by_cases hk:s.aa=9\/s.aa=10
   ·have b1:=DB (d:=d+1) fun x hx=>QX hp f x (d+1) (by have:=yy hx;omega) (hbo x hx)
    have b2:=DB (d:=d+1) fun x hx=>QX hp f x (d+1) (by have:=yE hx;omega) (hel x hx)
    have hend:ok (tbP d [(4,[125]),(0,[10])]++b)=true:=by rw[DC];exact KG (eG (by decide) (eG (by decide) hb))
    have hif:ok [ifK s.aa]=true:=by rcases hk with k | k<;>(rw[k];decide)
    have helse:ok ((if s.bQ.length=0 then [] else tbP d ((4,[125])::(0,[32])::(3,[101,108,115,101])::(0,[32])::(4,[123])::(0,[10])::vw ps s.bQ (d+1)))++(tbP d [(4,[125]),(0,[10])]++b))=true:=by
     split
     ·exact hend
     ·rw[DC]
      exact KG (eG (by decide) (eG (by decide) (fx (a:=[(3,[101,108,115,101])]) (by decide) (by decide) (eG (by decide) (eG (by decide) (b2 _ hend))))))
    rw[Qm hk,DC]
    refine KG (fx (a:=[ifK s.aa]) hif (by decide) (eG (by decide) ?_))
    show ok ((eP s.fE 0++_::_)++b)=true
    rw[append_assoc]
    refine fx (JL (ja (ho.e1 (by omega))) 0) (by decide) (eG (by decide) (eG (by decide) (eG (by decide) ?_)))
    show ok ((vw ps s.aC (d+1)++(_++_))++b)=true
    rw[append_assoc,append_assoc]
    exact b1 _ helse
   ·have hpl:ok (plP ps s.aa s.fY s.ai s.aJ s.fE s.cO++(4,[59])::(0,[10])::b)=true:=fx (abA hp ho hk) (by decide) (eG (by decide) hb)
    rw[Qg hk,DC]
    refine KG ?_
    unfold xP
    split
    ·rw[append_assoc];exact hpl
    ·rename_i hx
     rw[cons_append]
     have hnx:db s.fX=true:=by
      have hkk:(s.aa=1\/s.aa=2\/s.aa=5\/s.aa=6\/s.aa=7)\/s.aa=4\/(s.aa=3\/s.aa=8\/s.aa=9\/s.aa=10\/s.aa=11):=by have:=ho.k;omega
      rcases hkk with q | q | q
      ·exact ho.x1 q
      ·exact(ho.x4 q).resolve_left hx
      ·exact absurd (ho.x0 q) hx
     have:=Yg (sb hnx) hpl
     unfold eqP at this ⊢
     simpa using this
mutual
def z0 : ap->ap
 | ⟨k,x,y,nm,t,e,ar,bo,el,_⟩=>⟨k,x,y,nm,t,e,ar,z0L bo,z0L el,0⟩
def z0L : List ap->List ap
 | []=>[]
 | s::l=>z0 s::z0L l
end
theorem Ky : ∀ l:List ap,z0L l=l.map z0
 | []=>rfl
 | s::l=>by rw[z0L,map_cons,Ky l]
theorem Cn (s:ap):z0 s=⟨s.aa,s.fX,s.fY,s.ai,s.aJ,s.fE,s.cO,s.aC.map z0,s.bQ.map z0,0⟩:=by cases s;rw[z0,Ky,Ky]
theorem is8 {l i t r} (h:At l i (t::r)) (s:List UInt8):du l (i:Int) s=some (isT t s):=by
 obtain⟨k,h1,h2,h3,-⟩:=kS h
 unfold du ew
 rw[h1,obs,obs,oo h2 h3,obs]
theorem sE {l i t r} (h:At l i (t::r)):∃ k,ew l (i:Int)=some k/\k.aa=t.1/\k.bz=t.2/\i < l.length:=by
 obtain⟨k,h1,h2,h3,h4⟩:=kS h
 exact⟨k,by unfold ew;rw[h1,obs],h2,h3,h4⟩
theorem w2 {i:Nat} (h:i<=1000000):ah ((i:Int)+2)=((i+1 + 1:Nat):Int):=by rw[w64 (by omega) (by omega)];omega
theorem w3' {i:Nat} (h:i<=1000000):ah ((i:Int)+3)=((i+1 + 1+1:Nat):Int):=by rw[w64 (by omega) (by omega)];omega
theorem w4' {i:Nat} (h:i<=1000000):ah ((i:Int)+4)=((i+1 + 1+1 + 1:Nat):Int):=by rw[w64 (by omega) (by omega)];omega
theorem qL {l} (hll:l.length<=20000) {i r} (h:At l i ((4,[59])::r)) (s:ap):gY l (i:Int) s=some { fS:=s,fL:=[],fA:=[],aq:=((i+1:Nat):Int),fF:=aK }:=by
 obtain⟨-,-,-,-,hlt⟩:=kS h
 unfold gY
 rw[is8 h,obs,if_neg (by decide),wN (by omega)]
def atk (l:List au):List KT:=tks (cmP (l.map (eP · 0)))
theorem JS : Ax 0 (4,[41])/\Ax 0 (4,[44])/\Ax 0 (4,[59]):=by
 refine⟨fun j h1 h0 h3=> ?_,fun j h1 h0 h3=> ?_,fun j h1 h0 h3=> ?_⟩<;>
 ·have hj:j=0\/j=1\/j=2\/j=3:=by omega
  rcases hj with rfl | rfl | rfl | rfl<;>rfl
theorem Wa {l} (hll:l.length<=20000):∀ (es:List au) (e:au) (out:List au) (i n:Nat) (r:List KT),out.length+es.length+1<=5->(∀ x∈e::es,fq x=true/\bR x<=1000000)->At l i (atk (e::es)++(4,[41])::r)->es.length+1<=n->
  ma l n (i:Int) out=some (.stop { fS:=iM,fL:=[],fA:=out++e::es,aq:=((i+(atk (e::es)).length+1:Nat):Int),fF:=aK })
 | es,e,out,i,0,r,_,_,_,hn=>absurd hn (by omega)
 | es,e,out,i,n+1,r,hl,hw,hat,hn=>by
  obtain⟨he,hm⟩:=hw e (by simp)
  have hi:=Di hat
  rw[ma,if_neg (by simp;omega)]
  cases es with
  | nil=>
   have:atk [e]=tE e 0:=by unfold atk;rw[map_cons,map_nil,xg];rfl
   rw[this] at hat hi ⊢
   rw[vo he hm hll hat JS.1,obs]
   simp only
   rw[if_neg (by decide),ed (by simp only[length_cons,length_nil];omega),obs,is8 (gZ hat).2,obs,if_pos (by decide),wN (by omega)]
  | cons e2 es=>
   have:atk (e::e2::es)=tE e 0++(4,[44])::atk (e2::es):=by unfold atk;rw[map_cons,map_cons,xy];rfl
   rw[this] at hat hi ⊢
   rw[append_assoc,cons_append] at hat
   have h2:=(gZ hat).2
   rw[length_append,length_cons] at hi
   rw[vo he hm hll hat JS.2.1,obs]
   simp only
   rw[if_neg (by decide),ed (by simp only[length_cons,length_nil];omega),obs,is8 h2,obs,if_neg (by decide),is8 h2,obs,if_neg (by decide),wN (by omega),
    Wa hll es e2 (out++[e]) (i+(tE e 0).length+1) n r (by rw[length_append,length_cons,length_nil];simp only[length_cons] at hl;omega) (fun x hx=>hw x (by simp[hx])) (cI h2) (by simp only[length_cons] at hn;omega),append_assoc,length_append,length_cons,
    show i+(tE e 0).length+1 + (atk (e2::es)).length+1=i+((tE e 0).length+((atk (e2::es)).length+1))+1 by omega]
   rfl
theorem KV {e} (he:fS e=true):∀ m,∃ t ts,tE e m=t::ts/\isT t [41]=false:=by
 refine Jy (P:=fun e=>∀ m,∃ t ts,tE e m=t::ts/\isT t [41]=false) ?_ ?_ ?_ ?_ ?_ _ e (Nat.le_refl _) he
 ·intro e k _ _ _ m;rw[tE,nN,k];cases decide (lvS 1 < m)<;>exact⟨_,_,rfl,rfl⟩
 ·intro e k _ _ _ m;rw[tE,nN,k];cases decide (lvS 2 < m)<;>exact⟨_,_,rfl,rfl⟩
 ·intro e k _ _ _ m;rw[tE,nN];rcases k with k | k | k<;>rw[k]<;>cases decide (lvS _ < m)<;>exact⟨_,_,rfl,rfl⟩
 ·intro e x k _ _ _ _ _ m;rw[tE,nN];rcases k with k | ⟨k,-⟩<;>rw[k]<;>cases decide (lvS _ < m)<;>exact⟨_,_,rfl,rfl⟩
 ·intro e x y k hx _ _ _ _ ix _ m
  rcases k with k | ⟨k,-⟩
  ·rw[tE,nN]
   cases decide (lvS e.aa < m)
   ·obtain⟨t,ts,e1,e2⟩:=ix (if lvS e.aa=1 then 2 else lvS e.aa)
    rw[PG,if_neg (by decide),Ay k,hx,DY,eC]
    unfold tE at e1
    rw[e1]
    exact⟨_,_,rfl,e2⟩
   ·exact⟨_,_,rfl,rfl⟩
  ·rw[tE,nN,k];cases decide (lvS 14 < m)<;>exact⟨_,_,rfl,rfl⟩
theorem Zi {l} (hll:l.length<=20000) {es i r} (hl:es.length<=5) (hw:∀ x∈es,fq x=true/\bR x<=1000000) (h:At l i ((4,[40])::(atk es++(4,[41])::r))):
  pD l (i:Int)=some { fS:=iM,fL:=[],fA:=es,aq:=((i+1 + (atk es).length+1:Nat):Int),fF:=aK }:=by
 obtain⟨-,-,-,-,hlt⟩:=kS h
 have h1:=cI h
 unfold pD
 rw[wN (by omega)]
 cases es with
 | nil=>
  have:atk []=[]:=rfl
  rw[this] at h1 ⊢
  rw[is8 h1,obs,if_pos (by decide),wN (by omega)]
  rfl
 | cons e es=>
  have hn:isT ((atk (e::es)++(4,[41])::r).head (by simp)) [41]=false:=by
   obtain⟨he,-⟩:=hw e (by simp)
   have hne:∃ t ts,atk (e::es)=t::ts/\isT t [41]=false:=by
    have hh:=KV (ja he) 0
    obtain⟨t,ts,e1,e2⟩:=hh
    cases es with
    | nil=>exact⟨t,ts,by unfold atk;rw[map_cons,map_nil,xg];exact e1,e2⟩
    | cons e3 es=>exact⟨t,_,by unfold atk;rw[map_cons,map_cons,xy];unfold tE at e1;rw[e1];rfl,e2⟩
   obtain⟨t,ts,e1,e2⟩:=hne
   simp only[e1,cons_append,head_cons]
   exact e2
  have h2:At l (i+1) ((atk (e::es)++(4,[41])::r).head (by simp)::(atk (e::es)++(4,[41])::r).tail):=by rw[cons_head_tail];exact h1
  rw[is8 h2,obs,hn,if_neg (by decide),Wa hll es e [] (i+1) (l.length+64) r (by simp only[length_nil];simp only[length_cons] at hl;omega) hw h1 (by simp only[length_cons] at hl;omega),obs]
  rfl
theorem tK {l i t r} (h:At l i (t::r)):mI l (i:Int)=some (t.1==1||isT t [116,104,105,115]):=by
 obtain⟨k,h1,h2,h3,-⟩:=sE h
 unfold mI
 rw[h1,obs,h2,is8 h]
 simp only[obs]
 cases (t.1==1)<;>cases isT t [116,104,105,115]<;>rfl
theorem Wb (y:List UInt8):((yP y).1==1||isT (yP y) [116,104,105,115])=true/\(yP y).2=y:=by
 unfold yP
 split
 ·rename_i h;rw[h];exact⟨rfl,rfl⟩
 ·exact⟨rfl,rfl⟩
theorem FJ {l} (hll:l.length<=20000) {i y nm es r} (hl:es.length<=5) (hw:∀ x∈es,fq x=true/\bR x<=1000000) (h:At l i (yP y::(4,[46])::(1,nm)::(4,[40])::(atk es++(4,[41])::(4,[59])::r))) (s:ap):
  ib l (i:Int) s=some { fS:={ s with fY:=y,ai:=nm,aa:=4,cO:=es },fL:=[],fA:=[],aq:=((i+1 + 1+1 + 1+(atk es).length+1 + 1:Nat):Int),fF:=aK }:=by
 have h1:=cI h
 have h2:=cI h1
 have h3:=cI h2
 obtain⟨k,a1,a2,a3,hlt⟩:=sE h
 obtain⟨q,b1,b2,b3,-⟩:=sE h2
 have ha:=Zi hll hl hw h3
 have he:At l (i+1 + 1+1 + 1+(atk es).length+1) ((4,[59])::r):=cI (gZ (cI h3)).2
 unfold ib
 rw[a1,obs,w2 (by omega),b1,obs,if_neg (by rw[b2];simp),obs,w3' (by omega),is8 h3,obs,if_pos (by decide),ha,obs]
 simp only
 rw[if_neg (by decide),qL hll he,obs,a3,b3,(Wb y).2]
theorem Ur {l} (hll:l.length<=20000) {i y nm r} (h:At l i (yP y::(4,[46])::(1,nm)::(4,[59])::r)) {s} (hx:s.fX≠[]):
  ib l (i:Int) s=some { fS:={ s with fY:=y,ai:=nm,aa:=2 },fL:=[],fA:=[],aq:=((i+1 + 1+1 + 1:Nat):Int),fF:=aK }:=by
 have h1:=cI h
 have h2:=cI h1
 have h3:=cI h2
 obtain⟨k,a1,a2,a3,hlt⟩:=sE h
 obtain⟨q,b1,b2,b3,-⟩:=sE h2
 unfold ib
 rw[a1,obs,w2 (by omega),b1,obs,if_neg (by rw[b2];simp),obs,w3' (by omega),is8 h3,obs,if_neg (by decide)]
 simp only
 rw[if_pos (by simpa using hx),qL hll h3,obs,a3,b3,(Wb y).2]
theorem UJ {l} (hll:l.length<=20000) {i y nm e r} (hr:fq e=true) (hm:bR e<=1000000) (h:At l i (yP y::(4,[46])::(1,nm)::(4,[61])::(tE e 0++(4,[59])::r))) {s} (hx:s.fX=[]):
  ib l (i:Int) s=some { fS:={ s with fY:=y,ai:=nm,aa:=3,fE:=e },fL:=[],fA:=[],aq:=((i+1 + 1+1 + 1+(tE e 0).length+1:Nat):Int),fF:=aK }:=by
 have h1:=cI h
 have h2:=cI h1
 have h3:=cI h2
 have h4:=cI h3
 obtain⟨k,a1,a2,a3,hlt⟩:=sE h
 obtain⟨q,b1,b2,b3,-⟩:=sE h2
 unfold ib
 rw[a1,obs,w2 (by omega),b1,obs,if_neg (by rw[b2];simp),obs,w3' (by omega),is8 h3,obs,if_neg (by decide)]
 simp only
 rw[if_neg (by simp[hx]),is8 h3,obs,if_neg (by decide),w4' (by omega),vo hr hm hll h4 JS.2.2,obs]
 simp only
 rw[if_neg (by decide),qL hll (gZ h4).2,obs,a3,b3,(Wb y).2]
theorem Uh {ps} (hp:PN ps) {l} (hll:l.length<=20000) {i t v r} (ht:WT ps t) (h2:t.aa=2) (h:At l i ((3,[110,101,119])::(tyK ps t++(4,[59])::v :: r))) (s:ap):
  kr l (i:Int) s ps=some { fS:={ s with aa:=5,aJ:=t },fL:=[],fA:=[],aq:=((i+1 + (tyK ps t).length+1:Nat):Int),fF:=aK }:=by
 have h1:=cI h
 obtain⟨-,-,-,-,hlt⟩:=kS h
 have hT:=NK (f:=false) hp ht hll h1 (fun _=>⟨rfl,fun e=>by simp at e,fun e=>by cases e⟩)
 unfold kr
 rw[is8 h,obs,if_neg (by decide),obs]
 simp only
 rw[wN (by omega),show ((5:Int)==6)=false from rfl,hT,obs]
 simp only
 rw[if_neg (by decide),if_neg (by simp[h2]),if_pos (by decide),qL hll (gZ h1).2,obs]
theorem QK {ps} (hp:PN ps) {l} (hll:l.length<=20000) {i t e r} (ht:WT ps t) (h2:t.aa=2) (hf:fS e=true) (he:e.aa=2\/e.aa=3\/e.aa=4) (h:At l i ((3,[99,97,115,116])::(tyK ps t++(tE e 4++(4,[59])::r)))) (s:ap):
  kr l (i:Int) s ps=some { fS:={ s with aa:=6,aJ:=t,fE:=e },fL:=[],fA:=[],aq:=((i+1 + (tyK ps t).length+(tE e 4).length+1:Nat):Int),fF:=aK }:=by
 obtain⟨u,hu,hux⟩:=Du hf he
 rw[hu] at h ⊢
 have h1:=cI h
 obtain⟨-,-,-,-,hlt⟩:=kS h
 have hT:=NK (f:=true) hp ht hll h1 (fun _=>by
  rcases hux with⟨-,k⟩ | ⟨-,rfl⟩ | ⟨-,rfl⟩
  ·refine⟨?_,fun _=>⟨rfl,by simp,rfl,rfl,rfl⟩,fun _=> .inl k⟩
   unfold isT;rw[if_neg (by omega)]
  ·exact⟨rfl,fun e=>by simp at e,fun _=> .inr (.inl rfl)⟩
  ·exact⟨rfl,fun e=>by simp at e,fun _=> .inr (.inr rfl)⟩)
 have hu2:=(gZ h1).2
 have he2:=cI hu2
 obtain⟨k,a1,a2,a3,hlt2⟩:=sE hu2
 unfold kr
 rw[is8 h,obs,if_pos (by decide),obs]
 simp only
 rw[wN (by omega),show ((6:Int)==6)=true from rfl,hT,obs]
 simp only
 rw[if_neg (by decide),if_neg (by simp[h2]),if_neg (by decide),a1,obs,wN (by omega),a2]
 rcases hux with⟨rfl,k1⟩ | ⟨rfl,rfl⟩ | ⟨rfl,rfl⟩
 ·rw[if_pos (by simpa using k1),Lc,qL hll he2,obs,a3];rfl
 ·rw[if_neg (by decide),is8 hu2,gob,if_pos (by decide),Lc,qL hll he2,obs];rfl
 ·rw[if_neg (by decide),is8 hu2,gob,if_neg (by decide),is8 hu2,gob,if_pos (by decide),Lc,qL hll he2,obs];rfl
def gdb (p:KT):Bool:= !isT p [46]&&(!isT p [59]&&(!isT p [110,101,119]&&(!isT p [99,97,115,116]&& !isT p [109,111,118,101])))
theorem adq {e} (he:fS e=true):∀ m,(eP e m).all gdb=true:=by
 have par:∀ b s,List.all s gdb=true->(PG b s).all gdb=true:=fun b s h=>by
  cases b
  ·exact h
  ·show (((4,[40]):KT)::(s++[(4,[41])])).all gdb=true
   rw[all_cons,all_append,h];decide
 refine Jy (P:=fun e=>∀ m,(eP e m).all gdb=true) ?_ ?_ ?_ ?_ ?_ _ e (Nat.le_refl _) he
 ·intro e k _ _ _ m;rw[nN,k];exact par _ _ rfl
 ·intro e k _ _ _ m;rw[nN,k];exact par _ _ rfl
 ·intro e k _ _ _ m;rw[nN];rcases k with k | k | k<;>rw[k]<;>exact par _ _ rfl
 ·intro e x k hx _ _ _ ih m
  rw[nN,hx]
  rcases k with k | ⟨k,-⟩<;>rw[k]<;>refine par _ _ ?_
  ·show (((4,[33]):KT)::eP x 4).all gdb=true
   rw[all_cons,ih];decide
  ·show (((3,[110,105,108]):KT)::(4,[40])::(eP x 4++[(4,[41])])).all gdb=true
   rw[all_cons,all_cons,all_append,ih];decide
 ·intro e x y k hx _ _ _ _ ix iy m
  rw[nN,hx]
  refine par _ _ ?_
  rcases k with k | ⟨k,-⟩
  ·have hs:gdb (4,sgS e.aa)=true:=by rcases rR k with k | k | k | k | k | k<;>rw[k]<;>decide
   rw[Ay k,DY,L9,all_append,all_cons,all_cons,all_cons,ix,iy,hs];decide
  ·rw[k]
   show (((3,[115,97,109,101]):KT)::(4,[40])::(eP x 4++(4,[44])::(0,[32])::(eP y 4++[(4,[41])]))).all gdb=true
   rw[all_cons,all_cons,all_append,all_cons,all_cons,all_append,ix,iy];decide
theorem Yj {e} (he:fS e=true) {m:Int} {t} (h:t∈tE e m):isT t [46]=false/\isT t [59]=false/\isT t [110,101,119]=false/\isT t [99,97,115,116]=false/\isT t [109,111,118,101]=false:=by
 have:=List.all_eq_true.1 (adq he m) t (List.mem_filter.1 h).1
 unfold gdb at this
 simpa using this
theorem Vw {l} (hll:l.length<=20000) {i ps e r} (hr:fq e=true) (hm:bR e<=1000000) (h:At l i (tE e 0++(4,[59])::r)) (s:ap):
  iR l (i:Int) s ps=some { fS:={ s with aa:=1,fE:=e },fL:=[],fA:=[],aq:=((i+(tE e 0).length+1:Nat):Int),fF:=aK }:=by
 have hf:=ja hr
 obtain⟨t,ts,e1,-⟩:=KV hf 0
 obtain⟨g1,g2,g3,g4,g5⟩:=Yj hf (m:=0) (t:=t) (by rw[e1];simp)
 have hi:=Di h
 have h0:=h
 rw[e1,cons_append] at h0
 have hnext:∃ u r',ts++(4,[59])::r=u::r'/\isT u [46]=false:=by
  cases ts with
  | nil=>exact⟨_,_,rfl,rfl⟩
  | cons u q=>exact⟨u,_,rfl,(Yj hf (m:=0) (t:=u) (by rw[e1];simp)).1⟩
 obtain⟨u,r',e2,hu⟩:=hnext
 have h1:=cI h0
 rw[e2] at h1
 have hP:=vo hr hm hll h JS.2.2
 unfold iR
 rw[is8 h0,obs,g3,if_neg (by decide),is8 h0,obs,g4,obs,if_neg (by decide),is8 h0,obs,g5,if_neg (by decide),tK h0,obs,wN (by omega),is8 h1,obs,hu,ow,obs,ite_self,if_neg (by decide),hP,obs]
 simp only
 rw[if_neg (by decide),qL hll (gZ h).2,obs]
theorem Ec {l i ps w r} (hw:w=[110,101,119]\/w=[99,97,115,116]) (h:At l i ((3,w)::r)) (s:ap) {q} (hq:kr l (i:Int) s ps=some q):iR l (i:Int) s ps=some q:=by
 unfold iR
 rw[is8 h,obs,hq]
 rcases hw with rfl | rfl
 ·rw[if_pos (by decide),obs,if_pos rfl,obs]
 ·rw[if_neg (by decide),is8 h,obs,obs,if_pos (by decide),obs]
theorem Uy {l} (hll:l.length<=20000) {i ps y r} (h:At l i ((3,[109,111,118,101])::(1,y)::(4,[59])::r)) (s:ap):
  iR l (i:Int) s ps=some { fS:={ s with aa:=7,fY:=y },fL:=[],fA:=[],aq:=((i+1 + 1+1:Nat):Int),fF:=aK }:=by
 obtain⟨-,-,-,-,hlt⟩:=kS h
 have h1:=cI h
 obtain⟨k,a1,a2,a3,-⟩:=sE h1
 unfold iR
 rw[is8 h,obs,if_neg (by decide),is8 h,obs,obs,if_neg (by decide),is8 h,obs,if_pos (by decide),wN (by omega),a1,obs,if_neg (by rw[a2];simp),obs,w2 (by omega),qL hll (cI h1),obs,a3]
theorem GX {l} (hll:l.length<=20000) {i ps y r} (hy:db y=true\/y=[116,104,105,115]) (h:At l i (yP y::(4,[46])::r)) (s:ap) {q} (hq:ib l (i:Int) s=some q):iR l (i:Int) s ps=some q:=by
 obtain⟨-,-,-,-,hlt⟩:=kS h
 have hn:isT (yP y) [110,101,119]=false/\isT (yP y) [99,97,115,116]=false/\isT (yP y) [109,111,118,101]=false:=by
  unfold yP
  by_cases e:y=[116,104,105,115]
  ·rw[if_pos e,e];decide
  ·rw[if_neg e];exact⟨rfl,rfl,rfl⟩
 unfold iR
 rw[is8 h,obs,hn.1,if_neg (by decide),is8 h,obs,hn.2.1,obs,if_neg (by decide),is8 h,obs,hn.2.2,if_neg (by decide),tK h,obs,(Wb y).1,if_pos rfl,wN (by omega),is8 (cI h),obs,obs,if_pos (by decide),hq,obs]
theorem zx (y:List UInt8) (b:List KT):tks (yP y::b)=yP y::tks b:=by unfold yP;split<;>exact cn (by decide)
theorem SV (b:List KT):tks (eqP b)=(4,[61])::tks b:=by unfold eqP;rw[dw,cn (by decide),dw]
theorem DI (d:Nat) (b:List KT):tks (tbP d b)=tks b:=by unfold tbP;split<;>first | rfl | exact dw
theorem RI {ps s} (h:¬ (s.aa=9\/s.aa=10)) (d:Nat):tks (stP ps s d)=(if s.fX=[] then [] else [(1,s.fX),(4,[61])])++(tks (plP ps s.aa s.fY s.ai s.aJ s.fE s.cO)++[(4,[59])]):=by
 rw[Qg h,DI]
 unfold xP
 split
 ·rw[eC,cn (by decide),dw];rfl
 ·rw[cn (by decide),SV,eC,cn (by decide),dw];rfl
abbrev sZ (a:Int):ap:={ aa:=0,fX:=[],fY:=[],ai:=[],aJ:=cA,fE:=bT,cO:=[],aC:=[],bQ:=[],fAt:=a }
theorem yv {l} (hll:l.length<=20000) {i nest f ps x r} (hn:nest < 20) (h:At l i ((1,x)::(4,[61])::r)) {q k} (hk:ew l (i:Int)=some k) (hq:iR l ((i+1 + 1:Nat):Int) { sZ k.fAt with fX:=x } ps=some q):dI (f+1) l (i:Int) ps (nest:Int)=some q:=by
 obtain⟨k',a1,a2,a3,hlt⟩:=sE h
 rw[hk] at a1
 obtain rfl:=Option.some.inj a1
 rw[dI,hk,obs,if_neg (by simp;omega),tK h,obs,if_pos (show ((((1:Int),x).1==1)||isT (1,x) [116,104,105,115])=true from rfl),wN (by omega),is8 (cI h),obs,obs,if_neg (by decide),obs,if_pos (by rw[a2];rfl),is8 (cI h),obs,if_neg (by decide),obs,w2 (by omega),a3]
 exact(congrArg (fun o=>Option.bind o _) hq).trans rfl
theorem TH {l} (hll:l.length<=20000) {i nest f ps y r} (hn:nest < 20) (h:At l i (yP y::(4,[46])::r)) {q k} (hk:ew l (i:Int)=some k) (hq:ib l (i:Int) (sZ k.fAt)=some q):dI (f+1) l (i:Int) ps (nest:Int)=some q:=by
 obtain⟨k',a1,a2,a3,hlt⟩:=sE h
 rw[dI,hk,obs,if_neg (by simp;omega),tK h,obs,(Wb y).1,if_pos rfl,wN (by omega),is8 (cI h),obs,obs,if_pos (by decide),hq,obs]
theorem uQ (s:ap) (a:Int):({ s with fAt:=a }:ap)=⟨s.aa,s.fX,s.fY,s.ai,s.aJ,s.fE,s.cO,s.aC,s.bQ,a⟩:=rfl
theorem uY {x} (h:db x=true):x≠[]:=by rintro rfl;revert h;decide
theorem mA {s} (h:cf s<=1000000):∀ e∈s.cO,bR e<=1000000:=fun e he=>by have:=(sd s).2.2.2.2 e he;omega
theorem Uj {l} (hll:l.length<=20000) {i nest f ps y r} (hn:nest < 20) (h:At l i ((3,[100,101,108,101,116,101])::(1,y)::(4,[59])::r)) {k} (hk:ew l (i:Int)=some k):
  dI (f+1) l (i:Int) ps (nest:Int)=some { fS:={ sZ k.fAt with aa:=8,fY:=y },fL:=[],fA:=[],aq:=((i+1 + 1+1:Nat):Int),fF:=aK }:=by
 obtain⟨k',a1,a2,a3,hlt⟩:=sE h
 rw[hk] at a1
 obtain rfl:=Option.some.inj a1
 have h1:=cI h
 obtain⟨q,b1,b2,b3,-⟩:=sE h1
 rw[dI,hk,obs,if_neg (by simp;omega),tK h,obs,if_neg (by decide),obs,if_neg (by decide),obs,if_neg (by rw[a2];decide),is8 h,obs,if_neg (by decide),is8 h,obs,if_pos (by decide),wN (by omega),b1,obs,if_neg (by rw[b2];simp),obs,w2 (by omega),qL hll (cI h1),obs,b3]
theorem UQ {l} (hll:l.length<=20000) {i nest f ps e r} (hn:nest < 20) (he:e=bT\/fq e=true) (hm:bR e<=1000000) (h:At l i ((3,[114,101,116,117,114,110])::((if eX e=[] then [] else tE e 0)++(4,[59])::r))) {k} (hk:ew l (i:Int)=some k):
  dI (f+1) l (i:Int) ps (nest:Int)=some { fS:={ sZ k.fAt with aa:=11,fE:=e },fL:=[],fA:=[],aq:=((i+1 + (if eX e=[] then [] else tE e 0).length+1:Nat):Int),fF:=aK }:=by
 obtain⟨k',a1,a2,a3,hlt⟩:=sE h
 rw[hk] at a1
 obtain rfl:=Option.some.inj a1
 have h1:=cI h
 rw[dI,hk,obs,if_neg (by simp;omega),tK h,obs,if_neg (by decide),obs,if_neg (by decide),obs,if_neg (by rw[a2];decide),is8 h,obs,if_neg (by decide),is8 h,obs,if_neg (by decide),is8 h,obs,if_neg (by decide),is8 h,obs,obs,if_neg (by decide),is8 h,obs,if_neg (by decide),wN (by omega)]
 rcases he with rfl | he
 ·rw[ZC,if_pos rfl,nil_append] at h1
  rw[is8 h1,obs,if_pos (by decide),w2 (by omega),ZC,if_pos rfl];rfl
 ·rw[if_neg (XM he)] at h1 ⊢
  have hf:=ja he
  obtain⟨t,ts,e1,-⟩:=KV hf 0
  have g:=Yj hf (m:=0) (t:=t) (by rw[e1];simp)
  have h2:=h1
  rw[e1,cons_append] at h2
  rw[is8 h2,obs,g.2.1,if_neg (by decide),vo he hm hll h1 JS.2.2,obs]
  simp only
  rw[if_neg (by decide),qL hll (gZ h1).2,obs]
theorem aah {e} (hf:fS e=true) (he:e.aa=2\/e.aa=3\/e.aa=4):tE e 0=tE e 4:=by
 have h4:=(adk (nR hf).1).2 (by omega)
 rw[ug (by omega),ug (by omega)]
theorem W5 {ps} (hp:PN ps) {s} (ho:ON ps s) (h9:¬ (s.aa=9\/s.aa=10)) (hm:cf s<=1000000) {l} (hll:l.length<=20000) {i nest f d u r} (hn:nest < 20) (h:At l i (tks (stP ps s d)++u::r)):
  ∃ a,dI (f+1) l (i:Int) ps (nest:Int)=some { fS:={ s with fAt:=a },fL:=[],fA:=[],aq:=((i+(tks (stP ps s d)).length:Nat):Int),fF:=aK }:=by
 have hme:bR s.fE<=1000000:=by have:=(sd s).1;omega
 have hma:=mA hm
 have hb:=ho.b0 h9
 have hl:=ho.l0 (fun e=>h9 (.inl e))
 have hk:s.aa=1\/s.aa=2\/s.aa=3\/s.aa=4\/s.aa=5\/s.aa=6\/s.aa=7\/s.aa=8\/s.aa=11:=by have:=ho.k;omega
 rw[RI h9] at h ⊢
 have hpl:tks (plP ps s.aa s.fY s.ai s.aJ s.fE s.cO)=if s.aa=1 then tE s.fE 0 else if s.aa=2 then [yP s.fY,(4,[46]),(1,s.ai)] else if s.aa=3 then yP s.fY::(4,[46])::(1,s.ai)::(4,[61])::tE s.fE 0
   else if s.aa=4 then yP s.fY::(4,[46])::(1,s.ai)::(4,[40])::(atk s.cO++[(4,[41])]) else if s.aa=5 then(3,[110,101,119])::tyK ps s.aJ else if s.aa=6 then(3,[99,97,115,116])::(tyK ps s.aJ++tE s.fE 0)
   else if s.aa=7 then [(3,[109,111,118,101]),(1,s.fY)] else if s.aa=8 then [(3,[100,101,108,101,116,101]),(1,s.fY)] else(3,[114,101,116,117,114,110])::(if eX s.fE=[] then [] else tE s.fE 0):=by
  unfold plP
  repeat' split
  all_goals first
   | rfl
   | (rw[zx,cn (by decide),cn (by decide)];rfl)
   | (rw[zx,cn (by decide),cn (by decide),SV];rfl)
   | (rw[zx,cn (by decide),cn (by decide),cn (by decide),eC];rfl)
   | (rw[cn (by decide),dw,eC,dw];rfl)
 rw[hpl] at h ⊢
 rcases hk with k | k | k | k | k | k | k | k | k
 ·have hx:=ho.x1 (by omega)
  rw[if_neg (uY hx),if_pos k,append_assoc,append_assoc] at h
  obtain⟨q,b1,-⟩:=sE h
  refine⟨q.fAt,?_⟩
  rw[yv hll hn h b1 (Vw hll (ho.e1 (by omega)) hme (cI (cI h)) _),if_neg (uY hx),if_pos k,uQ,k,ho.y0 (by omega),ho.n0 (by omega),ho.t0 (by omega),ho.a0 (by omega),hb,hl]
  simp only[length_append,length_cons,length_nil]
  rw[show i+1 + 1+(tE s.fE 0).length+1=i+(0+1 + 1+((tE s.fE 0).length+(0+1))) by omega]
  rfl
 ·have hx:=ho.x1 (by omega)
  rw[if_neg (uY hx),if_neg (by omega),if_pos k] at h ⊢
  obtain⟨q,b1,-⟩:=sE h
  refine⟨q.fAt,?_⟩
  rw[yv hll hn h b1 (GX hll (ho.y1 (by omega)) (cI (cI h)) _ (Ur hll (cI (cI h)) (uY hx))),uQ,k,ho.t0 (by omega),ho.e0 (by omega),ho.a0 (by omega),hb,hl]
  rfl
 ·have hx:=ho.x0 (by omega)
  rw[if_pos hx,if_neg (by omega),if_neg (by omega),if_pos k,nil_append] at h ⊢
  simp only[append_assoc,cons_append,nil_append] at h
  obtain⟨q,b1,-⟩:=sE h
  refine⟨q.fAt,?_⟩
  rw[TH hll hn h b1 (UJ hll (ho.e1 (by omega)) hme h rfl),uQ,k,hx,ho.t0 (by omega),ho.a0 (by omega),hb,hl]
  simp only[length_append,length_cons,length_nil]
  rw[show i+1 + 1+1 + 1+(tE s.fE 0).length+1=i+((tE s.fE 0).length+1 + 1+1 + 1+(0+1)) by omega]
  rfl
 ·obtain⟨al,aw⟩:=ho.a4 k
  have hw:∀ x∈s.cO,fq x=true/\bR x<=1000000:=fun x hx=>⟨aw x hx,hma x hx⟩
  by_cases hx:s.fX=[]
  ·rw[if_pos hx,nil_append,if_neg (by omega),if_neg (by omega),if_neg (by omega),if_pos k] at h ⊢
   simp only[append_assoc,cons_append,nil_append] at h
   obtain⟨q,b1,-⟩:=sE h
   refine⟨q.fAt,?_⟩
   rw[TH hll hn h b1 (FJ hll al hw h _),uQ,k,hx,ho.t0 (by omega),ho.e0 (by omega),hb,hl]
   simp only[length_append,length_cons,length_nil]
   rw[show i+1 + 1+1 + 1+(atk s.cO).length+1 + 1=i+((atk s.cO).length+(0+1)+1 + 1+1 + 1+(0+1)) by omega]
   rfl
  ·rw[if_neg hx,if_neg (by omega),if_neg (by omega),if_neg (by omega),if_pos k] at h ⊢
   simp only[append_assoc,cons_append,nil_append] at h
   obtain⟨q,b1,-⟩:=sE h
   refine⟨q.fAt,?_⟩
   rw[yv hll hn h b1 (GX hll (ho.y1 (by omega)) (cI (cI h)) _ (FJ hll al hw (cI (cI h)) _)),uQ,k,ho.t0 (by omega),ho.e0 (by omega),hb,hl]
   simp only[length_append,length_cons,length_nil]
   rw[show i+1 + 1+1 + 1+1 + 1+(atk s.cO).length+1 + 1=i+(0+1 + 1+((atk s.cO).length+(0+1)+1 + 1+1 + 1+(0+1))) by omega]
   rfl
 ·obtain⟨t2,tw⟩:=ho.t5 (by omega)
  have hx:=ho.x1 (by omega)
  rw[if_neg (uY hx),if_neg (by omega),if_neg (by omega),if_neg (by omega),if_neg (by omega),if_pos k] at h ⊢
  simp only[append_assoc,cons_append,nil_append] at h
  obtain⟨q,b1,-⟩:=sE h
  refine⟨q.fAt,?_⟩
  rw[yv hll hn h b1 (Ec (.inl rfl) (cI (cI h)) _ (Uh hp hll tw t2 (cI (cI h)) _)),uQ,k,ho.y0 (by omega),ho.n0 (by omega),ho.e0 (by omega),ho.a0 (by omega),hb,hl]
  simp only[length_append,length_cons,length_nil]
  rw[show i+1 + 1+1 + (tyK ps s.aJ).length+1=i+(0+1 + 1+((tyK ps s.aJ).length+1 + (0+1))) by omega]
 ·obtain⟨t2,tw⟩:=ho.t5 (by omega)
  have hx:=ho.x1 (by omega)
  have hf:=ja (ho.e1 (by omega))
  rw[if_neg (uY hx),if_neg (by omega),if_neg (by omega),if_neg (by omega),if_neg (by omega),if_neg (by omega),if_pos k,aah hf (ho.e6 k)] at h ⊢
  simp only[append_assoc,cons_append,nil_append] at h
  obtain⟨q,b1,-⟩:=sE h
  refine⟨q.fAt,?_⟩
  rw[yv hll hn h b1 (Ec (.inr rfl) (cI (cI h)) _ (QK hp hll tw t2 hf (ho.e6 k) (cI (cI h)) _)),uQ,k,ho.y0 (by omega),ho.n0 (by omega),ho.a0 (by omega),hb,hl]
  simp only[length_append,length_cons,length_nil]
  rw[show i+1 + 1+1 + (tyK ps s.aJ).length+(tE s.fE 4).length+1=i+(0+1 + 1+((tyK ps s.aJ).length+(tE s.fE 4).length+1 + (0+1))) by omega]
 ·have hx:=ho.x1 (by omega)
  rw[if_neg (uY hx),if_neg (by omega),if_neg (by omega),if_neg (by omega),if_neg (by omega),if_neg (by omega),if_neg (by omega),if_pos k] at h ⊢
  obtain⟨q,b1,-⟩:=sE h
  refine⟨q.fAt,?_⟩
  rw[yv hll hn h b1 (Uy hll (cI (cI h)) _),uQ,k,ho.n0 (by omega),ho.t0 (by omega),ho.e0 (by omega),ho.a0 (by omega),hb,hl]
  rfl
 ·have hx:=ho.x0 (by omega)
  rw[if_pos hx,if_neg (by omega),if_neg (by omega),if_neg (by omega),if_neg (by omega),if_neg (by omega),if_neg (by omega),if_neg (by omega),if_pos k,nil_append] at h ⊢
  obtain⟨q,b1,-⟩:=sE h
  refine⟨q.fAt,?_⟩
  rw[Uj hll hn h b1,uQ,k,hx,ho.n0 (by omega),ho.t0 (by omega),ho.e0 (by omega),ho.a0 (by omega),hb,hl]
  rfl
 ·have hx:=ho.x0 (by omega)
  rw[if_pos hx,if_neg (by omega),if_neg (by omega),if_neg (by omega),if_neg (by omega),if_neg (by omega),if_neg (by omega),if_neg (by omega),if_neg (by omega),nil_append] at h ⊢
  simp only[append_assoc,cons_append,nil_append] at h
  obtain⟨q,b1,-⟩:=sE h
  refine⟨q.fAt,?_⟩
  rw[UQ hll hn (ho.e11 k) hme h b1,uQ,k,hx,ho.y0 (by omega),ho.n0 (by omega),ho.t0 (by omega),ho.a0 (by omega),hb,hl]
  simp only[length_append,length_cons,length_nil]
  generalize (if eX s.fE=[] then [] else tE s.fE 0).length=z
  rw[show i+1 + z+1=i+(z+1 + (0+1)) by omega]
  rfl
abbrev elW : List UInt8:=[101,108,115,101]
abbrev btk (ps:List (List UInt8)) (l:List ap) (d:Nat):List KT:=tks (vw ps l d)
theorem Lg {ps s} (h:s.aa=9\/s.aa=10) (d:Nat):tks (stP ps s d)=ifK s.aa::(4,[40])::(tE s.fE 0++(4,[41])::(4,[123])::(btk ps s.aC (d+1)++(4,[125])::(if s.bQ.length=0 then [] else(3,elW)::(4,[123])::(btk ps s.bQ (d+1)++[(4,[125])])))):=by
 rw[Qm h,DI,ifK,cn (by decide),dw,cn (by decide),eC,cn (by decide),dw,cn (by decide),dw,eC,eC,DI]
 by_cases h0:s.bQ.length=0
 ·rw[if_pos h0,if_pos h0];rfl
 ·rw[if_neg h0,if_neg h0,DI,cn (by decide),dw,cn (by decide),dw,cn (by decide),dw];rfl
theorem DW {ps s} (ho:ON ps s) (d:Nat):∃ t ts,tks (stP ps s d)=t::ts/\isT t [125]=false/\isT t elW=false:=by
 by_cases h9:s.aa=9\/s.aa=10
 ·rw[Lg h9]
  exact⟨_,_,rfl,by rcases h9 with k | k<;>(rw[k];decide)⟩
 ·have hy:∀ y,isT (yP y) [125]=false/\isT (yP y) elW=false:=fun y=>by
   unfold yP
   by_cases e:y=[116,104,105,115]
   ·rw[if_pos e,e];decide
   ·rw[if_neg e];exact⟨rfl,rfl⟩
  rw[RI h9]
  by_cases hx:s.fX=[]
  ·have hk:s.aa=3\/s.aa=4\/s.aa=8\/s.aa=11:=by
    have:=ho.k
    have h1:¬ (s.aa=1\/s.aa=2\/s.aa=5\/s.aa=6\/s.aa=7):=fun k=>uY (ho.x1 k) hx
    omega
   rw[if_pos hx]
   unfold plP
   rcases hk with k | k | k | k<;>rw[k]
   ·exact⟨yP s.fY,_,by rw[if_neg (by decide),if_neg (by decide),if_pos rfl,zx];rfl,hy _⟩
   ·exact⟨yP s.fY,_,by rw[if_neg (by decide),if_neg (by decide),if_neg (by decide),if_pos rfl,zx];rfl,hy _⟩
   ·exact⟨(3,[100,101,108,101,116,101]),_,rfl,by decide⟩
   ·by_cases e:eX s.fE=[]
    ·rw[e];exact⟨(3,[114,101,116,117,114,110]),_,rfl,by decide⟩
    ·simp only[e];exact⟨(3,[114,101,116,117,114,110]),_,rfl,by decide⟩
  ·rw[if_neg hx];exact⟨(1,s.fX),_,rfl,rfl,rfl⟩
def UW (ps:List (List UInt8)) (l:List az) (nest:Nat) (f d:Nat) (s:ap):Prop:=∀ (i:Nat) (u:KT) (r:List KT),At l i (tks (stP ps s d)++u::r)->isT u elW=false->
 ∃ q,dI f l (i:Int) ps (nest:Int)=some { fS:=q,fL:=[],fA:=[],aq:=((i+(tks (stP ps s d)).length:Nat):Int),fF:=aK }/\z0 q=z0 s
theorem Nq {ps l d} (hw:∀ s∈l,ON ps s) (r:List KT):∃ u r',btk ps l d++(4,[125])::r=u::r'/\isT u elW=false:=by
 cases l with
 | nil=>exact⟨_,_,rfl,by decide⟩
 | cons s l=>
  obtain⟨t,ts,e,-,h⟩:=DW (hw s (by simp)) d
  exact⟨t,_,by unfold btk;rw[vw,eC,e];rfl,h⟩
theorem S9 {ps l} (hll:l.length<=20000) {nest f d}:∀ (ss:List ap) (out:List ap) (i n:Nat) (r:List KT),(∀ s∈ss,ON ps s/\UW ps l nest f d s)->out.length+ss.length<=20000->At l i (btk ps ss d++(4,[125])::r)->ss.length+1<=n->
  ∃ qs,jK l ps (nest:Int) (dI f) n (i:Int) out=some (.next (((i+(btk ps ss d).length:Nat):Int),out++qs))/\qs.map z0=ss.map z0
 | ss,out,i,0,r,_,_,_,hn=>absurd hn (by omega)
 | [],out,i,n+1,r,_,_,hat,hn=>by
  refine⟨[],?_,rfl⟩
  rw[jK,is8 hat,obs,if_neg (by decide),append_nil];rfl
 | s::ss,out,i,n+1,r,hw,ho,hat,hn=>by
  obtain⟨on,rd⟩:=hw s (by simp)
  obtain⟨t,ts,e,h1,-⟩:=DW on d
  have eb:btk ps (s::ss) d=tks (stP ps s d)++btk ps ss d:=by unfold btk;rw[vw,eC]
  rw[eb,append_assoc] at hat
  obtain⟨u,r',e2,hu⟩:=Nq (d:=d) (fun x hx=>(hw x (by simp[hx])).1) (l:=ss) r
  have hat2:=hat
  rw[e2] at hat2
  obtain⟨q,hq,hz⟩:=rd i u r' hat2 hu
  have h3:=hat2
  rw[e,cons_append] at h3
  obtain⟨qs,hqs,hzs⟩:=S9 hll ss (out++[q]) (i+(tks (stP ps s d)).length) n r (fun x hx=>hw x (by simp[hx])) (by rw[length_append];simp only[length_cons,length_nil] at ho ⊢;omega) (gZ hat).2 (by simp only[length_cons] at hn;omega)
  refine⟨q::qs,?_,by rw[map_cons,map_cons,hz,hzs]⟩
  simp only[length_cons] at ho
  rw[jK,is8 h3,obs,h1,if_pos (by decide),hq,obs]
  simp only
  rw[if_neg (by decide),ed (by simp only[length_cons,length_nil];omega),obs,hqs,eb,length_append,append_assoc,Nat.add_assoc]
  rfl
theorem KJ {ps d}:∀ {ss:List ap},(∀ s∈ss,ON ps s)->ss.length<=(btk ps ss d).length
 | [],_=>Nat.zero_le _
 | s::ss,h=>by
  obtain⟨t,ts,e,-⟩:=DW (h s (by simp)) d
  have:=KJ (d:=d) (ss:=ss) fun x hx=>h x (by simp[hx])
  have eb:btk ps (s::ss) d=tks (stP ps s d)++btk ps ss d:=by unfold btk;rw[vw,eC]
  rw[eb,e,length_append,length_cons,length_cons];omega
theorem Ny {ps l} (hll:l.length<=20000) {nest f d ss i r} (hw:∀ s∈ss,ON ps s/\UW ps l nest f d s) (hat:At l i ((4,[123])::(btk ps ss d++(4,[125])::r))):
  ∃ qs,je (f+1) l (i:Int) ps (nest:Int)=some { fS:=iM,fL:=qs,fA:=[],aq:=((i+1 + (btk ps ss d).length+1:Nat):Int),fF:=aK }/\qs.map z0=ss.map z0:=by
 have h1:=cI hat
 have hi:=Di h1
 have hlen:=KJ (d:=d) fun s hs=>(hw s hs).1
 obtain⟨qs,hqs,hz⟩:=S9 hll ss [] (i+1) (l.length+64) r hw (by rw[length_nil];omega) h1 (by omega)
 refine⟨qs,?_,hz⟩
 rw[je,is8 hat,obs,if_neg (by decide),wN (by omega),hqs,obs,uW]
 simp only[nil_append]
 rw[wN (by omega)]
theorem Yt {ps l} (hll:l.length<=20000) {nest f d s} (ho:ON ps s) (h9:s.aa=9\/s.aa=10) (hm:cf s<=1000000) (hn:nest < 20) {i u r}
  (hb:∀ x∈s.aC,ON ps x/\UW ps l (nest+1) f (d+1) x) (he:∀ x∈s.bQ,ON ps x/\UW ps l (nest+1) f (d+1) x) (hat:At l i (tks (stP ps s d)++u::r)) (hu:isT u elW=false) (a:Int):
  ∃ q,kI (f+2) l (i:Int) (sZ a) ps (nest:Int)=some { fS:=q,fL:=[],fA:=[],aq:=((i+(tks (stP ps s d)).length:Nat):Int),fF:=aK }/\z0 q=z0 s:=by
 rw[Lg h9] at hat ⊢
 simp only[cons_append,append_assoc] at hat
 have h1:=cI hat
 have h2:=cI h1
 have h3:=(gZ h2).2
 have h4:=cI h3
 have hme:bR s.fE<=1000000:=by have:=(sd s).1;omega
 have hi:=Di h2
 obtain⟨qb,hqb,hzb⟩:=Ny hll hb h4
 have h5:=cI (gZ (cI h4)).2
 have hi5:=Di (cI h4)
 have hw1:ah ((nest:Int)+1)=((nest+1:Nat):Int):=wN (by omega)
 have hk:((du l (i:Int) [119,104,105,108,101]).bind fun(y3:Bool)=>if y3=true then some ({ ({ sZ a with aa:=9 }:ap) with aa:=10 }:ap) else some ({ sZ a with aa:=9 }:ap):Option ap)=some { sZ a with aa:=s.aa }:=by
  rw[is8 hat,obs]
  rcases h9 with k | k<;>rw[k]<;>rfl
 rw[kI,hk,obs,wN (by omega),is8 h1,obs,if_neg (by decide),w2 (by omega),vo (ho.e1 (by omega)) hme hll h2 JS.1,obs]
 simp only
 rw[if_neg (by decide),is8 h3,obs,if_neg (by decide),wN (by omega),hw1,hqb,obs]
 simp only
 rw[if_neg (by decide)]
 have hz:∀ (qe:List ap),qe.map z0=s.bQ.map z0->z0 ({ sZ a with aa:=s.aa,fE:=s.fE,aC:=qb,bQ:=qe }:ap)=z0 s:=fun qe e=>by
  rw[Cn,Cn]
  simp only
  rw[hzb,e,ho.x0 (by omega),ho.y0 (by omega),ho.n0 (by omega),ho.t0 (by omega),ho.a0 (by omega)]
  rfl
 by_cases h0:s.bQ.length=0
 ·rw[if_pos h0] at h5 ⊢
  have hel:((if(s.aa==9)=true then(du l ((i+1 + 1+(tE s.fE 0).length+1 + 1+(btk ps s.aC (d+1)).length+1:Nat):Int) [101,108,115,101]).bind fun(y1:Bool)=>some y1 else some false):Option Bool)=some false:=by
   rw[is8 h5,obs]
   split
   ·exact congrArg some hu
   ·rfl
  refine⟨_,?_,hz [] (by rw[eq_nil_of_length_eq_zero h0])⟩
  rw[hel,obs,if_neg (by decide)]
  simp only[length_cons,length_append,length_nil]
  rw[show i+1 + 1+(tE s.fE 0).length+1 + 1+(btk ps s.aC (d+1)).length+1=i+((tE s.fE 0).length+((btk ps s.aC (d+1)).length+(0+1)+1 + 1)+1 + 1) by omega]
 ·have k:s.aa=9:=Classical.byContradiction fun k=>h0 (by rw[ho.l0 k];rfl)
  rw[if_neg h0] at h5 ⊢
  simp only[cons_append,append_assoc,nil_append] at h5
  have h6:=cI h5
  obtain⟨qe,hqe,hze⟩:=Ny hll he h6
  have hi6:=Di (cI h6)
  refine⟨_,?_,hz qe hze⟩
  rw[if_pos (by rw[k];rfl),is8 h5,obs,obs,if_pos (by decide),wN (by omega),hqe,obs]
  simp only
  rw[if_neg (by decide)]
  simp only[length_cons,length_append,length_nil]
  rw[show i+1 + 1+(tE s.fE 0).length+1 + 1+(btk ps s.aC (d+1)).length+1 + 1+1 + (btk ps s.bQ (d+1)).length+1=i+((tE s.fE 0).length+((btk ps s.aC (d+1)).length+((btk ps s.bQ (d+1)).length+(0+1)+1 + 1+1)+1 + 1)+1 + 1) by omega]
theorem Pm {ps} (hp:PN ps) {l} (hll:l.length<=20000):∀ (F:Nat) (s:ap) (f nest d:Nat),cf s<=F->cf s<=1000000->OA ps s->nest+dSt s<=20->3 * dSt s<=f->UW ps l nest f d s
 | 0,s,f,nest,d,h,_,_,_,_=>by have:=nf s;omega
 | F+1,s,f,nest,d,h,hm,ha,hd,hf=>by
  intro i u r hat hu
  have hds:=Ew s
  cases ha with
  | mk _ ho hbo hel=>
   by_cases h9:s.aa=9\/s.aa=10
   ·obtain⟨g,rfl⟩:∃ g,f=g+3:=⟨f - 3,by omega⟩
    have sub:∀ x,cf x+2<=cf s->OA ps x->dSt x+1<=dSt s->ON ps x/\UW ps l (nest+1) g (d+1) x:=fun x h1 h2 h3=>
     ⟨by cases h2 with | mk _ q _ _=>exact q,Pm hp hll F x g (nest+1) (d+1) (by omega) (by omega) h2 (by omega) (by omega)⟩
    have h0:=hat
    rw[Lg h9,cons_append] at h0
    obtain⟨k,a1,a2,a3,hlt⟩:=sE h0
    obtain⟨q,hq,hz⟩:=Yt (f:=g) (d:=d) (nest:=nest) hll ho h9 hm (by omega) (fun x hx=>sub x (yy hx) (hbo x hx) (by have:=(rz s.aC _).1 (Nat.le_refl _) x hx;omega)) (fun x hx=>sub x (yE hx) (hel x hx) (by have:=(rz s.bQ _).1 (Nat.le_refl _) x hx;omega)) hat hu k.fAt
    refine⟨q,?_,hz⟩
    have hi:isT (ifK s.aa) [116,104,105,115]=false/\isT (ifK s.aa) [100,101,108,101,116,101]=false/\((isT (ifK s.aa) [105,102]=true)\/isT (ifK s.aa) [119,104,105,108,101]=true)/\((ifK s.aa).1==1)=false:=by
     rcases h9 with k | k<;>(rw[k];decide)
    have hw:(Option.bind (du l (i:Int) [105,102]) fun(y0:Bool)=>if y0=true then some true else(du l (i:Int) [119,104,105,108,101]).bind fun(y1:Bool)=>some y1:Option Bool)=some true:=by
     rw[is8 h0,obs,is8 h0,obs]
     rcases hi.2.2.1 with e | e
     ·rw[if_pos e]
     ·rw[e];simp
    rw[dI,a1,obs,if_neg (by simp;omega),tK h0,obs,hi.1,hi.2.2.2,if_neg (by decide),obs,if_neg (by decide),obs,a2,hi.2.2.2,if_neg (by decide),is8 h0,obs,hi.1,if_neg (by decide),is8 h0,obs,hi.2.1,if_neg (by decide),hw,obs,if_pos rfl,if_neg (by omega),hq,obs]
   ·obtain⟨g,rfl⟩:∃ g,f=g+1:=⟨f - 1,by omega⟩
    obtain⟨a,e⟩:=W5 hp ho h9 hm (f:=g) (nest:=nest) hll (by omega) hat
    exact⟨_,e,by rw[Cn,Cn]⟩
def vaP (ps:List (List UInt8)) (v:dr):List KT:=tyP ps v.aJ++[(0,[32]),(1,v.ai)]
def vaK (ps:List (List UInt8)) (v:dr):List KT:=tyK ps v.aJ++[(1,v.ai)]
theorem QM (ps:List (List UInt8)) (v:dr):tks (vaP ps v)=vaK ps v:=by unfold vaP vaK;rw[eC,dw];rfl
structure VW (ps:List (List UInt8)) (v:dr):Prop where
 k:v.aJ.aa≠0
 n:db v.ai=true
 w:WT ps v.aJ
theorem acw {ps v} (h:yC (ps.length:Int) v=true):VW ps v:=by
 unfold yC at h
 simp only[Bool.and_eq_true,Bool.not_eq_true',decide_eq_false_iff_not] at h
 exact⟨h.1,h.2.1,h.2.2⟩
theorem WG {ps v} (h:VW ps v):tx (vaP ps v)=vaT ps v:=by unfold vaP vaT;rw[mw,KI h.w];simp[dT,kR]
theorem Xp {ps} (hp:PN ps) {v} (h:VW ps v):ok (vaP ps v)=true:=fx (Ke hp h.w) (by decide) (sb h.n)
def zV (v:dr):dr:={ v with fAt:=0 }
def adu (u:KT):Prop:=u=(4,[41])\/u=(4,[44])\/u=(4,[59])
theorem Rk {u} (h:adu u\/u=(4,[40])) (n:List UInt8):Fol true (1,n) u:=by
 rcases h with(h | h | h) | h<;>subst h<;>exact⟨rfl,fun _=>⟨rfl,by decide,rfl,rfl,rfl⟩,fun _=> .inl rfl⟩
theorem Rr {ps} (hp:PN ps) {l} (hll:l.length<=20000) {v} (h:VW ps v) {i u r} (hu:adu u) (hat:At l i (vaK ps v++u::r)):
  ∃ a,pW l (i:Int) ps=some { fL:=[],fT:=cA,fV:=⟨v.ai,v.aJ,a⟩,aq:=((i+(vaK ps v).length:Nat):Int),fF:=aK }:=by
 unfold vaK at hat ⊢
 rw[append_assoc] at hat
 have hT:=NK (f:=true) hp h.w hll hat (fun _=>Rk (.inl hu) _)
 have h1:=(gZ hat).2
 obtain⟨k,b1,b2,b3,hlt⟩:=kS h1
 have h0:∃ q,dl l (i:Int)=some q:=by
  have:∃ t ts,At l i (t::ts):=by
   cases e:tyK ps v.aJ++(1,v.ai)::u :: r with
   | nil=>simp at e
   | cons t ts=>exact⟨t,ts,by rw[<- e];exact hat⟩
  obtain⟨t,ts,q⟩:=this
  obtain⟨k,c1,-⟩:=kS q
  exact⟨k,c1⟩
 obtain⟨q,hq⟩:=h0
 refine⟨q.fAt,?_⟩
 unfold pW
 rw[hT,obs]
 simp only
 rw[if_neg (by decide),if_neg (by simpa using h.k),b1,obs,if_neg (by rw[b2];simp),hq,obs,wN (by omega),b3,length_append]
 rfl
theorem is9 {l i t r} (h:At l i (t::r)) (s:List UInt8):fG l (i:Int) s=some (isT t s):=by
 obtain⟨k,h1,h2,h3,-⟩:=kS h
 unfold fG
 rw[h1,obs,oo h2 h3,obs]
theorem GZ {l i t r} (h:At l i (t::r)):∃ k,gQ l (i:Int)=some k/\k.aa=t.1/\k.bz=t.2/\i < l.length:=by
 obtain⟨k,h1,h2,h3,h4⟩:=kS h
 exact⟨k,by unfold gQ;rw[h1,obs],h2,h3,h4⟩
abbrev g9 (c:bH) (m:bM) (v:List dr) (n:List (List UInt8)) (i:Nat):ba:={ fC:=c,fM:=m,fV:=v,fN:=n,aq:=(i:Int),fF:=aK }
def pak (ps:List (List UInt8)) (vs:List dr):List KT:=tks (cmP (vs.map (vaP ps)))
theorem acB (ps:List (List UInt8)) (v:dr):pak ps [v]=vaK ps v:=by unfold pak;rw[map_cons,map_nil,xg,QM]
theorem adB (ps:List (List UInt8)) (v w:dr) (vs:List dr):pak ps (v::w :: vs)=vaK ps v++(4,[44])::pak ps (w::vs):=by unfold pak;rw[map_cons,map_cons,xy,QM]
theorem NC {ps} (hp:PN ps) {l} (hll:l.length<=20000):∀ (vs:List dr) (v:dr) (out:List dr) (i n:Nat) (r:List KT),out.length+vs.length+1<=5->(∀ x∈v::vs,VW ps x)->At l i (pak ps (v::vs)++(4,[41])::r)->vs.length+1<=n->
  ∃ qs,ke l ps n (i:Int) out=some (.stop (g9 zGClass zGMethod (out++qs) [] (i+(pak ps (v::vs)).length+1)))/\qs.map zV=(v::vs).map zV
 | vs,v,out,i,0,r,_,_,_,hn=>absurd hn (by omega)
 | vs,v,out,i,n+1,r,hl,hw,hat,hn=>by
  have hv:=hw v (by simp)
  have hi:=Di hat
  rw[ke,if_neg (by simp;omega)]
  cases vs with
  | nil=>
   rw[acB] at hat hi ⊢
   obtain⟨a,ha⟩:=Rr hp hll hv (.inl rfl) hat
   refine⟨[⟨v.ai,v.aJ,a⟩],?_,rfl⟩
   rw[ha,obs]
   simp only
   rw[if_neg (by decide),ed (by simp only[length_cons,length_nil];omega),obs,is9 (gZ hat).2,obs,if_pos (by decide),wN (by omega)]
  | cons w vs=>
   rw[adB] at hat hi ⊢
   rw[append_assoc,cons_append] at hat
   have h2:=(gZ hat).2
   rw[length_append,length_cons] at hi
   obtain⟨a,ha⟩:=Rr hp hll hv (.inr (.inl rfl)) hat
   obtain⟨qs,hq,hz⟩:=NC hp hll vs w (out++[⟨v.ai,v.aJ,a⟩]) (i+(vaK ps v).length+1) n r (by rw[length_append,length_cons,length_nil];simp only[length_cons] at hl;omega) (fun x hx=>hw x (by simp[hx])) (cI h2) (by simp only[length_cons] at hn;omega)
   refine⟨⟨v.ai,v.aJ,a⟩::qs,?_,by rw[map_cons,map_cons,hz];rfl⟩
   rw[ha,obs]
   simp only
   rw[if_neg (by decide),ed (by simp only[length_cons,length_nil];omega),obs,is9 h2,obs,if_neg (by decide),is9 h2,obs,if_neg (by decide),wN (by omega),hq,append_assoc,length_append,length_cons,
    show i+(vaK ps v).length+1 + (pak ps (w::vs)).length+1=i+((vaK ps v).length+((pak ps (w::vs)).length+1))+1 by omega]
   rfl
theorem YW {ps v} (h:VW ps v):∃ t ts,vaK ps v=t::ts/\isT t [41]=false:=by
 unfold vaK tyK
 have hn:=h.k
 by_cases h1:v.aJ.aa=1
 ·exact⟨(3,[105,110,116]),_,by unfold tyP;rw[if_neg hn,if_pos h1];rfl,rfl⟩
 ·have:=Se (ps:=ps) hn h1
  unfold tyK at this
  rw[this]
  by_cases h7:v.aJ.ae.a0.aa=7
  ·rw[if_pos h7];exact⟨_,_,rfl,rfl⟩
  ·rw[if_neg h7]
   refine⟨oK ps v.aJ.ae.a0,_,rfl,?_⟩
   have ho:=((VR h.w hn h1).2.2.2.1).resolve_left fun e=>h7 (by rw[e])
   unfold oK
   by_cases h3:v.aJ.ae.a0.aa=3
   ·rw[if_pos h3];rfl
   ·obtain⟨ht,-,k⟩:=Uv ho h3
    rw[if_neg h3,ht]
    rcases k with k | k | k | k | k<;>(rw[k];decide)
theorem Ug {ps} (hp:PN ps) {l} (hll:l.length<=20000) {vs i r} (hl:vs.length<=5) (hw:∀ x∈vs,VW ps x) (h:At l i ((4,[40])::(pak ps vs++(4,[41])::r))):
  ∃ qs,mO l (i:Int) ps=some (g9 zGClass zGMethod qs [] (i+1 + (pak ps vs).length+1))/\qs.map zV=vs.map zV:=by
 have h1:=cI h
 have hi:=Di h1
 unfold mO
 rw[wN (by omega)]
 cases vs with
 | nil=>
  have h2:At l (i+1) ((4,[41])::r):=h1
  refine⟨[],?_,rfl⟩
  rw[is9 h2,obs,if_pos (by decide),wN (by omega)];rfl
 | cons v vs=>
  have hne:∃ t ts,pak ps (v::vs)++(4,[41])::r=t::ts/\isT t [41]=false:=by
   obtain⟨t,ts,e,q⟩:=YW (hw v (by simp))
   cases vs with
   | nil=>rw[acB,e];exact⟨t,_,rfl,q⟩
   | cons w vs=>rw[adB,e];exact⟨t,_,rfl,q⟩
  obtain⟨t,ts,e,ht⟩:=hne
  have h2:=h1
  rw[e] at h2
  obtain⟨qs,hq,hz⟩:=NC hp hll vs v [] (i+1) (l.length+64) r (by simp only[length_nil];simp only[length_cons] at hl;omega) hw h1 (by simp only[length_cons] at hl;omega)
  refine⟨qs,?_,hz⟩
  rw[is9 h2,obs,ht,if_neg (by decide),hq,obs]
  rfl
def BgT (t u:KT):Bool:=isT t [105,110,116]||(decide (sK t≠0)||(t.1==1&&(u.1==1||isT u [60])))
theorem Jq {l i} (hi:i<=20000) {t u r} (h:At l i (t::u :: r)):mJ l (i:Int)=some (BgT t u):=by
 obtain⟨k,h1,h2,h3,-⟩:=kS h
 obtain⟨q,g1,g2,g3,-⟩:=kS (cI h)
 have hI:=oo h2 h3
 have hJ:=oo g2 g3
 unfold mJ BgT
 rw[h1,obs,hI,obs,DP h2 h3,wN (by omega),g1]
 simp only[obs]
 rw[h2,g2,hJ]
 cases isT t [105,110,116]
 ·by_cases hw:sK t=0
  ·rw[hw]
   cases hk:(t.1==1)
   ·have:(t.1 != 1)=true:=by simp only[bne,hk];rfl
    simp[this]
   ·have:(t.1 != 1)=false:=by simp only[bne,hk];rfl
    cases (u.1==1)<;>simp[this]
  ·have:(sK t != 0)=true:=by simpa using hw
   simp[this,hw]
 ·simp
theorem NQ (s:List UInt8):sK (1,s)=0:=rfl
theorem UM {ps v} (h:VW ps v) {u r}:∃ t w ts,vaK ps v++u::r=t::w :: ts/\BgT t w=true:=by
 unfold vaK tyK
 have hn:=h.k
 by_cases h1:v.aJ.aa=1
 ·exact⟨(3,[105,110,116]),_,_,by unfold tyP;rw[if_neg hn,if_pos h1];rfl,rfl⟩
 ·have:=Se (ps:=ps) hn h1
  unfold tyK at this
  rw[this]
  by_cases h7:v.aJ.ae.a0.aa=7
  ·rw[if_pos h7]
   have hq:∃ w ts,(tlK ps ((own v.aJ).drop 1)++[(1,v.ai)])++u::r=w::ts/\(w.1==1||isT w [60])=true:=by
    cases (own v.aJ).drop 1 with
    | nil=>exact⟨_,_,rfl,rfl⟩
    | cons o os=>exact⟨_,_,rfl,rfl⟩
   obtain⟨w,ts,e,q⟩:=hq
   refine⟨(1,v.aJ.aM),w,ts,?_,?_⟩
   ·rw[<- e];rfl
   ·unfold BgT;rw[NQ,q];rfl
  ·rw[if_neg h7]
   refine⟨oK ps v.aJ.ae.a0,(1,v.aJ.aM),_,rfl,?_⟩
   have ho:=((VR h.w hn h1).2.2.2.1).resolve_left fun e=>h7 (by rw[e])
   unfold oK
   by_cases h3:v.aJ.ae.a0.aa=3
   ·rw[if_pos h3];unfold BgT;rw[NQ];rfl
   ·obtain⟨ht,-,k⟩:=Uv ho h3
    rw[if_neg h3,ht]
    rcases k with k | k | k | k | k<;>(rw[k];rfl)
def lok (ps:List (List UInt8)) (vs:List dr):List KT:=(vs.map fun v=>vaK ps v++[(4,[59])]).flatten
theorem Ud (ps:List (List UInt8)) (v:dr) (vs:List dr) (r:List KT):lok ps (v::vs)++r=vaK ps v++(4,[59])::(lok ps vs++r):=by unfold lok;rw[map_cons,flatten_cons];simp
theorem Pr {ps} (hp:PN ps) {l} (hll:l.length<=20000):∀ (vs:List dr) (out:List dr) (i n:Nat) (t u:KT) (r:List KT),out.length+vs.length<=12->(∀ x∈vs,VW ps x)->At l i (lok ps vs++t::u :: r)->BgT t u=false->vs.length+1<=n->
  ∃ qs,jd l ps n (i:Int) out=some (.next (((i+(lok ps vs).length:Nat):Int),out++qs))/\qs.map zV=vs.map zV
 | vs,out,i,0,t,u,r,_,_,_,_,hn=>absurd hn (by omega)
 | [],out,i,n+1,t,u,r,hl,hw,hat,hb,hn=>by
  obtain⟨-,-,-,-,hlt⟩:=kS (show At l i (t::u :: r) from hat)
  refine⟨[],?_,rfl⟩
  rw[jd,Jq (by omega) (show At l i (t::u :: r) from hat),obs,hb,if_neg (by decide),append_nil];rfl
 | v::vs,out,i,n+1,t,u,r,hl,hw,hat,hb,hn=>by
  have hv:=hw v (by simp)
  have hat0:=hat
  rw[Ud] at hat
  have hi:=Di hat
  obtain⟨t1,t2,ts,e,hb1⟩:=UM hv (u:=(4,[59])) (r:=lok ps vs++t::u :: r)
  have h2:=hat
  rw[e] at h2
  obtain⟨a,ha⟩:=Rr hp hll hv (.inr (.inr rfl)) hat
  have h3:=(gZ hat).2
  simp only[length_cons] at hl
  obtain⟨qs,hq,hz⟩:=Pr hp hll vs (out++[⟨v.ai,v.aJ,a⟩]) (i+(vaK ps v).length+1) n t u r (by rw[length_append,length_cons,length_nil];omega) (fun x hx=>hw x (by simp[hx])) (cI h3) hb (by simp only[length_cons] at hn;omega)
  refine⟨⟨v.ai,v.aJ,a⟩::qs,?_,by rw[map_cons,map_cons,hz];rfl⟩
  rw[jd,Jq (by omega) h2,obs,hb1,if_pos rfl,if_neg (by simp;omega),ha,obs]
  simp only
  rw[if_neg (by decide),is9 h3,obs,if_neg (by decide),ed (by simp only[length_cons,length_nil];omega),obs,wN (by omega),hq,append_assoc]
  have hlen:(lok ps (v::vs)).length=(vaK ps v).length+1 + (lok ps vs).length:=by
   have:=congrArg length (Ud ps v vs [])
   simp only[append_nil,length_append,length_cons] at this
   omega
  rw[hlen,show i+(vaK ps v).length+1 + (lok ps vs).length=i+((vaK ps v).length+1 + (lok ps vs).length) by omega]
  rfl
theorem Nj : ∀ (l:List ap),(∀ s∈l,cf (z0 s)=cf s/\nSt (z0 s)=nSt s)->cb (l.map z0)=cb l/\fc (l.map z0)=fc l
 | [],_=>⟨rfl,rfl⟩
 | s::l,h=>by
  obtain⟨h1,h2⟩:=h s (by simp)
  obtain⟨h3,h4⟩:=Nj l fun x hx=>h x (by simp[hx])
  rw[map_cons,cb,cb,fc,fc,h1,h2,h3,h4];exact⟨rfl,rfl⟩
theorem UD : ∀ (f:Nat) (s:ap),cf s<=f->cf (z0 s)=cf s/\nSt (z0 s)=nSt s
 | 0,s,h=>by have:=nf s;omega
 | f+1,s,h=>by
  obtain⟨b1,b2⟩:=Nj s.aC fun x hx=>UD f x (by have:=yy hx;omega)
  obtain⟨e1,e2⟩:=Nj s.bQ fun x hx=>UD f x (by have:=yE hx;omega)
  rw[nf,nf s,Fq,Fq s,Cn]
  simp only
  rw[b1,b2,e1,e2];exact⟨rfl,rfl⟩
theorem Zz {q s} (h:z0 q=z0 s):cf q=cf s/\nSt q=nSt s:=by
 have h1:=UD _ q (Nat.le_refl _)
 have h2:=UD _ s (Nat.le_refl _)
 rw[h] at h1
 exact⟨h1.1.symm.trans h2.1,h1.2.symm.trans h2.2⟩
theorem Fc {q s} (h:q.map z0=s.map z0):cb q=cb s/\fc q=fc s:=by
 have h1:=Nj q fun x _=>UD _ x (Nat.le_refl _)
 have h2:=Nj s fun x _=>UD _ x (Nat.le_refl _)
 rw[h] at h1
 exact⟨h1.1.symm.trans h2.1,h1.2.symm.trans h2.2⟩
structure MW (ps:List (List UInt8)) (x:bM):Prop where
 n:db x.ai=true
 t:WT ps x.af
 p:x.ac.length<=5/\∀ v∈x.ac,VW ps v
 l:x.aP.length<=12/\∀ v∈x.aP,VW ps v
 b:∀ s∈x.aC,OA ps s/\dSt s<=20
 m:cb x.aC<=1000000
theorem Nc {ps l most} (h:oz l most (ps.length:Int)=true):l.length<=most/\∀ v∈l,VW ps v:=by
 unfold oz at h
 rw[Bool.and_eq_true,decide_eq_true_eq,all_eq_true] at h
 exact⟨h.1,fun v hv=>acw (h.2 v hv)⟩
theorem adf {ps x} (hb:BM x) (h:BQ (ps.length:Int) x=true):MW ps x:=by
 unfold BQ bdL at h
 simp only[Bool.and_eq_true,all_eq_true] at h
 obtain⟨h1,h2,h3,h4,h5,h6⟩:=h
 rw[ux,all_eq_true] at h6
 refine⟨h1,h2,Nc h3,Nc h4,fun s hs=> ?_,hb.b⟩
 have:=h5 s hs
 rw[DE _ 20 _ s (Nat.le_refl _),Bool.and_eq_true,decide_eq_true_eq] at this
 exact⟨Yp _ s (Nat.le_refl _) this.1 (h6 s hs),this.2⟩
theorem abG {ps s} (ho:ON ps s) (d:Nat) (u:KT) (r:List KT):∃ t w ts,tks (stP ps s d)++u::r=t::w :: ts/\BgT t w=false:=by
 by_cases h9:s.aa=9\/s.aa=10
 ·rw[Lg h9]
  exact⟨_,_,_,rfl,by rcases h9 with k | k<;>(rw[k];rfl)⟩
 ·have hy:∀ y,BgT (yP y) (4,[46])=false:=fun y=>by
   unfold yP
   by_cases e:y=[116,104,105,115]
   ·rw[if_pos e,e];rfl
   ·rw[if_neg e];rfl
  rw[RI h9]
  by_cases hx:s.fX=[]
  ·have hk:s.aa=3\/s.aa=4\/s.aa=8\/s.aa=11:=by
    have:=ho.k
    have h1:¬ (s.aa=1\/s.aa=2\/s.aa=5\/s.aa=6\/s.aa=7):=fun k=>uY (ho.x1 k) hx
    omega
   rw[if_pos hx]
   unfold plP
   rcases hk with k | k | k | k<;>rw[k]
   ·exact⟨yP s.fY,(4,[46]),_,by rw[if_neg (by decide),if_neg (by decide),if_pos rfl,zx];rfl,hy _⟩
   ·exact⟨yP s.fY,(4,[46]),_,by rw[if_neg (by decide),if_neg (by decide),if_neg (by decide),if_pos rfl,zx];rfl,hy _⟩
   ·exact⟨(3,[100,101,108,101,116,101]),_,_,rfl,rfl⟩
   ·by_cases e:eX s.fE=[]
    ·rw[e];exact⟨(3,[114,101,116,117,114,110]),(4,[59]),_,rfl,rfl⟩
    ·have e2:∀ z:List KT,∃ w ts,z++[((4,[59]):KT)]++u::r=w::ts:=fun z=>by cases z<;>exact⟨_,_,rfl⟩
     obtain⟨w,ts,q⟩:=e2 (tks (eP s.fE 0))
     refine⟨(3,[114,101,116,117,114,110]),w,ts,?_,rfl⟩
     rw[<- q];simp only[e];rfl
  ·rw[if_neg hx];exact⟨(1,s.fX),_,_,rfl,rfl⟩
theorem Vd {ps ss} (hw:∀ s∈ss,ON ps s) (d:Nat) (u:KT) (r:List KT):∃ t w ts,btk ps ss d++(4,[125])::u :: r=t::w :: ts/\BgT t w=false:=by
 cases ss with
 | nil=>exact⟨_,_,_,rfl,rfl⟩
 | cons s ss=>
  have e:btk ps (s::ss) d++(4,[125])::u :: r=tks (stP ps s d)++(btk ps ss d++(4,[125])::u :: r):=by unfold btk;rw[vw,eC,append_assoc]
  rw[e]
  cases h:btk ps ss d++(4,[125])::u :: r with
  | nil=>simp at h
  | cons v q=>exact abG (hw s (by simp)) d v q
theorem aaC {ps} (hp:PN ps) {l} (hll:l.length<=20000):∀ (ss:List ap) (out:List ap) (i n a:Nat) (r:List KT),(∀ s∈ss,OA ps s/\dSt s<=20/\cf s<=1000000)->out.length+ss.length<=20000->a+fc ss<=400->At l i (btk ps ss 2++(4,[125])::r)->ss.length+1<=n->
  ∃ qs,jc l ps n (i:Int) (a:Int) out=some (.next (((i+(btk ps ss 2).length:Nat):Int),out++qs))/\qs.map z0=ss.map z0
 | ss,out,i,0,a,r,_,_,_,_,hn=>absurd hn (by omega)
 | [],out,i,n+1,a,r,_,_,_,hat,hn=>by
  refine⟨[],?_,rfl⟩
  rw[jc,is9 hat,obs,if_neg (by decide),append_nil];rfl
 | s::ss,out,i,n+1,a,r,hw,ho,hs,hat,hn=>by
  obtain⟨oa,hd,hm⟩:=hw s (by simp)
  have on:∀ x∈s::ss,ON ps x:=fun x hx=>by cases (hw x hx).1 with | mk _ q _ _=>exact q
  obtain⟨t,ts,e,h1,-⟩:=DW (on s (by simp)) 2
  have eb:btk ps (s::ss) 2=tks (stP ps s 2)++btk ps ss 2:=by unfold btk;rw[vw,eC]
  rw[eb,append_assoc] at hat
  obtain⟨u,r',e2,hu⟩:=Nq (d:=2) (fun x hx=>on x (by simp[hx])) (l:=ss) r
  have hat2:=hat
  rw[e2] at hat2
  obtain⟨q,hq,hz⟩:=Pm hp hll _ s 80 0 2 (Nat.le_refl _) hm oa (by omega) (by omega) i u r' hat2 hu
  have h3:=hat2
  rw[e,cons_append] at h3
  obtain⟨z1,z2⟩:=Zz hz
  have hns:fc (s::ss)=nSt s+fc ss:=by rw[fc]
  have hsz:=pd (cf q+1) q (Nat.le_refl _) (by omega)
  rw[z2] at hsz
  have hw1:ah ((a:Int)+(nSt s:Int))=((a+nSt s:Nat):Int):=by rw[w64 (by omega) (by omega)];omega
  obtain⟨qs,hqs,hzs⟩:=aaC hp hll ss (out++[q]) (i+(tks (stP ps s 2)).length) n (a+nSt s) r (fun x hx=>hw x (by simp[hx])) (by rw[length_append];simp only[length_cons,length_nil] at ho ⊢;omega) (by omega) (gZ hat).2 (by simp only[length_cons] at hn;omega)
  refine⟨q::qs,?_,by rw[map_cons,map_cons,hz,hzs]⟩
  simp only[length_cons] at ho
  rw[jc,is9 h3,obs,h1,if_pos (by decide),show (0:Int)=((0:Nat):Int) from rfl,hq,obs]
  simp only
  rw[if_neg (by decide),hsz,obs,hw1,if_neg (by simp;omega),ed (by simp only[length_cons,length_nil];omega),obs,hqs,eb,length_append,append_assoc,Nat.add_assoc]
  rfl
def zM (x:bM):bM:={ x with ac:=x.ac.map zV,aP:=x.aP.map zV,aC:=x.aC.map z0,fAt:=0 }
def mbK (ps:List (List UInt8)) (x:bM):List KT:=(4,[40])::(pak ps x.ac++(4,[41])::(4,[123])::(lok ps x.aP++(btk ps x.aC 2++[(4,[125])])))
theorem Uo {ps} (hp:PN ps) {l} (hll:l.length<=20000) {x} (h:MW ps x) {i a u r} (hat:At l i (mbK ps x++u::r)) (hs:a+fc x.aC<=400) (k:Int):
  ∃ y,mW l (i:Int) ps x.ai x.co x.af.aa x.af.aM x.af.fN x.af.ae.a0.aa x.af.ae.a0.fN x.af.ae.a1.aa x.af.ae.a1.fN x.af.ae.a2.aa x.af.ae.a2.fN x.af.ae.a3.aa x.af.ae.a3.fN zGMethod.ac zGMethod.aP k (a:Int) []=some (g9 zGClass y [] [] (i+(mbK ps x).length))/\zM y=zM x:=by
 unfold mbK at hat ⊢
 simp only[cons_append,append_assoc,nil_append] at hat
 obtain⟨vs,hv,zv⟩:=Ug hp hll h.p.1 h.p.2 hat
 have h2:=(gZ (cI hat)).2
 have h3:=cI h2
 have h4:=cI h3
 have on:∀ y∈x.aC,ON ps y:=fun y hy=>by cases (h.b y hy).1 with | mk _ q _ _=>exact q
 obtain⟨t,w,ts,e,hb⟩:=Vd on 2 u r
 have h4':=h4
 rw[e] at h4'
 have hi4:i+1 + (pak ps x.ac).length+1 < l.length:=by obtain⟨-,-,-,-,q⟩:=kS h3;exact q
 have ll:=h.l.1
 obtain⟨ws,hw,zw⟩:=Pr hp hll x.aP [] (i+1 + (pak ps x.ac).length+1 + 1) (l.length+64) t w ts (by rw[length_nil];omega) h.l.2 h4' hb (by omega)
 have h5:=(gZ h4).2
 have hi5:=Di h5
 have hlen:=KJ (d:=2) on
 obtain⟨qs,hq,zq⟩:=aaC hp hll x.aC [] (i+1 + (pak ps x.ac).length+1 + 1+(lok ps x.aP).length) (l.length+64) a (u::r) (fun s hs=>⟨(h.b s hs).1,(h.b s hs).2,by have:=wG hs;have:=h.m;omega⟩) (by rw[length_nil];omega) hs h5 (by omega)
 refine⟨⟨x.ai,x.co,x.af,vs,ws,qs,k⟩,?_,?_⟩
 ·have hloc:na l ((i+1 + (pak ps x.ac).length+1 + 1:Nat):Int) ps=some (g9 zGClass zGMethod ws [] (i+1 + (pak ps x.ac).length+1 + 1+(lok ps x.aP).length)):=by
   unfold na
   rw[hw,obs,uW];rfl
  unfold mW
  rw[hv,obs]
  simp only
  rw[if_neg (by decide),is9 h3,obs,if_neg (by decide),wN (by omega),hloc,obs]
  simp only
  rw[if_neg (by decide),hq,obs,uW]
  simp only[nil_append]
  rw[wN (by omega)]
  simp only[length_cons,length_append,length_nil]
  rw[show i+1 + (pak ps x.ac).length+1 + 1+(lok ps x.aP).length+(btk ps x.aC 2).length+1=i+((pak ps x.ac).length+((lok ps x.aP).length+((btk ps x.aC 2).length+(0+1))+1 + 1)+1) by omega]
 ·unfold zM
  simp only
  rw[zv,zw,zq]
def mT (nm:List UInt8) (ps:List (List UInt8)) (su:List UInt8) (ab:List aF) (fs:List dr) (ms:List bM) (k i:Int):ba:=⟨⟨nm,ps,su,ab,fs,ms,k⟩,zGMethod,[],[],i,aK⟩
theorem Vz {α:Type} {nm:List UInt8} {ps:List (List UInt8)} {su:List UInt8} {ab:List aF} {fs:List dr} {ms:List bM} {k i:Int} {x y:α}:(if((mT nm ps su ab fs ms k i).fF.bL != 0)=true then x else y)=y:=rfl
theorem vZ {α:Type} (f:α->Nat):∀ a b:List α,gK f (a++b)=gK f a+gK f b
 | [],b=>by simp[gK]
 | x::a,b=>by rw[cons_append,gK,gK,vZ f a b,Nat.add_assoc]
abbrev puW : List UInt8:=[112,117,114,101]
theorem Dz {ps t} (h:WT ps t):∃ u ts,tyK ps t=u::ts/\isT u puW=false/\isT u [125]=false:=by
 unfold tyK
 by_cases h0:t.aa=0
 ·exact⟨(3,[118,111,105,100]),_,by unfold tyP;rw[if_pos h0];rfl,by decide⟩
 by_cases h1:t.aa=1
 ·exact⟨(3,[105,110,116]),_,by unfold tyP;rw[if_neg h0,if_pos h1];rfl,by decide⟩
 have:=Se (ps:=ps) h0 h1
 unfold tyK at this
 rw[this]
 by_cases h7:t.ae.a0.aa=7
 ·rw[if_pos h7];exact⟨_,_,rfl,rfl,rfl⟩
 ·rw[if_neg h7]
  refine⟨oK ps t.ae.a0,_,rfl,?_⟩
  have ho:=((VR h h0 h1).2.2.2.1).resolve_left fun e=>h7 (by rw[e])
  unfold oK
  by_cases h3:t.ae.a0.aa=3
  ·rw[if_pos h3];exact⟨rfl,rfl⟩
  ·obtain⟨ht,-,k⟩:=Uv ho h3
   rw[if_neg h3,ht]
   rcases k with k | k | k | k | k<;>(rw[k];decide)
theorem Uq {ps} (hp:PN ps) {l} (hll:l.length<=20000) {v} (h:VW ps v) {i r} (hat:At l i (vaK ps v++(4,[59])::r)) (nm su:List UInt8) (ab:List aF) (k a:Int) {b0} (b1:List bM) (hl:b0.length < 12):
  ∃ q,kq l (i:Int) nm ps su ab k a b0 b1=some (mT nm ps su ab (b0++[⟨v.ai,v.aJ,q⟩]) b1 k ((i+(vaK ps v).length+1:Nat):Int)):=by
 unfold vaK at hat ⊢
 rw[append_assoc] at hat
 have hT:=NK (f:=true) hp h.w hll hat (fun _=>Rk (.inl (.inr (.inr rfl))) _)
 have h1:=(gZ hat).2
 have h2:=cI h1
 obtain⟨u,ts,e,hu,-⟩:=Dz h.w
 have h0:=hat
 rw[e,cons_append] at h0
 obtain⟨q,c1,-⟩:=GZ h0
 obtain⟨w,b1',b2,b3,hlt⟩:=GZ h1
 obtain⟨-,-,-,-,hlt2⟩:=kS h2
 refine⟨q.fAt,?_⟩
 unfold kq
 rw[c1,obs,is9 h0,obs,hu,if_neg (by decide),obs,hT,obs]
 simp only
 rw[if_neg (by decide),b1',obs,if_neg (by rw[b2];simp),wN (by omega),is9 h2,obs,if_neg (by decide),is9 h2,obs,if_neg (by decide),if_neg (by decide),obs,show (v.aJ.aa==0)=false from by simpa using h.k,if_neg (by decide),if_neg (by simp;omega),ed (by simp only[length_cons,length_nil];omega),obs,wN (by omega),b3,length_append]
 rfl
def meK (ps:List (List UInt8)) (x:bM):List KT:=(if x.co=true then [(3,puW)] else [])++(tyK ps x.af++(1,x.ai)::mbK ps x)
theorem Rm {ps} (hp:PN ps) {l} (hll:l.length<=20000) {x} (h:MW ps x) {i u r} (hat:At l i (meK ps x++u::r)) (nm su:List UInt8) (ab:List aF) (k:Int) {a} (b0:List dr) {b1} (hl:b1.length < 12) (hs:a+fc x.aC<=400):
  ∃ q,kq l (i:Int) nm ps su ab k (a:Int) b0 b1=some (mT nm ps su ab b0 (b1++[q]) k ((i+(meK ps x).length:Nat):Int))/\zM q=zM x:=by
 unfold meK at hat ⊢
 obtain⟨t,ts,e,ht,-⟩:=Dz h.t
 -- where the type begins
 have hj:∃ j:Nat,At l j (tyK ps x.af++(1,x.ai)::(mbK ps x++u::r))/\j=i+(if x.co=true then 1 else 0):=by
  cases hpu:x.co with
  | false=>rw[hpu] at hat;simp only[Bool.false_eq_true,if_false,nil_append,append_assoc,cons_append] at hat;exact⟨i,hat,by simp⟩
  | true=>rw[hpu] at hat;simp only[if_true,append_assoc,cons_append,nil_append] at hat;exact⟨i+1,cI hat,by simp⟩
 obtain⟨j,hj,hji⟩:=hj
 have h0:∃ w ws,At l i (w::ws)/\isT w puW=x.co:=by
  cases hpu:x.co with
  | false=>rw[hpu] at hat;simp only[Bool.false_eq_true,if_false,nil_append,append_assoc,cons_append] at hat;rw[e] at hat;exact⟨_,_,hat,ht⟩
  | true=>rw[hpu] at hat;simp only[if_true,append_assoc,cons_append,nil_append] at hat;exact⟨_,_,hat,by decide⟩
 obtain⟨w,ws,hw,hwp⟩:=h0
 have hj2:At l j (tyK ps x.af++(1,x.ai)::(4,[40])::((mbK ps x).tail++u::r)):=hj
 have hT:=NK (f:=true) hp h.t hll hj2 (fun _=>Rk (.inr rfl) _)
 have h1:=(gZ hj).2
 have h2:=cI h1
 have h2':At l (j+(tyK ps x.af).length+1) ((4,[40])::((mbK ps x).tail++u::r)):=h2
 obtain⟨q,c1,-⟩:=GZ hw
 obtain⟨w',b1',b2,b3,hlt⟩:=GZ h1
 obtain⟨-,-,-,-,hlt2⟩:=kS hw
 obtain⟨y,hy,hz⟩:=Uo hp hll h h2 hs q.fAt
 refine⟨y,?_,hz⟩
 have hpos:((if x.co=true then some (ah ((i:Int)+1)) else some (i:Int)):Option Int)=some (j:Int):=by
  rw[hji]
  cases x.co with
  | false=>rfl
  | true=>rw[if_pos rfl,if_pos rfl,wN (by omega)]
 unfold kq
 rw[c1,obs,is9 hw,obs,hwp,hpos,obs,hT,obs]
 simp only
 rw[if_neg (by decide),b1',obs,if_neg (by rw[b2];simp),wN (by omega),is9 h2',obs,if_pos (by decide),if_neg (by simp;omega),b3]
 rw[hy,obs]
 simp only
 rw[if_neg (by decide),ed (by simp only[length_cons,length_nil];omega),obs]
 unfold mT
 have hlen:j+(tyK ps x.af).length+1 + (mbK ps x).length=i+((if x.co=true then [((3,puW):KT)] else [])++(tyK ps x.af++(1,x.ai)::mbK ps x)).length:=by
  rw[hji]
  cases x.co<;>simp only[Bool.false_eq_true,if_true,if_false,length_append,length_cons,length_nil]<;>omega
 rw[hlen]
theorem OE {ps} (hp:PN ps) {l} (hll:l.length<=20000) (nm su:List UInt8) (ab:List aF) (k:Int) (hab:ab.length<=3) {a}:∀ (vs:List dr) (out:List dr) (i n:Nat) (r:List KT),out.length+vs.length<=12->(∀ x∈vs,VW ps x)->At l i (lok ps vs++r)->
  ∃ qs,gI l (a:Int) (n+vs.length) (i:Int) nm ps su ab out [] k=gI l (a:Int) n ((i+(lok ps vs).length:Nat):Int) nm ps su ab (out++qs) [] k/\qs.map zV=vs.map zV
 | [],out,i,n,r,_,_,_=>⟨[],by rw[append_nil];rfl,rfl⟩
 | v::vs,out,i,n,r,hl,hw,hat=>by
  rw[Ud] at hat
  have hv:=hw v (by simp)
  simp only[length_cons] at hl
  obtain⟨q,hq⟩:=Uq hp hll hv hat nm su ab k (ah ((a:Int)+0)) ([]:List bM) (b0:=out) (by omega)
  obtain⟨qs,hqs,hz⟩:=OE hp hll nm su ab k hab vs (out++[⟨v.ai,v.aJ,q⟩]) (i+(vaK ps v).length+1) n r (by rw[length_append];simp only[length_cons,length_nil];omega) (fun x hx=>hw x (by simp[hx])) (cI (gZ hat).2)
  refine⟨⟨v.ai,v.aJ,q⟩::qs,?_,by rw[map_cons,map_cons,hz];rfl⟩
  obtain⟨t,ts,e,-,h1⟩:=Dz hv.w
  have h0:=hat
  unfold vaK at h0
  rw[e,append_assoc,cons_append] at h0
  have hst:lj (⟨nm,ps,su,ab,out,[],k⟩:bH)=some 0:=by
   have:=hp.n
   exact nJ ⟨by simp only;omega,by simp only;omega,by simp only;omega,by simp,fun x hx=>by cases hx⟩ (by simp[stC,gK])
  rw[length_cons,<- Nat.add_assoc,gI,is9 h0,obs,h1,if_pos (by decide),hst,obs,hq,obs]
  rw[Vz]
  simp only[mT]
  rw[hqs,append_assoc]
  have hlen:(lok ps (v::vs)).length=(vaK ps v).length+1 + (lok ps vs).length:=by
   have:=congrArg length (Ud ps v vs [])
   simp only[append_nil,length_append,length_cons] at this
   omega
  rw[hlen,show i+(vaK ps v).length+1 + (lok ps vs).length=i+((vaK ps v).length+1 + (lok ps vs).length) by omega]
  rfl
theorem ada {ps q x} (h:MW ps x) (hz:zM q=zM x):BM q/\fc q.aC=fc x.aC:=by
 unfold zM at hz
 injection hz with e1 e2 e3 e4 e5 e6 e7
 obtain⟨m1,m2⟩:=Fc e6
 have h1:=congrArg length e4
 have h2:=congrArg length e5
 rw[length_map,length_map] at h1 h2
 have:=h.p.1
 have:=h.l.1
 have:=h.m
 exact⟨⟨by omega,by omega,by omega⟩,m2⟩
def mfK (ps:List (List UInt8)) (xs:List bM):List KT:=(xs.map (meK ps)).flatten
theorem YY {ps x} (h:MW ps x):∃ t ts,meK ps x=t::ts/\isT t [125]=false:=by
 unfold meK
 cases x.co with
 | true=>exact⟨(3,puW),_,rfl,by decide⟩
 | false=>
  obtain⟨t,ts,e,-,h1⟩:=Dz h.t
  rw[e];exact⟨t,_,rfl,h1⟩
theorem JU {ps} (hp:PN ps) {l} (hll:l.length<=20000) (nm su:List UInt8) (ab:List aF) (k:Int) (hab:ab.length<=3) {fs} (hfs:fs.length<=12) {a}:∀ (xs:List bM) (out:List bM) (i n b:Nat) (r:List KT),out.length+xs.length<=12->(∀ x∈xs,MW ps x)->(∀ x∈out,BM x)->gK (fun x:bM=>fc x.aC) out=b->a+b + gK (fun x:bM=>fc x.aC) xs<=400->At l i (mfK ps xs++(4,[125])::r)->xs.length+1<=n->
  ∃ qs,gI l (a:Int) n (i:Int) nm ps su ab fs out k=some (.next (((i+(mfK ps xs).length:Nat):Int),nm,ps,su,ab,fs,out++qs,k))/\qs.map zM=xs.map zM
 | xs,out,i,0,b,r,_,_,_,_,_,_,hn=>absurd hn (by omega)
 | [],out,i,n+1,b,r,_,_,_,_,_,hat,hn=>by
  refine⟨[],?_,rfl⟩
  rw[gI,is9 (show At l i ((4,[125])::r) from hat),obs,if_neg (by decide),append_nil];rfl
 | x::xs,out,i,n+1,b,r,hl,hw,ho,hb,hs,hat,hn=>by
  have hx:=hw x (by simp)
  have e0:mfK ps (x::xs)=meK ps x++mfK ps xs:=by unfold mfK;rw[map_cons,flatten_cons]
  rw[e0,append_assoc] at hat
  have hu:∃ u r',mfK ps xs++(4,[125])::r=u::r':=by cases h:mfK ps xs++(4,[125])::r with | nil=>simp at h | cons u r'=>exact⟨u,r',rfl⟩
  obtain⟨u,r',eu⟩:=hu
  have hat2:=hat
  rw[eu] at hat2
  simp only[length_cons] at hl hn
  simp only[gK] at hs
  have hst:lj (⟨nm,ps,su,ab,fs,out,k⟩:bH)=some (b:Int):=by
   have:=hp.n
   have h1:=nJ (c:=(⟨nm,ps,su,ab,fs,out,k⟩:bH)) ⟨by simp only;omega,by simp only;omega,by simp only;omega,by simp only;omega,ho⟩ (by show gK (fun x:bM=>fc x.aC) out<=_;omega)
   rw[h1]
   exact congrArg (fun z:Nat=>some (z:Int)) hb
  obtain⟨q,hq,hz⟩:=Rm hp hll hx hat2 nm su ab k fs (b1:=out) (a:=a+b) (by omega) (by omega)
  obtain⟨hB,hN⟩:=ada hx hz
  obtain⟨qs,hqs,hzs⟩:=JU (a:=a) hp hll nm su ab k hab hfs xs (out++[q]) (i+(meK ps x).length) n (b+fc x.aC) r (by rw[length_append];simp only[length_cons,length_nil];omega) (fun y hy=>hw y (by simp[hy])) (fun y hy=>by
   rcases List.mem_append.1 hy with q1 | q1
   ·exact ho y q1
   ·rw[List.mem_singleton.1 q1];exact hB) (by rw[vZ,hb];simp only[gK];rw[hN];rfl) (by omega) (gZ hat).2 (by omega)
  refine⟨q::qs,?_,by rw[map_cons,map_cons,hz,hzs]⟩
  obtain⟨t,ts,e,h1⟩:=YY hx
  have h0:=hat
  rw[e,cons_append] at h0
  have hw1:ah ((a:Int)+(b:Int))=((a+b:Nat):Int):=by rw[w64 (by omega) (by omega)];omega
  rw[gI,is9 h0,obs,h1,if_pos (by decide),hst,obs,hw1,hq,obs]
  rw[Vz]
  simp only[mT]
  rw[hqs,append_assoc,e0,length_append,Nat.add_assoc]
  rfl
def nmk (ps:List (List UInt8)):List KT:=tks (cmP (ps.map fun p=>[((1,p):KT)]))
theorem adJ (p:List UInt8):nmk [p]=[(1,p)]:=by unfold nmk;rw[map_cons,map_nil,xg];rfl
theorem adN (p q:List UInt8) (ps:List (List UInt8)):nmk (p::q :: ps)=(1,p)::(4,[44])::nmk (q::ps):=by unfold nmk;rw[map_cons,map_cons,xy];rfl
def nmA : List (List UInt8)->List KT
 | []=>[]
 | p::ps=>(4,[60])::(nmk (p::ps)++[(4,[62])])
theorem Sk {l} (hll:l.length<=20000):∀ (ps:List (List UInt8)) (p:List UInt8) (out:List (List UInt8)) (i n:Nat) (r:List KT),out.length+ps.length+1<=3->At l (i+1) (nmk (p::ps)++(4,[62])::r)->ps.length+1<=n->
  jE l n (i:Int) out=some (.stop (g9 zGClass zGMethod [] (out++p::ps) (i+1 + (nmk (p::ps)).length+1)))
 | ps,p,out,i,0,r,_,_,hn=>absurd hn (by omega)
 | [],p,out,i,n+1,r,hl,hat,hn=>by
  rw[adJ] at hat ⊢
  have h2:=cI hat
  obtain⟨k,a1,a2,a3,hlt⟩:=GZ hat
  simp only[length_nil] at hl
  rw[jE,wN (by omega),a1,obs,if_neg (by rw[a2];simp),if_neg (by simp;omega),obs,a3,ed (by simp only[length_cons,length_nil];omega),obs,wN (by omega),is9 h2,obs,if_pos (by decide),wN (by omega)]
  rfl
 | q::ps,p,out,i,n+1,r,hl,hat,hn=>by
  rw[adN] at hat ⊢
  have h2:=cI hat
  obtain⟨k,a1,a2,a3,hlt⟩:=GZ hat
  simp only[length_cons] at hl hn
  have ih:=Sk hll ps q (out++[p]) (i+1 + 1) n r (by rw[length_append];simp only[length_cons,length_nil];omega) (cI h2) (by omega)
  rw[jE,wN (by omega),a1,obs,if_neg (by rw[a2];simp),if_neg (by simp;omega),obs,a3,ed (by simp only[length_cons,length_nil];omega),obs,wN (by omega),is9 h2,obs,if_neg (by decide),is9 h2,obs,if_neg (by decide),ih,append_assoc,length_cons,length_cons,
   show i+1 + 1+1 + (nmk (q::ps)).length+1=i+1 + ((nmk (q::ps)).length+1 + 1)+1 by omega]
  rfl
theorem Vc {l} (hll:l.length<=20000) {ps p i r} (hl:ps.length+1<=3) (hat:At l i (nmA (p::ps)++r)):mE l (i:Int)=some (g9 zGClass zGMethod [] (p::ps) (i+(nmA (p::ps)).length)):=by
 unfold nmA at hat ⊢
 rw[cons_append,append_assoc] at hat
 have:=Sk hll ps p [] i (l.length+64) r (by rw[length_nil];omega) (cI hat) (by omega)
 unfold mE
 rw[this,obs,Nu,length_cons,length_append,length_cons,length_nil,show i+1 + (nmk (p::ps)).length+1=i+((nmk (p::ps)).length+(0+1)+1) by omega]
 rfl
abbrev exW : List UInt8:=[101,120,116,101,110,100,115]
def AbW (ps:List (List UInt8)) (ab:List aF):Prop:=ab.length<=3/\∀ o∈ab,OW ps o/\(o.aa=2\/o.aa=3\/o.aa=4)
theorem Tb {l} (a:Int) {g} (hl:g.fL.length<=3) (h:∀ o∈g.fL,o.aa=2\/o.aa=3\/o.aa=4):∀ (n k:Nat),n+k=g.fL.length+1->k<=g.fL.length->kG l a g n (k:Int)=some (.next ())
 | 0,k,h1,hk=>by omega
 | n+1,k,h1,hk=>by
  rw[kG]
  by_cases hlt:k < g.fL.length
  ·have:=h _ (getElem_mem hlt)
   rw[if_pos (by simpa using hlt),dQ hlt,obs,if_neg (by simp;omega),obs,obs,show (g.fL[k].aa==5)=false from by simp;omega,if_neg (by decide),dx hlt (by omega),Tb a hl h n (k+1) (by omega) (by omega)]
  ·rw[if_neg (by simpa using hlt)]
theorem Wr {ps} (hp:PN ps) {l} (hll:l.length<=20000) {su ab} (h:AbW ps ab) {i r} (hat:At l i ((3,exW)::(1,su)::(tlK ps ab++(4,[123])::r))) (nm s0:List UInt8) (k:Int):
  oq l (i:Int) nm ps s0 zGClass.aH k [] []=some (mT nm ps su ab [] [] k ((i+1 + 1+(tlK ps ab).length:Nat):Int)):=by
 have h1:=cI hat
 have h2:=cI h1
 obtain⟨q,a1,a2,a3,hlt⟩:=GZ h1
 unfold oq
 rw[wN (by omega),a1,obs,if_neg (by rw[a2];simp),obs,w2 (by omega),a3]
 cases ab with
 | nil=>
  have h3:At l (i+1 + 1) ((4,[123])::r):=h2
  rw[is9 h3,obs,if_pos (by decide)];rfl
 | cons o os=>
  have h3:At l (i+1 + 1) ((4,[60])::(otk ps (o::os)++(4,[62])::(4,[123])::r)):=by rw[tlK,cons_append,append_assoc] at h2;exact h2
  have hO:=yr hp hll (i:=i+1 + 1) (by have:=h.1;simp only[length_cons] at this;exact this) (fun x hx=>⟨(h.2 x hx).1,by have:=(h.2 x hx).2;omega⟩) h3
  have hL:=Tb (l:=l) (i:Int) (g:={ fL:=o::os,fT:=cA,fV:=nF,aq:=((i+1 + 1+1 + (otk ps (o::os)).length+1:Nat):Int),fF:=aK }) h.1 (fun x hx=>(h.2 x hx).2) ((o::os).length+1) 0 (by simp) (by simp)
  rw[is9 h3,obs,if_neg (by decide),hO,obs]
  simp only
  rw[if_neg (by decide),kF,show (0:Int)=((0:Nat):Int) from rfl,hL,obs,uW]
  simp only[tlK,length_cons,length_append,length_nil]
  rw[show i+1 + 1+1 + (otk ps (o::os)).length+1=i+1 + 1+((otk ps (o::os)).length+(0+1)+1) by omega]
  rfl
structure CW (c:bH):Prop where
 hp:PN c.ac
 n:db c.ai=true
 s0:c.aU=[]->c.aH=[]
 s1:c.aU≠[]->db c.aU=true
 ab:AbW c.ac c.aH
 f:c.aZ.length<=12/\∀ v∈c.aZ,VW c.ac v
 m:c.am.length<=12/\∀ x∈c.am,MW c.ac x
theorem adp {c} (hb:BC c) (h:clS c=true) (hu:c.ac.Pairwise (·≠·)):CW c:=by
 unfold clS hdS at h
 simp only[Bool.and_eq_true,decide_eq_true_eq,all_eq_true] at h
 obtain⟨⟨h1,h2,h3,h4,h5⟩,h6,h7,h8⟩:=h
 have hs:(c.aU=[]->c.aH=[])/\(c.aU≠[]->db c.aU=true)/\∀ o∈c.aH,KF (c.ac.length:Int) o=true:=by
  by_cases hs:c.aU=[]
  ·rw[if_pos (by simp[hs])] at h5
   have e:=eq_nil_of_length_eq_zero (of_decide_eq_true h5)
   exact⟨fun _=>e,fun k=>absurd hs k,by rw[e];intro o ho;cases ho⟩
  ·rw[if_neg (by simp[hs]),Bool.and_eq_true,all_eq_true] at h5
   exact⟨fun e=>absurd e hs,fun _=>h5.2,h5.1⟩
 refine⟨⟨h2,h4,hu⟩,h1,hs.1,hs.2.1,⟨h3,fun o ho=> ?_⟩,Nc h6,h7,fun x hx=>adf (hb.ms x hx) (h8 x hx)⟩
 have:=hs.2.2 o ho
 unfold KF at this
 simp only[Bool.and_eq_true,Bool.or_eq_true,decide_eq_true_eq] at this
 exact⟨⟨this.2,by omega⟩,this.1⟩
def exK (ps:List (List UInt8)) (su:List UInt8) (ab:List aF):List KT:=if su=[] then [] else(3,exW)::(1,su)::tlK ps ab
abbrev clW : List UInt8:=[99,108,97,115,115]
def clK (c:bH):List KT:=(3,clW)::(1,c.ai)::(nmA c.ac++(exK c.ac c.aU c.aH++(4,[123])::(lok c.ac c.aZ++(mfK c.ac c.am++[(4,[125])]))))
def zC (c:bH):bH:={ c with aZ:=c.aZ.map zV,am:=c.am.map zM,fAt:=0 }
theorem Yb {c} (h:CW c) {l} (hll:l.length<=20000) {i a u r} (hs:a+stC c<=400) (hat:At l i (clK c++u::r)):
  ∃ q,oy l (i:Int) (a:Int)=some (g9 q zGMethod [] [] (i+(clK c).length))/\zC q=zC c:=by
 unfold clK at hat ⊢
 simp only[cons_append,append_assoc,nil_append] at hat
 have h1:=cI hat
 have h2:=cI h1
 have h3:=(gZ h2).2
 have h4:=(gZ h3).2
 have h5:=cI h4
 obtain⟨q,a1,a2,a3,hlt⟩:=GZ hat
 obtain⟨w,b1,b2,b3,-⟩:=GZ h1
 obtain⟨-,-,-,-,hlt4⟩:=kS h4
 have hn:=h.hp.n
 have hab:=h.ab.1
 obtain⟨n,hfu⟩:∃ n,l.length+64=n+c.aZ.length:=⟨l.length+64 - c.aZ.length,by have:=h.f.1;omega⟩
 obtain⟨fs,hf,zf⟩:=OE h.hp hll c.ai c.aU c.aH q.fAt hab (a:=a) c.aZ [] (i+1 + 1+(nmA c.ac).length+(exK c.ac c.aU c.aH).length+1) n _ (by rw[length_nil];have:=h.f.1;omega) h.f.2 h5
 have h6:=(gZ h5).2
 have hfl:fs.length<=12:=by have:=congrArg length zf;rw[length_map,length_map] at this;have:=h.f.1;omega
 have hi6:=Di h6
 obtain⟨ms,hm,zm⟩:=JU (a:=a) h.hp hll c.ai c.aU c.aH q.fAt hab hfl c.am [] (i+1 + 1+(nmA c.ac).length+(exK c.ac c.aU c.aH).length+1 + (lok c.ac c.aZ).length) n 0 (u::r) (by rw[length_nil];have:=h.m.1;omega) h.m.2 (fun y hy=>by cases hy) rfl (by have:stC c=gK (fun x:bM=>fc x.aC) c.am:=rfl;omega) h6 (by have:=h.m.1;have:=h.f.1;omega)
 have hL:=hf.trans hm
 rw[<- hfu] at hL
 refine⟨⟨c.ai,c.ac,c.aU,c.aH,fs,ms,q.fAt⟩,?_,by unfold zC;simp only;rw[zf,zm]⟩
 have hend:i+1 + 1+(nmA c.ac).length+(exK c.ac c.aU c.aH).length+1 + (lok c.ac c.aZ).length+(mfK c.ac c.am).length+1=i+((3,clW)::(1,c.ai)::(nmA c.ac++(exK c.ac c.aU c.aH++(4,[123])::(lok c.ac c.aZ++(mfK c.ac c.am++[((4,[125]):KT)]))))).length:=by
  simp only[length_cons,length_append,length_nil];omega
 unfold oy
 rw[a1,obs,wN (by omega),b1,obs,if_neg (by rw[b2];simp),obs,w2 (by omega),b3]
 have hname:∀ F:Int×(List (List UInt8))->Option ba,Ctl.go (eZ (fG l ((i+1 + 1:Nat):Int) [60]) fun(y0:Bool)=>if y0=true then eZ (mE l ((i+1 + 1:Nat):Int)) fun(y1:ba)=>if(y1.fF.bL != 0) then .stop (some y1) else .next (y1.aq,y1.fN) else .next (((i+1 + 1:Nat):Int),zGClass.ac):Ctl (Option ba) (Int×(List (List UInt8)))) F=F (((i+1 + 1+(nmA c.ac).length:Nat):Int),c.ac):=fun F=>by
  cases hps:c.ac with
  | nil=>
   have hx:∃ t ts,At l (i+1 + 1) (t::ts)/\isT t [60]=false:=by
    rw[hps] at h2
    unfold exK at h2
    by_cases e:c.aU=[]
    ·rw[if_pos e] at h2;exact⟨_,_,h2,rfl⟩
    ·rw[if_neg e] at h2;exact⟨_,_,h2,rfl⟩
   obtain⟨t,ts,ht,hf⟩:=hx
   rw[is9 ht,gob,hf,if_neg (by decide),Lc];rfl
  | cons p ps=>
   rw[hps] at h2 hn
   have ht:At l (i+1 + 1) ((4,[60])::_):=h2
   rw[is9 ht,gob,if_pos (by decide),Vc hll (by simp only[length_cons] at hn;exact hn) h2,gob]
   simp only
   rw[if_neg (by decide),Lc]
 rw[hname]
 simp only
 have hext:∀ (G:Bool->Ctl (Option ba) (Int×(List UInt8)×(List (List UInt8))×(List UInt8)×(List aF)×(List dr)×(List bM)×Int)) F,(c.aU=[]->G false= .next (((i+1 + 1+(nmA c.ac).length:Nat):Int),c.ai,c.ac,[],[],[],[],q.fAt))->(c.aU≠[]->G true= .next (((i+1 + 1+(nmA c.ac).length+(exK c.ac c.aU c.aH).length:Nat):Int),c.ai,c.ac,c.aU,c.aH,[],[],q.fAt))->Ctl.go (eZ (fG l ((i+1 + 1+(nmA c.ac).length:Nat):Int) [101,120,116,101,110,100,115]) G) F=F (((i+1 + 1+(nmA c.ac).length+(exK c.ac c.aU c.aH).length:Nat):Int),c.ai,c.ac,c.aU,c.aH,[],[],q.fAt):=fun G F g0 g1=>by
  by_cases e:c.aU=[]
  ·have e2:=h.s0 e
   have h3':=h3
   unfold exK at h3' ⊢
   rw[if_pos e,nil_append] at h3'
   rw[is9 h3',gob,show isT (4,[123]) [101,120,116,101,110,100,115]=false from rfl,g0 e,Lc,if_pos e,e,e2];rfl
  ·have h3':=h3
   unfold exK at h3'
   rw[if_neg e,cons_append] at h3'
   rw[is9 h3',gob,show isT (3,exW) [101,120,116,101,110,100,115]=true from by decide,g1 e,Lc]
 rw[hext]
 ·simp only
  rw[is9 h4,obs,if_neg (by decide),wN (by omega),hL,obs,uW]
  simp only
  rw[wN (by omega),hend]
  rfl
 ·intro e
  rw[if_neg (by decide)]
 ·intro e
  have h3':=h3
  unfold exK at h3'
  rw[if_neg e] at h3'
  simp only[cons_append] at h3'
  rw[if_pos rfl,Wr h.hp hll h.ab h3',gob,Vz]
  simp only[mT]
  unfold exK
  rw[if_neg e,length_cons,length_cons,show i+1 + 1+(nmA c.ac).length+1 + 1+(tlK c.ac c.aH).length=i+1 + 1+(nmA c.ac).length+((tlK c.ac c.aH).length+1 + 1) by omega]
theorem aaR {s} (hll:s.length<=20000):∀ (p:List bH) (out:List bH) (i n a:Nat) (f:dV),(∀ c∈p,CW c)->out.length+p.length<=20->a+gK stC p<=400->(∀ c∈p,∀ q,zC q=zC c->lj q=some ((stC c:Nat):Int))->At s i ((p.map clK).flatten++[(0,[])])->p.length+1<=n->
  ∃ qs,mC (s,f) n out (i:Int) (a:Int)=some (.next (out++qs))/\qs.map zC=p.map zC
 | p,out,i,0,a,f,_,_,_,_,_,hn=>absurd hn (by omega)
 | [],out,i,n+1,a,f,_,_,_,_,hat,hn=>by
  have h0:At s i ((0,[])::[]):=hat
  obtain⟨k,a1,a2,a3,-⟩:=GZ h0
  refine⟨[],?_,rfl⟩
  rw[mC]
  simp only
  rw[a1,obs,if_neg (by rw[a2];decide),append_nil]
 | c::p,out,i,n+1,a,f,hw,hl,hs,hst,hat,hn=>by
  rw[map_cons,flatten_cons,append_assoc] at hat
  have hu:∃ u r',(p.map clK).flatten++[((0,[]):KT)]=u::r':=by cases h:(p.map clK).flatten++[((0,[]):KT)] with | nil=>simp at h | cons u r'=>exact⟨u,r',rfl⟩
  obtain⟨u,r',eu⟩:=hu
  have hat2:=hat
  rw[eu] at hat2
  simp only[gK] at hs
  simp only[length_cons] at hl hn
  obtain⟨q,hq,hz⟩:=Yb (a:=a) (hw c (by simp)) hll (by omega) hat2
  have hS:=hst c (by simp) q hz
  obtain⟨qs,hqs,hzs⟩:=aaR hll p (out++[q]) (i+(clK c).length) n (a+stC c) f (fun x hx=>hw x (by simp[hx])) (by rw[length_append];simp only[length_cons,length_nil];omega) (by omega) (fun x hx=>hst x (by simp[hx])) (gZ hat).2 (by omega)
  refine⟨q::qs,?_,by rw[map_cons,map_cons,hz,hzs]⟩
  have h0:At s i ((3,clW)::_):=hat
  obtain⟨k,a1,a2,a3,-⟩:=GZ h0
  have hw1:ah ((a:Int)+(stC c:Int))=((a+stC c:Nat):Int):=by rw[w64 (by omega) (by omega)];omega
  rw[mC]
  simp only
  rw[a1,obs,if_pos (by rw[a2];decide),is9 h0,obs,if_neg (by decide),if_neg (by simp;omega),hq,obs]
  simp only
  rw[if_neg (by decide),ed (by simp only[length_cons,length_nil];omega),obs,hS,obs,hw1,hqs,append_assoc]
  rfl
theorem CB {α β:Type} {a:List α} {b:List β} {L:Nat->Int->Option (Ctl Bool Unit)} (hl:a.length<=1000000) (he:b.length=a.length) (h1:∀ (n k:Nat) (h:k < a.length) (h':k < b.length),decide ((k:Int) < (a.length:Int))=true->idx a (k:Int)=some a[k]->idx b (k:Int)=some b[k]->L (n+1) (k:Int)=L n (ah ((k:Int)+1))) (h0:∀ n,L (n+1) (a.length:Int)=some (.next ())):L (((a.length - 0:Int)).toNat+1) 0=some (.next ()):=by
 have h:∀ (n k:Nat),n+k=a.length+1->k<=a.length->L n (k:Int)=some (.next ()):=fun n=>by
  induction n with
  | zero=>intro k h hk;omega
  | succ n ih=>
   intro k h hk
   by_cases hlt:k < a.length
   ·have hlt':k < b.length:=by omega
    rw[h1 n k hlt hlt' (by simpa using hlt) (dQ hlt) (dQ hlt'),dx hlt (by omega)]
    exact ih (k+1) (by omega) (by omega)
   ·rw[show k=a.length by omega];exact h0 n
 rw[kF]
 exact h (a.length+1) 0 (by omega) (by omega)
theorem rE {α β:Type} {f:α->β} {a b:List α} (h:b.map f=a.map f) {k:Nat} (h1:k < a.length) (h2:k < b.length):f b[k]=f a[k]:=by
 have:=congrArg (·[k]?) h
 simpa [h1,h2] using this
theorem tk {α β:Type} {f:α->β} {a b:List α} (h:b.map f=a.map f):b.length=a.length:=by have:=congrArg length h;rwa [length_map,length_map] at this
theorem aco (a:cd):lM a a=true:=by simp[lM]
theorem Um (e:au):e.aY.length<=bR e:=by
 have h:∀ l:List au,l.length<=ct l:=fun l=>by
  induction l with
  | nil=>exact Nat.zero_le _
  | cons x l ih=>have:=qU x;simp only[ct,length_cons];omega
 have:=h e.aY
 rw[qU];omega
theorem J0 : ∀ l:List ap,l.length<=cb l
 | []=>Nat.zero_le _
 | x::l=>by have:=J0 l;have:=nf x;simp only[cb,length_cons];omega
theorem L5 : ∀ (n:Nat) (e:au),bR e<=1000000->bR e < n->kx n e e=some true
 | 0,e,_,h=>by omega
 | n+1,e,hm,h=>by
  have hL:=CB (a:=e.aY) (b:=e.aY) (L:=nq e e (kx n)) (by have:=Um e;omega) rfl (fun m k hk _ hd hi _=>by
   rw[nq,if_pos hd,hi,obs,obs,L5 n _ (by have:=xL (getElem_mem hk);omega) (by have:=xL (getElem_mem hk);omega),obs,if_neg (by simp)]) (fun m=>by rw[nq,if_neg (by simp)])
  rw[kx]
  simp only[bne_self_eq_false,Bool.false_eq_true,if_false,beq_self_eq_true,Bool.not_true,obs]
  rw[hL,obs,uW]
theorem QJ {f a b} (hl:a.length<=1000000) (hz:b.map z0=a.map z0) (hr:∀ s∈a,∀ q,z0 q=z0 s->lZ f s q=some true):kC (f+1) a b=some true:=by
 have he:=tk hz
 have hL:=CB (a:=a) (b:=b) (L:=nw a b (lZ f)) hl he (fun m k hk hk' hd hi hj=>by
  rw[nw,if_pos hd,hi,obs,hj,obs,hr _ (getElem_mem hk) _ (rE hz hk hk'),obs,if_neg (by simp)]) (fun m=>by rw[nw,if_neg (by simp)])
 rw[kC,he,if_neg (by simp),hL,obs,uW]
theorem Yn {q s} (h:z0 q=z0 s):q.aa=s.aa/\q.fX=s.fX/\q.fY=s.fY/\q.ai=s.ai/\q.aJ=s.aJ/\q.fE=s.fE/\q.cO=s.cO/\q.aC.map z0=s.aC.map z0/\q.bQ.map z0=s.bQ.map z0:=by
 rw[Cn,Cn s] at h
 injection h with h1 h2 h3 h4 h5 h6 h7 h8 h9 h0
 exact⟨h1,h2,h3,h4,h5,h6,h7,h8,h9⟩
theorem XP : ∀ (f:Nat) (s q:ap),cf s<=1000000->z0 q=z0 s->2 * cf s<=f->lZ f s q=some true
 | 0,s,q,_,_,h=>by have:=nf s;omega
 | 1,s,q,_,_,h=>by have:=nf s;omega
 | f+2,s,q,hm,hz,h=>by
  obtain⟨e1,e2,e3,e4,e5,e6,e7,e8,e9⟩:=Yn hz
  have hp:=sd s
  have hb:=Vu s
  have hE:=L5 (bR s.fE+bR s.fE+1) s.fE (by omega) (by omega)
  have hA:=CB (a:=s.cO) (b:=s.cO) (L:=nn s q) (by omega) rfl (fun m k hk _ hd hi _=>by
   have:=hp.2.2.2.2 _ (getElem_mem hk)
   rw[nn,if_pos hd,hi,obs,e7,hi,obs,L5 _ _ (by omega) (by omega),obs,if_neg (by simp)]) (fun m=>by rw[nn,if_neg (by simp)])
  have hB:=QJ (f:=f) (a:=s.aC) (b:=q.aC) (by omega) e8 fun x hx y hy=>XP f x y (by have:=yy hx;omega) hy (by have:=yy hx;omega)
  have hC:=QJ (f:=f) (a:=s.bQ) (b:=q.bQ) (by omega) e9 fun x hx y hy=>XP f x y (by have:=yE hx;omega) hy (by have:=yE hx;omega)
  rw[lZ,e1,e2,e3,e4,e5,e6,e7,hE]
  simp only[bne_self_eq_false,Bool.false_eq_true,if_false,beq_self_eq_true,Bool.not_true,aco,obs]
  rw[hA,obs,uW,hB,obs,if_pos rfl,hC,obs]
theorem XZ {a b} (hl:a.length<=1000000) (hz:b.map zV=a.map zV):pH a b false=some true:=by
 have he:=tk hz
 have hL:=CB (a:=a) (b:=b) (L:=nt a b false) hl he (fun m k hk hk' hd hi hj=>by
  have hg:=rE hz hk hk'
  unfold zV at hg
  injection hg with g1 g2
  rw[nt,if_pos hd,hi,obs,hj,obs,g1,if_neg (by simp),obs,obs,g2,aco,if_neg (by simp),if_neg (by simp),obs,if_neg (by simp)]) (fun m=>by rw[nt,if_neg (by simp)])
 unfold pH
 rw[he,if_neg (by simp),hL,obs,uW]
theorem adn {x y} (hp:x.ac.length<=1000) (hl:x.aP.length<=1000) (hm:cb x.aC<=1000000) (hz:zM y=zM x):tH x y false=some true:=by
 unfold zM at hz
 injection hz with e1 e2 e3 e4 e5 e6 e7
 have hB:=QJ (f:=cb x.aC+cb x.aC) (a:=x.aC) (b:=y.aC) (by have:=J0 x.aC;omega) e6 fun s hs q hq=>XP _ s q (by have:=wG hs;omega) hq (by have:=wG hs;omega)
 unfold tH
 rw[e1,e2,e3,(Fc e6).1,XZ (by omega) e4,XZ (by omega) e5,hB]
 simp only[bne_self_eq_false,Bool.false_eq_true,if_false,beq_self_eq_true,Bool.not_true,aco,obs,if_true]
theorem adU {c d} (hb:BC c) (hz:zC d=zC c):vr c d false=some true:=by
 unfold zC at hz
 injection hz with e1 e2 e3 e4 e5 e6 e7
 have h1:=CB (a:=c.ac) (b:=c.ac) (L:=oT c d) (by have:=hb.p;omega) rfl (fun m k hk _ hv hi _=>by
  rw[oT,if_pos hv,e2,hi,obs,obs,if_neg (by simp)]) (fun m=>by rw[oT,if_neg (by simp)])
 have h2:=CB (a:=c.aH) (b:=c.aH) (L:=oY c d) (by have:=hb.a;omega) rfl (fun m k hk _ hv hi _=>by
  rw[oY,if_pos hv,e4,hi,obs,obs,if_neg (by simp[kO])]) (fun m=>by rw[oY,if_neg (by simp)])
 have h3:=CB (a:=c.am) (b:=d.am) (L:=oJ c d false) (by have:=hb.m;omega) (tk e6) (fun m k hk hk' hv hi hj=>by
  have hx:=hb.ms _ (getElem_mem hk)
  rw[oJ,if_pos hv,hi,obs,hj,obs,adn hx.p hx.l hx.b (rE e6 hk hk'),obs,if_neg (by simp)]) (fun m=>by rw[oJ,if_neg (by simp)])
 unfold vr
 rw[e1,e3,e2,e4,tk e6]
 simp only[bne_self_eq_false,Bool.false_eq_true,if_false,beq_self_eq_true,Bool.not_true,obs]
 rw[h1,obs,uW,h2,obs,uW,h3,obs,uW,XZ (by have:=hb.f;omega) e5,obs]
theorem adb {p q} (hl:p.length<=1000000) (hb:∀ c∈p,BC c) (hz:q.map zC=p.map zC):ud p q false=some true:=by
 have he:=tk hz
 have hL:=CB (a:=p) (b:=q) (L:=nk p q false) hl he (fun m k hk hk' hd hi hj=>by
  rw[nk,if_pos hd,hi,obs,hj,obs,adU (hb _ (getElem_mem hk)) (rE hz hk hk'),obs,if_neg (by simp)]) (fun m=>by rw[nk,if_neg (by simp)])
 unfold ud
 rw[he,if_neg (by simp),hL,obs,uW]
theorem acM {c q} (hb:BC c) (hz:zC q=zC c):BC q/\stC q=stC c:=by
 unfold zC at hz
 injection hz with e1 e2 e3 e4 e5 e6 e7
 have hM:∀ {y x:bM},zM y=zM x->BM x->BM y/\fc y.aC=fc x.aC:=fun {y x} h hx=>by
  unfold zM at h
  injection h with f1 f2 f3 f4 f5 f6 f7
  obtain⟨m1,m2⟩:=Fc f6
  have h1:=tk f4
  have h2:=tk f5
  have:=hx.p
  have:=hx.l
  have:=hx.b
  exact⟨⟨by omega,by omega,by omega⟩,m2⟩
 have hms:∀ (a b:List bM),b.map zM=a.map zM->(∀ x∈a,BM x)->(∀ y∈b,BM y)/\gK (fun x:bM=>fc x.aC) b=gK (fun x:bM=>fc x.aC) a:=fun a=>by
  induction a with
  | nil=>intro b h _;rw[map_nil] at h;rw[List.map_eq_nil_iff.1 h];exact⟨fun y hy=>(by cases hy),rfl⟩
  | cons x a ih=>
   intro b h hx
   cases b with
   | nil=>cases h
   | cons y b=>
    rw[map_cons,map_cons] at h
    injection h with h1 h2
    obtain⟨i1,i2⟩:=ih b h2 fun z hz=>hx z (by simp[hz])
    obtain⟨j1,j2⟩:=hM h1 (hx x (by simp))
    refine⟨fun z hz=> ?_,by simp only[gK];rw[j2,i2]⟩
    rcases List.mem_cons.1 hz with rfl | hz
    ·exact j1
    ·exact i1 z hz
 obtain⟨m1,m2⟩:=hms c.am q.am e6 hb.ms
 have h5:=tk e5
 have h6:=tk e6
 exact⟨⟨by rw[e2];exact hb.p,by rw[e4];exact hb.a,by rw[h5];exact hb.f,by rw[h6];exact hb.m,m1⟩,m2⟩
def agP (l:List (List KT)):List KT:=if l=[] then [] else(4,[60])::(cmP l++[(4,[62])])
def exP (ps:List (List UInt8)) (su:List UInt8) (ab:List aF):List KT:=if su=[] then [] else(0,[32])::(3,exW)::(0,[32])::(1,su)::agP (ab.map fun o=>[oK ps o])
def feP (ps:List (List UInt8)) (b:List UInt8) (v:dr):List KT:=(0,b)::(vaP ps v++[(4,[59]),(0,[10])])
def meP (ps:List (List UInt8)) (x:bM):List KT:=(0,[9])::((if x.co=true then [(3,puW),(0,[32])] else [])++(tyP ps x.af++(0,[32])::(1,x.ai)::(4,[40])::(cmP (x.ac.map (vaP ps))++(4,[41])::(0,[32])::(4,[123])::(0,[10])::((x.aP.map (feP ps [9,9])).flatten++(vw ps x.aC 2++[(0,[9]),(4,[125]),(0,[10])])))))
def clP (c:bH):List KT:=(3,clW)::(0,[32])::(1,c.ai)::(agP (c.ac.map fun p=>[(1,p)])++(exP c.ac c.aU c.aH++(0,[32])::(4,[123])::(0,[10])::((c.aZ.map (feP c.ac [9])).flatten++((c.am.map (meP c.ac)).flatten++[(4,[125]),(0,[10])]))))
theorem Ww (l:List (List KT)):tx (agP l)=C9 (l.map tx):=by
 unfold agP C9
 rw[length_map]
 by_cases h:l=[]
 ·rw[if_pos h,if_pos (by rw[h];rfl)];rfl
 ·rw[if_neg h,if_neg (fun e=>h (eq_nil_of_length_eq_zero e)),dT,mw,KQ];rfl
theorem abo {l} (h:∀ x∈l,ok x=true):l=[]\/(∃ q,agP l=(4,[60])::(q++[(4,[62])])/\ok q=true):=by
 by_cases e:l=[]
 ·exact .inl e
 ·exact .inr ⟨cmP l,by unfold agP;rw[if_neg e],Ku h⟩
theorem Xn {l} (h:∀ x∈l,ok x=true) {a q b} (ha:ok a=true) (hq:sp q=true) (hb:ok (q::b)=true):ok (a++(agP l++q::b))=true:=by
 rcases abo h with e | ⟨z,e,hz⟩
 ·rw[e]
  show ok (a++(q::b))=true
  have:ok b=true:=by
   unfold ok at hb
   rw[Bool.and_eq_true,Bool.and_eq_true] at hb
   exact hb.2.2
  exact fx ha hq this
 ·rw[e,cons_append,append_assoc]
  exact fx ha (by decide) (fx hz (by decide) hb)
theorem ade (ps:List (List UInt8)) (o:aF):tx [oK ps o]=gL o ps:=by simp[dT,kR,oK]
theorem Pb {α:Type} {f g}:∀ {l:List α},(∀ x∈l,tx (f x)=g x)->tx ((l.map f).flatten)=(l.map g).flatten
 | [],_=>rfl
 | x::l,h=>by rw[map_cons,map_cons,flatten_cons,flatten_cons,mw,h x (by simp),Pb fun y hy=>h y (by simp[hy])]
theorem Ua {α:Type} {f g}:∀ {l:List α},(∀ x∈l,tks (f x)=g x)->tks ((l.map f).flatten)=(l.map g).flatten
 | [],_=>rfl
 | x::l,h=>by rw[map_cons,map_cons,flatten_cons,flatten_cons,eC,h x (by simp),Ua fun y hy=>h y (by simp[hy])]
theorem Yc {α:Type} {f}:∀ {l:List α},(∀ x∈l,OX (f x))->OX (l.map f).flatten
 | [],_=>fun b hb=>hb
 | x::l,h=>fun b hb=>by rw[map_cons,flatten_cons,append_assoc];exact h x (by simp) _ (Yc (fun y hy=>h y (by simp[hy])) b hb)
theorem VN {ps v} (h:VW ps v) (b:List UInt8):tx (feP ps b v)=b++(vaT ps v++[59,10]):=by unfold feP;rw[dT,mw,WG h];rfl
theorem aaB {ps} (hp:PN ps) {v} (h:VW ps v) {b} (hb:sp (0,b)=true):OX (feP ps b v):=fun c hc=>by
 unfold feP
 rw[cons_append,append_assoc]
 exact eG hb (fx (Xp hp h) (by decide) (eG (by decide) hc))
theorem ZZ {ps l} (h:∀ s∈l,OA ps s/\dSt s<=20) (hs:∀ s∈l,sR 20 (ps.length:Int) s=true):tx (vw ps l 2)=(l.map (stX ps)).flatten:=by
 rw[DA fun s hs=>Qz _ s 2 (Nat.le_refl _) (h s hs).1,vT]
 congr 1
 exact map_congr_left fun s h1=>by unfold stX;rw[if_pos (hs s h1)]
theorem acm {ps x} (h:MW ps x) (hs:∀ s∈x.aC,sR 20 (ps.length:Int) s=true):tx (meP ps x)=meT ps x:=by
 have hv:(x.ac.map (vaP ps)).map tx=x.ac.map (vaT ps):=by rw[map_map];exact map_congr_left fun v hv=>WG (h.p.2 v hv)
 have hl:tx ((x.aP.map (feP ps [9,9])).flatten)=(x.aP.map (loT ps)).flatten:=Pb fun v hv=>VN (h.l.2 v hv) _
 have hq:tx (if x.co=true then [((3,puW):KT),(0,[32])] else [])=if x.co=true then [112,117,114,101,32] else []:=by cases x.co<;>rfl
 unfold meP meT hdT hmT
 simp only[dT,mw,kR]
 rw[hq,KI h.t,KQ,hv,hl,ZZ h.b hs]
 simp[append_assoc]
theorem acV {ps} (hp:PN ps) {x} (h:MW ps x):OX (meP ps x):=fun b hb=>by
 unfold meP
 simp only[cons_append,append_assoc]
 refine eG (by decide) ?_
 have h1:ok (tyP ps x.af++(0,[32])::(1,x.ai)::(4,[40])::(cmP (x.ac.map (vaP ps))++(4,[41])::(0,[32])::(4,[123])::(0,[10])::((x.aP.map (feP ps [9,9])).flatten++(vw ps x.aC 2++(0,[9])::(4,[125])::(0,[10])::([]++b)))))=true:=by
  refine fx (Ke hp h.t) (by decide) (fx (a:=[(1,x.ai)]) (sb h.n) (by decide) (fx (Ku fun z hz=> ?_) (by decide) (eG (by decide) (eG (by decide) (eG (by decide) ?_)))))
  ·obtain⟨v,hv,rfl⟩:=List.mem_map.1 hz
   exact Xp hp (h.p.2 v hv)
  ·refine Yc (fun v hv=>aaB hp (h.l.2 v hv) (by decide)) _ (DB (fun s hs=>QX hp _ s 2 (Nat.le_refl _) (h.b s hs).1) _ (eG (by decide) (eG (by decide) (eG (by decide) hb))))
 cases x.co with
 | false=>exact h1
 | true=>exact fx (a:=[(3,puW)]) (by decide) (by decide) h1
theorem acq {c} (h:CW c) (hs:∀ x∈c.am,∀ s∈x.aC,sR 20 (c.ac.length:Int) s=true):tx (clP c)=clT c:=by
 have h1:(c.ac.map fun p=>[((1,p):KT)]).map tx=c.ac:=by
  rw[map_map]
  conv=>rhs;rw[<- map_id c.ac]
  exact map_congr_left fun p _=>by simp[dT,kR]
 have h2:(c.aH.map fun o=>[oK c.ac o]).map tx=c.aH.map (gL · c.ac):=by rw[map_map];exact map_congr_left fun o _=>ade _ o
 have hf:tx ((c.aZ.map (feP c.ac [9])).flatten)=(c.aZ.map (feT c.ac)).flatten:=Pb fun v hv=>VN (h.f.2 v hv) _
 have hm:tx ((c.am.map (meP c.ac)).flatten)=(c.am.map (meT c.ac)).flatten:=Pb fun x hx=>acm (h.m.2 x hx) (hs x hx)
 have he:tx (exP c.ac c.aU c.aH)=if c.aU=[] then [] else [32,101,120,116,101,110,100,115,32]++(c.aU++C9 (c.aH.map (gL · c.ac))):=by
  unfold exP
  by_cases e:c.aU=[]
  ·rw[if_pos e,if_pos e];rfl
  ·rw[if_neg e,if_neg e];simp only[dT];rw[Ww,h2];rfl
 unfold clP clT fiT
 simp only[dT,mw,kR]
 rw[Ww,h1,he,hf,hm]
 simp[append_assoc]
theorem adw {c} (h:CW c):OX (clP c):=fun b hb=>by
 have h3:ok ((0,[32])::(4,[123])::(0,[10])::((c.aZ.map (feP c.ac [9])).flatten++((c.am.map (meP c.ac)).flatten++((4,[125])::(0,[10])::([]++b)))))=true:=
  eG (by decide) (eG (by decide) (eG (by decide) (Yc (fun v hv=>aaB h.hp (h.f.2 v hv) (by decide)) _ (Yc (fun x hx=>acV h.hp (h.m.2 x hx)) _ (eG (by decide) (eG (by decide) hb))))))
 have hn:∀ x∈(c.ac.map fun p=>[((1,p):KT)]),ok x=true:=fun x hx=>by obtain⟨p,hp,rfl⟩:=List.mem_map.1 hx;exact sb (h.hp.v p hp)
 have ho:∀ x∈(c.aH.map fun o=>[oK c.ac o]),ok x=true:=fun x hx=>by obtain⟨o,ho,rfl⟩:=List.mem_map.1 hx;exact VT h.hp (h.ab.2 o ho).1
 unfold clP
 simp only[cons_append,append_assoc]
 refine fx (a:=[(3,clW)]) (by decide) (by decide) ?_
 unfold exP
 by_cases e:c.aU=[]
 ·rw[if_pos e,nil_append]
  exact Xn hn (a:=[(1,c.ai)]) (sb h.n) (by decide) h3
 ·rw[if_neg e]
  simp only[cons_append]
  refine Xn hn (a:=[(1,c.ai)]) (sb h.n) (by decide) (eG (by decide) (fx (a:=[(3,exW)]) (by decide) (by decide) ?_))
  exact Xn ho (a:=[(1,c.aU)]) (sb (h.s1 e)) (by decide) h3
theorem U0 {α:Type} (f:α->KT) (l:List α):tks (agP (l.map fun o=>[f o]))=match l with | []=>[] | o::os=>(4,[60])::(tks (cmP ((o::os).map fun o=>[f o]))++[(4,[62])]):=by
 cases l with
 | nil=>rfl
 | cons o os=>unfold agP;rw[if_neg (by simp),cn (by decide),eC];rfl
theorem abe (ps:List (List UInt8)) (b:List UInt8) (v:dr):tks (feP ps b v)=vaK ps v++[(4,[59])]:=by unfold feP;rw[dw,eC,QM,cn (by decide),dw];rfl
theorem aaz (ps:List (List UInt8)) (b:List UInt8) (l:List dr):tks ((l.map (feP ps b)).flatten)=lok ps l:=Ua fun v _=>abe ps b v
theorem abh (ps:List (List UInt8)) (x:bM):tks (meP ps x)=meK ps x:=by
 have hq:tks (if x.co=true then [((3,puW):KT),(0,[32])] else [])=if x.co=true then [(3,puW)] else []:=by cases x.co<;>rfl
 unfold meP meK mbK
 rw[dw,eC,hq,eC,dw,cn (by decide),cn (by decide),eC,cn (by decide),dw,cn (by decide),dw,eC,aaz,eC,dw,cn (by decide),dw]
 rfl
theorem aaZ (c:bH):tks (clP c)=clK c:=by
 have h1:tks (agP (c.ac.map fun p=>[((1,p):KT)]))=nmA c.ac:=by rw[U0 (fun p=>((1,p):KT))];cases c.ac<;>rfl
 have h2:tks (exP c.ac c.aU c.aH)=exK c.ac c.aU c.aH:=by
  unfold exP exK
  by_cases e:c.aU=[]
  ·rw[if_pos e,if_pos e];rfl
  ·rw[if_neg e,if_neg e,dw,cn (by decide),dw,cn (by decide),U0];cases c.aH<;>rfl
 unfold clP clK
 rw[cn (by decide),dw,cn (by decide),eC,h1,eC,h2,dw,cn (by decide),dw,eC,aaz,eC,show tks ((c.am.map (meP c.ac)).flatten)=mfK c.ac c.am from Ua fun x _=>abh _ x,cn (by decide),dw]
 rfl
structure PW (p:List bH):Prop where
 n:p.length<=20
 s:gK stC p<=400
 c:∀ c∈p,CW c
 b:∀ c∈p,BC c
 r:∀ c∈p,∀ x∈c.am,∀ s∈x.aC,sR 20 (c.ac.length:Int) s=true
theorem Zy {p} (h:PW p) (hl:(p.map clT).flatten.length<=16384):∃ q,qC (p.map clT).flatten=some (q,aK)/\q.map zC=p.map zC:=by
 have e:tx ((p.map clP).flatten)=(p.map clT).flatten:=Pb fun c hc=>acq (h.c c hc) (h.r c hc)
 have ho:ok ((p.map clP).flatten)=true:=by have:=Yc (f:=clP) (fun c hc=>adw (h.c c hc)) [] rfl;rwa [append_nil] at this
 have hk:tks ((p.map clP).flatten)=(p.map clK).flatten:=Ua fun c _=>aaZ c
 rw[<- e] at hl ⊢
 obtain⟨l,t,h1,h2,h3,h4⟩:=aci ho hl
 have hat:At (l++[t]) 0 ((p.map clK).flatten++[(0,[])]):=⟨[],by rw[drop_zero,map_append,h2,hk,append_nil,map_cons,h3];rfl⟩
 have hn:=h.n
 obtain⟨qs,hq,hz⟩:=aaR (by rw[length_append];simp only[length_cons,length_nil];omega) p [] 0 ((tx ((p.map clP).flatten)).length+64) 0 aK h.c (by rw[length_nil];omega) (by have:=h.s;omega) (fun c hc q hz=>by
  obtain⟨b1,b2⟩:=acM (h.b c hc) hz
  have:=S8 stC hc
  have:=h.s
  rw[<- b2]
  exact nJ b1 (by omega)) hat (by omega)
 refine⟨qs,?_,hz⟩
 unfold qC
 rw[h1,obs]
 simp only
 rw[if_neg (by decide)]
 exact(congrArg (fun o=>Option.bind o _) hq).trans rfl
theorem OT {y} (hl:y.ac.length<=1000000) {K} (hK:K < y.ac.length):∀ (n m:Nat),n+m=K+1->m<=K->mq (K:Int) y n (m:Int)=some (.stop true)\/(mq (K:Int) y n (m:Int)=some (.next ())/\∀ j,m<=j->(h:j < K)->y.ac[j]≠y.ac[K])
 | 0,m,h,hm=>by omega
 | n+1,m,h,hm=>by
  rw[mq]
  by_cases hlt:m < K
  ·rw[if_pos (by simpa using hlt),dQ (show m < y.ac.length by omega),obs,dQ hK,obs]
   by_cases he:y.ac[m]=y.ac[K]
   ·rw[if_pos (by simpa using he)];exact .inl rfl
   ·rw[if_neg (by simpa using he),dx hlt (by omega)]
    rcases OT hl hK n (m+1) (by omega) (by omega) with q | ⟨q,hq⟩
    ·exact .inl q
    ·refine .inr ⟨q,fun j h1 h2=> ?_⟩
     by_cases e:j=m
     ·subst e;exact he
     ·exact hq j (by omega) h2
  ·rw[if_neg (by simpa using hlt)]
   exact .inr ⟨rfl,fun j h1 h2=>by omega⟩
theorem NA {y} (hl:y.ac.length<=1000000):∀ (n k:Nat),n+k=y.ac.length+1->k<=y.ac.length->mr y n (k:Int)=some (.stop true)\/(mr y n (k:Int)=some (.next ())/\∀ i j (hi:i < j) (hj:j < y.ac.length),k<=j->y.ac[i]≠y.ac[j])
 | 0,k,h,hk=>by omega
 | n+1,k,h,hk=>by
  rw[mr]
  by_cases hlt:k < y.ac.length
  ·rw[if_pos (by simpa using hlt),Bw k]
   rcases OT hl hlt (k+1) 0 (by omega) (by omega) with q | ⟨q,hq⟩
   ·rw[show (0:Int)=((0:Nat):Int) from rfl,q,obs,Nu];exact .inl rfl
   ·rw[show (0:Int)=((0:Nat):Int) from rfl,q,obs,uW,dx hlt (by omega)]
    rcases NA hl n (k+1) (by omega) (by omega) with z | ⟨z,hz⟩
    ·exact .inl z
    ·refine .inr ⟨z,fun i j hi hj hk=> ?_⟩
     by_cases e:j=k
     ·subst e;exact hq i (by omega) hi
     ·exact hz i j hi hj (by omega)
  ·rw[if_neg (by simpa using hlt)]
   exact .inr ⟨rfl,fun i j hi hj hk=>by omega⟩
theorem Py {p} (hl:p.length<=1000000) (hc:∀ c∈p,c.ac.length<=1000000):∀ (n k:Nat),n+k=p.length+1->k<=p.length->mn p n (k:Int)=some (.stop true)\/(mn p n (k:Int)=some (.next ())/\∀ j,k<=j->(h:j < p.length)->p[j].ac.Pairwise (·≠·))
 | 0,k,h,hk=>by omega
 | n+1,k,h,hk=>by
  rw[mn]
  by_cases hlt:k < p.length
  ·rw[if_pos (by simpa using hlt),dQ hlt,obs,kF]
   rcases NA (hc _ (getElem_mem hlt)) (p[k].ac.length+1) 0 (by omega) (by omega) with q | ⟨q,hq⟩
   ·rw[show (0:Int)=((0:Nat):Int) from rfl,q,obs,Nu];exact .inl rfl
   ·rw[show (0:Int)=((0:Nat):Int) from rfl,q,obs,uW,dx hlt (by omega)]
    rcases Py hl hc n (k+1) (by omega) (by omega) with z | ⟨z,hz⟩
    ·exact .inl z
    ·refine .inr ⟨z,fun j h1 h2=> ?_⟩
     by_cases e:j=k
     ·subst e;exact List.pairwise_iff_getElem.2 fun i j' hi hj hij=>hq i j' hij hj (by omega)
     ·exact hz j (by omega) h2
  ·rw[if_neg (by simpa using hlt)]
   exact .inr ⟨rfl,fun j h1 h2=>by omega⟩
theorem XJ {p} (hl:p.length<=1000000) (hc:∀ c∈p,c.ac.length<=1000000):∃ b,sg p=some b/\(b=false->∀ c∈p,c.ac.Pairwise (·≠·)):=by
 unfold sg
 rw[kF,show (0:Int)=((0:Nat):Int) from rfl]
 rcases Py hl hc (p.length+1) 0 (by omega) (by omega) with q | ⟨q,hq⟩
 ·rw[q,obs,Nu];exact⟨true,rfl,fun e=>by cases e⟩
 ·rw[q,obs,uW]
  refine⟨false,rfl,fun _ c hc=> ?_⟩
  obtain⟨j,hj,rfl⟩:=getElem_of_mem hc
  exact hq j (by omega) hj
theorem adg {p} (hb:BP p) (h:rS p=true) (hu:∀ c∈p,c.ac.Pairwise (·≠·)):PW p:=by
 unfold rS at h
 simp only[Bool.and_eq_true,decide_eq_true_eq,all_eq_true] at h
 refine⟨h.1,h.2.2,fun c hc=>adp (hb.c c hc) (h.2.1 c hc) (hu c hc),hb.c,fun c hc x hx s hs=> ?_⟩
 have:=h.2.1 c hc
 unfold clS at this
 simp only[Bool.and_eq_true,all_eq_true] at this
 have h2:=this.2.2.2 x hx
 unfold BQ bdL at h2
 simp only[Bool.and_eq_true,all_eq_true] at h2
 exact h2.2.2.2.2.1 s hs
theorem aaA {s} (hs:s.length<=20000):∀ (n k:Nat),s.length+1<=n+k->k<=s.length->∃ m:Nat,ph s n (k:Int)=some (m:Int)/\k<=m/\m<=s.length/\((h:k < s.length)->s[k].toNat≠10->k < m)
 | 0,k,h,hk=>by omega
 | n+1,k,h,hk=>by
  rw[ph]
  by_cases hlt:k < s.length
  ·rw[if_pos (by simpa using hlt),dQ hlt,obs,obs]
   by_cases hb:s[k].toNat=10
   ·rw[if_neg (by simp[hb])]
    exact⟨k,rfl,Nat.le_refl _,hk,fun _ h=>absurd hb h⟩
   ·rw[if_pos (by simp;omega),dx hlt (by omega)]
    obtain⟨m,h1,h2,h3,-⟩:=aaA hs n (k+1) (by omega) (by omega)
    exact⟨m,h1,by omega,h3,fun _ _=>by omega⟩
  ·rw[if_neg (by simpa using hlt),obs,if_neg (by decide)]
   exact⟨k,rfl,Nat.le_refl _,hk,fun h=>absurd h hlt⟩
theorem VM {s} (hs:s.length<=20000):∀ (n k:Nat),s.length+1<=n+k->k<=s.length->∃ m:Nat,m<=s.length/\(iC s n (k:Int)=some (.stop (m:Int))\/iC s n (k:Int)=some (.next (m:Int)))
 | 0,k,h,hk=>by omega
 | n+1,k,h,hk=>by
  rw[iC]
  by_cases hlt:k < s.length
  ·rw[if_pos (by simpa using hlt),dQ hlt,obs,Jv,obs,dx hlt (by omega)]
   cases hb:blk s[k] with
   | true=>rw[if_pos rfl];exact VM hs n (k+1) (by omega) (by omega)
   | false=>
    rw[if_neg (by decide)]
    by_cases h2:k+1 < s.length
    ·rw[if_neg (by simp;omega),obs,dQ h2]
     by_cases h0:s[k].toNat=47
     ·rw[if_neg (by simp[h0]),obs,obs]
      by_cases h3:s[k+1].toNat=47
      ·rw[if_neg (by simp[h3])]
       obtain⟨m,h1,h4,h5,h6⟩:=aaA hs (s.length+64) k (by omega) hk
       rw[h1,obs]
       exact VM hs n m (by have:=h6 hlt (by omega);omega) h5
      ·rw[if_pos (by simp;omega)];exact⟨k,hk,.inl rfl⟩
     ·rw[if_pos (by simp;omega),obs,if_pos rfl];exact⟨k,hk,.inl rfl⟩
    ·rw[if_pos (by simp;omega),obs,if_pos rfl];exact⟨k,hk,.inl rfl⟩
  ·rw[if_neg (by simpa using hlt)];exact⟨k,hk,.inr rfl⟩
theorem OM {s} (hs:s.length<=20000):∃ m:Nat,lJ s=some (m:Int)/\m<=s.length:=by
 obtain⟨m,h1,h2⟩:=VM hs (s.length+64) 0 (by omega) (by omega)
 refine⟨m,?_,h1⟩
 unfold lJ
 rcases h2 with h | h<;>(rw[show (0:Int)=((0:Nat):Int) from rfl,h];rfl)
def Zn (t:az):Prop:=t.aa=1->db t.bz=true
theorem WM {s} (h:(xQ s).1≠0):1<=(xQ s).2.length/\(xQ s).2.length<=s.length/\((xQ s).1=1->(xQ s).2.length<=20->db (xQ s).2=true):=by
 match s with
 | []=>exact absurd rfl h
 | b::t=>
  unfold xQ at h ⊢
  simp only at h ⊢
  cases hL:isL b with
  | true=>
   rw[hL] at h
   have hc:isC b=true:=by unfold isC;rw[hL];rfl
   rw[if_pos rfl] at h ⊢
   have e:(b::t).takeWhile isC=b::t.takeWhile isC:=by rw[takeWhile_cons,if_pos hc]
   have hle:=(takeWhile_sublist isC (l:=t)).length_le
   have ha:((b::t).takeWhile isC).all isC=true:=all_takeWhile
   rw[e] at ha ⊢
   simp only[length_cons]
   refine⟨by omega,by omega,fun h1 h2=> ?_⟩
   have hf:¬ vO (b::t.takeWhile isC) > 0:=fun hf=>by rw[if_pos hf] at h1;exact absurd h1 (by decide)
   have:=NY (b::t.takeWhile isC)
   unfold db
   simp only
   rw[ha,hL,decide_eq_true (by omega),show (vO (b::t.takeWhile isC)==0)=true from by simp;omega];rfl
  | false=>
   rw[hL] at h
   rw[if_neg (by decide)] at h ⊢
   cases hD:isD b with
   | true=>
    rw[if_pos rfl]
    have e:(b::t).takeWhile isD=b::t.takeWhile isD:=by rw[takeWhile_cons,if_pos hD]
    have hle:=(takeWhile_sublist isD (l:=t)).length_le
    rw[e]
    simp only[length_cons]
    exact⟨by omega,by omega,fun h1=>absurd h1 (by decide)⟩
   | false=>
    rw[hD] at h
    rw[if_neg (by decide)] at h ⊢
    by_cases hs:wM (b::t)=[]
    ·rw[if_pos hs] at h;exact absurd rfl h
    ·rw[if_neg hs]
     refine⟨?_,?_,fun h1=>absurd h1 (show ¬ (4:Int)=1 by decide)⟩
     ·cases hq:wM (b::t) with
      | nil=>exact absurd hq hs
      | cons x y=>simp
     ·unfold wM
      split
      ·exact length_take_le' ..
      ·simp only
       split<;>simp
theorem adj {s} (hs:s.length<=16384):∀ (n k:Nat) (out:List az),s.length+1<=n+k->k<=s.length->out.length<=k->(∀ t∈out,Zn t)->
  ∃ r,lF s n out (k:Int)=some r/\(match r with | .stop q=>q.2.bL≠0 | .next l=>l.length<=s.length/\∀ t∈l,Zn t)
 | 0,k,out,h,hk,_,_=>by omega
 | n+1,k,out,h,hk,ho,ht=>by
  rw[lF]
  by_cases hlt:k < s.length
  ·have hl:(s.drop k).length=s.length - k:=by simp
   rw[if_pos (by simpa using hlt),rl hk,obs,Vg (by intro e;have:=congrArg length e;rw[hl] at this;simp at this;omega) (by rw[hl];omega),obs]
   simp only[pA,obs]
   by_cases h0:(xQ (s.drop k)).1=0
   ·rw[if_pos (by simpa using h0)];exact⟨_,rfl,show (1:Int)≠0 by decide⟩
   ·obtain⟨h1,h2,h3⟩:=WM h0
    generalize he:(xQ (s.drop k))=q at h0 h1 h2 h3 ⊢
    rw[if_neg (by simpa using h0)]
    have go:(q.1=1->q.2.length<=20)->∃ r,((dL ((out.length:Int)+([(⟨q.1,q.2,(k:Int)⟩:az)].length:Int)) 32).bind fun u0=>
      (jW s (ah ((k:Int)+(q.2.length:Int))) s.length).bind fun y0=>(lJ y0).bind fun(y1:Int)=>lF s n (out++[(⟨q.1,q.2,(k:Int)⟩:az)]) (ah ((ah ((k:Int)+(q.2.length:Int)))+y1)))=some r/\(match r with | .stop q=>q.2.bL≠0 | .next l=>l.length<=s.length/\∀ t∈l,Zn t):=fun hq=>by
     have hw:ah ((k:Int)+(q.2.length:Int))=((k+q.2.length:Nat):Int):=by rw[w64 (by omega) (by omega)];omega
     have hkq:k+q.2.length<=s.length:=by omega
     obtain⟨m,h4,h5⟩:=OM (s:=s.drop (k+q.2.length)) (by rw[length_drop];omega)
     rw[length_drop] at h5
     have hw2:ah (((k+q.2.length:Nat):Int)+(m:Int))=((k+q.2.length+m:Nat):Int):=by rw[w64 (by omega) (by omega)];omega
     rw[ed (by simp only[length_cons,length_nil];omega),obs,hw,rl hkq,obs,h4,obs,hw2]
     refine adj hs n (k+q.2.length+m) _ (by omega) (by omega) (by rw[length_append];simp only[length_cons,length_nil];omega) fun t hm=> ?_
     rcases List.mem_append.1 hm with hm | hm
     ·exact ht t hm
     ·rw[List.mem_singleton.1 hm];exact fun e=>h3 e (hq e)
    by_cases k1:q.1=1
    ·rw[if_pos (by simpa using k1)]
     by_cases h6:q.2.length > 20
     ·rw[if_pos (by simp;omega),obs,if_pos rfl];exact⟨_,rfl,show (2:Int)≠0 by decide⟩
     ·rw[if_neg (by simp;omega),if_neg (by rw[k1];decide),obs,if_neg (by decide)];exact go fun _=>by omega
    ·rw[if_neg (by simpa using k1)]
     by_cases k2:q.1=2
     ·rw[if_pos (by simpa using k2),obs]
      cases (ji q.2).2 with
      | false=>exact⟨_,rfl,show (2:Int)≠0 by decide⟩
      | true=>rw[if_neg (by decide)];exact go fun e=>absurd e k1
     ·rw[if_neg (by simpa using k2),obs,if_neg (by decide)];exact go fun e=>absurd e k1
  ·rw[if_neg (by simpa using hlt)];exact⟨_,rfl,by omega,ht⟩
structure TK (l:List az):Prop where
 n:l.length<=20000
 t:∀ t∈l,Zn t
theorem ZJ {s} (hs:s.length<=16384):∃ l f,tI s=some (l,f)/\(f.bL=0->TK l/\l.length<=s.length+1):=by
 obtain⟨m,h1,h2⟩:=OM (s:=s) (by omega)
 obtain⟨r,h3,h4⟩:=adj hs ((((s.length:Int):Int) - ((m:Int))).toNat+1) m [] (by omega) h2 (by simp) (fun t h=>by cases h)
 unfold tI
 rw[if_neg (by simp;omega),h1,obs,h3,obs]
 match r,h4 with
 | .stop q,h4=>rw[Nu];exact⟨q.1,q.2,rfl,fun e=>absurd e h4⟩
 | .next l,h4=>
  refine⟨l++[⟨0,[],(s.length:Int)⟩],aK,?_,fun _=>⟨⟨by rw[length_append];simp only[length_cons,length_nil];omega,fun t hm=> ?_⟩,by rw[length_append];simp only[length_cons,length_nil];omega⟩⟩
  ·rw[uW,ed (by simp only[length_cons,length_nil];omega),obs]
  ·rcases List.mem_append.1 hm with hm | hm
   ·exact h4.2 t hm
   ·rw[List.mem_singleton.1 hm];exact fun e=>absurd e (show ¬ (0:Int)=1 by decide)
def ws {α:Type} (o:Option α) (P:α->Prop):Prop:=∃ r,o=some r/\P r
theorem gl {α β:Type} {o:Option α} {f:α->Option β} {P:β->Prop} {Q:α->Prop} (h:ws o Q) (k:∀ r,Q r->ws (f r) P):ws (o.bind f) P:=by
 obtain⟨r,h1,h2⟩:=h
 rw[h1,obs];exact k r h2
theorem cu {α:Type} {a:α} {P:α->Prop} (h:P a):ws (some a) P:=⟨a,rfl,h⟩
theorem cR {α:Type} {c:Prop} [Decidable c] {x y:Option α} {P:α->Prop} (h1:c->ws x P) (h2:¬ c->ws y P):ws (if c then x else y) P:=by
 split
 ·exact h1 ‹_›
 ·exact h2 ‹_›
theorem wW {α:Type} {o:Option α} {P Q:α->Prop} (h:ws o P) (k:∀ r,P r->Q r):ws o Q:=by
 obtain⟨r,h1,h2⟩:=h
 exact⟨r,h1,k r h2⟩
theorem uL {α:Type} {o:Option α} {P:α->Prop} (h:ws o P):ws (o.bind fun y=>some y) P:=gl h fun _ q=>cu q
def tkS (l:List az) (i:Nat):az:=if h:i < l.length then l[i] else⟨0,[],(l.getLast?.map (·.fAt)).getD 0⟩
theorem pa {l} (hl:l.length<=20000) (i:Nat):dl l (i:Int)=some (tkS l i):=by
 unfold dl tkS
 rw[if_pos (by simp),obs]
 by_cases h:i < l.length
 ·rw[if_pos (by simpa using h),dQ h,obs,dif_pos h]
 ·rw[if_neg (by simpa using h),dif_neg h]
  by_cases h0:l.length=0
  ·rw[if_pos (by simp[h0]),eq_nil_of_length_eq_zero h0];rfl
  ·have hw:ah ((l.length:Int) - 1)=((l.length - 1:Nat):Int):=by rw[w64 (by omega) (by omega)];omega
   rw[if_neg (by simpa using h0),hw,dQ (by omega),obs,getLast?_eq_getElem?,getElem?_eq_getElem (by omega)];rfl
theorem Cj {l i} (h:(tkS l i).aa≠0):i < l.length:=by
 unfold tkS at h
 split at h
 ·assumption
 ·exact absurd rfl h
theorem uA {l} (hl:TK l) {i} (h:(tkS l i).aa=1):db (tkS l i).bz=true/\i < l.length:=by
 have hi:i < l.length:=Cj (by rw[h];decide)
 refine⟨?_,hi⟩
 unfold tkS at h ⊢
 rw[dif_pos hi] at h ⊢
 exact hl.t _ (getElem_mem hi) h
def iT (l:List az) (i:Nat) (s:List UInt8):Bool:=isT (kt (tkS l i)) s
theorem yD (t:az) (s:List UInt8):dJ t s=some (isT (kt t) s):=oo (t:=kt t) rfl rfl s
theorem gJ {l i s} (h:iT l i s=true):i < l.length/\(tkS l i).bz=s:=by
 unfold iT isT kt at h
 split at h
 ·rename_i k
  exact⟨Cj (by simp only at k;omega),by simpa using h⟩
 ·cases h
theorem Il {l} (hl:l.length<=20000) {e:Int} (i:Nat):ws (lz e l (i:Int)) fun g=>g.fF.bL=e:=by
 unfold lz
 rw[pa hl,obs];exact cu rfl
def AtE (b:Bool) (e:au):Prop:=e.aY=[]/\e.dp=0/\((e.aa=2/\db e.ai=true)\/(e.aa=3/\e.ai=[])\/(b=true/\e.aa=4/\e.ai=[]))
theorem J4 {b e} (h:AtE b e):fS e=true/\dE e=1/\bR e=1:=by
 obtain⟨h1,h2,h3⟩:=h
 rw[zZ,Cg,qU,h1]
 refine⟨?_,rfl,rfl⟩
 unfold vV zg
 rw[h1,h2]
 rcases h3 with⟨k,n⟩ | ⟨k,n⟩ | ⟨-,k,n⟩<;>(rw[k,n];rfl)
theorem acS {k n:Int} {s:List UInt8} (hk:k=5\/k=1) (h0:0<=n) (hn:n<=999999999) (h5:k=5->n=0):fS ⟨k,n,[],[]⟩=true/\dE ⟨k,n,[],[]⟩=1/\bR ⟨k,n,[],[]⟩=1:=by
 refine⟨?_,rfl,rfl⟩
 rw[zZ]
 unfold vV zg
 rcases hk with rfl | rfl
 ·rw[h5 rfl];rfl
 ·simp only
  rw[decide_eq_true (show n >= 0 from h0),decide_eq_true hn];rfl
theorem Iu {l} (hl:TK l) (i:Nat) (hi:i<=30000) (b:Bool):ws (iI l (i:Int) b) fun g=>g.fF.bL=0->g.aq=((i+1:Nat):Int)/\i < l.length/\AtE b g.fE:=by
 unfold iI
 rw[pa hl.n,obs]
 refine cR (fun h=>cu fun _=> ?_) fun _=> ?_
 ·have:=uA hl (i:=i) (by simpa using h)
  exact⟨wN (by omega),this.2,rfl,rfl,.inl ⟨rfl,this.1⟩⟩
 ·rw[yD,obs]
  refine cR (fun h=>cu fun _=>⟨wN (by omega),(gJ h).1,rfl,rfl,.inr (.inl ⟨rfl,rfl⟩)⟩) fun _=> ?_
  have hc:(if b=true then(dJ (tkS l i) [110,117,108,108]).bind fun(y0:Bool)=>some y0 else some false:Option Bool)=some (b&&iT l i [110,117,108,108]):=by
   cases b
   ·rfl
   ·rw[if_pos rfl,yD,obs];rfl
  rw[hc,obs]
  refine cR (fun h=>cu fun _=> ?_) fun _=>uL (wW (Il hl.n i) fun r h e=>by rw[h] at e;exact absurd e (by decide))
  rw[Bool.and_eq_true] at h
  exact⟨wN (by omega),(gJ h.2).1,rfl,rfl,.inr (.inr ⟨h.1,rfl,rfl⟩)⟩
theorem Aq {l} (hl:l.length<=20000) {g} (hj:g.fF.bL=0->∃ j:Nat,g.aq=(j:Int)/\j<=30000) (s:List UInt8):ws (ky l g s) fun r=>r.fF.bL=0->g.fF.bL=0/\r.fE=g.fE/\∃ j:Nat,g.aq=(j:Int)/\r.aq=((j+1:Nat):Int)/\j < l.length:=by
 unfold ky
 refine cR (fun h=>cu fun e=>absurd e (by simpa using h)) fun h=> ?_
 have h0:g.fF.bL=0:=by simpa using h
 obtain⟨j,h1,h2⟩:=hj h0
 rw[h1,pa hl,obs,yD,obs]
 refine cR (fun _=>uL (wW (Il hl j) fun r h e=>by rw[h] at e;exact absurd e (by decide))) fun h=>cu fun _=>⟨h0,rfl,j,rfl,wN (by omega),?_⟩
 exact(gJ (l:=l) (i:=j) (s:=s) (by unfold iT;simpa using h)).1
def PE (l:List az) (i:Nat) (g:aV):Prop:=g.fF.bL=0->∃ j:Nat,g.aq=(j:Int)/\i < j/\j<=l.length/\fS g.fE=true/\dE g.fE<=20/\bR g.fE+i<=j
theorem acG {l i b g} (h:g.fF.bL=0->g.aq=((i+1:Nat):Int)/\i < l.length/\AtE b g.fE):PE l i g:=fun e=>by
 obtain⟨h1,h2,h3⟩:=h e
 obtain⟨h4,h5,h6⟩:=J4 h3
 exact⟨i+1,h1,by omega,by omega,h4,by omega,by omega⟩
theorem acR {α R S:Type} {o:Option α} {f:α->Ctl (Option R) S} {F:S->Option R} {P:R->Prop} {Q:α->Prop} (h:ws o Q) (k:∀ r,Q r->ws (Ctl.go (f r) F) P):ws (Ctl.go (eZ o f) F) P:=by
 obtain⟨r,h1,h2⟩:=h
 rw[h1,gob];exact k r h2
theorem aaQ {R S:Type} {c:Prop} [Decidable c] {x y:Ctl (Option R) S} {F:S->Option R} {P:R->Prop} (h1:c->ws (Ctl.go x F) P) (h2:¬ c->ws (Ctl.go y F) P):ws (Ctl.go (if c then x else y) F) P:=by
 split
 ·exact h1 ‹_›
 ·exact h2 ‹_›
theorem xm {l i g} (h:(g.fF.bL != 0)=true):PE l i g:=fun e=>absurd e (by simpa using h)
theorem abK {a b} (ha:AtE true a) (hb:AtE true b):fS ⟨14,0,[],[a,b]⟩=true/\dE ⟨14,0,[],[a,b]⟩=2/\bR ⟨14,0,[],[a,b]⟩=3:=by
 obtain⟨a1,a2,a3⟩:=J4 ha
 obtain⟨b1,b2,b3⟩:=J4 hb
 refine⟨?_,by simp[dE,dEL,a2,b2],by simp[bR,ct,a3,b3]⟩
 rw[zZ]
 unfold vV zg
 simp only[all_cons,all_nil,a1,b1]
 unfold vQ
 rcases ha.2.2 with⟨k,-⟩ | ⟨k,-⟩ | ⟨-,k,-⟩<;>rcases hb.2.2 with⟨q,-⟩ | ⟨q,-⟩ | ⟨-,q,-⟩<;>(rw[k,q];rfl)
theorem abc {a} (ha:AtE false a):fS ⟨13,0,[],[a]⟩=true/\dE ⟨13,0,[],[a]⟩=2/\bR ⟨13,0,[],[a]⟩=2:=by
 obtain⟨a1,a2,a3⟩:=J4 ha
 refine⟨?_,by simp[dE,dEL,a2],by simp[bR,ct,a3]⟩
 rw[zZ]
 unfold vV zg
 simp only[all_cons,all_nil,a1]
 unfold vQ
 rcases ha.2.2 with⟨k,-⟩ | ⟨k,-⟩ | ⟨k,-⟩
 ·rw[k];rfl
 ·rw[k];rfl
 ·cases k
theorem UK {l} (hl:TK l) (i:Nat) (hi:i<=l.length):ws (lv l (i:Int)) (PE l i):=by
 have hn:=hl.n
 unfold lv
 rw[pa hl.n,obs,yD,obs,wN (by omega)]
 generalize isT (kt (tkS l i)) [115,97,109,101]=two
 refine gl (Aq hl.n (fun _=>⟨i+1,rfl,by omega⟩) _) fun y0 h0=> ?_
 refine cR (fun h=>cu (xm h)) fun h=> ?_
 obtain⟨-,-,j,e1,e2,l11⟩:=h0 (by simpa using h)
 have ej:j=i+1:=by have:(j:Int)=((i+1:Nat):Int):=e1.symm;omega
 subst ej
 rw[e2]
 refine gl (Iu hl (i+1 + 1) (by omega) two) fun y1 h7=> ?_
 refine cR (fun h=>cu (xm h)) fun h=> ?_
 obtain⟨n16,l16,a16⟩:=h7 (by simpa using h)
 have fin:∀ (x:aV) (e:au) (k:Nat),x.aq=(k:Int)->i+3<=k->k<=l.length->fS e=true->dE e<=20->bR e<=3->ws ((ky l x [41]).bind fun(y2:aV)=>if((({ y2 with fE:=e }:aV).fF.bL) != 0)=true then some ({ ({ y2 with fE:=e }:aV) with fE:=({ aa:=0,dp:=0,ai:=[],aY:=[] }:au) }:aV) else some ({ y2 with fE:=e }:aV)) (PE l i):=fun x e k h1 h2 h3 h4 h5 h6=>by
  refine gl (Aq hl.n (fun _=>⟨k,h1,by omega⟩) _) fun y2 h8=> ?_
  refine cR (fun h=>cu (xm h)) fun h=>cu fun e0=> ?_
  obtain⟨-,-,j,q1,q2,q3⟩:=h8 e0
  have:(j:Int)=(k:Int):=q1.symm.trans h1
  exact⟨j+1,q2,by omega,by omega,h4,h5,by show bR e+i<=j+1;omega⟩
 cases two with
 | true=>
  rw[if_pos rfl]
  refine acR (Aq hl.n (fun _=>⟨_,n16,by omega⟩) _) fun y3 h9=> ?_
  refine aaQ (fun h=>cu (xm h)) fun h=> ?_
  obtain⟨-,-,j,q1,q2,q3⟩:=h9 (by simpa using h)
  have ej:j=i+1 + 1+1:=by have:(j:Int)=((i+1 + 1+1:Nat):Int):=q1.symm.trans n16;omega
  subst ej
  rw[q2]
  refine acR (Iu hl _ (by omega) true) fun y4 h10=> ?_
  refine aaQ (fun h=>cu (xm h)) fun h=> ?_
  obtain⟨r1,r2,r3⟩:=h10 (by simpa using h)
  obtain⟨s1,s2,s3⟩:=abK a16 r3
  exact fin y4 _ _ r1 (by omega) (by omega) s1 (by omega) (by omega)
 | false=>
  rw[if_neg (by decide)]
  obtain⟨s1,s2,s3⟩:=abc a16
  exact fin y1 _ _ n16 (by omega) (by omega) s1 (by omega) (by omega)
theorem WY {t} {L:Int} (h:btw t L≠[]):t.1≠0/\∃ k,uh (btw t L)=some k/\6<=k/\k<=11:=by
 have hk:∀ {s:List UInt8},isT t s=true->t.1≠0:=fun {s} h=>by
  unfold isT at h
  split at h
  ·omega
  ·cases h
 unfold btw at h ⊢
 split at h
 ·rw[if_pos ‹_›]
  split at h
  ·rw[if_pos ‹_›];exact⟨hk ‹_›,11,rfl,by decide,by decide⟩
  ·exact absurd rfl h
 ·rw[if_neg ‹_›]
  split at h
  ·rw[if_pos ‹_›]
   split at h
   ·rw[if_pos ‹_›];exact⟨hk ‹_›,9,rfl,by decide,by decide⟩
   ·rw[if_neg ‹_›]
    split at h
    ·rw[if_pos ‹_›];exact⟨hk ‹_›,10,rfl,by decide,by decide⟩
    ·exact absurd rfl h
  ·rw[if_neg ‹_›]
   split at h
   ·rw[if_pos ‹_›]
    split at h
    ·rw[if_pos ‹_›];exact⟨hk ‹_›,6,rfl,by decide,by decide⟩
    ·rw[if_neg ‹_›]
     split at h
     ·rw[if_pos ‹_›];exact⟨hk ‹_›,7,rfl,by decide,by decide⟩
     ·exact absurd rfl h
   ·rw[if_neg ‹_›]
    split at h
    ·rw[if_pos ‹_›];exact⟨hk ‹_›,8,rfl,by decide,by decide⟩
    ·exact absurd rfl h
theorem adS {k:Int} (hk:6<=k/\k<=11) {a b} (ha:fS a=true) (hb:fS b=true):fS ⟨k,0,[],[a,b]⟩=true/\dE ⟨k,0,[],[a,b]⟩=1+max (dE a) (dE b)/\bR ⟨k,0,[],[a,b]⟩=1+bR a+bR b:=by
 refine⟨?_,by simp[dE,dEL],by simp[bR,ct];omega⟩
 rw[zZ]
 unfold vV zg
 simp only[all_cons,all_nil,ha,hb]
 rcases rR hk with rfl | rfl | rfl | rfl | rfl | rfl<;>rfl
def PC (l:List az) (i:Nat):Ctl aV aV->Prop
 | .stop g=>PE l i g
 | .next g=>PE l i g
theorem Iv {l} (hl:TK l) {L:Int} (hL:0<=L/\L<=3) {nest:Int} {i c} (hc:∀ j:Nat,j<=l.length->ws (c l (j:Int) (L+1) nest) (PE l j)):∀ (n:Nat) (g:aV),PE l i g->(∀ j:Nat,g.fF.bL=0->g.aq=(j:Int)->l.length+1<=n+j)->1<=n->ws (eF l L nest c n g) (PC l i)
 | 0,g,hg,hf,h1=>by omega
 | n+1,g,hg,hf,h1=>by
  have hn:=hl.n
  rw[eF]
  by_cases h0:g.fF.bL=0
  ·obtain⟨j,e1,e2,e3,e4,e5,e6⟩:=hg h0
   have hf':=hf j h0 e1
   rw[if_pos (by simpa using h0),e1,JC (pa hl.n j) hL,obs,obs]
   refine cR (fun h=> ?_) fun h=>cu hg
   have hb:btw (kt (tkS l j)) L≠[]:=by simpa using h
   obtain⟨k0,k,k1,k2⟩:=WY hb
   have hlt:j < l.length:=Cj k0
   rw[wN (by omega),w64 (n:=L+1) (by omega) (by omega)]
   refine gl (hc (j+1) (by omega)) fun y hy=> ?_
   refine cR (fun h=>cu (xm h)) fun h=> ?_
   obtain⟨j2,f1,f2,f3,f4,f5,f6⟩:=hy (by simpa using h)
   obtain⟨s1,s2,s3⟩:=adS k2 e4 f4
   rw[obs,k1,obs,rr _ _ (by omega) (by omega),obs]
   refine cR (fun h=>gl (Il hl.n j) fun r hr=>cu (fun e=> ?_)) fun h=> ?_
   ·rw[hr] at e;exact absurd e (by decide)
   have hP:PE l i ⟨⟨k,0,[],[g.fE,y.fE]⟩,y.aq,aK⟩:=fun _=>⟨j2,f1,by omega,f3,s1,by have:¬ ((dE ⟨k,0,[],[g.fE,y.fE]⟩:Nat):Int) > 20:=fun q=>h (decide_eq_true q);show dE ⟨k,0,[],[g.fE,y.fE]⟩<=20;omega,by show bR ⟨k,0,[],[g.fE,y.fE]⟩+i<=j2;omega⟩
   refine cR (fun _=>cu hP) fun _=> ?_
   exact Iv hl hL hc n _ hP (fun j' _ e=>by have:(j':Int)=(j2:Int):=e.symm.trans f1;omega) (by omega)
  ·rw[if_neg (by simpa using h0),obs,if_neg (by decide)]
   exact cu hg
theorem UE (s:List UInt8) (h:(ji s).2=true):0<=(ji s).1/\(ji s).1<=999999999:=by
 unfold ji at h ⊢
 split at h
 ·cases h
 ·rw[if_neg ‹_›]
  rename_i h9
  split at h
  ·cases h
  ·rw[if_neg ‹_›]
   cases hn:wY s 0 with
   | none=>rw[hn] at h;cases h
   | some r=>
    have h1:=RN s 0 r hn
    have h2:(10:Nat) ^ s.length<=10 ^ 9:=Nat.pow_le_pow_right (by decide) (by omega)
    simp only
    omega
theorem Nn {l} (hl:TK l):∀ f:Nat,(∀ i L nest:Nat,i<=l.length->L<=4->nest<=20->6 * (20 - nest)+6<=f+L->ws (dq f l (i:Int) (L:Int) (nest:Int)) (PE l i))/\(∀ i nest:Nat,i<=l.length->nest<=20->6 * (20 - nest)+1<=f->ws (ia f l (i:Int) (nest:Int)) (PE l i))
 | 0=>⟨fun i L nest _ _ _ _=>by omega,fun i nest _ _ _=>by omega⟩
 | f+1=>by
  have hn:=hl.n
  obtain⟨ih1,ih2⟩:=Nn hl f
  refine⟨fun i L nest hi hL hN hf=> ?_,fun i nest hi hN hf=> ?_⟩
  ·rw[dq]
   refine cR (fun h=>uL (ih2 i nest hi hN ?_)) fun h=> ?_
   ·have:(L:Int)=4:=by simpa using h
    omega
   ·have h4:¬ (L:Int)=4:=by simpa using h
    have hw:ah ((L:Int)+1)=((L+1:Nat):Int):=wN (by omega)
    rw[hw]
    refine gl (ih1 i (L+1) nest hi (by omega) hN (by omega)) fun y6 h6=> ?_
    refine gl (Iv hl (i:=i) (by omega) (fun j hj=>ih1 j (L+1) nest hj (by omega) hN (by omega)) _ y6 h6 (fun j e1 e2=>by omega) (by omega)) fun r hr=> ?_
    cases r with
    | stop g=>exact cu hr
    | next g=>exact cu hr
  ·rw[ia,pa hl.n,obs]
   simp only[yD,obs,pA]
   generalize hP:isT (kt (tkS l i)) [40]=P
   generalize hQ:isT (kt (tkS l i)) [33]=Q
   have hlt:∀ {s:List UInt8},isT (kt (tkS l i)) s=true->i < l.length:=fun h=>(gJ h).1
   have hw:ah ((nest:Int)+1)=((nest+1:Nat):Int):=wN (by omega)
   refine gl (Q:=fun x=>x=((P||Q)&&(nest:Int)==20)) (by cases P<;>cases Q<;>exact cu (by simp)) fun x hx=> ?_
   refine cR (fun h=>uL (wW (Il hl.n i) fun r h e=>by rw[h] at e;exact absurd e (by decide))) fun hx0=> ?_
   rw[hx] at hx0
   refine cR (fun hp=> ?_) fun hp=> ?_
   ·subst hp
    have:¬ (nest:Int)=20:=by simpa using hx0
    have hi2:=hlt hP
    rw[wN (by omega),hw]
    refine gl (ih1 (i+1) 0 (nest+1) (by omega) (by omega) (by omega) (by omega)) fun y hy=>uL ?_
    refine wW (Aq hl.n (fun e=>by obtain⟨j,q1,q2,q3,-⟩:=hy e;exact⟨j,q1,by omega⟩) _) fun r hr e=> ?_
    obtain⟨e0,e1,j,e2,e3,e4⟩:=hr e
    obtain⟨j',q1,q2,q3,q4,q5,q6⟩:=hy e0
    have:(j':Int)=(j:Int):=q1.symm.trans e2
    rw[e1]
    exact⟨j+1,e3,by omega,by omega,q4,q5,by omega⟩
   ·refine cR (fun hq=> ?_) fun hq=> ?_
    ·subst hq
     have:¬ (nest:Int)=20:=by simpa using hx0
     have hi2:=hlt hQ
     rw[wN (by omega),hw]
     refine gl (ih2 (i+1) (nest+1) (by omega) (by omega) (by omega)) fun y hy=> ?_
     refine cR (fun h=>cu (xm h)) fun h=> ?_
     obtain⟨j,q1,q2,q3,q4,q5,q6⟩:=hy (by simpa using h)
     have m1:bR ⟨12,0,[],[y.fE]⟩=1+bR y.fE:=by simp[bR,ct]
     have m2:dE ⟨12,0,[],[y.fE]⟩=1+dE y.fE:=by simp[dE,dEL]
     have m3:fS ⟨12,0,[],[y.fE]⟩=true:=by
      rw[zZ]
      unfold vV zg
      simp only[all_cons,all_nil,q4];rfl
     rw[rr _ _ (by omega) (by omega),obs]
     refine cR (fun h=>uL (wW (Il hl.n i) fun r h e=>by rw[h] at e;exact absurd e (by decide))) fun h=>cu fun _=> ?_
     exact⟨j,q1,by omega,q3,m3,by have:¬ ((dE ⟨12,0,[],[y.fE]⟩:Nat):Int) > 20:=fun q=>h (decide_eq_true q);show dE ⟨12,0,[],[y.fE]⟩<=20;omega,by show bR ⟨12,0,[],[y.fE]⟩+i<=j;omega⟩
    ·refine gl (Q:=fun _=>True) (by cases isT (kt (tkS l i)) [110,105,108]<;>exact cu trivial) fun x _=> ?_
     refine cR (fun _=>uL (UK hl i hi)) fun _=> ?_
     refine cR (fun h=>cu fun _=> ?_) fun _=> ?_
     ·obtain⟨s1,s2,s3⟩:=acS (k:=5) (n:=0) (s:=[]) (.inl rfl) (by decide) (by decide) (fun _=>rfl)
      have:=hlt h
      exact⟨i+1,wN (by omega),by omega,by omega,s1,by rw[s2];omega,by rw[s3];omega⟩
     ·refine gl (Q:=fun x=>x=true->(tkS l i).aa=2/\(ji (tkS l i).bz).2=true) ?_ fun x hx=> ?_
      ·refine cR (fun h=>cu fun e=>⟨by simpa using h,e⟩) fun _=>cu fun e=>by cases e
      ·refine cR (fun h=>cu fun _=> ?_) fun _=>uL (wW (Iu hl i (by omega) true) fun r hr=>acG hr)
       obtain⟨h1,h2⟩:=hx h
       have h3:=UE (tkS l i).bz h2
       obtain⟨s1,s2,s3⟩:=acS (k:=1) (n:=(ji (tkS l i).bz).1) (s:=[]) (.inr rfl) h3.1 h3.2 (fun e=>absurd e (by decide))
       have:=Cj (l:=l) (i:=i) (by rw[h1];decide)
       exact⟨i+1,wN (by omega),by omega,by omega,s1,by rw[s2];omega,by rw[s3];omega⟩
theorem uo {l} (hl:TK l) (i:Nat) (hi:i<=l.length):ws (jQ l (i:Int)) (PE l i):=by
 unfold jQ
 refine gl ((Nn hl 200).1 i 0 0 hi (by omega) (by omega) (by omega)) fun y hy=> ?_
 exact cR (fun h=>cu (xm (g:=⟨bT,0,y.fF⟩) h)) fun _=>cu hy
def wk {R S:Type} (c:Ctl (Option R) S) (P:R->Prop) (Q:S->Prop):Prop:=match c with
 | .stop o=>ws o P
 | .next s=>Q s
theorem C8 {R S:Type} {c:Prop} [Decidable c] {x y:Ctl (Option R) S} {P:R->Prop} {Q:S->Prop} (h1:c->wk x P Q) (h2:¬ c->wk y P Q):wk (if c then x else y) P Q:=by
 split
 ·exact h1 ‹_›
 ·exact h2 ‹_›
theorem Oo {α R S:Type} {o:Option α} {f:α->Ctl (Option R) S} {P:R->Prop} {Q:S->Prop} {T:α->Prop} (h:ws o T) (k:∀ r,T r->wk (f r) P Q):wk (eZ o f) P Q:=by
 obtain⟨r,h1,h2⟩:=h
 rw[h1,gob];exact k r h2
theorem Od {R S:Type} {c:Ctl (Option R) S} {F:S->Option R} {P:R->Prop} {Q:S->Prop} (h:wk c P Q) (k:∀ s,Q s->ws (F s) P):ws (Ctl.go c F) P:=by
 cases c with
 | stop o=>exact h
 | next s=>exact k s h
theorem zz {l} (hl:l.length<=20000) {e:Int} (i:Nat):ws (gD e l (i:Int)) fun g=>g.fF.bL=e:=by
 unfold gD
 rw[pa hl,obs];exact cu rfl
theorem PY (t:az):iv t=some ⟨sK (kt t),0⟩:=DP (t:=kt t) rfl rfl
theorem Nk {t s} (h:isT t s=true):t.1=3\/t.1=4:=by
 unfold isT at h
 split at h
 ·assumption
 ·cases h
theorem Pa (t:KT):sK t=0\/((t.1=3\/t.1=4)/\(sK t=1\/sK t=2\/sK t=4\/sK t=5\/sK t=6)):=by
 unfold sK
 split
 ·exact .inr ⟨Nk ‹_›,.inl rfl⟩
 split
 ·exact .inr ⟨Nk ‹_›,.inr (.inl rfl)⟩
 split
 ·exact .inr ⟨Nk ‹_›,.inr (.inr (.inl rfl))⟩
 split
 ·exact .inr ⟨Nk ‹_›,.inr (.inr (.inr (.inl rfl)))⟩
 split
 ·exact .inr ⟨Nk ‹_›,.inr (.inr (.inr (.inr rfl)))⟩
 ·exact .inl rfl
theorem S7 {k m:Int} (h:k=1\/k=2\/k=4\/k=5\/k=6):lQ ⟨k,0⟩ m=true:=by rcases h with rfl | rfl | rfl | rfl | rfl<;>rfl
theorem Xi {n m:Int} (h:1<=n/\n<=m):lQ ⟨3,n⟩ m=true:=by
 unfold lQ
 rw[if_pos rfl,decide_eq_true (show 0 < n by omega),decide_eq_true h.2];rfl
theorem aaH {s ps} (hl:ps.length<=1000):∀ (n k:Nat),ps.length+1<=n+k->k<=ps.length->ws (lU s ps n (k:Int)) fun r=>match r with | .stop v=>1<=v/\v<=(ps.length:Int) | .next _=>True
 | 0,k,h,hk=>by omega
 | n+1,k,h,hk=>by
  rw[lU]
  refine cR (fun h=> ?_) fun _=>cu trivial
  have hlt:k < ps.length:=by simpa using h
  rw[dQ hlt,obs,wN (by omega)]
  exact cR (fun _=>cu ⟨by omega,by omega⟩) fun _=>aaH hl n (k+1) (by omega) (by omega)
theorem JK (t:az) {ps} (hl:ps.length<=1000):ws (jG t ps) fun o=>o.aa=0\/∃ n,o=⟨3,n⟩/\1<=n/\n<=(ps.length:Int):=by
 unfold jG uv
 refine gl (Q:=fun n=>n=0\/1<=n/\n<=(ps.length:Int)) (gl (aaH hl _ 0 (by rw[kF];omega) (by omega)) fun r hr=> ?_) fun n hn=> ?_
 ·match r,hr with
  | .stop v,hr=>exact cu (.inr hr)
  | .next _,_=>exact cu (.inl rfl)
 ·refine cR (fun _=>cu (.inl rfl)) fun h=>cu (.inr ⟨n,rfl,hn.resolve_left (by simpa using h)⟩)
def OwR (ps:List (List UInt8)) (o:aF):Prop:=lQ o (ps.length:Int)=true/\o.aa≠7/\o.aa≠6
def POw (l:List az) (ps:List (List UInt8)) (i:Nat) (g:ce):Prop:=g.fF.bL=0->∃ j:Nat,g.aq=(j:Int)/\i < j/\j<=l.length/\1<=g.fL.length/\g.fL.length<=3/\∀ o∈g.fL,OwR ps o
theorem RZ {l} (hl:TK l) {ps} (hp:ps.length<=1000) {i0}:∀ (n i:Nat) (out:List aF),i0<=i->i < l.length->l.length+1<=n+i->out.length<=3->(∀ o∈out,OwR ps o)->ws (kc l ps n (i:Int) out) fun r=>∃ g,r= .stop g/\POw l ps i0 g
 | 0,i,out,h0,h1,h2,h3,h4=>by omega
 | n+1,i,out,h0,h1,h2,h3,h4=>by
  have hn:=hl.n
  have er:∀ {e:Int} {k:Nat},e≠0->ws ((gD e l (k:Int)).bind fun y=>some (Ctl.stop y:Ctl ce Unit)) fun r=>∃ g,r= .stop g/\POw l ps i0 g:=fun he=>gl (zz hn _) fun r hr=>cu ⟨r,rfl,fun e=>absurd (hr.symm.trans e) he⟩
  rw[kc,wN (by omega),pa hn,obs,PY,obs,wN (by omega),pa hn]
  refine Od (Q:=fun o=>(o.aa=0\/o.aa=6)\/(i+1 < l.length/\OwR ps o)) (C8 (fun hk=>Oo (JK _ hp) fun o ho=>C8 (fun _=>Oo (zz hn _) fun r hr=> ?_) fun h=> ?_) fun _=> ?_) fun o ho=> ?_
  ·exact cu ⟨r,rfl,fun e=>absurd (hr.symm.trans e) (by decide)⟩
  ·obtain⟨k,e,h5⟩:=ho.resolve_left (by simpa using h)
   subst e
   exact .inr ⟨Cj (by have h1:(tkS l (i+1)).aa=1:=(by simpa using hk);omega),Xi h5,show (3:Int)≠7 by decide,show (3:Int)≠6 by decide⟩
  ·rcases Pa (kt (tkS l (i+1))) with h | ⟨h,h5⟩
   ·exact .inl (.inl h)
   ·by_cases h6:sK (kt (tkS l (i+1)))=6
    ·exact .inl (.inr h6)
    ·refine .inr ⟨Cj (by unfold kt at h;simp only at h;omega),S7 h5,?_,h6⟩
     simp only;omega
  ·refine gl (Q:=fun b=>b=false->i+1 < l.length/\OwR ps o) (cR (fun _=>cu fun e=>by cases e) fun h0=>cu fun h6=>ho.resolve_left ?_) fun b hb=> ?_
   ·rintro (h | h)
    ·exact h0 (by simpa using h)
    ·rw[h] at h6;exact absurd h6 (by decide)
   ·refine cR (fun _=>er (by decide)) fun hb0=> ?_
    obtain⟨h5,h6⟩:=hb (by simpa using hb0)
    refine cR (fun _=>er (by decide)) fun h7=> ?_
    have h8:out.length<=2:=by
     have:¬ (out.length:Int)=3:=by simpa using h7
     omega
    have ho2:∀ x∈out++[o],OwR ps x:=fun x hx=>by
     rcases List.mem_append.1 hx with hx | hx
     ·exact h4 x hx
     ·rw[List.mem_singleton.1 hx];exact h6
    have hlen:(out++[o]).length=out.length+1:=by simp
    rw[ed (by simp only[length_cons,length_nil];omega),obs,obs,yD,obs,wN (by omega)]
    refine cR (fun h=>cu ⟨_,rfl,fun _=>⟨i+1 + 1+1,rfl,by omega,by have:=(gJ h).1;omega,by simp only;omega,by simp only;omega,ho2⟩⟩) fun _=> ?_
    rw[obs,yD,obs]
    refine cR (fun _=>er (by decide)) fun h=> ?_
    have:=(gJ (l:=l) (i:=i+1 + 1) (s:=[44]) (by unfold iT;simpa using h)).1
    exact RZ hl hp n (i+1 + 1) _ (by omega) this (by omega) (by omega) ho2
theorem GK {l} (hl:TK l) {ps} (hp:ps.length<=1000) (i:Nat):ws (lm l (i:Int) ps) (POw l ps i):=by
 unfold lm
 rw[pa hl.n,obs,yD,obs]
 refine cR (fun _=>uL (wW (zz hl.n i) fun r h e=>absurd (h.symm.trans e) (by decide))) fun h=> ?_
 have:=(gJ (l:=l) (i:=i) (s:=[60]) (by unfold iT;simpa using h)).1
 refine gl (RZ hl hp _ i [] (Nat.le_refl _) this (by omega) (by simp) (fun o h=>by cases h)) fun r hr=> ?_
 obtain⟨g,rfl,hg⟩:=hr
 exact cu hg
def mkT (cl:List UInt8) (o:aF) (L:List aF):cd:=⟨2,cl,(L.length:Int),⟨o,(L[0]?).getD av,(L[1]?).getD av,(L[2]?).getD av⟩⟩
theorem acx {cl o L ps} (hc:db cl=true) (ho:lQ o (ps.length:Int)=true/\(o.aa=7->o.fN=0)) (hL:L.length<=3) (h:∀ x∈L,OwR ps x):wrS (mkT cl o L) (ps.length:Int)=true:=by
 have h7:(!decide (o.aa=7)||decide (o.fN=0))=true:=by
  by_cases e:o.aa=7
  ·rw[decide_eq_true (ho.2 e)];simp
  ·rw[decide_eq_false e];rfl
 match L,hL with
 | [],_=>
  unfold wrS qX mkT
  simp only[if_neg (show ¬ ((2:Int)=0\/(2:Int)=1) by decide),hc,h7]
  simp[own,xx,ho.1,A4.l,av,kO]
 | [a],_=>
  have ha:=h a (by simp)
  unfold wrS qX mkT
  simp only[if_neg (show ¬ ((2:Int)=0\/(2:Int)=1) by decide),hc,h7]
  simp[own,xx,ho.1,A4.l,av,kO,ha.1,ha.2.1,ha.2.2]
 | [a,b],_=>
  have ha:=h a (by simp)
  have hb:=h b (by simp)
  unfold wrS qX mkT
  simp only[if_neg (show ¬ ((2:Int)=0\/(2:Int)=1) by decide),hc,h7]
  simp[own,xx,ho.1,A4.l,av,kO,ha.1,ha.2.1,ha.2.2,hb.1,hb.2.1,hb.2.2]
 | [a,b,c],_=>
  have ha:=h a (by simp)
  have hb:=h b (by simp)
  have hd:=h c (by simp)
  unfold wrS qX mkT
  simp only[if_neg (show ¬ ((2:Int)=0\/(2:Int)=1) by decide),hc,h7]
  simp[own,xx,ho.1,A4.l,av,kO,ha.1,ha.2.1,ha.2.2,hb.1,hb.2.1,hb.2.2,hd.1,hd.2.1,hd.2.2]
theorem UX {L} (hL:L.length<=3) (T:cd) (V:dr) (k:Int) (f:dV) (cl:List UInt8) (o:aF):qD ⟨L,T,V,k,f⟩ ((((L.length:Int):Int) - (0)).toNat+1) ⟨2,cl,(L.length:Int),⟨o,av,av,av⟩⟩ 0=some (mkT cl o L):=by
 match L,hL with
 | [],_=>rfl
 | [a],_=>rfl
 | [a,b],_=>rfl
 | [a,b,c],_=>rfl
def PT (l:List az) (ps:List (List UInt8)) (i:Nat) (g:ce):Prop:=g.fF.bL=0->∃ j:Nat,g.aq=(j:Int)/\i < j/\j<=l.length/\wrS g.fT (ps.length:Int)=true
theorem UF {l} (hl:l.length<=20000) (i:Nat) (hi:i<=30000) (b:Bool):ws (li l (i:Int) b) fun _=>True:=by
 have hw:ah ((i:Int)+2)=((i+1 + 1:Nat):Int):=w2 (by omega)
 unfold li
 rw[wN (by omega),hw,pa hl,obs,pa hl,obs]
 simp only[yD,obs]
 refine cR (fun _=>cR (fun _=>cu trivial) fun _=>cR (fun _=>cu trivial) fun _=>cR (fun _=>cu trivial) fun _=>cR (fun _=>cu trivial) fun _=>cu trivial) fun _=>cu trivial
theorem zp {l} (hl:TK l) {ps} (hp:ps.length<=1000) (i:Nat) (hi:i<=l.length) (b:Bool):ws (jM l (i:Int) ps b) (PT l ps i):=by
 have hn:=hl.n
 have w1:ah ((i:Int)+1)=((i+1:Nat):Int):=wN (by omega)
 unfold jM
 rw[pa hn,obs,yD,obs,yD,PY,w1]
 refine cR (fun h=>cu fun _=>⟨i+1,rfl,by omega,by have:=(gJ h).1;omega,rfl⟩) fun _=> ?_
 rw[obs]
 refine cR (fun h=>cu fun _=>⟨i+1,rfl,by omega,by have:=(gJ h).1;omega,rfl⟩) fun _=> ?_
 refine Od (Q:=fun s=>∃ (k:Nat) (o:aF),s=((k:Int),⟨2,[],0,⟨o,av,av,av⟩⟩)/\i<=k/\k<=l.length/\lQ o (ps.length:Int)=true/\(o.aa=7->o.fN=0)) ?_ fun s hs=> ?_
 ·rw[gob]
  refine C8 (fun h=> ?_) fun _=> ?_
  ·rw[gob]
   rcases Pa (kt (tkS l i)) with h0 | ⟨h1,h2⟩
   ·exact absurd h0 (by simpa using h)
   ·have:i < l.length:=Cj (by unfold kt at h1;simp only at h1;omega)
    exact⟨i+1,⟨sK (kt (tkS l i)),0⟩,rfl,by omega,by omega,S7 h2,fun _=>rfl⟩
  ·refine Oo (T:=fun b=>b=true->(tkS l i).aa=1) (cR (fun h=>gl (UF hn i (by omega) b) fun r _=>cu fun _=>by simpa using h) fun _=>cu fun e=>by cases e) fun r hr=> ?_
   refine C8 (fun h=>Oo (JK _ hp) fun o ho=>C8 (fun _=>Oo (zz hn i) fun r hr=>cu fun e=>absurd (hr.symm.trans e) (by decide)) fun h2=> ?_) fun _=> ?_
   ·obtain⟨k,e,h5⟩:=ho.resolve_left (by simpa using h2)
    subst e
    have:i < l.length:=Cj (by rw[hr h];decide)
    exact⟨i+1,⟨3,k⟩,rfl,by omega,by omega,Xi h5,fun e=>absurd e (show ¬ (3:Int)=7 by decide)⟩
   ·exact⟨i,⟨7,0⟩,rfl,Nat.le_refl _,hi,rfl,fun _=>rfl⟩
 ·obtain⟨k,o,rfl,h1,h2,h3,h4⟩:=hs
  simp only
  rw[pa hn,obs]
  refine cR (fun _=>uL (wW (zz hn k) fun r h e=>absurd (h.symm.trans e) (by decide))) fun h=> ?_
  obtain⟨n1,n2⟩:=uA hl (i:=k) (by simpa using h)
  rw[wN (by omega),pa hn,obs,yD,obs]
  refine cR (fun _=>cu fun _=>⟨k+1,rfl,by omega,by omega,acx (L:=[]) n1 ⟨h3,h4⟩ (by simp) (fun x h=>by cases h)⟩) fun _=> ?_
  refine gl (GK hl hp (k+1)) fun y hy=> ?_
  refine cR (fun h=>cu fun e=>absurd e (by simpa using h)) fun h=> ?_
  obtain⟨j,e1,e2,e3,e4,e5,e6⟩:=hy (by simpa using h)
  obtain⟨L,T,V,N,F⟩:=y
  rw[UX e5,obs]
  exact cu fun _=>⟨j,e1,by omega,e3,acx n1 ⟨h3,h4⟩ e5 e6⟩
def PV7 (l:List az) (ps:List (List UInt8)) (i:Nat) (g:ce):Prop:=g.fF.bL=0->∃ j:Nat,g.aq=(j:Int)/\i < j/\j<=l.length/\yC (ps.length:Int) g.fV=true
theorem Ub {l} (hl:TK l) {ps} (hp:ps.length<=1000) (i:Nat) (hi:i<=l.length):ws (pW l (i:Int) ps) (PV7 l ps i):=by
 have hn:=hl.n
 unfold pW
 refine gl (zp hl hp i hi true) fun y hy=> ?_
 refine cR (fun h=>cu fun e=>absurd e (by simpa using h)) fun h=> ?_
 obtain⟨j,e1,e2,e3,e4⟩:=hy (by simpa using h)
 refine cR (fun _=>uL (wW (zz hn i) fun r h e=>absurd (h.symm.trans e) (by decide))) fun h0=> ?_
 rw[e1,pa hn,obs]
 refine cR (fun _=>uL (wW (zz hn j) fun r h e=>absurd (h.symm.trans e) (by decide))) fun h1=> ?_
 obtain⟨n1,n2⟩:=uA hl (i:=j) (by simpa using h1)
 rw[pa hn,obs,wN (by omega)]
 refine cu fun _=>⟨j+1,rfl,by omega,by omega,?_⟩
 unfold yC
 simp only
 rw[n1,e4,decide_eq_false (by simpa using h0)];rfl
theorem AI {l} (hl:l.length<=20000) (i:Nat):ew l (i:Int)=some (tkS l i):=by unfold ew;rw[pa hl,obs]
theorem xb {l} (hl:l.length<=20000) (i:Nat) (s:List UInt8):du l (i:Int) s=some (iT l i s):=by unfold du;rw[AI hl,obs,yD,obs];rfl
theorem RK {l} (hl:l.length<=20000) {e:Int} (i:Nat):ws (dR e l (i:Int)) fun g=>g.fF.bL=e:=by
 unfold dR
 rw[AI hl,obs];exact cu rfl
theorem Vm {l} (hl:l.length<=20000) (i:Nat):mI l (i:Int)=some ((tkS l i).aa==1||iT l i [116,104,105,115]):=by
 unfold mI
 rw[AI hl,obs,xb hl,obs]
 cases (tkS l i).aa==1<;>rfl
theorem er8 {l:List az} (hl:l.length<=20000) {e:Int} {i:Nat} {P:bn->Prop} (he:e≠0) (h:∀ g:bn,g.fF.bL≠0->P g):ws ((dR e l (i:Int)).bind fun y=>some y) P:=uL (wW (RK hl i) fun r hr=>h r (by rw[hr];exact he))
theorem R8 : ∀ a b:List au,ct (a++b)=ct a+ct b
 | [],b=>by simp[ct]
 | x::a,b=>by rw[cons_append,ct,ct,R8 a b,Nat.add_assoc]
theorem Li : ∀ a b:List ap,cb (a++b)=cb a+cb b
 | [],b=>by simp[cb]
 | x::a,b=>by rw[cons_append,cb,cb,Li a b,Nat.add_assoc]
theorem tA {e} (h1:fS e=true) (h2:dE e<=20):fq e=true:=by unfold fq;rw[decide_eq_true h2,h1];rfl
def PA (l:List az) (i:Nat) (g:bn):Prop:=g.fF.bL=0->∃ j:Nat,g.aq=(j:Int)/\i < j/\j<=l.length/\g.fA.length<=5/\g.fA.all fq=true/\ct g.fA+i + 2<=j
theorem aaG {l} (hl:TK l) {i0}:∀ (n i:Nat) (out:List au),ct out+i0+1<=i->i<=l.length->l.length+1<=n+i->out.length<=5->out.all fq=true->ws (ma l n (i:Int) out) fun r=>∃ g,r= .stop g/\PA l i0 g
 | 0,i,out,h0,h1,h2,h3,h4=>by omega
 | n+1,i,out,h0,h1,h2,h3,h4=>by
  have hn:=hl.n
  have er:∀ {e:Int} {k:Nat},e≠0->ws ((dR e l (k:Int)).bind fun y=>some (Ctl.stop y:Ctl bn Unit)) fun r=>∃ g,r= .stop g/\PA l i0 g:=fun he=>gl (RK hn _) fun r hr=>cu ⟨r,rfl,fun e=>absurd (hr.symm.trans e) he⟩
  rw[ma]
  refine cR (fun _=>er (by decide)) fun h5=> ?_
  refine gl (uo hl i h1) fun y hy=> ?_
  refine cR (fun h=>cu ⟨_,rfl,fun e=>absurd e (by simpa using h)⟩) fun h=> ?_
  obtain⟨j,e1,e2,e3,e4,e5,e6⟩:=hy (by simpa using h)
  have h6:out.length<=4:=by
   have:¬ (out.length:Int)=5:=by simpa using h5
   omega
  have hlen:(out++[y.fE]).length=out.length+1:=by simp
  have hm:ct (out++[y.fE])=ct out+bR y.fE:=by rw[R8];simp[ct]
  have ha:(out++[y.fE]).all fq=true:=by rw[all_append,h4];simp[tA e4 e5]
  rw[ed (by simp only[length_cons,length_nil];omega),obs,e1,xb hn,obs,wN (by omega)]
  refine cR (fun h=>cu ⟨_,rfl,fun _=>⟨j+1,rfl,by omega,by have:=(gJ h).1;omega,by simp only;omega,ha,by simp only;omega⟩⟩) fun _=> ?_
  rw[xb hn,obs]
  refine cR (fun _=>er (by decide)) fun h=> ?_
  have:=(gJ (l:=l) (i:=j) (s:=[44]) (by simpa using h)).1
  exact aaG hl n (j+1) _ (by omega) (by omega) (by omega) (by omega) ha
theorem Yd {l} (hl:TK l) (i:Nat) (hi:i < l.length):ws (pD l (i:Int)) (PA l i):=by
 have hn:=hl.n
 unfold pD
 rw[wN (by omega),xb hn,obs,wN (by omega)]
 refine cR (fun h=>cu fun _=>⟨i+1 + 1,rfl,by omega,by have:=(gJ h).1;omega,by simp,rfl,by simp[ct]⟩) fun _=> ?_
 refine gl (aaG hl (i0:=i) _ (i+1) [] (by simp[ct]) (by omega) (by omega) (by simp) rfl) fun r hr=> ?_
 obtain⟨g,rfl,hg⟩:=hr
 exact cu hg
theorem WQ {l} (hl:TK l) (i:Nat) (hi:i<=l.length) (s:ap):ws (gY l (i:Int) s) fun g=>g.fF.bL=0->g.aq=((i+1:Nat):Int)/\i < l.length/\g.fS=s:=by
 have hn:=hl.n
 unfold gY
 rw[xb hn,obs,wN (by omega)]
 refine cR (fun _=>er8 hn (by decide) fun g h e=>absurd e h) fun h=>cu fun _=>⟨rfl,?_,rfl⟩
 exact(gJ (l:=l) (i:=i) (s:=[59]) (by simpa using h)).1
def SO (m:Int) (s:ap):Prop:=ur m s=true/\s.aC=[]/\s.bQ=[]/\(s.aJ.aa=2->wrS s.aJ m=true)
def PO8 (l:List az) (m:Int) (i:Nat) (g:bn):Prop:=g.fF.bL=0->∃ j:Nat,g.aq=(j:Int)/\i < j/\j<=l.length/\SO m g.fS/\cf g.fS+i<=j
theorem Aj {l} {m:Int} {i} (g:bn) (h:g.fF.bL≠0):PO8 l m i g:=fun e=>absurd e h
theorem Mj {l} (hl:TK l) {m:Int} {i k} (hk:k<=l.length) (hik:i<=k) {s} (h:SO m s) (hm:cf s+i<=k+1):ws ((gY l (k:Int) s).bind fun y=>some y) (PO8 l m i):=uL (wW (WQ hl k hk s) fun g hg e=>by
 obtain⟨h1,h2,h3⟩:=hg e
 rw[h3]
 exact⟨k+1,h1,by omega,by omega,h,by omega⟩)
def stm (k:Int) (x y n:List UInt8) (t:cd) (e:au) (a:List au) (p:Int):ap:=⟨k,x,y,n,t,e,a,[],[],p⟩
theorem zd (k:Int) (x y n:List UInt8) (t:cd) (e:au) (a:List au) (p:Int):cf (stm k x y n t e a p)=1+bR e+ct a:=by simp[stm,cf,cb]
theorem m_z : bR bT=1:=rfl
def YN (y:List UInt8):Prop:=db y=true\/y=[116,104,105,115]
def XN (x:List UInt8):Prop:=x=[]\/db x=true
theorem YO {m:Int} {x y n a} (hx:XN x) (hy:YN y) (hn:db n=true) (h5:a.length<=5) (ha:a.all fq=true) (p:Int):SO m (stm 4 x y n cA bT a p):=by
 refine⟨?_,rfl,rfl,fun e=>absurd e (show ¬ (0:Int)=2 by decide)⟩
 unfold ur xS yS nS tS eS8 aS bS stm
 rcases hx with rfl | hx<;>rcases hy with hy | rfl<;>simp[*]<;>decide
theorem abl {m:Int} {x y n} (hx:db x=true) (hy:YN y) (hn:db n=true) (p:Int):SO m (stm 2 x y n cA bT [] p):=by
 refine⟨?_,rfl,rfl,fun e=>absurd e (show ¬ (0:Int)=2 by decide)⟩
 unfold ur xS yS nS tS eS8 aS bS stm
 rcases hy with hy | rfl<;>simp[*]<;>decide
theorem acn {m:Int} {y n e} (hy:YN y) (hn:db n=true) (he:fq e=true) (p:Int):SO m (stm 3 [] y n cA e [] p):=by
 refine⟨?_,rfl,rfl,fun e=>absurd e (show ¬ (0:Int)=2 by decide)⟩
 unfold ur xS yS nS tS eS8 aS bS stm
 rcases hy with hy | rfl<;>simp[*]<;>decide
theorem abJ {m:Int} {x e} (hx:db x=true) (he:fq e=true) (p:Int):SO m (stm 1 x [] [] cA e [] p):=by
 refine⟨?_,rfl,rfl,fun e=>absurd e (show ¬ (0:Int)=2 by decide)⟩
 unfold ur xS yS nS tS eS8 aS bS stm
 simp[*]<;>decide
theorem abd {m:Int} {x t} (hx:db x=true) (h2:t.aa=2) (ht:wrS t m=true) (p:Int):SO m (stm 5 x [] [] t bT [] p):=by
 refine⟨?_,rfl,rfl,fun _=>ht⟩
 have hk:qX t m=true:=by unfold wrS at ht;rw[Bool.and_eq_true] at ht;exact ht.1
 unfold ur xS yS nS tS eS8 aS bS stm
 simp[*]<;>decide
theorem Zg {m:Int} {x t e} (hx:db x=true) (h2:t.aa=2) (ht:wrS t m=true) (he:AtE true e) (p:Int):SO m (stm 6 x [] [] t e [] p):=by
 refine⟨?_,rfl,rfl,fun _=>ht⟩
 have hk:qX t m=true:=by unfold wrS at ht;rw[Bool.and_eq_true] at ht;exact ht.1
 obtain⟨e1,e2,-⟩:=J4 he
 have hr:=tA e1 (by omega)
 have h3:=he.2.2
 unfold ur xS yS nS tS eS8 aS bS stm
 rcases h3 with h3 | h3 | h3<;>simp[*]
theorem ZE {m:Int} {x y} (hx:db x=true) (hy:db y=true) (p:Int):SO m (stm 7 x y [] cA bT [] p):=by
 refine⟨?_,rfl,rfl,fun e=>absurd e (show ¬ (0:Int)=2 by decide)⟩
 unfold ur xS yS nS tS eS8 aS bS stm
 simp[*]<;>decide
theorem abw {m:Int} {y} (hy:db y=true) (p:Int):SO m (stm 8 [] y [] cA bT [] p):=by
 refine⟨?_,rfl,rfl,fun e=>absurd e (show ¬ (0:Int)=2 by decide)⟩
 unfold ur xS yS nS tS eS8 aS bS stm
 simp[*]<;>decide
theorem Wy {m:Int} {e} (he:e=bT\/fq e=true) (p:Int):SO m (stm 11 [] [] [] cA e [] p):=by
 refine⟨?_,rfl,rfl,fun e=>absurd e (show ¬ (0:Int)=2 by decide)⟩
 unfold ur xS yS nS tS eS8 aS bS stm
 rcases he with rfl | he
 ·rfl
 ·simp[*]<;>decide
theorem Js {l} (hl:TK l) {m:Int} {i i0} (h0:i0<=i) (hi:i < l.length) (hy:YN (tkS l i).bz) {x} (hx:XN x) (p:Int):ws (ib l (i:Int) (stm 0 x [] [] cA bT [] p)) (PO8 l m i0):=by
 have hn:=hl.n
 have e2:ah ((i:Int)+2)=((i+1 + 1:Nat):Int):=w2 (by omega)
 have e3:ah ((i:Int)+3)=((i+1 + 1+1:Nat):Int):=w3' (by omega)
 have e4:ah ((i:Int)+4)=((i+1 + 1+1 + 1:Nat):Int):=w4' (by omega)
 unfold ib
 rw[AI hn,obs,e2,AI hn,obs]
 refine cR (fun _=>er8 hn (by decide) fun g h e=>absurd e h) fun h=> ?_
 obtain⟨n1,n2⟩:=uA hl (i:=i+1 + 1) (by simpa using h)
 rw[obs,e3,xb hn,obs]
 refine cR (fun h=> ?_) fun _=> ?_
 ·refine gl (Yd hl (i+1 + 1+1) (gJ h).1) fun y hA=> ?_
  refine cR (fun h=>cu (Aj _ (by simpa using h))) fun h=> ?_
  obtain⟨j,q1,q2,q3,q4,q5,q6⟩:=hA (by simpa using h)
  rw[q1]
  exact Mj hl q3 (by omega) (YO hx hy n1 q4 q5 p) (by rw[show (({ ({ ({ ({ stm 0 x [] [] cA bT [] p with fY:=(tkS l i).bz }:ap) with ai:=(tkS l (i+1 + 1)).bz }:ap) with aa:=4 }:ap) with cO:=y.fA }:ap))=stm 4 x (tkS l i).bz (tkS l (i+1 + 1)).bz cA bT y.fA p from rfl,zd,m_z];omega)
 ·refine cR (fun h=> ?_) fun h=> ?_
  ·have hx':db x=true:=hx.resolve_left (by simpa [stm] using h)
   exact Mj hl (by omega) (by omega) (abl hx' hy n1 p) (by rw[show (({ ({ ({ stm 0 x [] [] cA bT [] p with fY:=(tkS l i).bz }:ap) with ai:=(tkS l (i+1 + 1)).bz }:ap) with aa:=2 }:ap))=stm 2 x (tkS l i).bz (tkS l (i+1 + 1)).bz cA bT [] p from rfl,zd,m_z];simp only[ct];omega)
  ·have hx':x=[]:=by simpa [stm] using h
   subst hx'
   rw[xb hn,obs]
   refine cR (fun _=>er8 hn (by decide) fun g h e=>absurd e h) fun h=> ?_
   have h5:=(gJ (l:=l) (i:=i+1 + 1+1) (s:=[61]) (by simpa using h)).1
   rw[e4]
   refine gl (uo hl (i+1 + 1+1 + 1) (by omega)) fun y hE=> ?_
   refine cR (fun h=>cu (Aj _ (by simpa using h))) fun h=> ?_
   obtain⟨j,q1,q2,q3,q4,q5,q6⟩:=hE (by simpa using h)
   rw[q1]
   exact Mj hl q3 (by omega) (acn hy n1 (tA q4 q5) p) (by rw[show (({ ({ ({ ({ stm 0 [] [] [] cA bT [] p with fY:=(tkS l i).bz }:ap) with ai:=(tkS l (i+1 + 1)).bz }:ap) with aa:=3 }:ap) with fE:=y.fE }:ap))=stm 3 [] (tkS l i).bz (tkS l (i+1 + 1)).bz cA y.fE [] p from rfl,zd];simp only[ct];omega)
theorem UH {l} (hl:TK l) {ps} (hp:ps.length<=1000) {i i0} (h0:i0+2<=i) (hi:i < l.length) {x} (hx:db x=true) (p:Int):ws (kr l (i:Int) (stm 0 x [] [] cA bT [] p) ps) (PO8 l (ps.length:Int) i0):=by
 have hn:=hl.n
 unfold kr
 rw[xb hn,obs]
 refine gl (Q:=fun s=>∃ k,(k=5\/k=6)/\s=stm k x [] [] cA bT [] p) (cR (fun _=>cu ⟨6,.inr rfl,rfl⟩) fun _=>cu ⟨5,.inl rfl,rfl⟩) fun s hs=> ?_
 obtain⟨k,hk,rfl⟩:=hs
 rw[wN (by omega)]
 refine gl (zp hl hp (i+1) (by omega) _) fun y hT=> ?_
 refine cR (fun h=>cu (Aj _ (by simpa using h))) fun h=> ?_
 obtain⟨j,q1,q2,q3,q4⟩:=hT (by simpa using h)
 refine cR (fun _=>er8 hn (by decide) fun g h e=>absurd e h) fun h2=> ?_
 have h2':y.fT.aa=2:=by simpa using h2
 rw[q1]
 refine cR (fun h5=> ?_) fun h5=> ?_
 ·have e5:k=5:=by simpa [stm] using h5
  subst e5
  exact Mj hl q3 (by omega) (abd hx h2' q4 p) (by rw[show (({ stm 5 x [] [] cA bT [] p with aJ:=y.fT }:ap))=stm 5 x [] [] y.fT bT [] p from rfl,zd,m_z];simp only[ct];omega)
 ·have e6:k=6:=hk.resolve_left (by simpa [stm] using h5)
  subst e6
  rw[AI hn,obs]
  refine Od (Q:=fun s=>∃ e,AtE true e/\s=stm 6 x [] [] y.fT e [] p/\j < l.length) (C8 (fun h=> ?_) fun _=> ?_) fun s hs=> ?_
  ·obtain⟨n1,n2⟩:=uA hl (i:=j) (by simpa using h)
   exact⟨_,⟨rfl,rfl,.inl ⟨rfl,n1⟩⟩,rfl,n2⟩
  ·rw[xb hn,gob]
   refine C8 (fun h=>⟨_,⟨rfl,rfl,.inr (.inl ⟨rfl,rfl⟩)⟩,rfl,(gJ h).1⟩) fun _=> ?_
   rw[xb hn,gob]
   refine C8 (fun h=>⟨_,⟨rfl,rfl,.inr (.inr ⟨rfl,rfl,rfl⟩)⟩,rfl,(gJ h).1⟩) fun _=> ?_
   exact Oo (RK hn j) fun r hr=>cu (Aj _ (by rw[hr];decide))
  ·obtain⟨e,he,rfl,hj⟩:=hs
   rw[wN (by omega)]
   exact Mj hl (by omega) (by omega) (Zg hx h2' q4 he p) (by rw[zd,(J4 he).2.2];simp only[ct];omega)
theorem W7 {l} (hl:TK l) {ps} (hp:ps.length<=1000) {i i0} (h0:i0+2<=i) (hi:i<=l.length) {x} (hx:db x=true) (p:Int):ws (iR l (i:Int) (stm 0 x [] [] cA bT [] p) ps) (PO8 l (ps.length:Int) i0):=by
 have hn:=hl.n
 unfold iR
 simp only[xb hn,obs,Vm hn,wN (show i<=1000000 by omega),w2 (show i<=1000000 by omega),AI hn]
 refine gl (Q:=fun b=>b=true->i < l.length) (cR (fun h=>cu fun _=>(gJ h).1) fun _=>cu fun h=>(gJ h).1) fun b hb=> ?_
 refine cR (fun h=>uL (UH hl hp h0 (hb h) hx p)) fun _=> ?_
 refine cR (fun _=> ?_) fun _=> ?_
 ·refine cR (fun _=>er8 hn (by decide) fun g h e=>absurd e h) fun h=> ?_
  obtain⟨n1,n2⟩:=uA hl (i:=i+1) (by simpa using h)
  exact Mj hl (by omega) (by omega) (ZE hx n1 p) (by rw[show (({ ({ stm 0 x [] [] cA bT [] p with aa:=7 }:ap) with fY:=(tkS l (i+1)).bz }:ap))=stm 7 x (tkS l (i+1)).bz [] cA bT [] p from rfl,zd,m_z];simp only[ct];omega)
 ·refine gl (Q:=fun b=>b=true->i < l.length/\YN (tkS l i).bz) (cR (fun h=>cu fun _=> ?_) fun _=>cu fun e=>by cases e) fun b hb=> ?_
  ·rw[Bool.or_eq_true] at h
   rcases h with h | h
   ·have:=uA hl (i:=i) (by simpa using h)
    exact⟨this.2,.inl this.1⟩
   ·have:=gJ h
    exact⟨this.1,.inr this.2⟩
  ·refine cR (fun h=>uL (Js hl (by omega) (hb h).1 (hb h).2 (.inr hx) p)) fun _=> ?_
   refine gl (uo hl i hi) fun y hE=> ?_
   refine cR (fun h=>cu (Aj _ (by simpa using h))) fun h=> ?_
   obtain⟨j,q1,q2,q3,q4,q5,q6⟩:=hE (by simpa using h)
   rw[q1]
   exact Mj hl q3 (by omega) (abJ hx (tA q4 q5) p) (by rw[show (({ ({ stm 0 x [] [] cA bT [] p with aa:=1 }:ap) with fE:=y.fE }:ap))=stm 1 x [] [] cA y.fE [] p from rfl,zd];simp only[ct];omega)
def PSt (l:List az) (m:Int) (d i:Nat) (g:bn):Prop:=g.fF.bL=0->∃ j:Nat,g.aq=(j:Int)/\i < j/\j<=l.length/\sR d m g.fS=true/\opS m g.fS=true/\cf g.fS+i<=j
theorem DX {l} {m:Int} {d i} (g:bn) (h:g.fF.bL≠0):PSt l m d i g:=fun e=>absurd e h
theorem Gh {l} {m:Int} {d i} (hd:1<=d) {g} (h:PO8 l m i g):PSt l m d i g:=fun e=>by
 obtain⟨j,h1,h2,h3,⟨h4,h5,h6,h7⟩,h8⟩:=h e
 refine⟨j,h1,h2,h3,?_,?_,h8⟩
 ·obtain⟨k,rfl⟩:∃ k,d=k+1:=⟨d - 1,by omega⟩
  rw[sR,h4,h5,h6];rfl
 ·rw[Kx,h5,h6]
  by_cases e:g.fS.aJ.aa=2
  ·rw[h7 e];simp[opL]
  ·simp[e,opL]
def PB (l:List az) (m:Int) (d i:Nat) (g:bn):Prop:=g.fF.bL=0->∃ j:Nat,g.aq=(j:Int)/\i+2<=j/\j<=l.length/\g.fL.all (sR d m)=true/\opL m g.fL=true/\cb g.fL+i + 2<=j
theorem TC (m:Int) (a b:List ap):opL m (a++b)=(opL m a&&opL m b):=by rw[ux,ux,ux,all_append]
theorem Yf {l} (hl:TK l) {ps} {nest:Int} {d i0 rec} (hr:∀ i:Nat,i<=l.length->ws (rec l (i:Int) ps nest) (PSt l (ps.length:Int) d i)):∀ (n i:Nat) (out:List ap),i<=l.length->l.length+1<=n+i->cb out+i0+1<=i->out.all (sR d (ps.length:Int))=true->opL (ps.length:Int) out=true->
  ws (jK l ps nest rec n (i:Int) out) fun r=>match r with | .stop g=>g.fF.bL≠0 | .next s=>PB l (ps.length:Int) d i0 ⟨iM,s.2,[],ah (s.1+1),aK⟩
 | 0,i,out,h1,h2,_,_,_=>by omega
 | n+1,i,out,h1,h2,h3,h4,h5=>by
  have hn:=hl.n
  have hlen:=tj out
  rw[jK,xb hn,obs]
  refine cR (fun _=> ?_) fun h=>cu fun _=> ?_
  ·refine gl (hr i h1) fun y hy=> ?_
   refine cR (fun h=>cu (by simpa using h)) fun h=> ?_
   obtain⟨j,q1,q2,q3,q4,q5,q6⟩:=hy (by simpa using h)
   have hm:cb (out++[y.fS])=cb out+cf y.fS:=by rw[Li];simp[cb]
   rw[ed (by simp only[length_cons,length_nil];omega),obs,q1]
   exact Yf hl hr n j _ q3 (by omega) (by omega) (by rw[all_append,h4];simp[q4]) (by rw[TC,h5];simp[opL,q5])
  ·have:=(gJ (l:=l) (i:=i) (s:=[125]) (by simpa using h)).1
   exact⟨i+1,wN (by omega),by omega,by omega,h4,h5,by simp only;omega⟩
theorem aay {m:Int} {d} {k:Int} (hk:k=9\/k=10) {e} (he:fq e=true) {b c} (hc:k=9\/c=[]) (hb:b.all (sR d m)=true) (hc2:c.all (sR d m)=true) (ob:opL m b=true) (oc:opL m c=true) (p:Int):
  sR (d+1) m ⟨k,[],[],[],cA,e,[],b,c,p⟩=true/\opS m ⟨k,[],[],[],cA,e,[],b,c,p⟩=true/\cf ⟨k,[],[],[],cA,e,[],b,c,p⟩=1+bR e+cb b+cb c:=by
 refine⟨?_,?_,by simp[cf,ct]⟩
 ·rw[sR,hb,hc2]
  have:ur m ⟨k,[],[],[],cA,e,[],b,c,p⟩=true:=by
   have hg:lM cA zT=true:=rfl
   unfold ur xS yS nS tS eS8 aS bS
   rcases hk with rfl | rfl
   ·simp[he,hg]
   ·have:c=[]:=hc.resolve_left (by decide)
    simp[he,hg,this]
  rw[this];rfl
 ·rw[Kx];simp only;rw[ob,oc];rfl
theorem Pd {l} (hl:TK l) {ps} (hp:ps.length<=1000):∀ f:Nat,
  (∀ i nest:Nat,i<=l.length->nest<=20->3 * (20 - nest)+1<=f->ws (dI f l (i:Int) ps (nest:Int)) (PSt l (ps.length:Int) (20 - nest) i))/\
  (∀ i nest:Nat,∀ p:Int,i < l.length->nest < 20->3 * (20 - nest)<=f->ws (kI f l (i:Int) (stm 0 [] [] [] cA bT [] p) ps (nest:Int)) (PSt l (ps.length:Int) (20 - nest) i))/\
  (∀ i nest:Nat,i<=l.length->nest<=20->3 * (20 - nest)+2<=f->ws (je f l (i:Int) ps (nest:Int)) (PB l (ps.length:Int) (20 - nest) i))
 | 0=>⟨fun i nest _ _ h=>by omega,fun i nest p _ _ h=>by omega,fun i nest _ _ h=>by omega⟩
 | f+1=>by
  have hn:=hl.n
  obtain⟨ih1,ih2,ih3⟩:=Pd hl hp f
  refine⟨fun i nest hi hN hf=> ?_,fun i nest p hi hN hf=> ?_,fun i nest hi hN hf=> ?_⟩
  ·rw[dI,AI hn,obs]
   refine cR (fun _=>er8 hn (by decide) fun g h e=>absurd e h) fun h0=> ?_
   have hN2:nest < 20:=by
    have:¬ (nest:Int) >= 20:=by simpa using h0
    omega
   have hd:1<=20 - nest:=by omega
   simp only[Vm hn,obs,xb hn,AI hn,wN (show i<=1000000 by omega),w2 (show i<=1000000 by omega)]
   refine gl (Q:=fun b=>b=true->i < l.length/\YN (tkS l i).bz) (cR (fun h=>cu fun _=> ?_) fun _=>cu fun e=>by cases e) fun b hb=> ?_
   ·rw[Bool.or_eq_true] at h
    rcases h with h | h
    ·have:=uA hl (i:=i) (by simpa using h)
     exact⟨this.2,.inl this.1⟩
    ·have:=gJ h
     exact⟨this.1,.inr this.2⟩
   refine cR (fun h=>uL (wW (Js hl (Nat.le_refl _) (hb h).1 (hb h).2 (.inl rfl) _) fun g hg=>Gh hd hg)) fun _=> ?_
   refine cR (fun h=> ?_) fun _=> ?_
   ·obtain⟨n1,n2⟩:=uA hl (i:=i) (by simpa using h)
    refine cR (fun _=>er8 hn (by decide) fun g h e=>absurd e h) fun h=> ?_
    have:=(gJ (l:=l) (i:=i+1) (s:=[61]) (by simpa using h)).1
    exact uL (wW (W7 hl hp (i:=i+1 + 1) (by omega) (by omega) n1 (tkS l i).fAt) fun g hg=>Gh hd hg)
   refine cR (fun _=>er8 hn (by decide) fun g h e=>absurd e h) fun _=> ?_
   refine cR (fun h1=> ?_) fun _=> ?_
   ·refine cR (fun _=>er8 hn (by decide) fun g h e=>absurd e h) fun h=> ?_
    obtain⟨n1,n2⟩:=uA hl (i:=i+1) (by simpa using h)
    refine wW (Mj (m:=(ps.length:Int)) (i:=i) hl (by omega) (by omega) (abw n1 (tkS l i).fAt) (by show cf (stm 8 [] (tkS l (i+1)).bz [] cA bT [] (tkS l i).fAt)+i<=_;rw[zd,m_z];simp only[ct];omega)) fun g hg=>Gh hd hg
   refine gl (Q:=fun b=>b=true->i < l.length) (cR (fun h=>cu fun _=>(gJ h).1) fun _=>cu fun h=>(gJ h).1) fun b hb=> ?_
   refine cR (fun h=> ?_) fun _=> ?_
   ·rw[if_neg (show ¬ (0:Int) > (nest:Int) by omega)]
    exact uL (ih2 i nest (tkS l i).fAt (hb h) hN2 (by omega))
   refine cR (fun _=>er8 hn (by decide) fun g h e=>absurd e h) fun h=> ?_
   have hi2:=(gJ (l:=l) (i:=i) (s:=[114,101,116,117,114,110]) (by simpa using h)).1
   refine cR (fun h=>cu (Gh hd fun _=> ?_)) fun _=> ?_
   ·have:=(gJ h).1
    exact⟨i+1 + 1,rfl,by omega,by omega,Wy (.inl rfl) (tkS l i).fAt,by rw[show (({ ({ aa:=0,fX:=[],fY:=[],ai:=[],aJ:=cA,fE:=bT,cO:=[],aC:=[],bQ:=[],fAt:=(tkS l i).fAt }:ap) with aa:=11 }:ap))=stm 11 [] [] [] cA bT [] (tkS l i).fAt from rfl,zd,m_z];simp only[ct];omega⟩
   refine gl (uo hl (i+1) (by omega)) fun y hE=> ?_
   refine cR (fun h=>cu (DX _ (by simpa using h))) fun h=> ?_
   obtain⟨j,q1,q2,q3,q4,q5,q6⟩:=hE (by simpa using h)
   rw[q1]
   exact wW (Mj (m:=(ps.length:Int)) (i:=i) hl q3 (by omega) (Wy (.inr (tA q4 q5)) (tkS l i).fAt) (by show cf (stm 11 [] [] [] cA y.fE [] (tkS l i).fAt)+i<=_;rw[zd];simp only[ct];omega)) fun g hg=>Gh hd hg
  ·rw[kI,xb hn,obs]
   refine gl (Q:=fun s=>∃ k,(k=9\/k=10)/\s=stm k [] [] [] cA bT [] p) (cR (fun _=>cu ⟨10,.inr rfl,rfl⟩) fun _=>cu ⟨9,.inl rfl,rfl⟩) fun s hs=> ?_
   obtain⟨k,hk,rfl⟩:=hs
   rw[wN (by omega),xb hn,obs]
   refine cR (fun _=>er8 hn (by decide) fun g h e=>absurd e h) fun h=> ?_
   have h1:=(gJ (l:=l) (i:=i+1) (s:=[40]) (by simpa using h)).1
   rw[w2 (by omega)]
   refine gl (uo hl (i+1 + 1) (by omega)) fun y hE=> ?_
   refine cR (fun h=>cu (DX _ (by simpa using h))) fun h=> ?_
   obtain⟨j,q1,q2,q3,q4,q5,q6⟩:=hE (by simpa using h)
   rw[q1,xb hn,obs]
   refine cR (fun _=>er8 hn (by decide) fun g h e=>absurd e h) fun h=> ?_
   have h2:=(gJ (l:=l) (i:=j) (s:=[41]) (by simpa using h)).1
   have hd:20 - nest=20 - (nest+1)+1:=by omega
   rw[wN (by omega),wN (by omega)]
   refine gl (ih3 (j+1) (nest+1) (by omega) (by omega) (by omega)) fun b hb=> ?_
   refine cR (fun h=>cu (DX _ (by simpa using h))) fun h=> ?_
   obtain⟨j2,r1,r2,r3,r4,r5,r6⟩:=hb (by simpa using h)
   have he:=tA q4 q5
   rw[r1]
   refine gl (Q:=fun x=>x=true->k=9/\j2 < l.length) (cR (fun h=> ?_) fun _=>cu fun e=>by cases e) fun x hx=> ?_
   ·rw[xb hn,obs]
    exact cu fun e=>⟨by simpa [stm] using h,(gJ e).1⟩
   refine cR (fun h=> ?_) fun _=>cu fun _=> ?_
   ·obtain⟨k9,h3⟩:=hx h
    rw[wN (by omega)]
    refine gl (ih3 (j2+1) (nest+1) (by omega) (by omega) (by omega)) fun c hc=> ?_
    refine cR (fun h=>cu (DX _ (by simpa using h))) fun h=>cu fun _=> ?_
    obtain⟨j3,s1,s2,s3,s4,s5,s6⟩:=hc (by simpa using h)
    obtain⟨t1,t2,t3⟩:=aay (m:=(ps.length:Int)) hk he (.inl k9) r4 s4 r5 s5 p
    exact⟨j3,s1,by omega,s3,by rw[hd];exact t1,t2,Nat.le_trans (Nat.le_of_eq (congrArg (·+i) t3)) (by omega)⟩
   ·obtain⟨t1,t2,t3⟩:=aay (m:=(ps.length:Int)) (c:=[]) hk he (.inr rfl) r4 rfl r5 rfl p
    exact⟨j2,rfl,by omega,r3,by rw[hd];exact t1,t2,Nat.le_trans (Nat.le_of_eq (congrArg (·+i) t3)) (by simp only[cb];omega)⟩
  ·rw[je,xb hn,obs]
   refine cR (fun _=>er8 hn (by decide) fun g h e=>absurd e h) fun h=> ?_
   have h1:=(gJ (l:=l) (i:=i) (s:=[123]) (by simpa using h)).1
   rw[wN (by omega)]
   refine gl (Yf hl (i0:=i) (fun k hk=>ih1 k nest hk hN (by omega)) (l.length+64) (i+1) [] (by omega) (by omega) (by simp[cb]) rfl rfl) fun r hr=> ?_
   match r,hr with
   | .stop g,hr=>exact cu fun e=>absurd e hr
   | .next (a,b),hr=>exact cu hr
theorem CT {l} (hl:l.length<=20000) (i:Nat):gQ l (i:Int)=some (tkS l i):=by unfold gQ;rw[pa hl,obs]
theorem xN {l} (hl:l.length<=20000) (i:Nat) (s:List UInt8):fG l (i:Int) s=some (iT l i s):=by unfold fG;rw[pa hl,obs,yD,obs];rfl
theorem sH {l} (hl:l.length<=20000) {e:Int} (i:Nat):ws (dv e l (i:Int)) fun g=>g.fF.bL=e:=by
 unfold dv
 rw[CT hl,obs];exact cu rfl
def PNm (l:List az) (i:Nat) (g:ba):Prop:=g.fF.bL=0->∃ j:Nat,g.aq=(j:Int)/\i < j/\j<=l.length/\g.fN.length<=3/\g.fN.all db=true
theorem WJ {l} (hl:TK l) {i0}:∀ (n i:Nat) (out:List (List UInt8)),i0<=i->i < l.length->l.length+1<=n+i->out.length<=3->out.all db=true->ws (jE l n (i:Int) out) fun r=>∃ g,r= .stop g/\PNm l i0 g
 | 0,i,out,h0,h1,h2,h3,h4=>by omega
 | n+1,i,out,h0,h1,h2,h3,h4=>by
  have hn:=hl.n
  have er:∀ {e:Int} {k:Nat},e≠0->ws ((dv e l (k:Int)).bind fun y=>some (Ctl.stop y:Ctl ba Unit)) fun r=>∃ g,r= .stop g/\PNm l i0 g:=fun he=>gl (sH hn _) fun r hr=>cu ⟨r,rfl,fun e=>absurd (hr.symm.trans e) he⟩
  rw[jE,wN (by omega),CT hn,obs,wN (by omega)]
  refine cR (fun _=>er (by decide)) fun h=> ?_
  obtain⟨n1,n2⟩:=uA hl (i:=i+1) (by simpa using h)
  refine cR (fun _=>er (by decide)) fun h5=> ?_
  have h6:out.length<=2:=by
   have:¬ (out.length:Int)=3:=by simpa using h5
   omega
  have hlen:(out++[(tkS l (i+1)).bz]).length=out.length+1:=by simp
  have ha:(out++[(tkS l (i+1)).bz]).all db=true:=by rw[all_append,h4];simp[n1]
  rw[obs,ed (by simp only[length_cons,length_nil];omega),obs,xN hn,obs,wN (by omega)]
  refine cR (fun h=>cu ⟨_,rfl,fun _=>⟨i+1 + 1+1,rfl,by omega,by have:=(gJ h).1;omega,by simp only;omega,ha⟩⟩) fun _=> ?_
  rw[xN hn,obs]
  refine cR (fun _=>er (by decide)) fun h=> ?_
  have:=(gJ (l:=l) (i:=i+1 + 1) (s:=[44]) (by simpa using h)).1
  exact WJ hl n (i+1 + 1) _ (by omega) this (by omega) (by omega) ha
theorem Ut {l} (hl:TK l) (i:Nat) (hi:i < l.length):ws (mE l (i:Int)) (PNm l i):=by
 unfold mE
 refine gl (WJ hl _ i [] (Nat.le_refl _) hi (by omega) (by simp) rfl) fun r hr=> ?_
 obtain⟨g,rfl,hg⟩:=hr
 exact cu hg
def PVs (l:List az) (ps:List (List UInt8)) (most i:Nat) (g:ba):Prop:=g.fF.bL=0->∃ j:Nat,g.aq=(j:Int)/\i < j/\j<=l.length/\oz g.fV most (ps.length:Int)=true
theorem GL {L most} {m:Int} (h1:L.length<=most) (h2:L.all (yC m)=true):oz L most m=true:=by unfold oz;rw[decide_eq_true h1,h2];rfl
theorem Sm {l} (hl:TK l) {ps} (hp:ps.length<=1000) {i0}:∀ (n i:Nat) (out:List dr),i0<=i->i<=l.length->l.length+1<=n+i->out.length<=5->out.all (yC (ps.length:Int))=true->ws (ke l ps n (i:Int) out) fun r=>∃ g,r= .stop g/\PVs l ps 5 i0 g
 | 0,i,out,h0,h1,h2,h3,h4=>by omega
 | n+1,i,out,h0,h1,h2,h3,h4=>by
  have hn:=hl.n
  rw[ke]
  refine cR (fun _=>gl (sH hn i) fun r hr=>cu ⟨_,rfl,fun e=>absurd (hr.symm.trans e) (by decide)⟩) fun h5=> ?_
  refine gl (Ub hl hp i h1) fun y hy=> ?_
  refine cR (fun h=>cu ⟨_,rfl,fun e=>absurd e (by simpa using h)⟩) fun h=> ?_
  obtain⟨j,e1,e2,e3,e4⟩:=hy (by simpa using h)
  have h6:out.length<=4:=by
   have:¬ (out.length:Int)=5:=by simpa using h5
   omega
  have hlen:(out++[y.fV]).length=out.length+1:=by simp
  have ha:(out++[y.fV]).all (yC (ps.length:Int))=true:=by rw[all_append,h4];simp[e4]
  rw[ed (by simp only[length_cons,length_nil];omega),obs,e1,xN hn,obs,wN (by omega)]
  refine cR (fun h=>cu ⟨_,rfl,fun _=>⟨j+1,rfl,by omega,by have:=(gJ h).1;omega,GL (L:=out++[y.fV]) (by omega) ha⟩⟩) fun _=> ?_
  rw[xN hn,obs]
  refine cR (fun _=>gl (sH hn j) fun r hr=>cu ⟨_,rfl,fun e=>absurd (hr.symm.trans e) (by decide)⟩) fun h=> ?_
  have:=(gJ (l:=l) (i:=j) (s:=[44]) (by simpa using h)).1
  exact Sm hl hp n (j+1) _ (by omega) (by omega) (by omega) (by omega) ha
theorem P8 {l} (hl:TK l) {ps} (hp:ps.length<=1000) (i:Nat) (hi:i < l.length):ws (mO l (i:Int) ps) (PVs l ps 5 i):=by
 have hn:=hl.n
 unfold mO
 rw[wN (by omega),xN hn,obs,wN (by omega)]
 refine cR (fun h=>cu fun _=>⟨i+1 + 1,rfl,by omega,by have:=(gJ h).1;omega,rfl⟩) fun _=> ?_
 refine gl (Sm hl hp (i0:=i) _ (i+1) [] (by omega) (by omega) (by omega) (by simp) rfl) fun r hr=> ?_
 obtain⟨g,rfl,hg⟩:=hr
 exact cu hg
theorem Rn {l} (hl:l.length<=20000) (i:Nat) (hi:i<=30000):ws (mJ l (i:Int)) fun _=>True:=by
 unfold mJ
 rw[pa hl,obs,yD,obs,PY,wN (by omega),pa hl]
 refine gl (Q:=fun _=>True) (cR (fun _=>cu trivial) fun _=>by rw[obs];exact cu trivial) fun x _=>cR (fun _=>cu trivial) fun _=>cR (fun _=>cu trivial) fun _=> ?_
 rw[obs]
 refine cR (fun _=>cu trivial) fun _=> ?_
 rw[yD,obs];exact cu trivial
theorem SD {l} (hl:TK l) {ps} (hp:ps.length<=1000) {i0}:∀ (n i:Nat) (out:List dr),i0<=i->i<=l.length->l.length+1<=n+i->out.length<=12->out.all (yC (ps.length:Int))=true->ws (jd l ps n (i:Int) out) fun r=>match r with | .stop g=>g.fF.bL≠0 | .next s=>∃ j:Nat,s.1=(j:Int)/\i0<=j/\j<=l.length/\oz s.2 12 (ps.length:Int)=true
 | 0,i,out,h0,h1,h2,h3,h4=>by omega
 | n+1,i,out,h0,h1,h2,h3,h4=>by
  have hn:=hl.n
  rw[jd]
  refine gl (Rn hn i (by omega)) fun b _=>cR (fun _=> ?_) fun _=>cu ⟨i,rfl,h0,h1,GL h3 h4⟩
  refine cR (fun _=>gl (sH hn i) fun r hr=>cu (show r.fF.bL≠0 by rw[hr];decide)) fun h5=> ?_
  refine gl (Ub hl hp i h1) fun y hy=> ?_
  refine cR (fun h=>cu (show y.fF.bL≠0 by simpa using h)) fun h=> ?_
  obtain⟨j,e1,e2,e3,e4⟩:=hy (by simpa using h)
  have h6:out.length<=11:=by
   have:¬ (out.length:Int)=12:=by simpa using h5
   omega
  have hlen:(out++[y.fV]).length=out.length+1:=by simp
  have ha:(out++[y.fV]).all (yC (ps.length:Int))=true:=by rw[all_append,h4];simp[e4]
  rw[e1,xN hn,obs]
  refine cR (fun _=>gl (sH hn j) fun r hr=>cu (show r.fF.bL≠0 by rw[hr];decide)) fun h=> ?_
  have:=(gJ (l:=l) (i:=j) (s:=[59]) (by simpa using h)).1
  rw[ed (by simp only[length_cons,length_nil];omega),obs,wN (by omega)]
  exact SD hl hp n (j+1) _ (by omega) (by omega) (by omega) (by omega) ha
theorem QD {l} (hl:TK l) {ps} (hp:ps.length<=1000) (i:Nat) (hi:i<=l.length):ws (na l (i:Int) ps) fun g=>g.fF.bL=0->∃ j:Nat,g.aq=(j:Int)/\i<=j/\j<=l.length/\oz g.fV 12 (ps.length:Int)=true:=by
 unfold na
 refine gl (SD hl hp (i0:=i) _ i [] (Nat.le_refl _) hi (by omega) (by simp) rfl) fun r hr=> ?_
 match r,hr with
 | .stop g,hr=>exact cu fun e=>absurd e hr
 | .next (a,b),hr=>exact cu fun _=>hr
theorem RY : ∀ (f:Nat) (s:ap),cf s<=f->nSt s<=cf s
 | f,⟨k,x,y,n,t,e,a,b,c,p⟩,h=>by
  have hL:∀ (q:List ap),(∀ s∈q,cf s < cf ⟨k,x,y,n,t,e,a,b,c,p⟩->nSt s<=cf s)->cb q < cf ⟨k,x,y,n,t,e,a,b,c,p⟩->fc q<=cb q:=fun q=>by
   induction q with
   | nil=>intro _ _;simp[fc]
   | cons s q ih=>
    intro h1 h2
    rw[cb] at h2
    have h3:=h1 s (by simp) (by omega)
    have h4:=ih (fun z hz=>h1 z (by simp[hz])) (by omega)
    rw[fc,cb];omega
  match f,h with
  | 0,h=>simp[cf] at h
  | f+1,h=>
   have hq:∀ s,cf s < cf ⟨k,x,y,n,t,e,a,b,c,p⟩->nSt s<=cf s:=fun s hs=>RY f s (by omega)
   have e1:cf ⟨k,x,y,n,t,e,a,b,c,p⟩=1+bR e+ct a+cb b+cb c:=by simp[cf]
   have h1:=hL b (fun s _=>hq s) (by omega)
   have h2:=hL c (fun s _=>hq s) (by omega)
   rw[nSt];omega
theorem Ni : ∀ a b:List ap,fc (a++b)=fc a+fc b
 | [],b=>by simp[fc]
 | x::a,b=>by rw[cons_append,fc,fc,Ni a b,Nat.add_assoc]
theorem adl {l} (hl:TK l) {ps} (hp:ps.length<=1000) {a0 i0}:∀ (n i a:Nat) (out:List ap),i<=l.length->l.length+1<=n+i->cb out+i0<=i->bdL (ps.length:Int) out=true->a=a0+fc out->a<=400->
  ws (jc l ps n (i:Int) (a:Int) out) fun r=>match r with | .stop g=>g.fF.bL≠0 | .next s=>∃ j:Nat,s.1=(j:Int)/\i0<=j/\j < l.length/\bdL (ps.length:Int) s.2=true/\cb s.2<=20000/\a0+fc s.2<=400
 | 0,i,a,out,h1,h2,_,_,_,_=>by omega
 | n+1,i,a,out,h1,h2,h3,h4,h5,h6=>by
  have hn:=hl.n
  have hlen:=tj out
  rw[jc,xN hn,obs]
  refine cR (fun _=> ?_) fun h=>cu ?_
  ·refine gl ((Pd hl hp 80).1 i 0 h1 (by omega) (by omega)) fun y hy=> ?_
   refine cR (fun h=>cu (show y.fF.bL≠0 by simpa using h)) fun h=> ?_
   obtain⟨j,q1,q2,q3,q4,q5,q6⟩:=hy (by simpa using h)
   have hs:=RY _ y.fS (Nat.le_refl _)
   rw[pd _ _ (Nat.le_refl _) (by omega),obs]
   have hw:ah ((a:Int)+(nSt y.fS:Int))=((a+nSt y.fS:Nat):Int):=by rw[w64 (by omega) (by omega)];omega
   rw[hw]
   refine cR (fun _=>gl (sH hn i) fun r hr=>cu (show r.fF.bL≠0 by rw[hr];decide)) fun h0=> ?_
   have h7:a+nSt y.fS<=400:=by
    have:¬ ((a+nSt y.fS:Nat):Int) > 400:=fun q=>h0 (decide_eq_true q)
    omega
   have hm:cb (out++[y.fS])=cb out+cf y.fS:=by rw[Li];simp[cb]
   have hN:fc (out++[y.fS])=fc out+nSt y.fS:=by rw[Ni];simp[fc]
   rw[ed (by simp only[length_cons,length_nil];omega),obs,q1]
   refine adl hl hp n j _ _ q3 (by omega) (by omega) ?_ (by omega) h7
   unfold bdL at h4 ⊢
   rw[Bool.and_eq_true] at h4
   rw[all_append,TC,h4.1,h4.2]
   simp[q4,q5,opL]
  ·have:=(gJ (l:=l) (i:=i) (s:=[125]) (by simpa using h)).1
   exact⟨i,rfl,by omega,this,h4,by simp only;omega,by simp only;omega⟩
theorem Ry {l:List az} (hl:TK l) {ps:List (List UInt8)} (hp:ps.length<=1000) (i:Nat) (hi:i < l.length) (nm:List UInt8) (pu:Bool) (t:cd) (vp vl:List dr) (at_:Int) {a:Nat} (ha:a<=400):ws (mW l (i:Int) ps nm pu t.aa t.aM t.fN t.ae.a0.aa t.ae.a0.fN t.ae.a1.aa t.ae.a1.fN t.ae.a2.aa t.ae.a2.fN t.ae.a3.aa t.ae.a3.fN vp vl at_ (a:Int) []) fun g=>g.fF.bL=0->∃ j:Nat,g.aq=(j:Int)/\i < j/\j<=l.length/\∃ P L B,g.fM=⟨nm,pu,t,P,L,B,at_⟩/\oz P 5 (ps.length:Int)=true/\oz L 12 (ps.length:Int)=true/\bdL (ps.length:Int) B=true/\cb B<=20000/\a+fc B<=400:=by
 have hn:=hl.n
 unfold mW
 refine gl (P8 hl hp i hi) fun y hy=> ?_
 refine cR (fun h=>cu fun e=>absurd e (by simpa using h)) fun h=> ?_
 obtain⟨j,e1,e2,e3,e4⟩:=hy (by simpa using h)
 rw[e1,xN hn,obs]
 refine cR (fun _=>gl (sH hn j) fun r hr=>cu fun e=>absurd (hr.symm.trans e) (by decide)) fun h=> ?_
 have h1:=(gJ (l:=l) (i:=j) (s:=[123]) (by simpa using h)).1
 rw[wN (by omega)]
 refine gl (QD hl hp (j+1) (by omega)) fun z hz=> ?_
 refine cR (fun h=>cu fun e=>absurd e (by simpa using h)) fun h=> ?_
 obtain⟨k,f1,f2,f3,f4⟩:=hz (by simpa using h)
 rw[f1]
 refine gl (adl hl hp (a0:=a) (i0:=k) (l.length+64) k a [] f3 (by omega) (by simp[cb]) rfl (by simp[fc]) ha) fun r hr=> ?_
 match r,hr with
 | .stop g,hr=>exact cu fun e=>absurd e hr
 | .next (c,B),hr=>
  obtain⟨q,g1,g2,g3,g4,g5,g6⟩:=hr
  simp only at g1
  subst g1
  exact cu fun _=>⟨q+1,wN (by omega),by omega,by omega,_,_,B,rfl,e4,f4,g4,g5,g6⟩
structure MI (ps:List (List UInt8)) (b:Nat) (fs:List dr) (ms:List bM):Prop where
 f:fs.length<=12
 fv:fs.all (yC (ps.length:Int))=true
 m:ms.length<=12
 mv:ms.all (BQ (ps.length:Int))=true
 mb:∀ x∈ms,BM x
 s:b+gK (fun x:bM=>fc x.aC) ms<=400
theorem QQ {l} (hl:TK l) {ps} (hp:ps.length<=1000) (i:Nat) (hi:i<=l.length) (nm su:List UInt8) (ab:List aF) (k:Int) {a b fs ms} (h:MI ps b fs ms) (ha:a=b+gK (fun x:bM=>fc x.aC) ms):
  ws (kq l (i:Int) nm ps su ab k (a:Int) fs ms) fun g=>g.fF.bL=0->∃ j:Nat,g.aq=(j:Int)/\i < j/\j<=l.length/\∃ fs' ms',g.fC=⟨nm,ps,su,ab,fs',ms',k⟩/\MI ps b fs' ms':=by
 have hn:=hl.n
 have ha4:=h.s
 have er:∀ {e:Int} {q:Nat},e≠0->ws ((dv e l (q:Int)).bind fun y=>some (⟨zGClass,zGMethod,[],[],0,y.fF⟩:ba)) fun g=>g.fF.bL=0->∃ j:Nat,g.aq=(j:Int)/\i < j/\j<=l.length/\∃ fs' ms',g.fC=⟨nm,ps,su,ab,fs',ms',k⟩/\MI ps b fs' ms':=fun he=>gl (sH hn _) fun r hr=>cu fun e=>absurd (hr.symm.trans e) he
 unfold kq
 rw[CT hn,obs,xN hn,obs]
 generalize hpu:iT l i [112,117,114,101]=pu
 refine gl (Q:=fun x=>∃ q:Nat,x=(q:Int)/\i<=q/\q<=l.length) (cR (fun h=>cu ?_) fun _=>cu ⟨i,rfl,Nat.le_refl _,hi⟩) fun x hx=> ?_
 ·subst h
  have:=(gJ hpu).1
  exact⟨i+1,wN (by omega),by omega,by omega⟩
 obtain⟨q,rfl,q1,q2⟩:=hx
 refine gl (zp hl hp q q2 true) fun y hy=> ?_
 refine cR (fun h=>cu fun e=>absurd e (by simpa using h)) fun h0=> ?_
 obtain⟨j,e1,e2,e3,e4⟩:=hy (by simpa using h0)
 rw[e1,CT hn,obs]
 refine cR (fun _=>er (by decide)) fun h1=> ?_
 obtain⟨n1,n2⟩:=uA hl (i:=j) (by simpa using h1)
 rw[wN (by omega),xN hn,obs]
 refine cR (fun hb=> ?_) fun _=> ?_
 ·refine cR (fun _=>er (by decide)) fun h2=> ?_
  have h6:ms.length<=11:=by
   have:=h.m
   have:¬ (ms.length:Int)=12:=by simpa using h2
   omega
  refine gl (Ry hl hp (j+1) (gJ hb).1 (tkS l j).bz pu y.fT [] [] (tkS l i).fAt (a:=a) (by omega)) fun z hz=> ?_
  refine cR (fun h=>cu fun e=>absurd e (by simpa using h)) fun h0=> ?_
  obtain⟨j2,f1,f2,f3,P,L,B,f4,f5,f6,f7,f8,f9⟩:=hz (by simpa using h0)
  rw[ed (by simp only[length_cons,length_nil];omega),obs]
  have hP:P.length<=5/\L.length<=12:=by
   unfold oz at f5 f6
   rw[Bool.and_eq_true,decide_eq_true_eq] at f5 f6
   exact⟨f5.1,f6.1⟩
  refine cu fun _=>⟨j2,f1,by omega,f3,fs,ms++[z.fM],rfl,h.f,h.fv,by simp;omega,?_,?_,?_⟩
  ·rw[all_append,h.mv,f4]
   unfold BQ
   simp only[all_cons,all_nil]
   rw[n1,e4,f5,f6,f7];rfl
  ·intro x hx
   rcases List.mem_append.1 hx with hx | hx
   ·exact h.mb x hx
   ·rw[List.mem_singleton.1 hx,f4]
    exact⟨by show P.length<=1000;omega,by show L.length<=1000;omega,by show cb B<=1000000;omega⟩
  ·rw[vZ,f4]
   simp only[gK]
   omega
 ·rw[xN hn,obs]
  refine gl (Q:=fun b=>b=false->j+1 < l.length/\pu=false/\y.fT.aa≠0) (cR (fun _=>cu fun e=>by cases e) fun h=>cR (fun _=>cu fun e=>by cases e) fun hp=>cu fun e=>⟨(gJ (l:=l) (i:=j+1) (s:=[59]) (by simpa using h)).1,by simpa using hp,by simpa using e⟩) fun x hx=> ?_
  refine cR (fun _=>er (by decide)) fun hx0=> ?_
  obtain⟨g1,g2,g3⟩:=hx (by simpa using hx0)
  refine cR (fun _=>er (by decide)) fun h2=> ?_
  have h6:fs.length<=11:=by
   have:=h.f
   have:¬ (fs.length:Int)=12:=by simpa using h2
   omega
  rw[ed (by simp only[length_cons,length_nil];omega),obs,wN (by omega)]
  refine cu fun _=>⟨j+1 + 1,rfl,by omega,by omega,fs++[⟨(tkS l j).bz,y.fT,(tkS l i).fAt⟩],ms,rfl,by simp;omega,?_,h.m,h.mv,h.mb,h.s⟩
  rw[all_append,h.fv]
  unfold yC
  simp only[all_cons,all_nil]
  rw[n1,e4,decide_eq_false g3];rfl
theorem Vf {l:List az} (hl:l.length<=20000) {a:Nat} (ha:a<=20000) {y:ce} (hy:y.fL.length<=3):∀ (n k:Nat),y.fL.length+1<=n+k->k<=y.fL.length->(∀ j,(h:j < y.fL.length)->j < k->y.fL[j].aa≠1/\y.fL[j].aa≠5)->
  ws (kG l (a:Int) y n (k:Int)) fun r=>match r with | .stop g=>g.fF.bL≠0 | .next _=>∀ o∈y.fL,o.aa≠1/\o.aa≠5
 | 0,k,h,hk,_=>by omega
 | n+1,k,h,hk,hj=>by
  rw[kG]
  refine cR (fun h=> ?_) fun h=>cu ?_
  ·have hlt:k < y.fL.length:=by simpa using h
   rw[dQ hlt,obs]
   refine gl (Q:=fun b=>b=false->y.fL[k].aa≠1/\y.fL[k].aa≠5) (cR (fun _=>cu fun e=>by cases e) fun h=> ?_) fun b hb=> ?_
   ·rw[obs]
    exact cu fun e=>⟨by simpa using h,by simpa using e⟩
   ·refine cR (fun _=> ?_) fun hq=> ?_
    ·have hw:ah ((ah ((a:Int)+3))+(ah (2 * (k:Int))))=((a+3 + 2 * k:Nat):Int):=by
      rw[w64 (n:=(a:Int)+3) (by omega) (by omega),w64 (n:=2 * (k:Int)) (by omega) (by omega),w64 (by omega) (by omega)];omega
     rw[hw]
     exact gl (sH hl _) fun r hr=>cu (show r.fF.bL≠0 by rw[hr];decide)
    ·rw[wN (by omega)]
     refine Vf hl ha hy n (k+1) (by omega) (by omega) fun j h1 h2=> ?_
     by_cases e:j=k
     ·subst e;exact hb (by simpa using hq)
     ·exact hj j h1 (by omega)
  ·have hge:y.fL.length<=k:=by
    have:¬ (k:Int) < (y.fL.length:Int):=fun q=>h (decide_eq_true q)
    omega
   intro o ho
   obtain⟨j,h1,rfl⟩:=getElem_of_mem ho
   exact hj j h1 (by omega)
theorem UV {l} (hl:TK l) {ps} (hp:ps.length<=1000) (i:Nat) (hi:i < l.length) (nm s0:List UInt8) (k:Int) (fs:List dr) (ms:List bM):
  ws (oq l (i:Int) nm ps s0 [] k fs ms) fun g=>g.fF.bL=0->∃ j:Nat,g.aq=(j:Int)/\i < j/\j<=l.length/\∃ su ab,g.fC=⟨nm,ps,su,ab,fs,ms,k⟩/\db su=true/\ab.length<=3/\ab.all (KF (ps.length:Int))=true:=by
 have hn:=hl.n
 unfold oq
 rw[wN (by omega),CT hn,obs]
 refine cR (fun _=>gl (sH hn _) fun r hr=>cu fun e=>absurd (hr.symm.trans e) (by decide)) fun h1=> ?_
 obtain⟨n1,n2⟩:=uA hl (i:=i+1) (by simpa using h1)
 rw[obs,w2 (by omega),xN hn,obs]
 refine cR (fun _=>cu fun _=>⟨i+1 + 1,rfl,by omega,by omega,_,_,rfl,n1,by simp,rfl⟩) fun _=> ?_
 refine gl (GK hl hp (i+1 + 1)) fun y hy=> ?_
 refine cR (fun h=>cu fun e=>absurd e (by simpa using h)) fun h=> ?_
 obtain⟨j,e1,e2,e3,e4,e5,e6⟩:=hy (by simpa using h)
 refine gl (Vf hn (a:=i) (by omega) e5 _ 0 (by rw[kF];omega) (by omega) (fun j _ h=>by omega)) fun r hr=> ?_
 match r,hr with
 | .stop g,hr=>exact cu fun e=>absurd e hr
 | .next _,hr=>
  refine cu fun _=>⟨j,e1,by omega,e3,_,y.fL,rfl,n1,e5,List.all_eq_true.2 fun o ho=> ?_⟩
  have h1:=hr o ho
  have h2:=e6 o ho
  have h3:=ta h2.1
  unfold KF
  rw[h2.1]
  have:o.aa=2\/o.aa=3\/o.aa=4:=by have:=h2.2;omega
  rcases this with k | k | k<;>(rw[k];rfl)
theorem VQ {l} (hl:TK l) {ps} (hp:ps.length<=3) (nm su:List UInt8) {ab} (hab:ab.length<=3) (k:Int) {b i0}:∀ (n i:Nat) (fs:List dr) (ms:List bM),i0<=i->i<=l.length->l.length+1<=n+i->MI ps b fs ms->
  ws (gI l (b:Int) n (i:Int) nm ps su ab fs ms k) fun r=>match r with | .stop g=>g.fF.bL≠0 | .next s=>∃ (j:Nat) (fs':List dr) (ms':List bM),s=((j:Int),nm,ps,su,ab,fs',ms',k)/\i0<=j/\j < l.length/\MI ps b fs' ms'
 | 0,i,fs,ms,h0,h1,h2,_=>by omega
 | n+1,i,fs,ms,h0,h1,h2,h3=>by
  have hn:=hl.n
  have hs:=h3.s
  rw[gI,xN hn,obs]
  refine cR (fun _=> ?_) fun h=>cu ⟨i,fs,ms,rfl,h0,(gJ (l:=l) (i:=i) (s:=[125]) (by simpa using h)).1,h3⟩
  have hC:BC (⟨nm,ps,su,ab,fs,ms,k⟩:bH):=by
   have:=h3.f
   have:=h3.m
   exact⟨by show ps.length<=1000;omega,by show ab.length<=1000;omega,by show fs.length<=1000;omega,by show ms.length<=1000;omega,h3.mb⟩
  have hsC:stC (⟨nm,ps,su,ab,fs,ms,k⟩:bH)=gK (fun x:bM=>fc x.aC) ms:=rfl
  rw[nJ hC (by rw[hsC];omega),obs,hsC]
  have hw:ah ((b:Int)+((gK (fun x:bM=>fc x.aC) ms:Nat):Int))=((b+gK (fun x:bM=>fc x.aC) ms:Nat):Int):=by rw[w64 (by omega) (by omega)];omega
  rw[hw]
  refine gl (QQ hl (by omega) i h1 nm su ab k h3 rfl) fun g hg=> ?_
  refine cR (fun h=>cu (show g.fF.bL≠0 by simpa using h)) fun h=> ?_
  obtain⟨j,e1,e2,e3,fs',ms',e4,e5⟩:=hg (by simpa using h)
  rw[e1,e4]
  exact VQ hl hp nm su hab k n j fs' ms' (by omega) e3 (by omega) e5
theorem Uz {l:List az} (hl:TK l) (i:Nat) (hi:i < l.length) {a:Nat} (ha:a<=400):ws (oy l (i:Int) (a:Int)) fun g=>g.fF.bL=0->∃ j:Nat,g.aq=(j:Int)/\i < j/\j<=l.length/\clS g.fC=true/\BC g.fC/\a+stC g.fC<=400:=by
 have hn:=hl.n
 unfold oy
 rw[CT hn,obs,wN (by omega),CT hn,obs]
 refine cR (fun _=>uL (wW (sH hn _) fun r h e=>absurd (h.symm.trans e) (by decide))) fun h1=> ?_
 obtain⟨n1,n2⟩:=uA hl (i:=i+1) (by simpa using h1)
 rw[obs,w2 (by omega)]
 refine Od (Q:=fun s=>∃ (j:Nat) (ps:List (List UInt8)),s=((j:Int),ps)/\i+2<=j/\j<=l.length/\ps.length<=3/\ps.all db=true) ?_ fun s hs=> ?_
 ·rw[xN hn,gob]
  refine C8 (fun h=>Oo (Ut hl (i+1 + 1) (gJ h).1) fun y hy=>C8 (fun h=>cu fun e=>absurd e (by simpa using h)) fun h=> ?_) fun _=>⟨i+1 + 1,[],rfl,by omega,by omega,by simp,rfl⟩
  obtain⟨j,e1,e2,e3,e4,e5⟩:=hy (by simpa using h)
  exact⟨j,y.fN,by rw[e1],by omega,e3,e4,e5⟩
 obtain⟨j,ps,rfl,j1,j2,p1,p2⟩:=hs
 simp only
 refine Od (Q:=fun s=>∃ (q:Nat) (su:List UInt8) (ab:List aF),s=((q:Int),(tkS l (i+1)).bz,ps,su,ab,[],[],(tkS l i).fAt)/\i+2<=q/\q<=l.length/\ab.length<=3/\((su=[]/\ab=[])\/(db su=true/\ab.all (KF (ps.length:Int))=true))) ?_ fun s hs=> ?_
 ·rw[xN hn,gob]
  refine C8 (fun h=>Oo (UV hl (by omega) j (gJ h).1 (tkS l (i+1)).bz [] (tkS l i).fAt [] []) fun y hy=>C8 (fun h=>cu fun e=>absurd e (by simpa using h)) fun h=> ?_) fun _=>⟨j,[],[],rfl,j1,j2,by simp,.inl ⟨rfl,rfl⟩⟩
  obtain⟨q,e1,e2,e3,su,ab,e4,e5,e6,e7⟩:=hy (by simpa using h)
  exact⟨q,su,ab,by rw[e1,e4],by omega,e3,e6,.inr ⟨e5,e7⟩⟩
 obtain⟨q,su,ab,rfl,q1,q2,q3,q4⟩:=hs
 simp only
 rw[xN hn,obs]
 refine cR (fun _=>uL (wW (sH hn _) fun r h e=>absurd (h.symm.trans e) (by decide))) fun h=> ?_
 have h2:=(gJ (l:=l) (i:=q) (s:=[123]) (by simpa using h)).1
 rw[wN (by omega)]
 refine gl (VQ hl p1 (tkS l (i+1)).bz su q3 (tkS l i).fAt (b:=a) (i0:=q+1) (l.length+64) (q+1) [] [] (Nat.le_refl _) (by omega) (by omega) ⟨by simp,rfl,by simp,rfl,(fun x h=>by cases h),by simpa [gK] using ha⟩) fun r hr=> ?_
 match r,hr with
 | .stop g,hr=>exact cu fun e=>absurd e hr
 | .next s,hr=>
  obtain⟨z,fs,ms,rfl,z1,z2,hM⟩:=hr
  refine cu fun _=>⟨z+1,wN (by omega),by omega,by omega,?_,?_,hM.s⟩
  ·unfold clS hdS
   simp only
   rw[n1,p2,GL hM.f hM.fv,hM.mv,decide_eq_true p1,decide_eq_true q3,decide_eq_true hM.m]
   rcases q4 with⟨rfl,rfl⟩ | ⟨h3,h4⟩
   ·rfl
   ·have:su≠[]:=uY h3
    rw[if_neg (by simpa using this),h3,h4];rfl
  ·have:=hM.f
   have:=hM.m
   exact⟨by show ps.length<=1000;omega,by show ab.length<=1000;omega,by show fs.length<=1000;omega,by show ms.length<=1000;omega,hM.mb⟩
theorem OfL {l:List az} (hl:TK l) (f:dV):∀ (n i a:Nat) (out:List bH),i<=l.length->l.length+1<=n+i->out.length<=20->out.all clS=true->(∀ c∈out,BC c)->a=gK stC out->a<=400->
  ws (mC (l,f) n out (i:Int) (a:Int)) fun r=>match r with | .stop q=>q.2.bL≠0 | .next p=>BP p/\rS p=true
 | 0,i,a,out,h1,h2,_,_,_,_,_=>by omega
 | n+1,i,a,out,h1,h2,h3,h4,h5,h6,h7=>by
  have hn:=hl.n
  rw[mC]
  simp only
  rw[CT hn,obs]
  refine cR (fun _=> ?_) fun _=>cu ⟨⟨by omega,h5,by omega⟩,?_⟩
  ·rw[xN hn,obs]
   refine cR (fun _=> ?_) fun h=> ?_
   ·rw[obs];exact cu (show (3:Int)≠0 by decide)
   have h8:=(gJ (l:=l) (i:=i) (s:=[99,108,97,115,115]) (by simpa using h)).1
   refine cR (fun _=> ?_) fun h0=> ?_
   ·rw[obs];exact cu (show (6:Int)≠0 by decide)
   have h9:out.length<=19:=by
    have:¬ (out.length:Int)=20:=by simpa using h0
    omega
   refine gl (Uz hl i h8 h7) fun g hg=> ?_
   refine cR (fun h=>cu (show g.fF.bL≠0 by simpa using h)) fun h=> ?_
   obtain⟨j,e1,e2,e3,e4,e5,e6⟩:=hg (by simpa using h)
   have hw:ah ((a:Int)+((stC g.fC:Nat):Int))=((a+stC g.fC:Nat):Int):=by rw[w64 (by omega) (by omega)];omega
   rw[ed (by simp only[length_cons,length_nil];omega),obs,nJ e5 (by omega),obs,hw,e1]
   refine OfL hl f n j _ _ e3 (by omega) (by simp;omega) (by rw[all_append,h4];simp[e4]) (fun c hc=> ?_) (by rw[vZ,h6];simp[gK]) e6
   rcases List.mem_append.1 hc with hc | hc
   ·exact h5 c hc
   ·rw[List.mem_singleton.1 hc];exact e5
  ·unfold rS
   rw[decide_eq_true h3,h4,decide_eq_true (show gK stC out<=400 by omega)];rfl
theorem Wo {s} (hs:s.length<=16384):ws (qC s) fun r=>r.2.bL=0->BP r.1/\rS r.1=true:=by
 obtain⟨l,f,h1,h2⟩:=ZJ hs
 unfold qC
 rw[h1,obs]
 refine cR (fun h=>cu fun e=>absurd e (by simpa using h)) fun h=> ?_
 obtain⟨hl,h3⟩:=h2 (by simpa using h)
 refine gl (OfL hl f (s.length+64) 0 0 [] (by omega) (by omega) (by simp) rfl (fun c h=>by cases h) rfl (by omega)) fun r hr=> ?_
 match r,hr with
 | .stop q,hr=>exact cu fun e=>absurd e hr
 | .next p,hr=>exact cu fun _=>hr
theorem aat {ps}:∀ (f:Nat) (s:ap) (d:Nat),cf s<=f->stT ps (z0 s) d=stT ps s d
 | 0,s,d,h=>by have:=nf s;have:=OU s.fE;omega
 | f+1,s,d,h=>by
  have hL:∀ (q:List ap) (d:Nat),(∀ y∈q,cf y+2<=cf s)->uJ ps (q.map z0) d=uJ ps q d:=fun q d hq=>by
   rw[vT,vT,map_map]
   exact congrArg flatten (map_congr_left fun y hy=>aat f y d (by have:=hq y hy;omega))
  have h1:=hL s.aC (d+1) fun y hy=>yy hy
  have h2:=hL s.bQ (d+1) fun y hy=>yE hy
  rw[Cn]
  obtain⟨k,x,y,nm,t,e,ar,bo,el,a⟩:=s
  simp only at h1 h2 ⊢
  rw[stT,stT,h1,h2,length_map]
theorem aar {p} (h:rS p=true):∀ c∈p,∀ x∈c.am,∀ s∈x.aC,sR 20 (c.ac.length:Int) s=true:=fun c hc x hx s hs=>by
 unfold rS at h
 simp only[Bool.and_eq_true,all_eq_true] at h
 have:=h.2.1 c hc
 unfold clS at this
 simp only[Bool.and_eq_true,all_eq_true] at this
 have h2:=this.2.2.2 x hx
 unfold BQ bdL at h2
 simp only[Bool.and_eq_true,all_eq_true] at h2
 exact h2.2.2.2.2.1 s hs
theorem acP {ps x y} (h:zM y=zM x) (hx:∀ s∈x.aC,sR 20 (ps.length:Int) s=true) (hy:∀ s∈y.aC,sR 20 (ps.length:Int) s=true):meT ps y=meT ps x:=by
 unfold zM at h
 injection h with e1 e2 e3 e4 e5 e6 e7
 have hv:∀ l:List dr,l.map (vaT ps)=(l.map zV).map (vaT ps):=fun l=>by rw[map_map];rfl
 have hl:∀ l:List dr,l.map (loT ps)=(l.map zV).map (loT ps):=fun l=>by rw[map_map];rfl
 have hb:∀ l:List ap,(∀ s∈l,sR 20 (ps.length:Int) s=true)->l.map (stX ps)=(l.map z0).map fun s=>stT ps s 2:=fun l hl=>by
  rw[map_map]
  exact map_congr_left fun s hs=>by
   unfold stX
   rw[if_pos (hl s hs)]
   exact(aat _ s 2 (Nat.le_refl _)).symm
 unfold meT hdT hmT
 rw[e1,e2,e3,hv y.ac,hv x.ac,e4,hl y.aP,hl x.aP,e5,hb _ hx,hb _ hy,e6]
theorem acE {c d} (h:zC d=zC c) (hc:∀ x∈c.am,∀ s∈x.aC,sR 20 (c.ac.length:Int) s=true) (hd:∀ x∈d.am,∀ s∈x.aC,sR 20 (d.ac.length:Int) s=true):clT d=clT c:=by
 unfold zC at h
 injection h with e1 e2 e3 e4 e5 e6 e7
 have hf:∀ l:List dr,l.map (feT c.ac)=(l.map zV).map (feT c.ac):=fun l=>by rw[map_map];rfl
 have hm:∀ a b:List bM,a.map zM=b.map zM->(∀ x∈a,∀ s∈x.aC,sR 20 (c.ac.length:Int) s=true)->(∀ x∈b,∀ s∈x.aC,sR 20 (c.ac.length:Int) s=true)->a.map (meT c.ac)=b.map (meT c.ac):=fun a=>by
  induction a with
  | nil=>intro b h _ _;cases b with | nil=>rfl | cons y b=>cases h
  | cons x a ih=>
   intro b h ha hb
   cases b with
   | nil=>cases h
   | cons y b=>
    rw[map_cons,map_cons] at h
    injection h with h1 h2
    rw[map_cons,map_cons,acP h1 (hb y (by simp)) (ha x (by simp)),ih b h2 (fun z hz=>ha z (by simp[hz])) fun z hz=>hb z (by simp[hz])]
 rw[e2] at hd
 unfold clT fiT
 rw[e1,e2,e3,e4,hf d.aZ,hf c.aZ,e5,hm d.am c.am e6 hd hc]
theorem aaO : ∀ {p q:List bH},q.map zC=p.map zC->(∀ c∈p,∀ x∈c.am,∀ s∈x.aC,sR 20 (c.ac.length:Int) s=true)->(∀ c∈q,∀ x∈c.am,∀ s∈x.aC,sR 20 (c.ac.length:Int) s=true)->(q.map clT).flatten=(p.map clT).flatten
 | [],[],_,_,_=>rfl
 | [],d::q,h,_,_=>by cases h
 | c::p,[],h,_,_=>by cases h
 | c::p,d::q,h,hp,hq=>by
  rw[map_cons,map_cons] at h
  injection h with h1 h2
  rw[map_cons,map_cons,flatten_cons,flatten_cons,acE h1 (hp c (by simp)) (hq d (by simp)),aaO h2 (fun z hz=>hp z (by simp[hz])) fun z hz=>hq z (by simp[hz])]
theorem xr {a0} (_h0:WW a0):pC a0=some true:=by
 unfold pC
 by_cases h:a0.length > 2000
 ·rw[if_pos (decide_eq_true (by omega)),nU,obs]
 ·obtain⟨⟨p,f⟩,h1,h2⟩:=Wo (s:=a0) (by omega)
  rw[if_neg (fun e=>h (by have:=of_decide_eq_true e;omega)),h1,obs]
  simp only at h2 ⊢
  by_cases hf:f.bL=0
  ·obtain⟨hB,hr⟩:=h2 hf
   obtain⟨t,ht,htu⟩:=XJ (p:=p) (by have:=hB.n;omega) (fun c hc=>by have:=(hB.c c hc).p;omega)
   rw[if_neg (by simp[hf]),AE hB,obs]
   unfold prX
   rw[if_pos hr,ht]
   by_cases hlen:(p.map clT).flatten.length > 16384
   ·rw[if_pos (decide_eq_true (by omega)),obs,if_pos rfl,nU,obs]
   ·rw[if_neg (fun e=>hlen (by have:=of_decide_eq_true e;omega)),obs,obs]
    cases t with
    | true=>rw[if_pos rfl,nU,obs]
    | false=>
     obtain⟨q,g1,g2⟩:=Zy (adg hB hr (htu rfl)) (by omega)
     obtain⟨r,k1,k2⟩:=Wo (s:=(p.map clT).flatten) (by omega)
     rw[g1] at k1
     obtain rfl:=Option.some.inj k1
     obtain⟨hBq,hrq⟩:=k2 rfl
     rw[if_neg (by decide),g1,obs]
     simp only
     have he:(p.map clT).flatten=[]↔p=[]:=by
      cases p with
      | nil=>simp
      | cons c p=>rw[map_cons,flatten_cons];unfold clT fiT;simp
     rw[if_pos (by decide),adb (by have:=hB.n;omega) hB.c g2,obs,if_pos rfl,AE hBq,obs]
     unfold prX
     rw[if_pos hrq,aaO g2 (aar hr) (aar hrq),if_pos (by simp),nU]
     rw[if_pos ?_,obs]
     by_cases e:p=[]
     ·rw[he.2 e,e];rfl
     ·have e2:¬ (p.map clT).flatten=[]:=fun q=>e (he.1 q)
      have e3:¬ ((p.length:Nat):Int)=0:=fun q=>e (eq_nil_of_length_eq_zero (by omega))
      rw[show (((p.length:Nat):Int)==0)=false from by simpa using e3,show ((p.map clT).flatten==[])=false from by simpa using e2];rfl
  ·rw[if_pos (by simpa using hf),nU,obs]
end Go.Proofs.YtjimbkljclfflaaGreatDoor
