/- A part of the proof that the law ShowBack gives true for every input. -/
import Derived.Test.YtjimbkljclfflaaGreatDoorShowBackKL1
import Derived.Test.YtjimbkljclfflaaGreatDoorShowBackA2
import Derived.Test.YtjimbkljclfflaaGreatDoorShowBackA3
import Derived.Test.YtjimbkljclfflaaGreatDoorShowBackT
import Derived.Test.YtjimbkljclfflaaGreatDoorShowBackA5
import Derived.Test.YtjimbkljclfflaaGreatDoorShowBackA4
import Derived.Test.YtjimbkljclfflaaGreatDoorShowBackD
/- The plain law. -/
namespace Go.Proofs.YtjimbkljclfflaaGreatDoor
open List
open Go.RowKit Go.Abs
theorem Vu (s:List UInt8) (h:s∈sgL):∃ b t,s=b::t/\isC b=false/\isL b=false/\isD b=false/\blk b=false/\b≠47:=by
 have hd:∀ s∈sgL,s≠[]/\∀ b∈s.head?,isC b=false/\isL b=false/\isD b=false/\blk b=false/\b≠47:=by decide +kernel
 obtain⟨h1,h2⟩:=hd s h
 match s,h1 with
 | b::t,_=>exact⟨b,t,rfl,h2 b rfl⟩
theorem zc {p} (h:vld p=true):∃ b t,p.2=b::t/\(p.1=0->isC b=false/\b≠61)/\(p.1=4->isC b=false)/\(p.1≠0->blk b=false/\b≠47):=by
 unfold vld at h
 by_cases h0:p.1=0
 ·rw[if_pos h0,Bool.and_eq_true] at h
  cases hp:p.2 with
  | nil=>rw[hp] at h;simp at h
  | cons b t=>
   rw[hp,all_cons,Bool.and_eq_true] at h
   have:=aeK h.2.1
   exact⟨b,t,rfl,fun _=>⟨this.1,this.2.2⟩,fun e=>by omega,fun e=>absurd h0 e⟩
 rw[if_neg h0] at h
 by_cases h1:p.1=1
 ·rw[if_pos h1] at h
  cases hp:p.2 with
  | nil=>rw[hp] at h;cases h
  | cons b t=>
   rw[hp] at h
   simp only[dw,Bool.and_eq_true,all_cons] at h
   exact⟨b,t,rfl,fun e=>absurd e h0,fun e=>by omega,fun _=>OJ h.2.2.1.1⟩
 rw[if_neg h1] at h
 by_cases h2:p.1=2
 ·rw[if_pos h2] at h
  have:=Yz h
  cases hp:p.2 with
  | nil=>exact absurd hp this.1
  | cons b t=>
   rw[hp,all_cons,Bool.and_eq_true] at this
   exact⟨b,t,rfl,fun e=>absurd e h0,fun e=>by omega,fun _=>OJ (by unfold isC;rw[this.2.1,Bool.or_true])⟩
 rw[if_neg h2] at h
 by_cases h3:p.1=3
 ·rw[if_pos h3,decide_eq_true_eq] at h
  have:=Yr _ h
  cases hp:p.2 with
  | nil=>exact absurd hp this.1
  | cons b t=>
   rw[hp,all_cons,Bool.and_eq_true] at this
   exact⟨b,t,rfl,fun e=>absurd e h0,fun e=>by omega,fun _=>OJ (by unfold isC;rw[this.2.1.1];rfl)⟩
 rw[if_neg h3,Bool.and_eq_true,decide_eq_true_eq,decide_eq_true_eq] at h
 obtain⟨b,t,e,hb⟩:=Vu _ h.2
 exact⟨b,t,e,fun e=>absurd e h0,fun _=>hb.1,fun _=>hb.2.2.2⟩
theorem Ww {r} (h:ok r=true):(tx r).head? =(r.head?.bind fun p=>p.2.head?):=by
 cases r with
 | nil=>rfl
 | cons q r=>
  simp only[ok,Bool.and_eq_true] at h
  obtain⟨b,t,e,-⟩:=zc h.1
  rw[dy,e,head?_cons,Option.bind_some,e];rfl
theorem YX {p r} (hp:vld p=true) (h0:p.1≠0) (hj:jn p r=true) (hr:ok r=true):Sv (p.2++tx r)=p:=by
 have stop:p.1=1\/p.1=2\/p.1=3->∀ b∈(tx r).head?,isC b=false:=fun hk b hb=>by
  rw[Ww hr] at hb
  unfold jn at hj
  rw[if_pos hk] at hj
  cases r with
  | nil=>cases hb
  | cons q r=>
   simp only[ok,Bool.and_eq_true] at hr
   obtain⟨c,t,e,h1,h2,-⟩:=zc hr.1
   simp only[head?_cons,Option.bind_some,e,Option.mem_def,Option.some.injEq] at hb
   subst hb
   simp only[Bool.or_eq_true,decide_eq_true_eq] at hj
   rcases hj with hj | hj
   ·exact(h1 hj).1
   ·exact h2 hj
 have stopD:p.1=1\/p.1=2\/p.1=3->∀ b∈(tx r).head?,isD b=false:=fun hk b hb=>by
  have:=stop hk b hb
  unfold isC at this
  rw[Bool.or_eq_false_iff] at this
  exact this.2
 unfold vld at hp
 rw[if_neg h0] at hp
 obtain⟨k,s⟩:=p
 simp only at *
 by_cases h1:k=1
 ·subst h1
  rw[if_pos rfl] at hp
  match s with
  | b::t=>
   have hn:=hp
   simp only[dw,Bool.and_eq_true,beq_iff_eq] at hn
   rw[cons_append,Sv,<- cons_append,if_pos hn.2.1,P6 hn.2.2.1 (stop (by simp)),hn.2.2.2]
   rfl
 rw[if_neg h1] at hp
 by_cases h2:k=2
 ·subst h2
  rw[if_pos rfl] at hp
  obtain⟨hn,hd⟩:=Yz hp
  match s,hn with
  | b::t,_=>
   have hb:isD b=true:=by rw[all_cons,Bool.and_eq_true] at hd;exact hd.1
   rw[cons_append,Sv,<- cons_append,if_neg (by rw[afA hb];decide),if_pos hb,P6 hd (stopD (by simp))]
 rw[if_neg h2] at hp
 by_cases h3:k=3
 ·subst h3
  rw[if_pos rfl,decide_eq_true_eq] at hp
  obtain⟨hn,hL,hf⟩:=Yr _ hp
  match s,hn with
  | b::t,_=>
   have hb:isL b=true:=by rw[all_cons,Bool.and_eq_true] at hL;exact hL.1
   rw[cons_append,Sv,<- cons_append,if_pos hb,P6 (acX hL) (stop (by simp)),if_pos hf]
 rw[if_neg h3,Bool.and_eq_true,decide_eq_true_eq,decide_eq_true_eq] at hp
 obtain⟨rfl,hs⟩:=hp
 have hsg:CC (s++tx r)=s:=by
  have ht:s=[61]->∀ b∈(tx r).head?,b≠61:=fun e b hb=>by
   rw[Ww hr] at hb
   unfold jn at hj
   rw[if_neg (by simp),if_pos e] at hj
   cases r with
   | nil=>cases hb
   | cons q r=>
    simp only[ok,Bool.and_eq_true] at hr
    obtain⟨c,t,e,h1,-⟩:=zc hr.1
    simp only[head?_cons,Option.bind_some,e,Option.mem_def,Option.some.injEq] at hb
    subst hb
    exact(h1 (by simpa using hj)).2
  generalize tx r=u at *
  have one:∀ b:UInt8,s=[b]->b≠38->sgB.contains b=true->(b=61->s=[61])->CC ([b]++u)=[b]:=fun b e h4 hc h5=>by
   unfold CC
   rw[if_neg]
   ·show (if sgB.contains b=true then [b] else [])=[b]
    rw[if_pos hc]
   ·cases u with
    | nil=>simp
    | cons c u=>
     simp only[cons_append,nil_append,take_succ_cons,take_zero,List.cons.injEq,and_true,not_or,not_and]
     exact⟨fun e1=>ht (h5 e1) c (by simp),fun e1=>absurd e1 h4⟩
  simp only[mem_cons,not_mem_nil,or_false] at hs
  rcases hs with e | e | e | e | e | e | e | e | e | e | e | e | e | e | e | e
  all_goals rw[e]
  all_goals first
   | exact one _ e (by decide) (by decide) fun h=>absurd h (by decide)
   | exact one _ e (by decide) (by decide) fun _=>e
   | (unfold CC;first | (rw[if_pos (.inl rfl)];rfl) | (rw[if_pos (.inr rfl)];rfl))
 obtain⟨b,t,e,hb⟩:=Vu _ hs
 rw[e] at hsg ⊢
 rw[cons_append,Sv,<- cons_append,hsg,if_neg (by rw[hb.2.1];decide),if_neg (by rw[hb.2.2.1];decide),if_neg (by simp)]
theorem XI {s} (hs:s.length<=20000):∀ (n k:Nat),s.length+1<=n+k->k<=s.length->(∀ b∈(s.drop (k+Be blk (s.drop k))).head?,b≠47)->
  lu s n (k:Int)=some (.stop ((k+Be blk (s.drop k):Nat):Int))\/lu s n (k:Int)=some (.next ((k+Be blk (s.drop k):Nat):Int))
 | 0,k,h,hk,_=>by omega
 | n+1,k,h,hk,hb=>by
  rw[lu]
  by_cases hlt:k < s.length
  ·rw[drop_eq_getElem_cons hlt,uD] at hb ⊢
   rw[if_pos (by simpa using hlt),cU hlt,obs,Xr,obs]
   cases hc:blk s[k] with
   | true=>
    rw[hc,if_pos rfl,<- Nat.add_assoc,Nat.add_right_comm] at hb
    rw[if_pos rfl,if_pos rfl,cn hlt (by omega),<- Nat.add_assoc,Nat.add_right_comm]
    exact XI hs n (k+1) (by omega) (by omega) hb
   | false=>
    rw[hc,if_neg (by decide),Nat.add_zero,drop_eq_getElem_cons hlt,head?_cons] at hb
    have h0:=hb _ rfl
    have hne:(((s[k].toNat:Nat):Int) != 47)=true:=by
     simp only[bne_iff_ne,ne_eq]
     intro e
     exact h0 (UInt8.toNat_inj.1 (by simpa using (by omega:s[k].toNat=47)))
    simp only[Bool.false_eq_true,if_false]
    rw[obs,if_pos hne,ite_self,obs,if_pos rfl]
    exact .inl rfl
  ·rw[if_neg (by simpa using hlt),drop_eq_nil_of_le (by omega)]
   right
   congr 2
theorem Wq {s} (hs:s.length<=20000) (hb:∀ b∈(s.drop (Be blk s)).head?,b≠47):qp s=some ((Be blk s:Nat):Int):=by
 have:=XI hs (s.length+64) 0 (by omega) (by omega) (by rw[drop_zero,Nat.zero_add];exact hb)
 rw[drop_zero,Nat.zero_add,show ((0:Nat):Int)=0 from rfl] at this
 unfold qp
 rcases this with h | h<;>(rw[h];rfl)
def lb : List KT->Nat
 | []=>0
 | p::r=>if p.1=0 then p.2.length+lb r else 0
theorem QM {q}:∀ {s t:List UInt8},s.all q=true->Be q (s++t)=s.length+Be q t
 | [],t,_=>by simp
 | b::s,t,h=>by
  rw[all_cons,Bool.and_eq_true] at h
  rw[cons_append,uD,if_pos h.1,QM h.2,length_cons];omega
theorem SX : ∀ (ps:List KT),ok ps=true->Be blk (tx ps)=lb ps/\∀ b∈((tx ps).drop (lb ps)).head?,b≠47
 | [],_=>⟨rfl,fun b hb=>by cases hb⟩
 | p::r,h=>by
  simp only[ok,Bool.and_eq_true] at h
  obtain⟨i1,i2⟩:=SX r h.2.2
  obtain⟨b,t,e,h0,-,hn⟩:=zc h.1
  rw[dy,lb]
  by_cases hp:p.1=0
  ·have ha:p.2.all blk=true:=by
    have:=h.1
    unfold vld at this
    rw[if_pos hp,Bool.and_eq_true] at this
    exact this.2
   rw[if_pos hp,QM ha,i1,drop_append]
   refine⟨rfl,?_⟩
   rw[drop_eq_nil_of_le (by omega),nil_append,Nat.add_sub_cancel_left]
   exact i2
  ·have hb:=hn hp
   rw[if_neg hp,e,cons_append,uD,if_neg (by rw[hb.1];decide),drop_zero]
   exact⟨rfl,fun c hc=>by simp only[head?_cons,Option.mem_def,Option.some.injEq] at hc;subst hc;exact hb.2⟩
theorem aan {p} (h:vld p=true):1<=p.2.length:=by
 obtain⟨b,t,e,-⟩:=zc h
 rw[e];simp
theorem U0 : ∀ ps:List KT,ok ps=true->(tks ps).length+lb ps<=(tx ps).length
 | [],_=>by simp[tks,lb,tx]
 | p::r,h=>by
  simp only[ok,Bool.and_eq_true] at h
  have:=U0 r h.2.2
  have h1:=aan h.1
  rw[dy,length_append,lb]
  unfold tks at this ⊢
  by_cases hp:p.1=0
  ·rw[if_pos hp,filter_cons_of_neg (by simp[hp])];omega
  ·rw[if_neg hp,filter_cons_of_pos (by simp[hp]),length_cons];omega
theorem abF {p} (h:vld p=true) (h2:p.1=2):(mz p.2).2=true:=by
 unfold vld at h
 rw[if_neg (by omega),if_neg (by omega),if_pos h2] at h
 exact h
theorem YQ {p} (h:vld p=true) (h1:p.1=1):dw p.2=true:=by
 unfold vld at h
 rw[if_neg (by omega),if_pos h1] at h
 exact h
theorem Qy {α:Type} {pre l:List α} {a b:Int} (ha:a=(pre.length:Int)) (hb:b=((pre++l).length:Int)):jK (pre++l) a b=some l:=by
 subst ha hb
 rw[wQ (by rw[length_append];omega),drop_left]
theorem acN {s} (hs:s.length<=16384):∀ (ps:List KT) (pre:List UInt8) (n:Nat) (out:List aK),s=pre++tx ps->ok ps=true->(tks ps).length+1<=n->out.length+(tks ps).length<=20000->
  ∃ l:List aK,l.map kt=tks ps/\qF s n out ((pre.length+lb ps:Nat):Int)=some (out++l)
 | [],pre,0,out,_,_,hn,_=>by omega
 | [],pre,n+1,out,e,_,_,_=>by
  have e2:s.length=pre.length:=by rw[e];simp[tx]
  refine⟨[],rfl,?_⟩
  rw[qF,if_neg (by simp only[lb];simp;omega),append_nil]
 | p::r,pre,n,out,e,h,hn,ho=>by
  have h':=h
  simp only[ok,Bool.and_eq_true] at h'
  obtain⟨hv,hj,hr⟩:=h'
  rw[dy] at e
  have e':s=(pre++p.2)++tx r:=by rw[e,append_assoc]
  by_cases hp:p.1=0
  ·have ht:tks (p::r)=tks r:=by unfold tks;rw[filter_cons_of_neg (by simp[hp])]
   rw[ht] at hn ho ⊢
   obtain⟨l,h1,h2⟩:=acN hs r (pre++p.2) n out e' hr hn ho
   refine⟨l,h1,?_⟩
   rw[lb,if_pos hp,<- Nat.add_assoc,<- length_append]
   exact h2
  ·have ht:tks (p::r)=p::tks r:=by unfold tks;rw[filter_cons_of_pos (by simp[hp])]
   rw[ht,length_cons] at hn ho
   match n,hn with
   | n+1,hn=>
    have hpos:=aan hv
    have hlen:s.length=pre.length+p.2.length+(tx r).length:=by rw[e];simp;omega
    have hl:=SX r hr
    have hk:=YX hv hp hj hr
    obtain⟨l,h1,h2⟩:=acN hs r (pre++p.2) n (out++[(⟨p.1,p.2,(pre.length:Int)⟩:aK)]) e' hr (by omega) (by rw[length_append,length_cons,length_nil];omega)
    refine⟨(⟨p.1,p.2,(pre.length:Int)⟩:aK)::l,by rw[map_cons,h1,ht];rfl,?_⟩
    have hc1:jK s (pre.length:Int) (s.length:Int)=some (p.2++tx r):=by rw[e];exact Qy rfl rfl
    have hw:ae ((pre.length:Int)+(p.2.length:Int))=(((pre++p.2).length:Nat):Int):=by rw[w64 (by omega) (by omega),length_append];omega
    have hc2:jK s (((pre++p.2).length:Nat):Int) (s.length:Int)=some (tx r):=by rw[e'];exact Qy rfl rfl
    have hx:(if(p.1==1)=true then if decide ((p.2.length:Int) > 20)=true then some true else if(p.1==2)=true then some (!(mz p.2).2) else some false else if(p.1==2)=true then some (!(mz p.2).2) else some false:Option Bool)=some false:=by
     by_cases q1:p.1=1
     ·have:=ju (YQ hv q1)
      rw[if_pos (by simpa using q1),if_neg (by simp;omega),if_neg (by simp[q1])]
     ·rw[if_neg (by simpa using q1)]
      by_cases q2:p.1=2
      ·rw[if_pos (by simpa using q2),abF hv q2];rfl
      ·rw[if_neg (by simpa using q2)]
    rw[show pre.length+lb (p::r)=pre.length by rw[lb,if_neg hp];rfl,qF,if_pos (by simp;omega),hc1,obs,aea (by intro e0;have:=congrArg length e0;rw[length_append,length_nil] at this;omega) (by rw[length_append];omega),obs,hk]
    simp only
    rw[if_neg (by simpa using hp),yk,obs,hx,obs,if_neg (by decide),gz (by simp only[length_cons,length_nil];omega),obs,hw,hc2,obs,Wq (by omega) (by rw[hl.1];exact hl.2),obs,hl.1,w64 (by have:=GZ blk (tx r);rw[length_append];omega) (by have:=GZ blk (tx r);rw[hl.1] at this;rw[length_append];omega),show ((((pre++p.2).length:Nat):Int)+((lb r:Nat):Int))=(((pre++p.2).length+lb r:Nat):Int) by omega,h2,append_assoc]
    rfl
theorem adq {ps} (h:ok ps=true) (hs:(tx ps).length<=16384):∃ (l:List aK) (e:aK),zx (tx ps)=some (l++[e],aM)/\l.map kt=tks ps/\kt e=(0,[])/\l.length<=16384:=by
 have hl:=SX ps h
 have ht:=U0 ps h
 obtain⟨l,h1,h2⟩:=acN hs ps [] ((tx ps).length - lb ps+1) [] rfl h (by omega) (by simp only[length_nil];omega)
 rw[length_nil,Nat.zero_add,nil_append] at h2
 have hll:l.length<=16384:=by
  have:=congrArg length h1
  rw[length_map] at this
  omega
 refine⟨l,{ aa:=0,bV:=[],fAt:=((tx ps).length:Int) },?_,h1,rfl,hll⟩
 have hd:decide (((tx ps).length:Int) > 16384)=false:=decide_eq_false (by omega)
 have hf:((((tx ps).length:Int):Int) - (((lb ps:Nat):Int))).toNat+1=(tx ps).length - lb ps+1:=by omega
 have hr:dr ((l.length:Int)+(([(⟨0,[],((tx ps).length:Int)⟩:aK)].length:Nat):Int)) 32=some ():=gz (by rw[length_singleton];omega)
 have hk:qp (tx ps)=some ((lb ps:Nat):Int):=by rw[Wq (by omega) (by rw[hl.1];exact hl.2),hl.1]
 delta zx
 rw[hd,if_neg (by decide),hk,obs,hf,h2,obs,hr,obs]
theorem de {s r}:tks ((0,s)::r)=tks r:=by unfold tks;rw[filter_cons_of_neg (by simp)]
theorem cf {k:Int} {s r} (h:k≠0):tks ((k,s)::r)=(k,s)::tks r:=by unfold tks;rw[filter_cons_of_pos (by simp[h])]
theorem Oj : tks []=[]:=rfl
theorem kr : tx []=[]:=rfl
theorem fe {a q b} (ha:ok a=true) (hq:sp q=true) (hb:ok b=true):ok (a++q::b)=true:=UC hb hq a ha
theorem YI {p} (h:vld p=true) (hk:p.2≠[61]):ok [p]=true:=by
 unfold ok ok jn
 rw[h,if_neg hk]
 simp
def RB (b:Bool) (s:List KT):List KT:=if b=true then(4,[40])::(s++[(4,[41])]) else s
def OU (t:List (Int->List KT)) (i:Nat) (m:Int):List KT:=match t[i]? with | some f=>f m | none=>[]
def ePs (k n:Int) (nm:List UInt8) (a b:Int->List KT):List KT:=
 if k=1 then [(2,wY n)] else if k=2 then [(1,nm)] else if k=3 then [(3,[116,104,105,115])] else if k=4 then [(3,[110,117,108,108])] else if k=5 then [(3,[105,110,112,117,116])]
 else if k=12 then(4,[33])::a 4 else if k=13 then(3,[110,105,108])::(4,[40])::(a 4++[(4,[41])]) else if k=14 then(3,[115,97,109,101])::(4,[40])::(a 4++(4,[44])::(0,[32])::(b 4++[(4,[41])]))
 else a (if lvS k=1 then 2 else lvS k)++(0,[32])::(4,sgS k)::(0,[32])::b (lvS k+1)
mutual
def eP : ai->Int->List KT
 | ⟨k,n,nm,l⟩,m=>RB (decide (lvS k < m)) (ePs k n nm (OU (ePL l) 0) (OU (ePL l) 1))
def ePL : List ai->List (Int->List KT)
 | []=>[]
 | e::l=>eP e::ePL l
end
theorem om (e:ai) (m:Int):eP e m=RB (decide (lvS e.aa < m)) (ePs e.aa e.cj e.af (OU (ePL e.az) 0) (OU (ePL e.az) 1)):=by cases e;rw[eP]
theorem adp (x:ai) (m:Int):OU (ePL [x]) 0 m=eP x m:=rfl
theorem GK (x y:ai) (m:Int):OU (ePL [x,y]) 0 m=eP x m:=rfl
theorem Qf (x y:ai) (m:Int):OU (ePL [x,y]) 1 m=eP y m:=rfl
theorem Ct (b:Bool) (s:List KT):tx (RB b s)=Iz b (tx s):=by
 cases b
 ·rfl
 ·simp[RB,Iz,dy,mp,kr]
theorem CG {k n:Int} {nm a b} (h:6<=k/\k<=11):ePs k n nm a b=a (if lvS k=1 then 2 else lvS k)++(0,[32])::(4,sgS k)::(0,[32])::b (lvS k+1):=by
 unfold ePs
 rw[if_neg (by omega),if_neg (by omega),if_neg (by omega),if_neg (by omega),if_neg (by omega),if_neg (by omega),if_neg (by omega),if_neg (by omega)]
theorem Nj {P:ai->Prop}
  (h1:∀ e,e.aa=1->e.az=[]->e.af=[]->0<=e.cj/\e.cj<=999999999->P e) (h2:∀ e,e.aa=2->e.az=[]->e.cj=0->dw e.af=true->P e)
  (h3:∀ e,e.aa=3\/e.aa=4\/e.aa=5->e.az=[]->e.cj=0->e.af=[]->P e)
  (h4:∀ e x,e.aa=12\/e.aa=13/\(x.aa=2\/x.aa=3)->e.az=[x]->e.cj=0->e.af=[]->fS x=true->P x->P e)
  (h5:∀ e x y,(6<=e.aa/\e.aa<=11)\/e.aa=14/\(x.aa=2\/x.aa=3\/x.aa=4)/\(y.aa=2\/y.aa=3\/y.aa=4)->e.az=[x,y]->e.cj=0->e.af=[]->fS x=true->fS y=true->P x->P y->P e):
  ∀ (f:Nat) (e:ai),bL e<=f->fS e=true->P e
 | 0,e,h,_=>by have:=sD e;omega
 | f+1,e,h,he=>by
  obtain⟨hk,hl,g1,g2,g0,g3,gn,gm⟩:=oJ he
  have ih:=fun x (hx:x∈e.az)=>Nj h1 h2 h3 h4 h5 f x (by have:=we hx;omega) (xr he hx)
  by_cases hb:(6<=e.aa/\e.aa<=11)\/e.aa=14
  ·obtain⟨x,y,hx⟩:=Sk hl hb
   have mx:x∈e.az:=by rw[hx];exact J7 x y
   have my:y∈e.az:=by rw[hx];exact DU x y
   exact h5 e x y (hb.imp_right fun k=>⟨k,g3 k x mx,g3 k y my⟩) hx (gn (by omega)) (gm (by omega)) (xr he mx) (xr he my) (ih x mx) (ih y my)
  ·by_cases hu:e.aa=12\/e.aa=13
   ·obtain⟨x,hx⟩:=SB hl hu
    have mx:x∈e.az:=by rw[hx];exact Nu x
    exact h4 e x (hu.imp_right fun k=>⟨k,g0 k x mx⟩) hx (gn (by omega)) (gm (by omega)) (xr he mx) (ih x mx)
   ·have h0:e.az=[]:=by
     have:e.az.length=0:=by
      unfold rZ at hl
      rw[if_pos (by omega)] at hl
      omega
     exact eq_nil_of_length_eq_zero this
    by_cases k1:e.aa=1
    ·exact h1 e k1 h0 (gm (by omega)) (g1 k1)
    ·by_cases k2:e.aa=2
     ·exact h2 e k2 h0 (gn k1) (g2 k2)
     ·exact h3 e (by omega) h0 (gn k1) (gm k2)
theorem aej {e} (he:fS e=true):∀ m,tx (eP e m)=eT e m:=by
 refine Nj (P:=fun e=>∀ m,tx (eP e m)=eT e m) ?_ ?_ ?_ ?_ ?_ _ e (Nat.le_refl _) he
 ·intro e k hx _ _ m;rw[om,CY,Ct,k];simp[ePs,eTs,dy,kr]
 ·intro e k hx _ _ m;rw[om,CY,Ct,k];simp[ePs,eTs,dy,kr]
 ·intro e k hx _ _ m;rw[om,CY,Ct];rcases k with k | k | k<;>(rw[k];simp[ePs,eTs,dy,kr])
 ·intro e x k hx _ _ _ ih m;rw[om,CY,Ct,hx];rcases k with k | ⟨k,-⟩<;>(rw[k];simp[ePs,eTs,dy,kr,mp,adp,acj,ih])
 ·intro e x y k hx _ _ _ _ ix iy m
  rw[om,CY,Ct,hx]
  rcases k with k | ⟨k,-⟩
  ·rw[CG k,Ow k];simp[dy,kr,mp,GK,Qf,TU,Px,ix,iy]
  ·rw[k];simp[ePs,eTs,dy,kr,mp,GK,Qf,TU,Px,ix,iy]
theorem adM {s} (h:dw s=true):vld (1,s)=true:=by unfold vld;rw[if_neg (by simp),if_pos rfl];exact h
theorem aeL {s} (h:dw s=true):s≠[61]:=by rintro rfl;revert h;decide
theorem tB {s} (h:dw s=true):ok [(1,s)]=true:=YI (adM h) (aeL h)
theorem PZ {n:Int} (h:0<=n/\n<=999999999):mz (wY n)=(n,true):=by
 obtain⟨k,rfl⟩:∃ k:Nat,n=(k:Int):=⟨n.toNat,by omega⟩
 exact N4 (by omega)
theorem xm {b s} (h:ok s=true):ok (RB b s)=true:=by
 cases b
 ·exact h
 ·exact eh (by decide) (fe h (by decide) rfl)
theorem aeR {k:Int} (h:6<=k/\k<=11):sp (4,sgS k)=true:=by rcases uX h with rfl | rfl | rfl | rfl | rfl | rfl<;>decide
theorem Nn {e} (he:fS e=true):∀ m,ok (eP e m)=true:=by
 refine Nj (P:=fun e=>∀ m,ok (eP e m)=true) ?_ ?_ ?_ ?_ ?_ _ e (Nat.le_refl _) he
 ·intro e k hx _ h m
  rw[om,k]
  refine xm (YI ?_ ?_)
  ·unfold vld;rw[if_neg (by simp),if_neg (by simp),if_pos rfl,PZ h]
  ·intro (e2:wY e.cj=[61])
   have:=PZ h
   rw[e2] at this
   revert this;rw[show mz [61]=(0,false) from by decide];simp
 ·intro e k hx _ h m;rw[om,k];exact xm (tB h)
 ·intro e k hx _ _ m
  rw[om]
  rcases k with k | k | k<;>rw[k]
  ·exact xm (show ok [(3,[116,104,105,115])]=true by decide)
  ·exact xm (show ok [(3,[110,117,108,108])]=true by decide)
  ·exact xm (show ok [(3,[105,110,112,117,116])]=true by decide)
 ·intro e x k hx _ _ _ ih m
  rw[om,hx]
  rcases k with k | ⟨k,-⟩
  ·rw[k];exact xm (eh (by decide) (ih 4))
  ·rw[k];exact xm (fe (a:=[(3,[110,105,108])]) (by decide) (by decide) (fe (ih 4) (by decide) rfl))
 ·intro e x y k hx _ _ _ _ ix iy m
  rw[om,hx]
  rcases k with k | ⟨k,-⟩
  ·rw[CG k];exact xm (fe (ix _) (by decide) (eh (aeR k) (eh (by decide) (iy _))))
  ·rw[k];exact xm (fe (a:=[(3,[115,97,109,101])]) (by decide) (by decide) (fe (ix 4) (by decide) (eh (by decide) (fe (iy 4) (by decide) rfl))))
def At (l:List aK) (i:Nat) (ts:List KT):Prop:=∃ r,(l.drop i).map kt=ts++r
theorem gy {l i a b} (h:At l i (a++b)):At l i a/\At l (i+a.length) b:=by
 obtain⟨r,h⟩:=h
 refine⟨⟨b++r,by rw[h,append_assoc]⟩,r,?_⟩
 rw[<- drop_drop,map_drop,h,append_assoc,drop_left]
theorem cu {l i t ts} (h:At l i (t::ts)):At l (i+1) ts:=(gy (a:=[t]) h).2
theorem afi {l i t ts} (h:At l i (t::ts)):∃ k,l[i]? =some k/\k.aa=t.1/\k.bV=t.2:=by
 obtain⟨r,h⟩:=h
 cases hd:l.drop i with
 | nil=>rw[hd] at h;cases h
 | cons k q=>
  rw[hd,map_cons,cons_append] at h
  injection h with h1 h2
  have:l[i]? =some k:=by rw[<- head?_drop,hd];rfl
  exact⟨k,this,congrArg Prod.fst h1,congrArg Prod.snd h1⟩
theorem ks {l i t ts} (h:At l i (t::ts)):∃ k,dC l (i:Int)=some k/\k.aa=t.1/\k.bV=t.2/\i < l.length:=by
 obtain⟨k,h1,h2,h3⟩:=afi h
 have hlt:i < l.length:=(List.getElem?_eq_some_iff.1 h1).1
 refine⟨k,?_,h2,h3,hlt⟩
 unfold dC
 rw[if_pos (by simp),obs,if_pos (by simpa using hlt),cU hlt,obs,<- h1,getElem?_eq_getElem hlt]
def isT (t:KT) (s:List UInt8):Bool:=if t.1=3\/t.1=4 then t.2==s else false
theorem py {k t} (h1:k.aa=t.1) (h2:k.bV=t.2) (s:List UInt8):dz k s=some (isT t s):=by
 unfold dz isT
 rw[h1,h2]
 by_cases h3:t.1=3
 ·rw[if_pos (by simpa using h3),if_pos (.inl h3)]
 ·by_cases h4:t.1=4
  ·rw[if_neg (by simpa using h3),if_pos (by simpa using h4),if_pos (.inr h4)]
  ·rw[if_neg (by simpa using h3),if_neg (by simpa using h4),if_neg (by omega)]
def btw (t:KT) (L:Int):List UInt8:=if L=0 then(if isT t [38,38]=true then [38,38] else []) else if L=1 then(if isT t [60]=true then [60] else if isT t [61,61]=true then [61,61] else [])
 else if L=2 then(if isT t [43]=true then [43] else if isT t [45]=true then [45] else []) else(if isT t [42]=true then [42] else [])
theorem Ke {l i t ts} (h:At l i (t::ts)) {L:Int} (hL:0<=L/\L<=3):nn l (i:Int) L=some (btw t L):=by
 obtain⟨k,h1,h2,h3,-⟩:=ks h
 have hI:=py h2 h3
 have hc:L=0\/L=1\/L=2\/L=3:=by omega
 have w1:ae (0+1)=1:=by decide
 have w2:ae (1+1)=2:=by decide
 have two:∀ a b:List UInt8,ff l (i:Int) [a,b] 3 0=some (if isT t a=true then .stop a else if isT t b=true then .stop b else .next ()):=fun a b=>by
  have i0:idx [a,b] 0=some a:=rfl
  have i1:idx [a,b] 1=some b:=rfl
  rw[ff,if_pos (by simp),h1,obs,i0,obs,hI,obs]
  by_cases ha:isT t a=true
  ·rw[if_pos ha,if_pos ha,obs]
  ·rw[if_neg ha,if_neg ha,w1,ff,if_pos (by simp),h1,obs,i1,obs,hI,obs]
   by_cases hb:isT t b=true
   ·rw[if_pos hb,if_pos hb,obs]
   ·rw[if_neg hb,if_neg hb,w2,ff,if_neg (by simp)]
 have one:∀ a:List UInt8,ff l (i:Int) [a] 2 0=some (if isT t a=true then .stop a else .next ()):=fun a=>by
  have i0:idx [a] 0=some a:=rfl
  rw[ff,if_pos (by simp),h1,obs,i0,obs,hI,obs]
  by_cases ha:isT t a=true
  ·rw[if_pos ha,if_pos ha,obs]
  ·rw[if_neg ha,if_neg ha,w1,ff,if_neg (by simp)]
 unfold nn btw
 rcases hc with rfl | rfl | rfl | rfl
 ·rw[show oO 0=some [[38,38]] from rfl,obs,show ((((([[38,38]]:List (List UInt8)).length:Nat):Int) - 0:Int).toNat+1)=2 from rfl,one,obs]
  cases isT t [38,38]<;>rfl
 ·rw[show oO 1=some [[60],[61,61]] from rfl,obs,show ((((([[60],[61,61]]:List (List UInt8)).length:Nat):Int) - 0:Int).toNat+1)=3 from rfl,two,obs]
  cases isT t [60]<;>cases isT t [61,61]<;>rfl
 ·rw[show oO 2=some [[43],[45]] from rfl,obs,show ((((([[43],[45]]:List (List UInt8)).length:Nat):Int) - 0:Int).toNat+1)=3 from rfl,two,obs]
  cases isT t [43]<;>cases isT t [45]<;>rfl
 ·rw[show oO 3=some [[42]] from rfl,obs,show ((((([[42]]:List (List UInt8)).length:Nat):Int) - 0:Int).toNat+1)=2 from rfl,one,obs]
  cases isT t [42]<;>rfl
def CJ (L:Int) (t:KT):Prop:=∀ j,L<=j->0<=j->j<=3->btw t j=[]
theorem Pb {k:Int} (h:6<=k/\k<=11):CJ (lvS k+1) (4,sgS k)/\btw (4,sgS k) (lvS k)=sgS k/\sgS k≠[]/\xz (sgS k)=some k:=by
 refine⟨fun j h1 h0 h3=> ?_,?_⟩
 ·have hj:j=0\/j=1\/j=2\/j=3:=by omega
  rcases uX h with rfl | rfl | rfl | rfl | rfl | rfl<;>rcases hj with rfl | rfl | rfl | rfl<;>first | rfl | (exact absurd h1 (by decide))
 ·rcases uX h with rfl | rfl | rfl | rfl | rfl | rfl<;>exact⟨rfl,by decide,rfl⟩
def tE (e:ai) (L:Int):List KT:=tks (eP e L)
theorem vg {e} {L:Int} (h:L<=lvS e.aa):tE e L=tks (ePs e.aa e.cj e.af (OU (ePL e.az) 0) (OU (ePL e.az) 1)):=by
 unfold tE
 rw[om,decide_eq_false (by omega)];rfl
theorem Uc {e} {L:Int} (h:lvS e.aa < L) (h0:0<=lvS e.aa):tE e L=(4,[40])::(tE e 0++[(4,[41])]):=by
 rw[vg h0]
 unfold tE
 rw[om,decide_eq_true h,RB,if_pos rfl,cf (by decide),ed,cf (by decide),Oj]
theorem adt {e x} (h:e.az=[x]):dE e=1+dE x:=by rw[Ju,h];simp[dEL]
theorem aby {e x y} (h:e.az=[x,y]):dE e=1+max (dE x) (dE y):=by rw[Ju,h];simp[dEL]
theorem afg {k:Int} (h:1<=k/\k<=14):0<=lvS k/\lvS k<=4:=by rcases Na h with rfl | rfl | rfl | rfl | rfl | rfl | rfl | rfl | rfl | rfl | rfl | rfl | rfl | rfl<;>decide
theorem aeT {k:Int} (h:1<=k/\k<=14):lvS k=4↔¬ (6<=k/\k<=11):=by rcases Na h with rfl | rfl | rfl | rfl | rfl | rfl | rfl | rfl | rfl | rfl | rfl | rfl | rfl | rfl<;>decide
theorem wN {i:Nat} (h:i<=1000000):ae ((i:Int)+1)=((i+1:Nat):Int):=by rw[w64 (by omega) (by omega)];omega
def NN (e:ai) (L:Int) (nest:Nat):Prop:=if lvS e.aa < L\/lvS e.aa=4 then nest+dE e<=20 else nest+dE e<=21
def FF (e:ai) (L:Int) (f:Nat):Prop:=if lvS e.aa < L then 7 * (dE e:Int)+6 - L<=(f:Int) else 7 * (dE e:Int)<=(f:Int)+L
def RdA (e:ai):Prop:=∀ (l:List aK) (i:Nat) (L:Int) (nest f:Nat) (t:KT) (r:List KT),l.length<=20000->At l i (tE e L++t::r)->0<=L->L<=4->CJ L t->NN e L nest->FF e L f->dq f l (i:Int) L (nest:Int)=some ⟨e,((i+(tE e L).length:Nat):Int),aM⟩
def RdS (e:ai):Prop:=∀ (l:List aK) (i:Nat) (L:Int) (nest f:Nat) (t:KT) (r:List KT),l.length<=20000->At l i (tE e L++t::r)->0<=L->L<=3->L≠1->CJ (L+1) t->NN e L nest->FF e L (f+1)->∃ n,l.length+64<=n+dE e/\dq (f+1) l (i:Int) L (nest:Int)=Option.bind (eW l L (nest:Int) (dq f) n ⟨e,((i+(tE e L).length:Nat):Int),aM⟩) fun lr0=>Ctl.elim lr0 (fun v=>some v) fun x0=>some x0
def RdT (e:ai):Prop:=∀ (l:List aK) (i:Nat) (nest h:Nat) (t:KT) (r:List KT),l.length<=20000->At l i (tE e 4++t::r)->CJ 4 t->NN e 4 nest->FF e 4 (h+1)->iC h l (i:Int) (nest:Int)=some ⟨e,((i+(tE e 4).length:Nat):Int),aM⟩
theorem Nk {l i t r} (h:At l i (t::r)) {L:Int} (hL:0<=L/\L<=3) (hs:btw t L=[]) {nest:Int} {c n} (e:ai):eW l L nest c (n+1) ⟨e,(i:Int),aM⟩=some (.next ⟨e,(i:Int),aM⟩):=by
 rw[eW]
 simp only
 rw[if_pos (by decide),Ke h hL,obs,hs,obs,if_neg (by decide)]
def Ci (e:ai) (L:Int):Prop:=∀ (l:List aK) (i:Nat) (nest f:Nat) (t:KT) (r:List KT),l.length<=20000->At l i (tE e L++t::r)->CJ L t->NN e L nest->FF e L f->dq f l (i:Int) L (nest:Int)=some ⟨e,((i+(tE e L).length:Nat):Int),aM⟩
theorem FH {l i a t r} (h:At l i (a++t::r)):i+a.length < l.length:=by
 obtain⟨-,-,-,-,hlt⟩:=ks (gy h).2
 exact hlt
theorem Ed {L M:Int} {t} (h:CJ L t) (hm:L<=M):CJ M t:=fun j h1 h0 h3=>h j (by omega) h0 h3
theorem afl {e} {L:Int} (hk:1<=e.aa/\e.aa<=14) (h:lvS e.aa≠L):tE e (L+1)=tE e L:=by
 have h0:=afg hk
 by_cases hl:lvS e.aa < L
 ·rw[Uc hl h0.1,Uc (by omega) h0.1]
 ·rw[vg (by omega),vg (by omega)]
theorem BQ (e:ai):1<=dE e:=by rw[Ju];omega
theorem Tp {e} {L:Int} {f} (h:FF e L f) (hL:L<=4):∃ g,f=g+1:=by
 have:=BQ e
 unfold FF at h
 refine⟨f - 1,?_⟩
 split at h<;>omega
theorem aeo {e} {L:Int} {n} (h:lvS e.aa≠L) (hn:NN e L n):NN e (L+1) n:=by
 unfold NN at hn ⊢
 by_cases h4:lvS e.aa < L\/lvS e.aa=4
 ·rw[if_pos h4] at hn;rw[if_pos (by omega)];exact hn
 ·rw[if_neg h4] at hn;rw[if_neg (by omega)];exact hn
theorem aet {e} {L:Int} {g} (h:lvS e.aa≠L) (hf:FF e L (g+1)):FF e (L+1) g:=by
 unfold FF at hf ⊢
 by_cases h4:lvS e.aa < L
 ·rw[if_pos h4] at hf;rw[if_pos (by omega)];omega
 ·rw[if_neg h4] at hf;rw[if_neg (by omega)];omega
theorem aac {e} {L:Int} (hk:1<=e.aa/\e.aa<=14) (h0:0<=L) (h3:L<=3) (hl:lvS e.aa≠L) (hA:Ci e (L+1)) {l i nest f t r} (hll:l.length<=20000) (h:At l i (tE e L++t::r)) (hs:CJ (L+1) t) (hn:NN e L nest) (hf:FF e L (f+1)):
  dq (f+1) l (i:Int) L (nest:Int)=Option.bind (eW l L (nest:Int) (dq f) (l.length+64) ⟨e,((i+(tE e L).length:Nat):Int),aM⟩) fun lr0=>Ctl.elim lr0 (fun v=>some v) fun x0=>some x0:=by
 have he:=afl hk hl
 have:=hA l i nest f t r hll (by rw[he];exact h) hs (aeo hl hn) (aet hl hf)
 rw[he] at this
 rw[dq,if_neg (by simp;omega),w64 (by omega) (by omega),this,obs]
theorem acL {e} {L:Int} (hk:1<=e.aa/\e.aa<=14) (h0:0<=L) (h3:L<=3) (hl:lvS e.aa≠L) (hA:Ci e (L+1)):Ci e L:=by
 intro l i nest f t r hll h hs hn hf
 obtain⟨g,rfl⟩:=Tp hf (by omega)
 rw[aac hk h0 h3 hl hA hll h (Ed hs (by omega)) hn hf,Nk (gy h).2 ⟨h0,h3⟩ (hs L (Int.le_refl _) h0 h3),obs]
 rfl
theorem A_4 {e} (hT:RdT e):Ci e 4:=by
 intro l i nest f t r hll h hs hn hf
 obtain⟨g,rfl⟩:=Tp hf (by omega)
 rw[dq,if_pos (by decide),hT l i nest g t r hll h hs hn hf,obs]
theorem Qh {e} {M:Int} (hk:1<=e.aa/\e.aa<=14) (hM:M<=4) (hA:Ci e M):∀ (n:Nat) (L:Int),0<=L->L+n=M->(∀ j,L<=j->j < M->lvS e.aa≠j)->Ci e L
 | 0,L,h0,hL,_=>by
  have:L=M:=by omega
  rw[this];exact hA
 | n+1,L,h0,hL,hne=>acL hk h0 (by omega) (hne L (Int.le_refl _) (by omega)) (Qh hk hM hA n (L+1) (by omega) (by omega) fun j h1 h2=>hne j (by omega) h2)
theorem zL {l i s r} (hll:l.length<=20000) (h:At l i ((4,s)::r)) (e:ai):oW l ⟨e,(i:Int),aM⟩ s=some ⟨e,((i+1:Nat):Int),aM⟩:=by
 obtain⟨k,h1,h2,h3,hlt⟩:=ks h
 unfold oW
 simp only
 rw[if_neg (by decide),h1,obs,py h2 h3,obs,show isT (4,s) s=true from by simp[isT],if_neg (by decide),wN (by omega)]
theorem aeH {e} (h0:0<=lvS e.aa) (h4:lvS e.aa < 4) (hA:Ci e 0):RdT e:=by
 intro l i nest h t r hll hat hs hn hf
 rw[Uc h4 h0] at hat ⊢
 rw[cons_append,append_assoc,cons_append,nil_append] at hat
 unfold NN at hn
 unfold FF at hf
 rw[if_pos (.inl h4)] at hn
 rw[if_pos h4] at hf
 have hd:=BQ e
 obtain⟨g,rfl⟩:∃ g,h=g+1:=⟨h - 1,by omega⟩
 obtain⟨k,h1,h2,h3,hlt⟩:=ks hat
 have hI:=py h2 h3
 have hat1:=cu hat
 have hi:=FH hat1
 have:=hA l (i+1) (nest+1) g (4,[41]) (t::r) hll hat1 (fun j h1 h0 h3=>by
   have hj:j=0\/j=1\/j=2\/j=3:=by omega
   rcases hj with rfl | rfl | rfl | rfl<;>rfl) (by unfold NN;rw[if_neg (by omega)];omega) (by unfold FF;rw[if_neg (by omega)];omega)
 rw[iC,h1,obs,hI,obs,show isT (4,[40]) [40]=true from rfl,if_pos rfl,obs,show (((nest:Nat):Int)==20)=false by simp;omega,if_neg (by decide),obs,if_pos rfl,wN (by omega),wN (by omega),this,obs,zL hll (gy hat1).2,obs]
 simp only[length_cons,length_append,length_nil]
 congr 3
 omega
theorem Ff (e:ai):e=⟨e.aa,e.cj,e.af,e.az⟩:=by cases e;rfl
theorem xF {g l} {i nest:Int} {k t} (h1:dC l i=some k) (h2:k.aa=t.1) (h3:k.bV=t.2) (n40:isT t [40]=false) (n33:isT t [33]=false):iC (g+1) l i nest=if isT t [110,105,108]||isT t [115,97,109,101] then oU l i else
  if isT t [105,110,112,117,116]=true then some ⟨⟨5,0,[],[]⟩,ae (i+1),aM⟩ else if(t.1==2&&(mz t.2).2)=true then some ⟨⟨1,(mz t.2).1,[],[]⟩,ae (i+1),aM⟩ else jH l i true:=by
 have hI:=py h2 h3
 rw[iC,h1]
 simp only[obs,hI,n40,n33,Bool.false_eq_true,if_false,yk,h2,h3]
 generalize isT t [110,105,108]=A
 generalize isT t [115,97,109,101]=B
 generalize isT t [105,110,112,117,116]=C
 generalize (t.1==2)=D
 generalize (mz t.2).2=E
 cases oU l i<;>cases jH l i true<;>cases A<;>cases B<;>cases C<;>cases D<;>cases E<;>rfl
theorem zE {l i t r} (hll:l.length<=20000) (h:At l i (t::r)) {x nul} (hx:(x=⟨2,0,t.2,[]⟩/\t.1=1)\/(x=⟨3,0,[],[]⟩/\t=(3,[116,104,105,115]))\/(x=⟨4,0,[],[]⟩/\t=(3,[110,117,108,108])/\nul=true)):jH l (i:Int) nul=some ⟨x,((i+1:Nat):Int),aM⟩:=by
 obtain⟨k,h1,h2,h3,hlt⟩:=ks h
 have hI:=py h2 h3
 unfold jH
 rw[h1,obs,h2,wN (by omega)]
 rcases hx with⟨rfl,e⟩ | ⟨rfl,rfl⟩ | ⟨rfl,rfl,rfl⟩
 ·rw[if_pos (by simpa using e),h3]
 ·rw[if_neg (by decide),hI,obs,if_pos (by decide)]
 ·rw[if_neg (by decide),hI,obs,if_neg (by decide),if_pos rfl,hI,obs,obs,if_pos (by decide)]
theorem Ic {x} (hf:fS x=true) (hk:x.aa=2\/x.aa=3\/x.aa=4):∃ t,tE x 4=[t]/\((x=⟨2,0,t.2,[]⟩/\t.1=1)\/(x=⟨3,0,[],[]⟩/\t=(3,[116,104,105,115]))\/(x=⟨4,0,[],[]⟩/\t=(3,[110,117,108,108]))):=by
 obtain⟨hr,hl,-,-,-,-,gn,gm⟩:=oJ hf
 have h0:x.az=[]:=by
  have:x.az.length=0:=by
   unfold rZ at hl
   rw[if_pos (by omega)] at hl
   omega
  exact eq_nil_of_length_eq_zero this
 have hn:=gn (by omega)
 have e:=Ff x
 rw[hn,h0] at e
 rw[vg (by rw[(aeT hr).2 (by omega)];omega)]
 rcases hk with k | k | k
 ·rw[k] at e ⊢
  exact⟨(1,x.af),rfl,.inl ⟨e,rfl⟩⟩
 ·rw[k,gm (by omega)] at e
  rw[k]
  exact⟨_,rfl,.inr (.inl ⟨e,rfl⟩)⟩
 ·rw[k,gm (by omega)] at e
  rw[k]
  exact⟨_,rfl,.inr (.inr ⟨e,rfl⟩)⟩
theorem UT {e} (hm:bL e<=1000000):ik (bL e+1) e=some (dE e:Int):=wb _ e hm (by omega)
theorem Ta {x} {L:Int} {nest} (h:nest+dE x<=20):NN x L nest:=by unfold NN;split<;>omega
theorem Lg {x:ai} {L:Int} {f:Nat} (h:7 * (dE x:Int)+6 - L<=(f:Int)) (hL:L<=4):FF x L f:=by unfold FF;split<;>omega
theorem afr {e x} (k:e.aa=12) (hx:e.az=[x]) (hn0:e.cj=0) (hm0:e.af=[]) (hd:dE e<=20) (hm:bL e<=1000000) (hT:RdT x):RdT e:=by
 intro l i nest h t r hll hat hs hn hf
 have he:e=⟨12,0,[],[x]⟩:=by have:=Ff e;rw[k,hx,hn0,hm0] at this;exact this
 have ht:tE e 4=(4,[33])::tE x 4:=by rw[vg (by rw[k];decide),k,hx];rfl
 rw[ht] at hat ⊢
 have hd1:=adt hx
 unfold NN at hn
 unfold FF at hf
 rw[if_pos (.inr (by rw[k];rfl))] at hn
 rw[if_neg (by rw[k];decide)] at hf
 obtain⟨g,rfl⟩:∃ g,h=g+1:=⟨h - 1,by omega⟩
 obtain⟨q,h1,h2,h3,hlt⟩:=ks hat
 have hI:=py h2 h3
 have hx:=hT l (i+1) (nest+1) g t r hll (cu hat) hs (Ta (by omega)) (Lg (by omega) (by omega))
 have hdp:=UT hm
 rw[he] at hdp
 rw[iC,h1,obs]
 simp only[hI,show isT (4,[33]) [40]=false from rfl,show isT (4,[33]) [33]=true from rfl,obs,Bool.false_eq_true,if_false,if_true]
 rw[show (((nest:Nat):Int)==20)=false by simp;omega,if_neg (by decide),wN (by omega),wN (by omega),hx]
 simp only[obs]
 rw[if_neg (by decide),hdp,obs,if_neg (by rw[<- he];simp;omega),he]
 simp only[length_cons]
 congr 3
 omega
theorem aeG {e x} (k:e.aa=13) (hx:e.az=[x]) (hn0:e.cj=0) (hm0:e.af=[]) (hf0:fS x=true) (hk:x.aa=2\/x.aa=3):RdT e:=by
 intro l i nest h t r hll hat hs hn hf
 have he:e=⟨13,0,[],[x]⟩:=by have:=Ff e;rw[k,hx,hn0,hm0] at this;exact this
 have ht:tE e 4=(3,[110,105,108])::(4,[40])::(tE x 4++[(4,[41])]):=by
  rw[vg (by rw[k];decide),k,hx]
  show tks ((3,[110,105,108])::(4,[40])::(eP x 4++[(4,[41])]))=_
  rw[cf (by decide),cf (by decide),ed];rfl
 obtain⟨u,hu,hux⟩:=Ic hf0 (by omega)
 rw[ht,hu] at hat ⊢
 unfold FF at hf
 rw[if_neg (by rw[k];decide)] at hf
 have hdp:=adt hx
 have:=BQ x
 obtain⟨g,rfl⟩:∃ g,h=g+1:=⟨h - 1,by omega⟩
 obtain⟨q,h1,h2,h3,hlt⟩:=ks hat
 have hI:=py h2 h3
 have a1:=cu hat
 have a2:=cu a1
 have a3:=cu a2
 have hat2:jH l (((i+1 + 1:Nat)):Int) false=some ⟨x,((i+1 + 1+1:Nat):Int),aM⟩:=zE hll a2 (by
  rcases hux with h | h | h
  ·exact .inl h
  ·exact .inr (.inl h)
  ·rw[h.1] at hk;simp at hk)
 rw[xF h1 h2 h3 rfl rfl,if_pos (by decide)]
 unfold oU
 rw[h1,obs,hI,obs,wN (by omega),zL hll a1,obs]
 simp only
 rw[if_neg (by decide),show isT (3,[110,105,108]) [115,97,109,101]=false from rfl,hat2,obs]
 simp only
 rw[if_neg (by decide),if_neg (by decide),obs]
 simp only
 rw[zL hll a3,obs]
 simp only
 rw[if_neg (by decide),he]
 rfl
theorem acP {e x y} (k:e.aa=14) (hx:e.az=[x,y]) (hn0:e.cj=0) (hm0:e.af=[]) (hf0:fS x=true) (hf1:fS y=true) (hk:x.aa=2\/x.aa=3\/x.aa=4) (hk1:y.aa=2\/y.aa=3\/y.aa=4):RdT e:=by
 intro l i nest h t r hll hat hs hn hf
 have he:e=⟨14,0,[],[x,y]⟩:=by have:=Ff e;rw[k,hx,hn0,hm0] at this;exact this
 have ht:tE e 4=(3,[115,97,109,101])::(4,[40])::(tE x 4++(4,[44])::(tE y 4++[(4,[41])])):=by
  rw[vg (by rw[k];decide),k,hx]
  show tks ((3,[115,97,109,101])::(4,[40])::(eP x 4++(4,[44])::(0,[32])::(eP y 4++[(4,[41])])))=_
  rw[cf (by decide),cf (by decide),ed,cf (by decide),de,ed];rfl
 obtain⟨u,hu,hux⟩:=Ic hf0 hk
 obtain⟨v,hv,hvx⟩:=Ic hf1 hk1
 rw[ht,hu,hv] at hat ⊢
 unfold FF at hf
 rw[if_neg (by rw[k];decide)] at hf
 have hdp:=aby hx
 have:=BQ x
 obtain⟨g,rfl⟩:∃ g,h=g+1:=⟨h - 1,by omega⟩
 obtain⟨q,h1,h2,h3,hlt⟩:=ks hat
 have hI:=py h2 h3
 have a1:=cu hat
 have a2:=cu a1
 have a3:=cu a2
 have a4:=cu a3
 have a5:=cu a4
 have hat2:jH l (((i+1 + 1:Nat)):Int) true=some ⟨x,((i+1 + 1+1:Nat):Int),aM⟩:=zE hll a2 (hux.imp_right (·.imp_right fun h=>⟨h.1,h.2,rfl⟩))
 have hat4:jH l (((i+1 + 1+1 + 1:Nat)):Int) true=some ⟨y,((i+1 + 1+1 + 1+1:Nat):Int),aM⟩:=zE hll a4 (hvx.imp_right (·.imp_right fun h=>⟨h.1,h.2,rfl⟩))
 rw[xF h1 h2 h3 rfl rfl,if_pos (by decide)]
 unfold oU
 rw[h1,obs,hI,obs,wN (by omega),zL hll a1,obs]
 simp only
 rw[if_neg (by decide),show isT (3,[115,97,109,101]) [115,97,109,101]=true from rfl,hat2,obs]
 simp only
 rw[if_neg (by decide),if_pos trivial,zL hll a3,obs]
 simp only
 rw[if_neg (by decide),hat4,obs]
 simp only
 rw[if_neg (by decide),obs]
 simp only
 rw[zL hll a5,obs]
 simp only
 rw[if_neg (by decide),he]
 rfl
theorem Zj {e x y} {M:Int} (hb:6<=e.aa/\e.aa<=11) (hx:e.az=[x,y]) (hM:M<=lvS e.aa):tE e M=tE x (if lvS e.aa=1 then 2 else lvS e.aa)++(4,sgS e.aa)::tE y (lvS e.aa+1):=by
 rw[vg hM,hx,CG hb,ed,de,cf (by decide),de];rfl
theorem Jg {e x y} (hb:6<=e.aa/\e.aa<=11) (hx:e.az=[x,y]) (hn0:e.cj=0) (hm0:e.af=[]) (hd:dE e<=20) (hm:bL e<=1000000) {l i j r} (hll:l.length<=20000) (h:At l i ((4,sgS e.aa)::r)) {nest:Int} {c} (hc:c l ((i+1:Nat):Int) (lvS e.aa+1) nest=some ⟨y,(j:Int),aM⟩) (n:Nat):
  eW l (lvS e.aa) nest c (n+1) ⟨x,(i:Int),aM⟩=if lvS e.aa=1 then some (.stop ⟨e,(j:Int),aM⟩) else eW l (lvS e.aa) nest c n ⟨e,(j:Int),aM⟩:=by
 have he:e=⟨e.aa,0,[],[x,y]⟩:=by have:=Ff e;rw[hx,hn0,hm0] at this;exact this
 obtain⟨hlt,hge,-⟩:=Dz hb
 obtain⟨-,s2,s3,s4⟩:=Pb hb
 obtain⟨-,-,-,-,hi⟩:=ks h
 have hdp:=UT hm
 rw[he] at hdp
 rw[eW]
 simp only
 rw[if_pos (by decide),Ke h ⟨hge,by omega⟩,obs,s2,obs,if_pos (by simpa using s3),wN (by omega),w64 (by omega) (by omega),hc,obs]
 simp only
 rw[if_neg (by decide),obs,s4,obs,hdp,obs,if_neg (by rw[<- he];simp;omega),<- he]
 by_cases h1:lvS e.aa=1
 ·rw[if_pos (by simpa using h1),if_pos h1]
 ·rw[if_neg (by simpa using h1),if_neg h1]
theorem NV {e x nest} {L M:Int} (hb:6<=e.aa/\e.aa<=11) (hM:M<=lvS e.aa) (hd:dE x+1<=dE e) (hn:NN e M nest):NN x L nest:=by
 obtain⟨hlt,-,-⟩:=Dz hb
 unfold NN at hn
 rw[if_neg (by omega)] at hn
 exact Ta (by omega)
theorem acE {e x y} (hb:6<=e.aa/\e.aa<=11) (hx:e.az=[x,y]) (hn0:e.cj=0) (hm0:e.af=[]) (hd:dE e<=20) (hm:bL e<=1000000) (hS:RdS x) (hA:Ci y (lvS e.aa+1)) (h1:lvS e.aa≠1) {l i nest f t r} (hll:l.length<=20000) (h:At l i (tE e (lvS e.aa)++t::r)) (hs:CJ (lvS e.aa+1) t) (hn:NN e (lvS e.aa) nest) (hf:FF e (lvS e.aa) (f+1)):
  ∃ n,l.length+64<=n+dE e/\dq (f+1) l (i:Int) (lvS e.aa) (nest:Int)=Option.bind (eW l (lvS e.aa) (nest:Int) (dq f) n ⟨e,((i+(tE e (lvS e.aa)).length:Nat):Int),aM⟩) fun lr0=>Ctl.elim lr0 (fun v=>some v) fun x0=>some x0:=by
 obtain⟨hlt,hge,-⟩:=Dz hb
 obtain⟨s1,-⟩:=Pb hb
 have hdp:=aby hx
 have ht:=Zj hb hx (Int.le_refl _)
 rw[if_neg h1] at ht
 rw[ht] at h ⊢
 rw[append_assoc,cons_append] at h
 unfold FF at hf
 rw[if_neg (by omega)] at hf
 obtain⟨n,hn1,hc⟩:=hS l i (lvS e.aa) nest f _ _ hll h hge (by omega) h1 s1 (NV hb (Int.le_refl _) (by omega) hn) (Lg (by omega) (by omega))
 have h2:=(gy h).2
 have hy:=hA l (i+(tE x (lvS e.aa)).length+1) nest f t r hll (cu h2) hs (NV hb (Int.le_refl _) (by omega) hn) (Lg (by omega) (by omega))
 obtain⟨n',rfl⟩:∃ n',n=n'+1:=⟨n - 1,by omega⟩
 refine⟨n',by omega,?_⟩
 rw[hc,Jg hb hx hn0 hm0 hd hm hll h2 hy,if_neg h1,length_append,length_cons,show i+(tE x (lvS e.aa)).length+1 + (tE y (lvS e.aa+1)).length=i+((tE x (lvS e.aa)).length+((tE y (lvS e.aa+1)).length+1)) by omega]
theorem aeM {e x y} (hb:6<=e.aa/\e.aa<=11) (hx:e.az=[x,y]) (hn0:e.cj=0) (hm0:e.af=[]) (hd:dE e<=20) (hm:bL e<=1000000) (hS:RdS x) (hX:Ci x 2) (hA:Ci y (lvS e.aa+1)):Ci e (lvS e.aa):=by
 intro l i nest f t r hll h hs hn hf
 obtain⟨hlt,hge,-⟩:=Dz hb
 obtain⟨g,rfl⟩:=Tp hf (by omega)
 by_cases h1:lvS e.aa=1
 ·obtain⟨s1,-⟩:=Pb hb
  have hdp:=aby hx
  have ht:=Zj hb hx (Int.le_refl _)
  rw[if_pos h1] at ht
  rw[ht] at h ⊢
  rw[append_assoc,cons_append] at h
  unfold FF at hf
  rw[if_neg (by omega)] at hf
  have hc:=hX l i nest g _ _ hll h (by rw[h1] at s1;exact s1) (NV hb (Int.le_refl _) (by omega) hn) (Lg (by omega) (by omega))
  have h2:=(gy h).2
  have hy:=hA l (i+(tE x 2).length+1) nest g t r hll (cu h2) (Ed hs (by omega)) (NV hb (Int.le_refl _) (by omega) hn) (Lg (by omega) (by omega))
  have hturn:=Jg hb hx hn0 hm0 hd hm hll h2 hy (l.length+63)
  rw[if_pos h1] at hturn
  rw[dq,if_neg (by simp;omega),w64 (by omega) (by omega),show lvS e.aa+1=2 by omega,hc,obs,hturn,obs,length_append,length_cons,show i+(tE x 2).length+1 + (tE y (lvS e.aa+1)).length=i+((tE x 2).length+((tE y (lvS e.aa+1)).length+1)) by omega,show lvS e.aa+1=2 by omega]
  rfl
 ·obtain⟨n,hn1,hc⟩:=acE hb hx hn0 hm0 hd hm hS hA h1 hll h (Ed hs (by omega)) hn hf
  obtain⟨n',rfl⟩:∃ n',n=n'+1:=⟨n - 1,by omega⟩
  rw[hc,Nk (gy h).2 ⟨hge,by omega⟩ (hs _ (Int.le_refl _) hge (by omega)),obs]
  rfl
theorem ZA {e} (hk:1<=e.aa/\e.aa<=14) (hA:∀ L,0<=L->L<=4->Ci e L) (hT:RdT e) (hS:lvS e.aa≠1->lvS e.aa<=3->∀ (l:List aK) (i nest f:Nat) (t:KT) (r:List KT),l.length<=20000->At l i (tE e (lvS e.aa)++t::r)->CJ (lvS e.aa+1) t->NN e (lvS e.aa) nest->FF e (lvS e.aa) (f+1)->∃ n,l.length+64<=n+dE e/\dq (f+1) l (i:Int) (lvS e.aa) (nest:Int)=Option.bind (eW l (lvS e.aa) (nest:Int) (dq f) n ⟨e,((i+(tE e (lvS e.aa)).length:Nat):Int),aM⟩) fun lr0=>Ctl.elim lr0 (fun v=>some v) fun x0=>some x0):
  RdA e/\RdS e/\RdT e:=by
 refine⟨fun l i L nest f t r hll h h0 h4=>hA L h0 h4 l i nest f t r hll h,fun l i L nest f t r hll h h0 h3 hL1 hs hn hf=> ?_,hT⟩
 by_cases hl:lvS e.aa=L
 ·subst hl
  exact hS hL1 h3 l i nest f t r hll h hs hn hf
 ·exact⟨l.length+64,by omega,aac hk h0 h3 hl (hA (L+1) (by omega) (by omega)) hll h hs hn hf⟩
theorem MG {e} (hk:1<=e.aa/\e.aa<=14) (h4:lvS e.aa=4) (hT:RdT e):RdA e/\RdS e/\RdT e:=
 ZA hk (fun L h0 hL=>Qh hk (Int.le_refl _) (A_4 hT) (4 - L).toNat L h0 (by omega) fun j h1 h2=>by omega) hT (fun h1 h3=>by omega)
theorem Oy {e} (h:RdA e) {L:Int} (h0:0<=L) (h4:L<=4):Ci e L:=fun l i nest f t r hll hat=>h l i L nest f t r hll hat h0 h4
theorem Yi {e} (he:fS e=true):dE e<=20->bL e<=1000000->RdA e/\RdS e/\RdT e:=by
 refine Nj (P:=fun e=>dE e<=20->bL e<=1000000->RdA e/\RdS e/\RdT e) ?_ ?_ ?_ ?_ ?_ _ e (Nat.le_refl _) he
 ·intro e k hx hm0 hnum hd hm
  refine MG (by omega) (by rw[k];rfl) ?_
  intro l i nest h t r hll hat hs hn hf
  have hz:e=⟨1,e.cj,[],[]⟩:=by have:=Ff e;rw[k,hx,hm0] at this;exact this
  have ht:tE e 4=[(2,wY e.cj)]:=by rw[vg (by rw[k];decide),k];rfl
  rw[ht] at hat ⊢
  unfold FF at hf
  rw[if_neg (by rw[k];decide)] at hf
  have hdp:=BQ e
  obtain⟨g,rfl⟩:∃ g,h=g+1:=⟨h - 1,by omega⟩
  obtain⟨q,h1,h2,h3,hlt⟩:=ks hat
  rw[xF h1 h2 h3 rfl rfl,if_neg (by rw[show isT (2,wY e.cj) [110,105,108]=false from rfl,show isT (2,wY e.cj) [115,97,109,101]=false from rfl];decide),if_neg (by rw[show isT (2,wY e.cj) [105,110,112,117,116]=false from rfl];decide)]
  simp only[PZ hnum]
  rw[if_pos (by decide),wN (by omega),<- hz]
  rfl
 ·intro e k hx hn0 hnm hd hm
  refine MG (by omega) (by rw[k];rfl) ?_
  intro l i nest h t r hll hat hs hn hf
  have hz:e=⟨2,0,e.af,[]⟩:=by have:=Ff e;rw[k,hx,hn0] at this;exact this
  have ht:tE e 4=[(1,e.af)]:=by rw[vg (by rw[k];decide),k];rfl
  rw[ht] at hat ⊢
  unfold FF at hf
  rw[if_neg (by rw[k];decide)] at hf
  have hdp:=BQ e
  obtain⟨g,rfl⟩:∃ g,h=g+1:=⟨h - 1,by omega⟩
  obtain⟨q,h1,h2,h3,hlt⟩:=ks hat
  rw[xF h1 h2 h3 rfl rfl,if_neg (by rw[show isT (1,e.af) [110,105,108]=false from rfl,show isT (1,e.af) [115,97,109,101]=false from rfl];decide),if_neg (by rw[show isT (1,e.af) [105,110,112,117,116]=false from rfl];decide),if_neg (by rw[show ((1:Int)==2)=false from rfl,Bool.false_and];decide),zE hll hat (.inl ⟨rfl,rfl⟩),<- hz]
  rfl
 ·intro e k hx hn0 hm0 hd hm
  refine MG (by omega) (by rcases k with k | k | k<;>(rw[k];rfl)) ?_
  intro l i nest h t r hll hat hs hn hf
  have hdp:=BQ e
  have h7:7 * (dE e:Int)<=(h:Int)+1 + 4:=by
   unfold FF at hf
   rw[if_neg (by rcases k with k | k | k<;>(rw[k];decide))] at hf
   omega
  obtain⟨g,rfl⟩:∃ g,h=g+1:=⟨h - 1,by omega⟩
  have hz:=Ff e
  rw[hx,hn0,hm0] at hz
  rcases k with k | k | k
  ·have ht:tE e 4=[(3,[116,104,105,115])]:=by rw[vg (by rw[k];decide),k];rfl
   rw[ht] at hat ⊢
   rw[k] at hz
   obtain⟨q,h1,h2,h3,hlt⟩:=ks hat
   rw[xF h1 h2 h3 rfl rfl,if_neg (by decide),if_neg (by decide),if_neg (by decide),zE hll hat (.inr (.inl ⟨rfl,rfl⟩)),<- hz];rfl
  ·have ht:tE e 4=[(3,[110,117,108,108])]:=by rw[vg (by rw[k];decide),k];rfl
   rw[ht] at hat ⊢
   rw[k] at hz
   obtain⟨q,h1,h2,h3,hlt⟩:=ks hat
   rw[xF h1 h2 h3 rfl rfl,if_neg (by decide),if_neg (by decide),if_neg (by decide),zE hll hat (.inr (.inr ⟨rfl,rfl,rfl⟩)),<- hz];rfl
  ·have ht:tE e 4=[(3,[105,110,112,117,116])]:=by rw[vg (by rw[k];decide),k];rfl
   rw[ht] at hat ⊢
   rw[k] at hz
   obtain⟨q,h1,h2,h3,hlt⟩:=ks hat
   rw[xF h1 h2 h3 rfl rfl,if_neg (by decide),if_pos (by decide),wN (by omega),<- hz];rfl
 ·intro e x k hx hn0 hm0 hf ih hd hm
  have hdp:=adt hx
  have hmp:=m_1 hx
  rcases k with k | ⟨k,hk⟩
  ·exact MG (by omega) (by rw[k];rfl) (afr k hx hn0 hm0 hd hm (ih (by omega) (by omega)).2.2)
  ·exact MG (by omega) (by rw[k];rfl) (aeG k hx hn0 hm0 hf hk)
 ·intro e x y k hx hn0 hm0 hfx hfy ix iy hd hm
  have hdp:=aby hx
  have hmp:=m_2 hx
  rcases k with hb | ⟨k,hk,hk1⟩
  ·obtain⟨hlt,hge,-⟩:=Dz hb
   have hk:1<=e.aa/\e.aa<=14:=by omega
   obtain⟨xA,xS,-⟩:=ix (by omega) (by omega)
   obtain⟨yA,-,-⟩:=iy (by omega) (by omega)
   have hA:=aeM hb hx hn0 hm0 hd hm xS (Oy xA (by omega) (by omega)) (Oy yA (by omega) (by omega))
   have hlow:∀ L,0<=L->L<=lvS e.aa->Ci e L:=fun L h0 h1=>Qh hk (by omega) hA (lvS e.aa - L).toNat L h0 (by omega) fun j h1 h2=>by omega
   have hT:=aeH hge hlt (hlow 0 (by omega) hge)
   refine ZA hk (fun L h0 h4=> ?_) hT (fun h1 h3 l i nest f t r hll h hs hn hf=>acE hb hx hn0 hm0 hd hm xS (Oy yA (by omega) (by omega)) h1 hll h hs hn hf)
   by_cases hL:L<=lvS e.aa
   ·exact hlow L h0 hL
   ·exact Qh hk (Int.le_refl _) (A_4 hT) (4 - L).toNat L h0 (by omega) fun j h1 h2=>by omega
  ·exact MG (by omega) (by rw[k];rfl) (acP k hx hn0 hm0 hfx hfy hk hk1)
theorem xd {e} (he:fU e=true) (hm:bL e<=1000000) {l i t r} (hll:l.length<=20000) (h:At l i (tE e 0++t::r)) (hs:CJ 0 t):kI l (i:Int)=some ⟨e,((i+(tE e 0).length:Nat):Int),aM⟩:=by
 have hf:=iz he
 have hd:dE e<=20:=by
  unfold fU at he
  rw[Bool.and_eq_true,decide_eq_true_eq] at he
  exact he.1
 obtain⟨hA,-,-⟩:=Yi hf hd hm
 have h0:=afg (oJ hf).1
 have:=hA l i 0 0 200 t r hll h (Int.le_refl _) (by omega) hs (Ta (by omega)) (by unfold FF;rw[if_neg (by omega)];omega)
 rw[show ((0:Nat):Int)=0 from rfl] at this
 unfold kI
 rw[this,obs]
 simp only
 rw[if_neg (by decide)]
def cmP : List (List KT)->List KT
 | []=>[]
 | x::r=>x++(r.map fun y=>(4,[44])::(0,[32])::y).flatten
theorem Pq (l:List (List KT)):tx (cmP l)=cm (l.map tx):=by
 have h:∀ r:List (List KT),tx ((r.map fun y=>(4,[44])::(0,[32])::y).flatten)=((r.map tx).map ([44,32]++·)).flatten:=fun r=>by
  induction r with
  | nil=>rfl
  | cons y r ih=>rw[map_cons,flatten_cons,mp,ih,dy,dy,map_cons,map_cons,flatten_cons];rfl
 cases l with
 | nil=>rfl
 | cons x r=>rw[cmP,mp,h,map_cons,cm]
theorem O4 {l} (h:∀ x∈l,ok x=true):ok (cmP l)=true:=by
 have h1:∀ (r:List (List KT)) (x:List KT),ok x=true->(∀ y∈r,ok y=true)->ok (x++(r.map fun y=>(4,[44])::(0,[32])::y).flatten)=true:=fun r=>by
  induction r with
  | nil=>intro x hx _;rw[map_nil,flatten_nil,append_nil];exact hx
  | cons y r ih=>
   intro x hx hr
   rw[map_cons,flatten_cons]
   exact fe hx (by decide) (eh (by decide) (ih y (hr y (by simp)) fun z hz=>hr z (by simp[hz])))
 cases l with
 | nil=>rfl
 | cons x r=>exact h1 r x (h x (by simp)) fun y hy=>h y (by simp[hy])
def oK (ps:List (List UInt8)) (o:ay):KT:=(if o.aa=3 then 1 else 3,gh o ps)
structure PN (ps:List (List UInt8)):Prop where
 n:ps.length<=3
 v:∀ p∈ps,dw p=true
 u:ps.Pairwise (·≠·)
def OW (ps:List (List UInt8)) (o:ay):Prop:=kq o (ps.length:Int)=true/\o.aa≠7
theorem afk {ps o} (h:OW ps o) (h3:o.aa=3):∃ j,∃ hj:j < ps.length,o.fN=((j+1:Nat):Int)/\gh o ps=ps[j]:=by
 rcases xI h.1 with⟨-,h1,h2⟩ | ⟨h7,_⟩ | ⟨_,k⟩
 ·have hj:(o.fN - 1).toNat < ps.length:=by omega
  refine⟨(o.fN - 1).toNat,hj,by omega,?_⟩
  unfold gh
  rw[if_pos h.1,if_pos h3,getElem?_eq_getElem hj];rfl
 ·omega
 ·omega
theorem Xb {ps o} (h:OW ps o) (h3:o.aa≠3):gh o ps=Ax o.aa/\o.fN=0/\(o.aa=1\/o.aa=2\/o.aa=4\/o.aa=5\/o.aa=6):=by
 have ht:gh o ps=Ax o.aa:=by unfold gh;rw[if_pos h.1,if_neg h3]
 rcases xI h.1 with⟨k,-,-⟩ | ⟨h7,_⟩ | ⟨hn,k⟩
 ·exact absurd k h3
 ·exact absurd h7 h.2
 ·exact⟨ht,hn,k⟩
theorem ZJ {ps} (hp:PN ps) {o} (h:OW ps o):ok [oK ps o]=true:=by
 unfold oK
 by_cases h3:o.aa=3
 ·obtain⟨j,hj,-,ht⟩:=afk h h3
  rw[if_pos h3,ht]
  exact tB (hp.v _ (getElem_mem hj))
 ·obtain⟨ht,-,k⟩:=Xb h h3
  rw[if_neg h3,ht]
  rcases k with k | k | k | k | k<;>(rw[k];decide)
abbrev owW : List (List UInt8):=[[114,101,112],[112,101,101,114],[],[119,111,114,108,100],[97,110,121],[117,110,105,113,117,101]]
def Nz (t:KT):Int:=if isT t [114,101,112]=true then 1 else if isT t [112,101,101,114]=true then 2 else if isT t [119,111,114,108,100]=true then 4 else if isT t [97,110,121]=true then 5 else if isT t [117,110,105,113,117,101]=true then 6 else 0
theorem WM {k:aK} {t:KT} (hI:∀ s,dz k s=some (isT t s)) {j:Nat} (hj:j < 6) (n:Nat):jV k (n+1) (j:Int)=if isT t owW[j]=true/\owW[j]≠[] then some (.stop ⟨((j+1:Nat):Int),0⟩) else jV k n ((j+1:Nat):Int):=by
 rw[jV,if_pos (by simp;omega),show ([[114,101,112],[112,101,101,114],[],[119,111,114,108,100],[97,110,121],[117,110,105,113,117,101]]:List (List UInt8))=owW from rfl,cU (show j < owW.length from hj)]
 simp only[obs,hI]
 rw[wN (by omega)]
 by_cases h1:isT t owW[j]=true
 ·rw[if_pos h1,obs]
  by_cases h2:owW[j]=[]
  ·rw[if_neg (by simp[h2]),if_neg (by simp[h2])]
  ·rw[if_pos (by simpa using h2),if_pos ⟨h1,h2⟩]
 ·rw[if_neg h1,obs,if_neg (by decide),if_neg (fun h=>h1 h.1)]
theorem NA {k t} (h1:k.aa=t.1) (h2:k.bV=t.2):iu k=some ⟨Nz t,0⟩:=by
 have hI:=py h1 h2
 have w:=fun j (hj:j < 6) n=>WM hI hj n
 unfold iu Nz
 rw[show ((([[114,101,112],[112,101,101,114],[],[119,111,114,108,100],[97,110,121],[117,110,105,113,117,101]].length:Int):Int) - (0)).toNat+1=7 from rfl,show (0:Int)=((0:Nat):Int) from rfl,w 0 (by omega),w 1 (by omega),w 2 (by omega),w 3 (by omega),w 4 (by omega),w 5 (by omega),
  show jV k 1 ((5+1:Nat):Int)=some (.next ()) from by rw[jV,if_neg (by simp)]]
 simp only[show owW[0]=[114,101,112] from rfl,show owW[1]=[112,101,101,114] from rfl,show owW[2]=[] from rfl,show owW[3]=[119,111,114,108,100] from rfl,show owW[4]=[97,110,121] from rfl,show owW[5]=[117,110,105,113,117,101] from rfl]
 cases isT t [114,101,112]<;>cases isT t [112,101,101,114]<;>cases isT t [119,111,114,108,100]<;>cases isT t [97,110,121]<;>cases isT t [117,110,105,113,117,101]<;>simp[Ctl.elim,obs]
theorem XR {s ps} (hl:ps.length<=1000) {j} (hj:j < ps.length) (hs:ps[j]=s) (hu:∀ i (hi:i < j),ps[i]≠s):∀ (n k:Nat),ps.length+1<=n+k->k<=j->pZ s ps n (k:Int)=some (.stop ((j+1:Nat):Int))
 | 0,k,h,hk=>by omega
 | n+1,k,h,hk=>by
  have hlt:k < ps.length:=by omega
  rw[pZ,if_pos (by simpa using hlt),cU hlt,obs,wN (by omega)]
  by_cases he:k=j
  ·subst he
   rw[if_pos (by simp[hs])]
  ·rw[if_neg (by simp;exact hu k (by omega)),XR hl hj hs hu n (k+1) (by omega) (by omega)]
theorem Xj {ps} (hp:PN ps) {k j} (hj:j < ps.length) (hk:k.bV=ps[j]):kU k ps=some ⟨3,((j+1:Nat):Int)⟩:=by
 have hn:=hp.n
 have hf:=XR (s:=ps[j]) (ps:=ps) (by omega) hj rfl (fun i hi=>List.pairwise_iff_getElem.1 hp.u i j (by omega) hj hi) (ps.length+1) 0 (by omega) (by omega)
 unfold kU xY
 rw[hk,gq,show (0:Int)=((0:Nat):Int) from rfl,hf,obs,C9,obs,if_neg (by simp;omega)]
theorem VM {ps} (hp:PN ps) {o} (h:OW ps o) {k} (h1:k.aa=(oK ps o).1) (h2:k.bV=(oK ps o).2):(o.aa=3/\k.aa=1/\iu k=some ⟨0,0⟩/\kU k ps=some o)\/(o.aa≠3/\k.aa=3/\iu k=some o/\o.aa≠0):=by
 have hw:=NA h1 h2
 unfold oK at h1 h2 hw
 by_cases h3:o.aa=3
 ·obtain⟨j,hj,hn,ht⟩:=afk h h3
  rw[if_pos h3] at h1 hw
  refine .inl ⟨h3,h1,by rw[hw];rfl,?_⟩
  rw[Xj hp hj (h2.trans ht),<- hn,<- h3]
 ·obtain⟨ht,hn,k⟩:=Xb h h3
  rw[if_neg h3] at h1 hw
  refine .inr ⟨h3,h1,?_,by omega⟩
  rw[hw,ht]
  cases o with
  | mk a b=>simp only at hn k;subst hn;rcases k with k | k | k | k | k<;>(subst k;rfl)
theorem Wy (x y:List KT) (r:List (List KT)):cmP (x::y :: r)=x++(4,[44])::(0,[32])::cmP (y::r):=by
 rw[cmP,cmP,map_cons,flatten_cons];rfl
theorem zD (x y:List KT) (r:List (List KT)):tks (cmP (x::y :: r))=tks x++(4,[44])::tks (cmP (y::r)):=by
 rw[Wy,ed,cf (by decide),de]
theorem yE (x:List KT):tks (cmP [x])=tks x:=by rw[cmP,map_nil,flatten_nil,append_nil]
theorem Tu (ps:List (List UInt8)) (o:ay):tks [oK ps o]=[oK ps o]:=by
 unfold oK
 by_cases h:o.aa=3
 ·rw[if_pos h,cf (by decide),Oj]
 ·rw[if_neg h,cf (by decide),Oj]
def otk (ps:List (List UInt8)) (os:List ay):List KT:=tks (cmP (os.map fun o=>[oK ps o]))
theorem Sd {ps} (hp:PN ps) {l} (hll:l.length<=20000):∀ (os:List ay) (o:ay) (out:List ay) (i n:Nat) (r:List KT),out.length+os.length+1<=3->(∀ x∈o::os,OW ps x/\x.aa≠6)->At l (i+1) (otk ps (o::os)++(4,[62])::r)->os.length+1<=n->
  nb l ps n (i:Int) out=some (.stop { fL:=out++o::os,fT:=dY,fV:=pM,aU:=((i+1 + (otk ps (o::os)).length+1:Nat):Int),fF:=aM })
 | os,o,out,i,0,r,_,_,_,hn=>absurd hn (by omega)
 | os,o,out,i,n+1,r,hl,hw,hat,hn=>by
  have ho:=hw o (by simp)
  have hrest:∃ u v,otk ps (o::os)++(4,[62])::r=oK ps o::u :: v/\(os=[]->u=(4,[62]))/\(∀ o2 r2,os=o2::r2->u=(4,[44])/\v=otk ps (o2::r2)++(4,[62])::r)/\(otk ps (o::os)).length=if os=[] then 1 else 2+(otk ps os).length:=by
   cases os with
   | nil=>
    have:otk ps [o]=[oK ps o]:=by unfold otk;rw[map_cons,map_nil,yE,Tu]
    rw[this]
    exact⟨_,_,rfl,(fun _=>rfl),(fun _ _ h=>by cases h),rfl⟩
   | cons o2 r2=>
    have:otk ps (o::o2::r2)=oK ps o::(4,[44])::otk ps (o2::r2):=by unfold otk;rw[map_cons,map_cons,zD,Tu];rfl
    rw[this]
    exact⟨_,_,rfl,(fun h=>by cases h),(fun _ _ h=>by injection h with h1 h2;subst h1;subst h2;exact⟨rfl,rfl⟩),by rw[if_neg (by simp)];simp;omega⟩
  obtain⟨u,v,he,hnil,hcons,hlen⟩:=hrest
  rw[he] at hat
  obtain⟨k,h1,h2,h3,hlt⟩:=ks hat
  have hat2:=cu hat
  obtain⟨q,g1,g2,g3,hlt2⟩:=ks hat2
  have hI:=py g2 g3
  have hk:=VM hp ho.1 h2 h3
  rw[nb,wN (by omega),h1,obs,wN (by omega)]
  have hread:∀ (F:ay->Option (Ctl dc Unit)),((iu k).bind fun y0=>(if(k.aa==1)=true then(kU k ps).bind fun y1=>if(y1.aa==0)=true then none else some y1 else some y0:Option ay).bind F)=F o:=fun F=>by
   rcases hk with⟨k3,k1,kw,kn⟩ | ⟨k3,k1,kw,k0⟩
   ·rw[kw,obs,if_pos (by simpa using k1),kn,obs,if_neg (by simp;omega),obs]
   ·rw[kw,obs,if_neg (by simp;omega),obs]
  rw[hread]
  have ho0:o.aa≠0:=by rcases hk with⟨k3,-⟩ | ⟨-,-,-,k0⟩<;>omega
  rw[if_neg (by simpa using ho0),obs,if_neg (by simpa using ho.2),if_neg (by simp;omega),gz (by simp only[length_cons,length_nil];omega),obs,g1,obs,hI,obs]
  cases os with
  | nil=>
   rw[hnil rfl,if_pos (by decide),wN (by omega),hlen,if_pos rfl]
  | cons o2 r2=>
   obtain⟨hu,hv⟩:=hcons o2 r2 rfl
   subst hu hv
   rw[if_neg (by decide),obs,hI,obs,if_neg (by decide),Sd hp hll r2 o2 (out++[o]) (i+1 + 1) n r (by rw[length_append,length_cons,length_nil];simp only[length_cons] at hl;omega) (fun x hx=>hw x (by simp[hx])) (cu hat2) (by simp only[length_cons] at hn;omega),hlen,if_neg (by simp),append_assoc]
   simp only[cons_append,nil_append]
   congr 4
   omega
theorem zI {ps} (hp:PN ps) {l} (hll:l.length<=20000) {o os i r} (hl:os.length+1<=3) (hw:∀ x∈o::os,OW ps x/\x.aa≠6) (hat:At l i ((4,[60])::(otk ps (o::os)++(4,[62])::r))):
  pr l (i:Int) ps=some { fL:=o::os,fT:=dY,fV:=pM,aU:=((i+1 + (otk ps (o::os)).length+1:Nat):Int),fF:=aM }:=by
 obtain⟨k,h1,h2,h3,hlt⟩:=ks hat
 unfold pr
 rw[h1,obs,py h2 h3,obs,if_neg (by decide),Sd hp hll os o [] i (l.length+64) r (by simp only[length_nil];omega) hw (cu hat) (by omega),obs]
 rfl
def tyP (ps:List (List UInt8)) (t:bZ):List KT:=if t.aa=0 then [(3,[118,111,105,100])] else if t.aa=1 then [(3,[105,110,116])] else
 (if t.am.a0.aa=7 then [] else [oK ps t.am.a0,(0,[32])])++(1,t.bu)::(if(own t).drop 1=[] then [] else(4,[60])::(cmP (((own t).drop 1).map fun o=>[oK ps o])++[(4,[62])]))
def WT (ps:List (List UInt8)) (t:bZ):Prop:=wrS t (ps.length:Int)=true
theorem ZH {ps t} (h:WT ps t) (h0:t.aa≠0) (h1:t.aa≠1):t.aa=2/\dw t.bu=true/\(0<=t.fN/\t.fN<=3)/\(t.am.a0=⟨7,0⟩\/OW ps t.am.a0)/\(∀ o∈(own t).drop 1,OW ps o/\o.aa≠6)/\∀ o∈t.am.l.drop (own t).length,o=⟨0,0⟩:=by
 unfold WT wrS at h
 simp only[Bool.and_eq_true,Bool.or_eq_true,decide_eq_true_eq,Bool.not_eq_true',decide_eq_false_iff_not,all_eq_true] at h
 obtain⟨hk,hh,h7⟩:=h
 obtain⟨h2,hn,hN0,hN3,ho,h6,hz⟩:=Ox hk h0 h1
 have hown:t.am.a0∈own t:=by
  unfold own
  rw[if_pos h2]
  cases t.am with
  | mk a b c d=>show a∈take (Dw t.fN+1) [a,b,c,d];rw[take_succ_cons];simp
 refine⟨h2,hn,⟨hN0,hN3⟩,?_,fun o hd=>⟨⟨ho o (mem_of_mem_drop hd),?_⟩,h6 o hd⟩,hz⟩
 ·by_cases q:t.am.a0.aa=7
  ·left
   have:=h7.resolve_left (by omega)
   cases hq:t.am.a0 with
   | mk a b=>rw[hq] at q this;simp only at q this;rw[q,this]
  ·exact .inr ⟨ho _ hown,q⟩
 ·refine hh o ?_
  have:(own t).drop 1=(t.am.l.drop 1).take (Dw t.fN):=by unfold own;rw[if_pos h2,drop_take];congr 1
  rw[this] at hd
  exact mem_of_mem_take hd
theorem PR {ps t} (h:WT ps t):tx (tyP ps t)=wU t ps:=by
 have hk:uh t (ps.length:Int)=true:=by
  unfold WT wrS at h
  rw[Bool.and_eq_true] at h
  exact h.1
 have htl:∀ os:List ay,tx (if os=[] then [] else(4,[60])::(cmP (os.map fun o=>[oK ps o])++[(4,[62])]))=AZ (os.map (gh · ps)):=fun os=>by
  cases os with
  | nil=>rfl
  | cons o os=>
   have e:∀ q:List ay,(q.map fun o=>[oK ps o]).map tx=q.map (gh · ps):=fun q=>by rw[map_map];exact map_congr_left fun o _=>by simp[dy,kr,oK]
   rw[if_neg (by simp),dy,mp,Pq,e,map_cons,AZ,cm]
   simp[dy,kr]
 unfold tyP wU
 rw[if_pos hk]
 by_cases h0:t.aa=0
 ·rw[if_pos h0,if_pos h0];rfl
 by_cases h1:t.aa=1
 ·rw[if_neg h0,if_pos h1,if_neg h0,if_pos h1];rfl
 rw[if_neg h0,if_neg h1,if_neg h0,if_neg h1,mp,dy,htl]
 by_cases h7:t.am.a0.aa=7
 ·rw[if_pos h7,if_pos h7];rfl
 ·rw[if_neg h7,if_neg h7];simp[dy,kr,oK]
theorem Ou {ps} (hp:PN ps) {t} (h:WT ps t):ok (tyP ps t)=true:=by
 unfold tyP
 by_cases h0:t.aa=0
 ·rw[if_pos h0];decide
 by_cases h1:t.aa=1
 ·rw[if_neg h0,if_pos h1];decide
 rw[if_neg h0,if_neg h1]
 obtain⟨-,hn,-,ho,hw,-⟩:=ZH h h0 h1
 have htl:ok ((1,t.bu)::(if(own t).drop 1=[] then [] else(4,[60])::(cmP (((own t).drop 1).map fun o=>[oK ps o])++[(4,[62])])))=true:=by
  by_cases hd:(own t).drop 1=[]
  ·rw[if_pos hd];exact tB hn
  ·rw[if_neg hd]
   exact fe (tB hn) (by decide) (fe (O4 fun x hx=>by
    obtain⟨o,hoo,rfl⟩:=List.mem_map.1 hx
    exact ZJ hp (hw o hoo).1) (by decide) rfl)
 by_cases h7:t.am.a0.aa=7
 ·rw[if_pos h7];exact htl
 ·rw[if_neg h7]
  exact fe (a:=[oK ps t.am.a0]) (ZJ hp (ho.resolve_left fun e=>h7 (by rw[e]))) (by decide) htl
theorem acr {t u} (h:jp t u=true):t=u:=by
 obtain⟨a,b,c,⟨⟨d0,d1⟩,⟨e0,e1⟩,⟨f0,f1⟩,⟨g0,g1⟩⟩⟩:=t
 obtain⟨a',b',c',⟨⟨d0',d1'⟩,⟨e0',e1'⟩,⟨f0',f1'⟩,⟨g0',g1'⟩⟩⟩:=u
 simp[jp] at h
 obtain⟨rfl,rfl,rfl,rfl,rfl,rfl,rfl,rfl,rfl,rfl,rfl⟩:=h
 rfl
theorem acp {ps t} (h:WT ps t) (h1:t.aa=0\/t.aa=1):t=yD t:=by
 unfold WT wrS uh at h
 rw[Bool.and_eq_true,if_pos h1] at h
 exact acr h.1
def tyK (ps:List (List UInt8)) (t:bZ):List KT:=tks (tyP ps t)
def tlK (ps:List (List UInt8)) (os:List ay):List KT:=match os with
 | []=>[]
 | o::os=>(4,[60])::(otk ps (o::os)++[(4,[62])])
theorem UU {ps t} (h0:t.aa≠0) (h1:t.aa≠1):tyK ps t=(if t.am.a0.aa=7 then [] else [oK ps t.am.a0])++(1,t.bu)::tlK ps ((own t).drop 1):=by
 have htl:∀ os:List ay,tks (if os=[] then [] else(4,[60])::(cmP (os.map fun o=>[oK ps o])++[(4,[62])]))=tlK ps os:=fun os=>by
  cases os with
  | nil=>rfl
  | cons o os=>rw[if_neg (by simp),cf (by decide),ed];rfl
 unfold tyK tyP
 rw[if_neg h0,if_neg h1,ed,cf (by decide),htl]
 by_cases h7:t.am.a0.aa=7
 ·rw[if_pos h7,if_pos h7];rfl
 ·rw[if_neg h7,if_neg h7,show [oK ps t.am.a0,(0,[32])]=[oK ps t.am.a0]++[(0,[32])] from rfl,ed,Tu];rfl
def Fol (f:Bool) (u v:KT):Prop:=isT u [60]=false/\(u.1=1->f=true/\v.1≠1/\isT v [60]=false/\isT v [116,104,105,115]=false/\isT v [110,117,108,108]=false)/\(f=true->u.1=1\/isT u [116,104,105,115]=true\/isT u [110,117,108,108]=true)
theorem Qu {l i b c r} (hi:i<=20000) (h:At l (i+1) (b::c :: r)) (f:Bool):oD l (i:Int) f=some (b.1==1&&(!f||(c.1==1||(isT c [60]||(isT c [116,104,105,115]||isT c [110,117,108,108]))))):=by
 obtain⟨k,h1,h2,h3,-⟩:=ks h
 obtain⟨q,g1,g2,g3,-⟩:=ks (cu h)
 have hI:=py g2 g3
 unfold oD
 rw[wN (by omega),h1,obs,show ae ((i:Int)+2)=((i+1 + 1:Nat):Int) by rw[w64 (by omega) (by omega)];omega,g1,obs,h2,g2]
 simp only[hI,obs]
 cases (b.1==1)<;>cases f<;>cases (c.1==1)<;>cases isT c [60]<;>cases isT c [116,104,105,115]<;>cases isT c [110,117,108,108]<;>rfl
theorem noT {s} (u:List UInt8):isT (1,s) u=false:=rfl
theorem adg {ps o} (h:OW ps o):isT (oK ps o) [118,111,105,100]=false/\isT (oK ps o) [105,110,116]=false:=by
 unfold oK
 by_cases h3:o.aa=3
 ·rw[if_pos h3];exact⟨rfl,rfl⟩
 ·obtain⟨ht,-,k⟩:=Xb h h3
  rw[if_neg h3,ht]
  rcases k with k | k | k | k | k<;>(rw[k];decide)
theorem Si {ps} (hp:PN ps) {t} (h:WT ps t) {l} (hll:l.length<=20000) {i u v r f} (hat:At l i (tyK ps t++u::v :: r)) (hf:t.aa=2->Fol f u v):
  lc l (i:Int) ps f=some { fL:=[],fT:=t,fV:=pM,aU:=((i+(tyK ps t).length:Nat):Int),fF:=aM }:=by
 by_cases h0:t.aa=0
 ·have he:=acp h (.inl h0)
  have ht:tyK ps t=[(3,[118,111,105,100])]:=by unfold tyK tyP;rw[if_pos h0];rfl
  rw[ht] at hat ⊢
  obtain⟨k,h1,h2,h3,hlt⟩:=ks hat
  unfold lc
  rw[h1,obs,py h2 h3,obs,if_pos (by decide),wN (by omega),he,yD,h0];rfl
 by_cases h1':t.aa=1
 ·have he:=acp h (.inr h1')
  have ht:tyK ps t=[(3,[105,110,116])]:=by unfold tyK tyP;rw[if_neg h0,if_pos h1'];rfl
  rw[ht] at hat ⊢
  obtain⟨k,h1,h2,h3,hlt⟩:=ks hat
  unfold lc
  rw[h1,obs,py h2 h3,obs,if_neg (by decide),py h2 h3,obs,if_pos (by decide),wN (by omega),he,yD,h1'];rfl
 obtain⟨k2,hn,hN,ho,hw,hz⟩:=ZH h h0 h1'
 obtain⟨f1,f2,f3⟩:=hf k2
 have ht:=UU (ps:=ps) h0 h1'
 -- where the class's name stands
 have hcls:∃ j:Nat,At l j ((1,t.bu)::(tlK ps ((own t).drop 1)++u::v :: r))/\j+1 + (tlK ps ((own t).drop 1)).length=i+(tyK ps t).length/\(t.am.a0.aa=7->j=i)/\(t.am.a0.aa≠7->j=i+1/\At l i (oK ps t.am.a0::(1,t.bu)::(tlK ps ((own t).drop 1)++u::v :: r))):=by
  by_cases h7:t.am.a0.aa=7
  ·rw[if_pos h7,nil_append] at ht
   rw[ht] at hat ⊢
   exact⟨i,hat,by simp only[length_cons];omega,fun _=>rfl,fun e=>absurd h7 e⟩
  ·rw[if_neg h7,cons_append,nil_append] at ht
   rw[ht] at hat ⊢
   exact⟨i+1,cu hat,by simp only[length_cons];omega,fun e=>absurd e h7,fun _=>⟨rfl,hat⟩⟩
 obtain⟨j,hj,hlen,hj7,hjo⟩:=hcls
 -- what stands behind the class's name
 have hb:∃ b c r',tlK ps ((own t).drop 1)++u::v :: r=b::c :: r'/\((own t).drop 1=[]->b=u/\c=v)/\((own t).drop 1≠[]->b=(4,[60])):=by
  cases hd:(own t).drop 1 with
  | nil=>exact⟨u,v,r,rfl,fun _=>⟨rfl,rfl⟩,fun e=>absurd rfl e⟩
  | cons o os=>
   have:∃ c r',otk ps (o::os)++[(4,[62])]++u::v :: r=c::r':=by
    cases otk ps (o::os) with
    | nil=>exact⟨_,_,rfl⟩
    | cons c q=>exact⟨_,_,rfl⟩
   obtain⟨c,r',e⟩:=this
   exact⟨(4,[60]),c,r',by rw[tlK,cons_append,e],fun e=>absurd e (by simp),fun _=>rfl⟩
 obtain⟨b,c,r',hbe,hb1,hb2⟩:=hb
 have hT0:∀ o0:ay,o0=t.am.a0->(⟨2,[],0,⟨o0,aq,aq,aq⟩⟩:bZ)={ aa:=2,bu:=[],fN:=0,am:=⟨t.am.a0,aq,aq,aq⟩ }:=fun o0 e=>by rw[e]
 have hstart:i < l.length:=by
  obtain⟨-,-,-,-,q⟩:=ks hj
  by_cases h7:t.am.a0.aa=7
  ·rw[hj7 h7] at q;exact q
  ·have:=(hjo h7).1;omega
 unfold lc
 have hrest:∃ y3,dC l (i:Int)=some y3/\dz y3 [118,111,105,100]=some false/\dz y3 [105,110,116]=some false/\
   ((t.am.a0.aa≠7/\t.am.a0.aa≠3/\iu y3=some t.am.a0/\t.am.a0.aa≠0)\/(t.am.a0.aa=3/\iu y3=some ⟨0,0⟩/\y3.aa=1/\oD l (i:Int) f=some true/\kU y3 ps=some t.am.a0)\/(t.am.a0=⟨7,0⟩/\iu y3=some ⟨0,0⟩/\y3.aa=1/\oD l (i:Int) f=some false)):=by
  by_cases h7:t.am.a0.aa=7
  ·have e7:t.am.a0=⟨7,0⟩:=ho.resolve_right fun e=>e.2 h7
   have hji:=hj7 h7
   rw[hji] at hj
   obtain⟨k,h1,h2,h3,hlt⟩:=ks hj
   have hI:=py h2 h3
   rw[hbe] at hj
   refine⟨k,h1,by rw[hI,noT],by rw[hI,noT],.inr (.inr ⟨e7,by rw[NA h2 h3];rfl,h2,?_⟩)⟩
   rw[Qu (by omega) (cu hj)]
   by_cases hd:(own t).drop 1=[]
   ·obtain⟨rfl,rfl⟩:=hb1 hd
    by_cases hu:b.1=1
    ·obtain⟨rfl,g1,g2,g3,g4⟩:=f2 hu
     rw[g2,g3,g4];simp[g1]
    ·simp[hu]
   ·rw[hb2 hd];rfl
  ·have how:=ho.resolve_left fun e=>h7 (by rw[e])
   obtain⟨rfl,hi⟩:=hjo h7
   obtain⟨k,h1,h2,h3,hlt⟩:=ks hi
   have hI:=py h2 h3
   have hnot:=adg how
   refine⟨k,h1,by rw[hI,hnot.1],by rw[hI,hnot.2],?_⟩
   rcases VM hp how h2 h3 with⟨k3,k1,kw,kn⟩ | ⟨k3,k1,kw,k0⟩
   ·refine .inr (.inl ⟨k3,kw,k1,?_,kn⟩)
    rw[hbe] at hi
    have hi2:=cu hi
    rw[Qu (b:=(1,t.bu)) (c:=b) (by omega) hi2]
    by_cases hd:(own t).drop 1=[]
    ·obtain⟨rfl,rfl⟩:=hb1 hd
     cases f with
     | false=>rfl
     | true=>rcases f3 rfl with g | g | g<;>simp[g]
    ·rw[hb2 hd];cases f<;>rfl
   ·exact .inl ⟨h7,k3,kw,k0⟩
 obtain⟨y3,e1,e2,e3,e4⟩:=hrest
 rw[e1,obs,e2,obs,if_neg (by decide),e3,obs,if_neg (by decide)]
 refine(congrArg (fun c=>Option.bind c _) (a₂:=some ((j:Int),(⟨2,[],0,⟨t.am.a0,aq,aq,aq⟩⟩:bZ))) ?_).trans ?_
 ·rcases e4 with⟨q7,q3,qw,q0⟩ | ⟨q3,qw,q1,qa,qn⟩ | ⟨q7,qw,q1,qa⟩
  ·rw[qw,obs,if_pos (by simpa using q0),obs,(hjo q7).1,wN (by omega)]
  ·rw[qw,obs,if_neg (by decide),if_pos (by simpa using q1),qa,obs,obs,if_pos rfl,qn,obs,if_neg (by simp[q3]),(hjo (by omega)).1,wN (by omega)]
  ·rw[qw,obs,if_neg (by decide),if_pos (by simpa using q1),qa,obs,obs,if_neg (by decide),hj7 (by rw[q7]),q7]
 ·obtain⟨k,h1,h2,h3,hlt⟩:=ks hj
  have hj2:=cu hj
  have hj3:=hj2
  rw[hbe] at hj3
  obtain⟨q,g1,g2,g3,-⟩:=ks hj3
  rw[obs]
  simp only
  rw[h1,obs,if_neg (by rw[h2];show ¬ ((1:Int) != 1)=true;decide),wN (by omega),g1,obs,py g2 g3,obs]
  obtain⟨kd,cl,N,⟨o0,o1,o2,o3⟩⟩:=t
  simp only at k2 hn hN hlen h3 hw hz
  subst k2
  have hN4:N=0\/N=1\/N=2\/N=3:=by omega
  rcases hN4 with rfl | rfl | rfl | rfl
  ·have hown:own { aa:=2,bu:=cl,fN:=0,am:=⟨o0,o1,o2,o3⟩ }=[o0]:=rfl
   rw[hown] at hlen hz hb1
   have z1:=hz o1 (by show o1∈[o1,o2,o3];simp)
   have z2:=hz o2 (by show o2∈[o1,o2,o3];simp)
   have z3:=hz o3 (by show o3∈[o1,o2,o3];simp)
   subst z1 z2 z3
   rw[(hb1 rfl).1,f1,if_pos (by decide),h3,<- hlen];rfl
  ·have hown:own { aa:=2,bu:=cl,fN:=1,am:=⟨o0,o1,o2,o3⟩ }=[o0,o1]:=rfl
   rw[hown] at hlen hz hb2 hw hj2
   have z2:=hz o2 (by show o2∈[o2,o3];simp)
   have z3:=hz o3 (by show o3∈[o2,o3];simp)
   subst z2 z3
   have hO:=zI hp hll (o:=o1) (os:=[]) (i:=j+1) (r:=u::v :: r) (by simp) hw (by simpa [tlK] using hj2)
   rw[hb2 (by simp),if_neg (by decide),hO,obs]
   simp only
   rw[if_neg (by decide),h3,<- hlen,show j+1 + 1+(otk ps [o1]).length+1=j+1 + (tlK ps (List.drop 1 [o0,o1])).length by simp[tlK];omega]
   rfl
  ·have hown:own { aa:=2,bu:=cl,fN:=2,am:=⟨o0,o1,o2,o3⟩ }=[o0,o1,o2]:=rfl
   rw[hown] at hlen hz hb2 hw hj2
   have z3:=hz o3 (by show o3∈[o3];simp)
   subst z3
   have hO:=zI hp hll (o:=o1) (os:=[o2]) (i:=j+1) (r:=u::v :: r) (by simp) hw (by simpa [tlK] using hj2)
   rw[hb2 (by simp),if_neg (by decide),hO,obs]
   simp only
   rw[if_neg (by decide),h3,<- hlen,show j+1 + 1+(otk ps [o1,o2]).length+1=j+1 + (tlK ps (List.drop 1 [o0,o1,o2])).length by simp[tlK];omega]
   rfl
  ·have hown:own { aa:=2,bu:=cl,fN:=3,am:=⟨o0,o1,o2,o3⟩ }=[o0,o1,o2,o3]:=rfl
   rw[hown] at hlen hz hb2 hw hj2
   have hO:=zI hp hll (o:=o1) (os:=[o2,o3]) (i:=j+1) (r:=u::v :: r) (by simp) hw (by simpa [tlK] using hj2)
   rw[hb2 (by simp),if_neg (by decide),hO,obs]
   simp only
   rw[if_neg (by decide),h3,<- hlen,show j+1 + 1+(otk ps [o1,o2,o3]).length+1=j+1 + (tlK ps (List.drop 1 [o0,o1,o2,o3])).length by simp[tlK];omega]
   rfl
def yP (y:List UInt8):KT:=if y=[116,104,105,115] then(3,y) else(1,y)
def eqP (b:List KT):List KT:=(0,[32])::(4,[61])::(0,[32])::b
def plP (ps:List (List UInt8)) (k:Int) (y nm:List UInt8) (t:bZ) (e:ai) (ar:List ai):List KT:=
 if k=1 then eP e 0 else if k=2 then [yP y,(4,[46]),(1,nm)] else if k=3 then yP y::(4,[46])::(1,nm)::eqP (eP e 0)
 else if k=4 then yP y::(4,[46])::(1,nm)::(4,[40])::(cmP (ar.map (eP · 0))++[(4,[41])])
 else if k=5 then(3,[110,101,119])::(0,[32])::tyP ps t else if k=6 then(3,[99,97,115,116])::(0,[32])::(tyP ps t++(0,[32])::eP e 0)
 else if k=7 then [(3,[109,111,118,101]),(0,[32]),(1,y)] else if k=8 then [(3,[100,101,108,101,116,101]),(0,[32]),(1,y)]
 else if eX e=[] then [(3,[114,101,116,117,114,110])] else(3,[114,101,116,117,114,110])::(0,[32])::eP e 0
def xP (x:List UInt8) (b:List KT):List KT:=if x=[] then b else(1,x)::eqP b
def tbP (d:Nat) (b:List KT):List KT:=if d=0 then b else(0,uR d)::b
def ifK (k:Int):KT:=(3,if k=10 then [119,104,105,108,101] else [105,102])
mutual
def stP (ps:List (List UInt8)):ah->Nat->List KT
 | ⟨k,x,y,nm,t,e,ar,bo,el,_⟩,d=>
  if k=9\/k=10 then tbP d (ifK k::(0,[32])::(4,[40])::(eP e 0++(4,[41])::(0,[32])::(4,[123])::(0,[10])::(wR ps bo (d+1)++((if el.length=0 then [] else tbP d ((4,[125])::(0,[32])::(3,[101,108,115,101])::(0,[32])::(4,[123])::(0,[10])::wR ps el (d+1)))++tbP d [(4,[125]),(0,[10])]))))
  else tbP d (xP x (plP ps k y nm t e ar++[(4,[59]),(0,[10])]))
def wR (ps:List (List UInt8)):List ah->Nat->List KT
 | [],_=>[]
 | s::l,d=>stP ps s d++wR ps l d
end
theorem S6 {ps s} (h:s.aa=9\/s.aa=10) (d:Nat):stP ps s d=tbP d (ifK s.aa::(0,[32])::(4,[40])::(eP s.fE 0++(4,[41])::(0,[32])::(4,[123])::(0,[10])::(wR ps s.au (d+1)++((if s.aZ.length=0 then [] else tbP d ((4,[125])::(0,[32])::(3,[101,108,115,101])::(0,[32])::(4,[123])::(0,[10])::wR ps s.aZ (d+1)))++tbP d [(4,[125]),(0,[10])])))):=by
 cases s;rw[stP,if_pos h]
theorem Uu {ps s} (h:¬ (s.aa=9\/s.aa=10)) (d:Nat):stP ps s d=tbP d (xP s.fX (plP ps s.aa s.fY s.af s.av s.fE s.bN++[(4,[59]),(0,[10])])):=by
 cases s;rw[stP,if_neg h]
structure ON (ps:List (List UInt8)) (s:ah):Prop where
 k:1<=s.aa/\s.aa<=11
 x1:s.aa=1\/s.aa=2\/s.aa=5\/s.aa=6\/s.aa=7->dw s.fX=true
 x4:s.aa=4->s.fX=[]\/dw s.fX=true
 x0:s.aa=3\/s.aa=8\/s.aa=9\/s.aa=10\/s.aa=11->s.fX=[]
 y1:s.aa=2\/s.aa=3\/s.aa=4->dw s.fY=true\/s.fY=[116,104,105,115]
 y7:s.aa=7\/s.aa=8->dw s.fY=true
 y0:s.aa=1\/s.aa=5\/s.aa=6\/s.aa=9\/s.aa=10\/s.aa=11->s.fY=[]
 n1:s.aa=2\/s.aa=3\/s.aa=4->dw s.af=true
 n0:¬ (s.aa=2\/s.aa=3\/s.aa=4)->s.af=[]
 t5:s.aa=5\/s.aa=6->s.av.aa=2/\WT ps s.av
 t0:¬ (s.aa=5\/s.aa=6)->s.av=zT
 e1:s.aa=1\/s.aa=3\/s.aa=9\/s.aa=10\/s.aa=6->fU s.fE=true
 e6:s.aa=6->s.fE.aa=2\/s.fE.aa=3\/s.fE.aa=4
 e11:s.aa=11->s.fE=cA\/fU s.fE=true
 e0:s.aa=2\/s.aa=4\/s.aa=5\/s.aa=7\/s.aa=8->s.fE=cA
 a4:s.aa=4->s.bN.length<=5/\∀ e∈s.bN,fU e=true
 a0:s.aa≠4->s.bN=[]
 b0:¬ (s.aa=9\/s.aa=10)->s.au=[]
 l0:s.aa≠9->s.aZ=[]
theorem Se {e} (h:wv e=true):e=cA:=by
 unfold wv at h
 simp only[Bool.and_eq_true,decide_eq_true_eq,beq_iff_eq] at h
 have h4:=eq_nil_of_length_eq_zero h.2.2.2
 cases e
 simp only at h h4
 rw[h.1,h.2.1,h.2.2.1,h4]
theorem aeg {ps s} (h:Ca (ps.length:Int) s=true) (hw:s.av.aa=2->wrS s.av (ps.length:Int)=true):ON ps s:=by
 unfold Ca at h
 simp only[Bool.and_eq_true,decide_eq_true_eq] at h
 obtain⟨hk,hx,hy,hn,ht,he,ha,hb⟩:=h
 unfold bS at hb
 simp only[Bool.and_eq_true,Bool.or_eq_true,decide_eq_true_eq] at hb
 refine⟨hk,fun q=> ?_,fun q=> ?_,fun q=> ?_,fun q=> ?_,fun q=> ?_,fun q=> ?_,fun q=> ?_,fun q=> ?_,fun q=> ?_,fun q=> ?_,fun q=> ?_,fun q=> ?_,fun q=> ?_,fun q=> ?_,fun q=> ?_,fun q=> ?_,fun q=> ?_,fun q=> ?_⟩
 ·unfold xS at hx;rw[if_pos (by omega)] at hx;exact hx
 ·unfold xS at hx;rw[if_neg (by omega),if_pos q] at hx;simpa using hx
 ·unfold xS at hx;rw[if_neg (by omega),if_neg (by omega)] at hx;simpa using hx
 ·unfold yS at hy;rw[if_pos (by omega)] at hy;simpa using hy
 ·unfold yS at hy;rw[if_neg (by omega),if_pos q] at hy;exact hy
 ·unfold yS at hy;rw[if_neg (by omega),if_neg (by omega)] at hy;simpa using hy
 ·unfold nS at hn;rw[if_pos q] at hn;exact hn
 ·unfold nS at hn;rw[if_neg q] at hn;simpa using hn
 ·unfold tS at ht;rw[if_pos q,Bool.and_eq_true,decide_eq_true_eq] at ht;exact⟨ht.1,hw ht.1⟩
 ·unfold tS at ht;rw[if_neg q] at ht;exact acr ht
 ·unfold eS8 at he
  by_cases q6:s.aa=6
  ·rw[if_neg (by omega),if_pos q6,Bool.and_eq_true] at he;exact he.1
  ·rw[if_pos (by omega)] at he;exact he
 ·unfold eS8 at he;rw[if_neg (by omega),if_pos q,Bool.and_eq_true] at he;simpa using he.2
 ·unfold eS8 at he
  rw[if_neg (by omega),if_neg (by omega),if_pos q,Bool.or_eq_true] at he
  exact he.imp_left Se
 ·unfold eS8 at he;rw[if_neg (by omega),if_neg (by omega),if_neg (by omega)] at he;exact Se he
 ·unfold aS at ha;rw[if_pos q,Bool.and_eq_true,decide_eq_true_eq,all_eq_true] at ha;exact ha
 ·unfold aS at ha;rw[if_neg q,decide_eq_true_eq] at ha;exact eq_nil_of_length_eq_zero ha
 ·exact eq_nil_of_length_eq_zero (by omega)
 ·exact eq_nil_of_length_eq_zero (by omega)
theorem KE {e} (h:fU e=true):tx (eP e 0)=eX e:=by rw[aej (iz h),eX,if_pos h]
theorem abm : eX cA=[]:=by decide
theorem Zz {e} (h:fU e=true):eX e≠[]:=by
 rw[eX,if_pos h]
 obtain⟨p,c,e2,-⟩:=ZE _ e 0 (Nat.le_refl _) (iz h)
 rw[e2];simp
theorem acg {l} (h:∀ e∈l,fU e=true):tx (cmP (l.map (eP · 0)))=Qi l:=by
 rw[Pq,Qi,map_map]
 exact congrArg cm (map_congr_left fun e he=>KE (h e he))
theorem NR (d:Nat) (b:List KT):tx (tbP d b)=uR d++tx b:=by
 unfold tbP
 split
 ·rename_i h;rw[h];rfl
 ·rw[dy]
theorem adZ {ps s} (h:ON ps s) (h9:¬ (s.aa=9\/s.aa=10)):tx (plP ps s.aa s.fY s.af s.av s.fE s.bN)=plS ps s.aa s.fY s.af s.av s.fE s.bN:=by
 have hy:tx [yP s.fY]=s.fY:=by unfold yP;split<;>simp[dy,kr]
 have hy2:∀ b,tx (yP s.fY::b)=s.fY++tx b:=fun b=>by unfold yP;split<;>rw[dy]
 have hk:s.aa=1\/s.aa=2\/s.aa=3\/s.aa=4\/s.aa=5\/s.aa=6\/s.aa=7\/s.aa=8\/s.aa=11:=by have:=h.k;omega
 unfold plP plS
 rcases hk with k | k | k | k | k | k | k | k | k
 ·rw[if_pos k,if_pos k,KE (h.e1 (by omega))]
 ·rw[k];simp[dy,kr,hy2]
 ·rw[k];simp[dy,hy2,eqP,KE (h.e1 (by omega))]
 ·rw[k];simp[dy,mp,kr,hy2,acg (h.a4 k).2]
 ·rw[k];simp[dy,PR (h.t5 (by omega)).2]
 ·rw[k];simp[dy,mp,PR (h.t5 (by omega)).2,KE (h.e1 (by omega))]
 ·rw[k];simp[dy,kr]
 ·rw[k];simp[dy,kr]
 ·rw[k]
  rcases h.e11 k with e | e
  ·rw[e,abm];rfl
  ·simp[Zz e,dy,KE e]
theorem afm (x:List UInt8) (b:List KT):tx (xP x b)=xxS x++tx b:=by
 unfold xP xxS
 split
 ·rfl
 ·simp[dy,eqP]
theorem aez {k:Int} (h:k=9\/k=10) (b:List UInt8):hdW k++b=(ifK k).2++([32]++([40]++b)):=by rcases h with rfl | rfl<;>rfl
inductive OA (ps:List (List UInt8)):ah->Prop
 | mk (s:ah) (h:ON ps s) (b:∀ x∈s.au,OA ps x) (e:∀ x∈s.aZ,OA ps x):OA ps s
theorem Zn {ps}:∀ (f:Nat) (s:ah),cc s<=f->fmS (ps.length:Int) s=true->opS (ps.length:Int) s=true->OA ps s
 | 0,s,h,_,_=>by have:=lI s;omega
 | f+1,s,h,h1,h2=>by
  rw[Li] at h1
  rw[S7,Af,Af] at h2
  simp only[Bool.and_eq_true,Bool.or_eq_true,Bool.not_eq_true',decide_eq_false_iff_not,all_eq_true] at h1 h2
  exact .mk s (aeg h1.1 fun k=>h2.1.resolve_left fun q=>q k) (fun x hx=>Zn f x (by have:=wA hx;omega) (h1.2.1 x hx) (h2.2.1 x hx)) (fun x hx=>Zn f x (by have:=xh hx;omega) (h1.2.2 x hx) (h2.2.2 x hx))
theorem GU {ps d}:∀ {l:List ah},(∀ x∈l,tx (stP ps x d)=stT ps x d)->tx (wR ps l d)=xU ps l d
 | [],_=>rfl
 | x::l,h=>by rw[wR,xU,mp,h x (by simp),GU fun y hy=>h y (by simp[hy])]
theorem Ud {ps}:∀ (f:Nat) (s:ah) (d:Nat),cc s<=f->OA ps s->tx (stP ps s d)=stT ps s d
 | 0,s,d,h,_=>by have:=lI s;omega
 | f+1,s,d,h,ha=>by
  cases ha with
  | mk _ ho hb he=>
   by_cases hk:s.aa=9\/s.aa=10
   ·have b1:=GU (d:=d+1) fun x hx=>Ud f x (d+1) (by have:=wA hx;omega) (hb x hx)
    have b2:=GU (d:=d+1) fun x hx=>Ud f x (d+1) (by have:=xh hx;omega) (he x hx)
    rw[S6 hk,Uh hk,NR,aez hk]
    by_cases h0:s.aZ.length=0
    ·rw[if_pos h0,if_pos h0];simp[dy,mp,kr,NR,b1,KE (ho.e1 (by omega))]
    ·rw[if_neg h0,if_neg h0];simp[dy,mp,kr,NR,b1,b2,KE (ho.e1 (by omega))]
   ·rw[Uu hk,SQ hk,NR,afm,mp,adZ ho hk];rfl
theorem XZ {y} (h:dw y=true\/y=[116,104,105,115]):ok [yP y]=true:=by
 unfold yP
 by_cases hy:y=[116,104,105,115]
 ·rw[if_pos hy,hy];decide
 ·rw[if_neg hy];exact tB (h.resolve_right hy)
theorem YD {a b} (ha:ok a=true) (hb:ok b=true):ok (a++eqP b)=true:=by
 refine fe ha (by decide) ?_
 have h:=eh (q:=(0,[32])) (by decide) hb
 show (vld (4,[61])&&(jn (4,[61]) ((0,[32])::b)&&ok ((0,[32])::b)))=true
 rw[h];rfl
theorem adu {ps} (hp:PN ps) {s} (h:ON ps s) (h9:¬ (s.aa=9\/s.aa=10)):ok (plP ps s.aa s.fY s.af s.av s.fE s.bN)=true:=by
 have hk:s.aa=1\/s.aa=2\/s.aa=3\/s.aa=4\/s.aa=5\/s.aa=6\/s.aa=7\/s.aa=8\/s.aa=11:=by have:=h.k;omega
 unfold plP
 rcases hk with k | k | k | k | k | k | k | k | k
 ·rw[if_pos k];exact Nn (iz (h.e1 (by omega))) 0
 ·rw[k];exact fe (a:=[yP s.fY]) (XZ (h.y1 (by omega))) (by decide) (tB (h.n1 (by omega)))
 ·rw[k];exact fe (a:=[yP s.fY]) (XZ (h.y1 (by omega))) (by decide) (YD (tB (h.n1 (by omega))) (Nn (iz (h.e1 (by omega))) 0))
 ·rw[k];exact fe (a:=[yP s.fY]) (XZ (h.y1 (by omega))) (by decide) (fe (tB (h.n1 (by omega))) (by decide) (fe (O4 fun x hx=>by
   obtain⟨e,he,rfl⟩:=List.mem_map.1 hx
   exact Nn (iz ((h.a4 k).2 e he)) 0) (by decide) rfl))
 ·rw[k];exact fe (a:=[(3,[110,101,119])]) (by decide) (by decide) (Ou hp (h.t5 (by omega)).2)
 ·rw[k];exact fe (a:=[(3,[99,97,115,116])]) (by decide) (by decide) (fe (Ou hp (h.t5 (by omega)).2) (by decide) (Nn (iz (h.e1 (by omega))) 0))
 ·rw[k];exact fe (a:=[(3,[109,111,118,101])]) (by decide) (by decide) (tB (h.y7 (by omega)))
 ·rw[k];exact fe (a:=[(3,[100,101,108,101,116,101])]) (by decide) (by decide) (tB (h.y7 (by omega)))
 ·rw[k]
  rcases h.e11 k with e | e
  ·rw[e,abm];show ok [(3,[114,101,116,117,114,110])]=true;decide
  ·simp only[Zz e,if_false]
   exact fe (a:=[(3,[114,101,116,117,114,110])]) (by decide) (by decide) (Nn (iz e) 0)
def OX (p:List KT):Prop:=∀ b,ok b=true->ok (p++b)=true
theorem NP {d b} (h:ok b=true):ok (tbP d b)=true:=by
 unfold tbP
 split
 ·exact h
 ·rename_i hd
  refine eh ?_ h
  have h1:(uR d).all blk=true:=by unfold uR;rw[all_eq_true];intro x hx;rw[(List.mem_replicate.1 hx).2];rfl
  have h2:uR d≠[]:=by unfold uR;simp[hd]
  have h3:uR d≠[61]:=fun e=>by rw[e] at h1;revert h1;decide
  unfold sp vld
  simp[h1,h2,h3]
theorem Iv {ps d}:∀ {l:List ah},(∀ x∈l,OX (stP ps x d))->OX (wR ps l d)
 | [],_=>fun b hb=>hb
 | x::l,h=>fun b hb=>by
  rw[wR,append_assoc]
  exact h x (by simp) _ (Iv (fun y hy=>h y (by simp[hy])) b hb)
theorem GI (d:Nat) (a b:List KT):tbP d a++b=tbP d (a++b):=by unfold tbP;split<;>rfl
theorem Ut {ps} (hp:PN ps):∀ (f:Nat) (s:ah) (d:Nat),cc s<=f->OA ps s->OX (stP ps s d)
 | 0,s,d,h,_=>by have:=lI s;omega
 | f+1,s,d,h,ha=>by
  intro b hb
  cases ha with
  | mk _ ho hbo hel=>
   by_cases hk:s.aa=9\/s.aa=10
   ·have b1:=Iv (d:=d+1) fun x hx=>Ut hp f x (d+1) (by have:=wA hx;omega) (hbo x hx)
    have b2:=Iv (d:=d+1) fun x hx=>Ut hp f x (d+1) (by have:=xh hx;omega) (hel x hx)
    have hend:ok (tbP d [(4,[125]),(0,[10])]++b)=true:=by rw[GI];exact NP (eh (by decide) (eh (by decide) hb))
    have hif:ok [ifK s.aa]=true:=by rcases hk with k | k<;>(rw[k];decide)
    have helse:ok ((if s.aZ.length=0 then [] else tbP d ((4,[125])::(0,[32])::(3,[101,108,115,101])::(0,[32])::(4,[123])::(0,[10])::wR ps s.aZ (d+1)))++(tbP d [(4,[125]),(0,[10])]++b))=true:=by
     split
     ·exact hend
     ·rw[GI]
      exact NP (eh (by decide) (eh (by decide) (fe (a:=[(3,[101,108,115,101])]) (by decide) (by decide) (eh (by decide) (eh (by decide) (b2 _ hend))))))
    rw[S6 hk,GI]
    refine NP (fe (a:=[ifK s.aa]) hif (by decide) (eh (by decide) ?_))
    show ok ((eP s.fE 0++_::_)++b)=true
    rw[append_assoc]
    refine fe (Nn (iz (ho.e1 (by omega))) 0) (by decide) (eh (by decide) (eh (by decide) (eh (by decide) ?_)))
    show ok ((wR ps s.au (d+1)++(_++_))++b)=true
    rw[append_assoc,append_assoc]
    exact b1 _ helse
   ·have hpl:ok (plP ps s.aa s.fY s.af s.av s.fE s.bN++(4,[59])::(0,[10])::b)=true:=fe (adu hp ho hk) (by decide) (eh (by decide) hb)
    rw[Uu hk,GI]
    refine NP ?_
    unfold xP
    split
    ·rw[append_assoc];exact hpl
    ·rename_i hx
     rw[cons_append]
     have hnx:dw s.fX=true:=by
      have hkk:(s.aa=1\/s.aa=2\/s.aa=5\/s.aa=6\/s.aa=7)\/s.aa=4\/(s.aa=3\/s.aa=8\/s.aa=9\/s.aa=10\/s.aa=11):=by have:=ho.k;omega
      rcases hkk with q | q | q
      ·exact ho.x1 q
      ·exact(ho.x4 q).resolve_left hx
      ·exact absurd (ho.x0 q) hx
     have:=YD (tB hnx) hpl
     unfold eqP at this ⊢
     simpa using this
mutual
def z0 : ah->ah
 | ⟨k,x,y,nm,t,e,ar,bo,el,_⟩=>⟨k,x,y,nm,t,e,ar,z0L bo,z0L el,0⟩
def z0L : List ah->List ah
 | []=>[]
 | s::l=>z0 s::z0L l
end
theorem Pj : ∀ l:List ah,z0L l=l.map z0
 | []=>rfl
 | s::l=>by rw[z0L,map_cons,Pj l]
theorem Jr (s:ah):z0 s=⟨s.aa,s.fX,s.fY,s.af,s.av,s.fE,s.bN,s.au.map z0,s.aZ.map z0,0⟩:=by cases s;rw[z0,Pj,Pj]
theorem is8 {l i t r} (h:At l i (t::r)) (s:List UInt8):dj l (i:Int) s=some (isT t s):=by
 obtain⟨k,h1,h2,h3,-⟩:=ks h
 unfold dj eK
 rw[h1,obs,obs,py h2 h3,obs]
theorem ua {l i t r} (h:At l i (t::r)):∃ k,eK l (i:Int)=some k/\k.aa=t.1/\k.bV=t.2/\i < l.length:=by
 obtain⟨k,h1,h2,h3,h4⟩:=ks h
 exact⟨k,by unfold eK;rw[h1,obs],h2,h3,h4⟩
theorem w2 {i:Nat} (h:i<=1000000):ae ((i:Int)+2)=((i+1 + 1:Nat):Int):=by rw[w64 (by omega) (by omega)];omega
theorem w3' {i:Nat} (h:i<=1000000):ae ((i:Int)+3)=((i+1 + 1+1:Nat):Int):=by rw[w64 (by omega) (by omega)];omega
theorem w4' {i:Nat} (h:i<=1000000):ae ((i:Int)+4)=((i+1 + 1+1 + 1:Nat):Int):=by rw[w64 (by omega) (by omega)];omega
theorem rR {l} (hll:l.length<=20000) {i r} (h:At l i ((4,[59])::r)) (s:ah):ja l (i:Int) s=some { fS:=s,fL:=[],fA:=[],aU:=((i+1:Nat):Int),fF:=aM }:=by
 obtain⟨-,-,-,-,hlt⟩:=ks h
 unfold ja
 rw[is8 h,obs,if_neg (by decide),wN (by omega)]
def atk (l:List ai):List KT:=tks (cmP (l.map (eP · 0)))
theorem ME : CJ 0 (4,[41])/\CJ 0 (4,[44])/\CJ 0 (4,[59]):=by
 refine⟨fun j h1 h0 h3=> ?_,fun j h1 h0 h3=> ?_,fun j h1 h0 h3=> ?_⟩<;>
 ·have hj:j=0\/j=1\/j=2\/j=3:=by omega
  rcases hj with rfl | rfl | rfl | rfl<;>rfl
theorem aav {l} (hll:l.length<=20000):∀ (es:List ai) (e:ai) (out:List ai) (i n:Nat) (r:List KT),out.length+es.length+1<=5->(∀ x∈e::es,fU x=true/\bL x<=1000000)->At l i (atk (e::es)++(4,[41])::r)->es.length+1<=n->
  pO l n (i:Int) out=some (.stop { fS:=iW,fL:=[],fA:=out++e::es,aU:=((i+(atk (e::es)).length+1:Nat):Int),fF:=aM })
 | es,e,out,i,0,r,_,_,_,hn=>absurd hn (by omega)
 | es,e,out,i,n+1,r,hl,hw,hat,hn=>by
  obtain⟨he,hm⟩:=hw e (by simp)
  have hi:=FH hat
  rw[pO,if_neg (by simp;omega)]
  cases es with
  | nil=>
   have:atk [e]=tE e 0:=by unfold atk;rw[map_cons,map_nil,yE];rfl
   rw[this] at hat hi ⊢
   rw[xd he hm hll hat ME.1,obs]
   simp only
   rw[if_neg (by decide),gz (by simp only[length_cons,length_nil];omega),obs,is8 (gy hat).2,obs,if_pos (by decide),wN (by omega)]
  | cons e2 es=>
   have:atk (e::e2::es)=tE e 0++(4,[44])::atk (e2::es):=by unfold atk;rw[map_cons,map_cons,zD];rfl
   rw[this] at hat hi ⊢
   rw[append_assoc,cons_append] at hat
   have h2:=(gy hat).2
   rw[length_append,length_cons] at hi
   rw[xd he hm hll hat ME.2.1,obs]
   simp only
   rw[if_neg (by decide),gz (by simp only[length_cons,length_nil];omega),obs,is8 h2,obs,if_neg (by decide),is8 h2,obs,if_neg (by decide),wN (by omega),
    aav hll es e2 (out++[e]) (i+(tE e 0).length+1) n r (by rw[length_append,length_cons,length_nil];simp only[length_cons] at hl;omega) (fun x hx=>hw x (by simp[hx])) (cu h2) (by simp only[length_cons] at hn;omega),append_assoc,length_append,length_cons,
    show i+(tE e 0).length+1 + (atk (e2::es)).length+1=i+((tE e 0).length+((atk (e2::es)).length+1))+1 by omega]
   rfl
theorem OO {e} (he:fS e=true):∀ m,∃ t ts,tE e m=t::ts/\isT t [41]=false:=by
 refine Nj (P:=fun e=>∀ m,∃ t ts,tE e m=t::ts/\isT t [41]=false) ?_ ?_ ?_ ?_ ?_ _ e (Nat.le_refl _) he
 ·intro e k _ _ _ m;rw[tE,om,k];cases decide (lvS 1 < m)<;>exact⟨_,_,rfl,rfl⟩
 ·intro e k _ _ _ m;rw[tE,om,k];cases decide (lvS 2 < m)<;>exact⟨_,_,rfl,rfl⟩
 ·intro e k _ _ _ m;rw[tE,om];rcases k with k | k | k<;>rw[k]<;>cases decide (lvS _ < m)<;>exact⟨_,_,rfl,rfl⟩
 ·intro e x k _ _ _ _ _ m;rw[tE,om];rcases k with k | ⟨k,-⟩<;>rw[k]<;>cases decide (lvS _ < m)<;>exact⟨_,_,rfl,rfl⟩
 ·intro e x y k hx _ _ _ _ ix _ m
  rcases k with k | ⟨k,-⟩
  ·rw[tE,om]
   cases decide (lvS e.aa < m)
   ·obtain⟨t,ts,e1,e2⟩:=ix (if lvS e.aa=1 then 2 else lvS e.aa)
    rw[RB,if_neg (by decide),CG k,hx,GK,ed]
    unfold tE at e1
    rw[e1]
    exact⟨_,_,rfl,e2⟩
   ·exact⟨_,_,rfl,rfl⟩
  ·rw[tE,om,k];cases decide (lvS 14 < m)<;>exact⟨_,_,rfl,rfl⟩
theorem aaG {l} (hll:l.length<=20000) {es i r} (hl:es.length<=5) (hw:∀ x∈es,fU x=true/\bL x<=1000000) (h:At l i ((4,[40])::(atk es++(4,[41])::r))):
  uK l (i:Int)=some { fS:=iW,fL:=[],fA:=es,aU:=((i+1 + (atk es).length+1:Nat):Int),fF:=aM }:=by
 obtain⟨-,-,-,-,hlt⟩:=ks h
 have h1:=cu h
 unfold uK
 rw[wN (by omega)]
 cases es with
 | nil=>
  have:atk []=[]:=rfl
  rw[this] at h1 ⊢
  rw[is8 h1,obs,if_pos (by decide),wN (by omega)]
  rfl
 | cons e es=>
  have hn:isT ((atk (e::es)++(4,[41])::r).head (by simp)) [41]=false:=by
   obtain⟨he,-⟩:=hw e (by simp)
   have hne:∃ t ts,atk (e::es)=t::ts/\isT t [41]=false:=by
    have hh:=OO (iz he) 0
    obtain⟨t,ts,e1,e2⟩:=hh
    cases es with
    | nil=>exact⟨t,ts,by unfold atk;rw[map_cons,map_nil,yE];exact e1,e2⟩
    | cons e3 es=>exact⟨t,_,by unfold atk;rw[map_cons,map_cons,zD];unfold tE at e1;rw[e1];rfl,e2⟩
   obtain⟨t,ts,e1,e2⟩:=hne
   simp only[e1,cons_append,head_cons]
   exact e2
  have h2:At l (i+1) ((atk (e::es)++(4,[41])::r).head (by simp)::(atk (e::es)++(4,[41])::r).tail):=by rw[cons_head_tail];exact h1
  rw[is8 h2,obs,hn,if_neg (by decide),aav hll es e [] (i+1) (l.length+64) r (by simp only[length_nil];simp only[length_cons] at hl;omega) hw h1 (by simp only[length_cons] at hl;omega),obs]
  rfl
theorem uI {l i t r} (h:At l i (t::r)):qy l (i:Int)=some (t.1==1||isT t [116,104,105,115]):=by
 obtain⟨k,h1,h2,h3,-⟩:=ua h
 unfold qy
 rw[h1,obs,h2,is8 h]
 simp only[obs]
 cases (t.1==1)<;>cases isT t [116,104,105,115]<;>rfl
theorem ZI (y:List UInt8):((yP y).1==1||isT (yP y) [116,104,105,115])=true/\(yP y).2=y:=by
 unfold yP
 split
 ·rename_i h;rw[h];exact⟨rfl,rfl⟩
 ·exact⟨rfl,rfl⟩
theorem Jb {l} (hll:l.length<=20000) {i y nm es r} (hl:es.length<=5) (hw:∀ x∈es,fU x=true/\bL x<=1000000) (h:At l i (yP y::(4,[46])::(1,nm)::(4,[40])::(atk es++(4,[41])::(4,[59])::r))) (s:ah):
  iG l (i:Int) s=some { fS:={ s with fY:=y,af:=nm,aa:=4,bN:=es },fL:=[],fA:=[],aU:=((i+1 + 1+1 + 1+(atk es).length+1 + 1:Nat):Int),fF:=aM }:=by
 have h1:=cu h
 have h2:=cu h1
 have h3:=cu h2
 obtain⟨k,a1,a2,a3,hlt⟩:=ua h
 obtain⟨q,b1,b2,b3,-⟩:=ua h2
 have ha:=aaG hll hl hw h3
 have he:At l (i+1 + 1+1 + 1+(atk es).length+1) ((4,[59])::r):=cu (gy (cu h3)).2
 unfold iG
 rw[a1,obs,w2 (by omega),b1,obs,if_neg (by rw[b2];simp),obs,w3' (by omega),is8 h3,obs,if_pos (by decide),ha,obs]
 simp only
 rw[if_neg (by decide),rR hll he,obs,a3,b3,(ZI y).2]
theorem WN {l} (hll:l.length<=20000) {i y nm r} (h:At l i (yP y::(4,[46])::(1,nm)::(4,[59])::r)) {s} (hx:s.fX≠[]):
  iG l (i:Int) s=some { fS:={ s with fY:=y,af:=nm,aa:=2 },fL:=[],fA:=[],aU:=((i+1 + 1+1 + 1:Nat):Int),fF:=aM }:=by
 have h1:=cu h
 have h2:=cu h1
 have h3:=cu h2
 obtain⟨k,a1,a2,a3,hlt⟩:=ua h
 obtain⟨q,b1,b2,b3,-⟩:=ua h2
 unfold iG
 rw[a1,obs,w2 (by omega),b1,obs,if_neg (by rw[b2];simp),obs,w3' (by omega),is8 h3,obs,if_neg (by decide)]
 simp only
 rw[if_pos (by simpa using hx),rR hll h3,obs,a3,b3,(ZI y).2]
theorem Xu {l} (hll:l.length<=20000) {i y nm e r} (hr:fU e=true) (hm:bL e<=1000000) (h:At l i (yP y::(4,[46])::(1,nm)::(4,[61])::(tE e 0++(4,[59])::r))) {s} (hx:s.fX=[]):
  iG l (i:Int) s=some { fS:={ s with fY:=y,af:=nm,aa:=3,fE:=e },fL:=[],fA:=[],aU:=((i+1 + 1+1 + 1+(tE e 0).length+1:Nat):Int),fF:=aM }:=by
 have h1:=cu h
 have h2:=cu h1
 have h3:=cu h2
 have h4:=cu h3
 obtain⟨k,a1,a2,a3,hlt⟩:=ua h
 obtain⟨q,b1,b2,b3,-⟩:=ua h2
 unfold iG
 rw[a1,obs,w2 (by omega),b1,obs,if_neg (by rw[b2];simp),obs,w3' (by omega),is8 h3,obs,if_neg (by decide)]
 simp only
 rw[if_neg (by simp[hx]),is8 h3,obs,if_neg (by decide),w4' (by omega),xd hr hm hll h4 ME.2.2,obs]
 simp only
 rw[if_neg (by decide),rR hll (gy h4).2,obs,a3,b3,(ZI y).2]
theorem WZ {ps} (hp:PN ps) {l} (hll:l.length<=20000) {i t v r} (ht:WT ps t) (h2:t.aa=2) (h:At l i ((3,[110,101,119])::(tyK ps t++(4,[59])::v :: r))) (s:ah):
  mw l (i:Int) s ps=some { fS:={ s with aa:=5,av:=t },fL:=[],fA:=[],aU:=((i+1 + (tyK ps t).length+1:Nat):Int),fF:=aM }:=by
 have h1:=cu h
 obtain⟨-,-,-,-,hlt⟩:=ks h
 have hT:=Si (f:=false) hp ht hll h1 (fun _=>⟨rfl,fun e=>by simp at e,fun e=>by cases e⟩)
 unfold mw
 rw[is8 h,obs,if_neg (by decide),obs]
 simp only
 rw[wN (by omega),show ((5:Int)==6)=false from rfl,hT,obs]
 simp only
 rw[if_neg (by decide),if_neg (by simp[h2]),if_pos (by decide),rR hll (gy h1).2,obs]
theorem UE {ps} (hp:PN ps) {l} (hll:l.length<=20000) {i t e r} (ht:WT ps t) (h2:t.aa=2) (hf:fS e=true) (he:e.aa=2\/e.aa=3\/e.aa=4) (h:At l i ((3,[99,97,115,116])::(tyK ps t++(tE e 4++(4,[59])::r)))) (s:ah):
  mw l (i:Int) s ps=some { fS:={ s with aa:=6,av:=t,fE:=e },fL:=[],fA:=[],aU:=((i+1 + (tyK ps t).length+(tE e 4).length+1:Nat):Int),fF:=aM }:=by
 obtain⟨u,hu,hux⟩:=Ic hf he
 rw[hu] at h ⊢
 have h1:=cu h
 obtain⟨-,-,-,-,hlt⟩:=ks h
 have hT:=Si (f:=true) hp ht hll h1 (fun _=>by
  rcases hux with⟨-,k⟩ | ⟨-,rfl⟩ | ⟨-,rfl⟩
  ·refine⟨?_,fun _=>⟨rfl,by simp,rfl,rfl,rfl⟩,fun _=> .inl k⟩
   unfold isT;rw[if_neg (by omega)]
  ·exact⟨rfl,fun e=>by simp at e,fun _=> .inr (.inl rfl)⟩
  ·exact⟨rfl,fun e=>by simp at e,fun _=> .inr (.inr rfl)⟩)
 have hu2:=(gy h1).2
 have he2:=cu hu2
 obtain⟨k,a1,a2,a3,hlt2⟩:=ua hu2
 unfold mw
 rw[is8 h,obs,if_pos (by decide),obs]
 simp only
 rw[wN (by omega),show ((6:Int)==6)=true from rfl,hT,obs]
 simp only
 rw[if_neg (by decide),if_neg (by simp[h2]),if_neg (by decide),a1,obs,wN (by omega),a2]
 rcases hux with⟨rfl,k1⟩ | ⟨rfl,rfl⟩ | ⟨rfl,rfl⟩
 ·rw[if_pos (by simpa using k1),obs,rR hll he2,obs,a3];rfl
 ·rw[if_neg (by decide),is8 hu2,obs,if_pos (by decide),obs,rR hll he2,obs];rfl
 ·rw[if_neg (by decide),is8 hu2,obs,if_neg (by decide),is8 hu2,obs,if_pos (by decide),obs,rR hll he2,obs];rfl
def gdb (p:KT):Bool:= !isT p [46]&&(!isT p [59]&&(!isT p [110,101,119]&&(!isT p [99,97,115,116]&& !isT p [109,111,118,101])))
theorem afe {e} (he:fS e=true):∀ m,(eP e m).all gdb=true:=by
 have par:∀ b s,List.all s gdb=true->(RB b s).all gdb=true:=fun b s h=>by
  cases b
  ·exact h
  ·show (((4,[40]):KT)::(s++[(4,[41])])).all gdb=true
   rw[all_cons,all_append,h];decide
 refine Nj (P:=fun e=>∀ m,(eP e m).all gdb=true) ?_ ?_ ?_ ?_ ?_ _ e (Nat.le_refl _) he
 ·intro e k _ _ _ m;rw[om,k];exact par _ _ rfl
 ·intro e k _ _ _ m;rw[om,k];exact par _ _ rfl
 ·intro e k _ _ _ m;rw[om];rcases k with k | k | k<;>rw[k]<;>exact par _ _ rfl
 ·intro e x k hx _ _ _ ih m
  rw[om,hx]
  rcases k with k | ⟨k,-⟩<;>rw[k]<;>refine par _ _ ?_
  ·show (((4,[33]):KT)::eP x 4).all gdb=true
   rw[all_cons,ih];decide
  ·show (((3,[110,105,108]):KT)::(4,[40])::(eP x 4++[(4,[41])])).all gdb=true
   rw[all_cons,all_cons,all_append,ih];decide
 ·intro e x y k hx _ _ _ _ ix iy m
  rw[om,hx]
  refine par _ _ ?_
  rcases k with k | ⟨k,-⟩
  ·have hs:gdb (4,sgS e.aa)=true:=by rcases uX k with k | k | k | k | k | k<;>rw[k]<;>decide
   rw[CG k,GK,Qf,all_append,all_cons,all_cons,all_cons,ix,iy,hs];decide
  ·rw[k]
   show (((3,[115,97,109,101]):KT)::(4,[40])::(eP x 4++(4,[44])::(0,[32])::(eP y 4++[(4,[41])]))).all gdb=true
   rw[all_cons,all_cons,all_append,all_cons,all_cons,all_append,ix,iy];decide
theorem Yc {e} (he:fS e=true) {m:Int} {t} (h:t∈tE e m):isT t [46]=false/\isT t [59]=false/\isT t [110,101,119]=false/\isT t [99,97,115,116]=false/\isT t [109,111,118,101]=false:=by
 have:=List.all_eq_true.1 (afe he m) t (List.mem_filter.1 h).1
 unfold gdb at this
 simpa using this
theorem XN {l} (hll:l.length<=20000) {i ps e r} (hr:fU e=true) (hm:bL e<=1000000) (h:At l i (tE e 0++(4,[59])::r)) (s:ah):
  jE l (i:Int) s ps=some { fS:={ s with aa:=1,fE:=e },fL:=[],fA:=[],aU:=((i+(tE e 0).length+1:Nat):Int),fF:=aM }:=by
 have hf:=iz hr
 obtain⟨t,ts,e1,-⟩:=OO hf 0
 obtain⟨g1,g2,g3,g4,g5⟩:=Yc hf (m:=0) (t:=t) (by rw[e1];simp)
 have hi:=FH h
 have h0:=h
 rw[e1,cons_append] at h0
 have hnext:∃ u r',ts++(4,[59])::r=u::r'/\isT u [46]=false:=by
  cases ts with
  | nil=>exact⟨_,_,rfl,rfl⟩
  | cons u q=>exact⟨u,_,rfl,(Yc hf (m:=0) (t:=u) (by rw[e1];simp)).1⟩
 obtain⟨u,r',e2,hu⟩:=hnext
 have h1:=cu h0
 rw[e2] at h1
 have hP:=xd hr hm hll h ME.2.2
 unfold jE
 rw[is8 h0,obs,g3,if_neg (by decide),is8 h0,obs,g4,obs,if_neg (by decide),is8 h0,obs,g5,if_neg (by decide),uI h0,obs,wN (by omega),is8 h1,obs,hu,ii,obs,ite_self,if_neg (by decide),hP,obs]
 simp only
 rw[if_neg (by decide),rR hll (gy h).2,obs]
theorem J9 {l i ps w r} (hw:w=[110,101,119]\/w=[99,97,115,116]) (h:At l i ((3,w)::r)) (s:ah) {q} (hq:mw l (i:Int) s ps=some q):jE l (i:Int) s ps=some q:=by
 unfold jE
 rw[is8 h,obs,hq]
 rcases hw with rfl | rfl
 ·rw[if_pos (by decide),obs,if_pos rfl,obs]
 ·rw[if_neg (by decide),is8 h,obs,obs,if_pos (by decide),obs]
theorem Wz {l} (hll:l.length<=20000) {i ps y r} (h:At l i ((3,[109,111,118,101])::(1,y)::(4,[59])::r)) (s:ah):
  jE l (i:Int) s ps=some { fS:={ s with aa:=7,fY:=y },fL:=[],fA:=[],aU:=((i+1 + 1+1:Nat):Int),fF:=aM }:=by
 obtain⟨-,-,-,-,hlt⟩:=ks h
 have h1:=cu h
 obtain⟨k,a1,a2,a3,-⟩:=ua h1
 unfold jE
 rw[is8 h,obs,if_neg (by decide),is8 h,obs,obs,if_neg (by decide),is8 h,obs,if_pos (by decide),wN (by omega),a1,obs,if_neg (by rw[a2];simp),obs,w2 (by omega),rR hll (cu h1),obs,a3]
theorem J6 {l} (hll:l.length<=20000) {i ps y r} (hy:dw y=true\/y=[116,104,105,115]) (h:At l i (yP y::(4,[46])::r)) (s:ah) {q} (hq:iG l (i:Int) s=some q):jE l (i:Int) s ps=some q:=by
 obtain⟨-,-,-,-,hlt⟩:=ks h
 have hn:isT (yP y) [110,101,119]=false/\isT (yP y) [99,97,115,116]=false/\isT (yP y) [109,111,118,101]=false:=by
  unfold yP
  by_cases e:y=[116,104,105,115]
  ·rw[if_pos e,e];decide
  ·rw[if_neg e];exact⟨rfl,rfl,rfl⟩
 unfold jE
 rw[is8 h,obs,hn.1,if_neg (by decide),is8 h,obs,hn.2.1,obs,if_neg (by decide),is8 h,obs,hn.2.2,if_neg (by decide),uI h,obs,(ZI y).1,if_pos rfl,wN (by omega),is8 (cu h),obs,obs,if_pos (by decide),hq,obs]
theorem Ba (y:List UInt8) (b:List KT):tks (yP y::b)=yP y::tks b:=by unfold yP;split<;>exact cf (by decide)
theorem Wa (b:List KT):tks (eqP b)=(4,[61])::tks b:=by unfold eqP;rw[de,cf (by decide),de]
theorem Ir (d:Nat) (b:List KT):tks (tbP d b)=tks b:=by unfold tbP;split<;>first | rfl | exact de
theorem UB {ps s} (h:¬ (s.aa=9\/s.aa=10)) (d:Nat):tks (stP ps s d)=(if s.fX=[] then [] else [(1,s.fX),(4,[61])])++(tks (plP ps s.aa s.fY s.af s.av s.fE s.bN)++[(4,[59])]):=by
 rw[Uu h,Ir]
 unfold xP
 split
 ·rw[ed,cf (by decide),de];rfl
 ·rw[cf (by decide),Wa,ed,cf (by decide),de];rfl
abbrev sZ (a:Int):ah:={ aa:=0,fX:=[],fY:=[],af:=[],av:=dY,fE:=cA,bN:=[],au:=[],aZ:=[],fAt:=a }
theorem zK {l} (hll:l.length<=20000) {i nest f ps x r} (hn:nest < 20) (h:At l i ((1,x)::(4,[61])::r)) {q k} (hk:eK l (i:Int)=some k) (hq:jE l ((i+1 + 1:Nat):Int) { sZ k.fAt with fX:=x } ps=some q):dP (f+1) l (i:Int) ps (nest:Int)=some q:=by
 obtain⟨k',a1,a2,a3,hlt⟩:=ua h
 rw[hk] at a1
 obtain rfl:=Option.some.inj a1
 rw[dP,hk,obs,if_neg (by simp;omega),uI h,obs,if_pos (show ((((1:Int),x).1==1)||isT (1,x) [116,104,105,115])=true from rfl),wN (by omega),is8 (cu h),obs,obs,if_neg (by decide),obs,if_pos (by rw[a2];rfl),is8 (cu h),obs,if_neg (by decide),obs,w2 (by omega),a3]
 exact(congrArg (fun o=>Option.bind o _) hq).trans rfl
theorem Vz {l} (hll:l.length<=20000) {i nest f ps y r} (hn:nest < 20) (h:At l i (yP y::(4,[46])::r)) {q k} (hk:eK l (i:Int)=some k) (hq:iG l (i:Int) (sZ k.fAt)=some q):dP (f+1) l (i:Int) ps (nest:Int)=some q:=by
 obtain⟨k',a1,a2,a3,hlt⟩:=ua h
 rw[dP,hk,obs,if_neg (by simp;omega),uI h,obs,(ZI y).1,if_pos rfl,wN (by omega),is8 (cu h),obs,obs,if_pos (by decide),hq,obs]
theorem wc (s:ah) (a:Int):({ s with fAt:=a }:ah)=⟨s.aa,s.fX,s.fY,s.af,s.av,s.fE,s.bN,s.au,s.aZ,a⟩:=rfl
theorem xq {x} (h:dw x=true):x≠[]:=by rintro rfl;revert h;decide
theorem mA {s} (h:cc s<=1000000):∀ e∈s.bN,bL e<=1000000:=fun e he=>by have:=(nW s).2.2.2.2 e he;omega
theorem WO {l} (hll:l.length<=20000) {i nest f ps y r} (hn:nest < 20) (h:At l i ((3,[100,101,108,101,116,101])::(1,y)::(4,[59])::r)) {k} (hk:eK l (i:Int)=some k):
  dP (f+1) l (i:Int) ps (nest:Int)=some { fS:={ sZ k.fAt with aa:=8,fY:=y },fL:=[],fA:=[],aU:=((i+1 + 1+1:Nat):Int),fF:=aM }:=by
 obtain⟨k',a1,a2,a3,hlt⟩:=ua h
 rw[hk] at a1
 obtain rfl:=Option.some.inj a1
 have h1:=cu h
 obtain⟨q,b1,b2,b3,-⟩:=ua h1
 rw[dP,hk,obs,if_neg (by simp;omega),uI h,obs,if_neg (by decide),obs,if_neg (by decide),obs,if_neg (by rw[a2];decide),is8 h,obs,if_neg (by decide),is8 h,obs,if_pos (by decide),wN (by omega),b1,obs,if_neg (by rw[b2];simp),obs,w2 (by omega),rR hll (cu h1),obs,b3]
theorem Xl {l} (hll:l.length<=20000) {i nest f ps e r} (hn:nest < 20) (he:e=cA\/fU e=true) (hm:bL e<=1000000) (h:At l i ((3,[114,101,116,117,114,110])::((if eX e=[] then [] else tE e 0)++(4,[59])::r))) {k} (hk:eK l (i:Int)=some k):
  dP (f+1) l (i:Int) ps (nest:Int)=some { fS:={ sZ k.fAt with aa:=11,fE:=e },fL:=[],fA:=[],aU:=((i+1 + (if eX e=[] then [] else tE e 0).length+1:Nat):Int),fF:=aM }:=by
 obtain⟨k',a1,a2,a3,hlt⟩:=ua h
 rw[hk] at a1
 obtain rfl:=Option.some.inj a1
 have h1:=cu h
 rw[dP,hk,obs,if_neg (by simp;omega),uI h,obs,if_neg (by decide),obs,if_neg (by decide),obs,if_neg (by rw[a2];decide),is8 h,obs,if_neg (by decide),is8 h,obs,if_neg (by decide),is8 h,obs,if_neg (by decide),is8 h,obs,obs,if_neg (by decide),is8 h,obs,if_neg (by decide),wN (by omega)]
 rcases he with rfl | he
 ·rw[abm,if_pos rfl,nil_append] at h1
  rw[is8 h1,obs,if_pos (by decide),w2 (by omega),abm,if_pos rfl];rfl
 ·rw[if_neg (Zz he)] at h1 ⊢
  have hf:=iz he
  obtain⟨t,ts,e1,-⟩:=OO hf 0
  have g:=Yc hf (m:=0) (t:=t) (by rw[e1];simp)
  have h2:=h1
  rw[e1,cons_append] at h2
  rw[is8 h2,obs,g.2.1,if_neg (by decide),xd he hm hll h1 ME.2.2,obs]
  simp only
  rw[if_neg (by decide),rR hll (gy h1).2,obs]
theorem abZ {e} (hf:fS e=true) (he:e.aa=2\/e.aa=3\/e.aa=4):tE e 0=tE e 4:=by
 have h4:=(aeT (oJ hf).1).2 (by omega)
 rw[vg (by omega),vg (by omega)]
theorem XP {ps} (hp:PN ps) {s} (ho:ON ps s) (h9:¬ (s.aa=9\/s.aa=10)) (hm:cc s<=1000000) {l} (hll:l.length<=20000) {i nest f d u r} (hn:nest < 20) (h:At l i (tks (stP ps s d)++u::r)):
  ∃ a,dP (f+1) l (i:Int) ps (nest:Int)=some { fS:={ s with fAt:=a },fL:=[],fA:=[],aU:=((i+(tks (stP ps s d)).length:Nat):Int),fF:=aM }:=by
 have hme:bL s.fE<=1000000:=by have:=(nW s).1;omega
 have hma:=mA hm
 have hb:=ho.b0 h9
 have hl:=ho.l0 (fun e=>h9 (.inl e))
 have hk:s.aa=1\/s.aa=2\/s.aa=3\/s.aa=4\/s.aa=5\/s.aa=6\/s.aa=7\/s.aa=8\/s.aa=11:=by have:=ho.k;omega
 rw[UB h9] at h ⊢
 have hpl:tks (plP ps s.aa s.fY s.af s.av s.fE s.bN)=if s.aa=1 then tE s.fE 0 else if s.aa=2 then [yP s.fY,(4,[46]),(1,s.af)] else if s.aa=3 then yP s.fY::(4,[46])::(1,s.af)::(4,[61])::tE s.fE 0
   else if s.aa=4 then yP s.fY::(4,[46])::(1,s.af)::(4,[40])::(atk s.bN++[(4,[41])]) else if s.aa=5 then(3,[110,101,119])::tyK ps s.av else if s.aa=6 then(3,[99,97,115,116])::(tyK ps s.av++tE s.fE 0)
   else if s.aa=7 then [(3,[109,111,118,101]),(1,s.fY)] else if s.aa=8 then [(3,[100,101,108,101,116,101]),(1,s.fY)] else(3,[114,101,116,117,114,110])::(if eX s.fE=[] then [] else tE s.fE 0):=by
  unfold plP
  repeat' split
  all_goals first
   | rfl
   | (rw[Ba,cf (by decide),cf (by decide)];rfl)
   | (rw[Ba,cf (by decide),cf (by decide),Wa];rfl)
   | (rw[Ba,cf (by decide),cf (by decide),cf (by decide),ed];rfl)
   | (rw[cf (by decide),de,ed,de];rfl)
 rw[hpl] at h ⊢
 rcases hk with k | k | k | k | k | k | k | k | k
 ·have hx:=ho.x1 (by omega)
  rw[if_neg (xq hx),if_pos k,append_assoc,append_assoc] at h
  obtain⟨q,b1,-⟩:=ua h
  refine⟨q.fAt,?_⟩
  rw[zK hll hn h b1 (XN hll (ho.e1 (by omega)) hme (cu (cu h)) _),if_neg (xq hx),if_pos k,wc,k,ho.y0 (by omega),ho.n0 (by omega),ho.t0 (by omega),ho.a0 (by omega),hb,hl]
  simp only[length_append,length_cons,length_nil]
  rw[show i+1 + 1+(tE s.fE 0).length+1=i+(0+1 + 1+((tE s.fE 0).length+(0+1))) by omega]
  rfl
 ·have hx:=ho.x1 (by omega)
  rw[if_neg (xq hx),if_neg (by omega),if_pos k] at h ⊢
  obtain⟨q,b1,-⟩:=ua h
  refine⟨q.fAt,?_⟩
  rw[zK hll hn h b1 (J6 hll (ho.y1 (by omega)) (cu (cu h)) _ (WN hll (cu (cu h)) (xq hx))),wc,k,ho.t0 (by omega),ho.e0 (by omega),ho.a0 (by omega),hb,hl]
  rfl
 ·have hx:=ho.x0 (by omega)
  rw[if_pos hx,if_neg (by omega),if_neg (by omega),if_pos k,nil_append] at h ⊢
  simp only[append_assoc,cons_append,nil_append] at h
  obtain⟨q,b1,-⟩:=ua h
  refine⟨q.fAt,?_⟩
  rw[Vz hll hn h b1 (Xu hll (ho.e1 (by omega)) hme h rfl),wc,k,hx,ho.t0 (by omega),ho.a0 (by omega),hb,hl]
  simp only[length_append,length_cons,length_nil]
  rw[show i+1 + 1+1 + 1+(tE s.fE 0).length+1=i+((tE s.fE 0).length+1 + 1+1 + 1+(0+1)) by omega]
  rfl
 ·obtain⟨al,aw⟩:=ho.a4 k
  have hw:∀ x∈s.bN,fU x=true/\bL x<=1000000:=fun x hx=>⟨aw x hx,hma x hx⟩
  by_cases hx:s.fX=[]
  ·rw[if_pos hx,nil_append,if_neg (by omega),if_neg (by omega),if_neg (by omega),if_pos k] at h ⊢
   simp only[append_assoc,cons_append,nil_append] at h
   obtain⟨q,b1,-⟩:=ua h
   refine⟨q.fAt,?_⟩
   rw[Vz hll hn h b1 (Jb hll al hw h _),wc,k,hx,ho.t0 (by omega),ho.e0 (by omega),hb,hl]
   simp only[length_append,length_cons,length_nil]
   rw[show i+1 + 1+1 + 1+(atk s.bN).length+1 + 1=i+((atk s.bN).length+(0+1)+1 + 1+1 + 1+(0+1)) by omega]
   rfl
  ·rw[if_neg hx,if_neg (by omega),if_neg (by omega),if_neg (by omega),if_pos k] at h ⊢
   simp only[append_assoc,cons_append,nil_append] at h
   obtain⟨q,b1,-⟩:=ua h
   refine⟨q.fAt,?_⟩
   rw[zK hll hn h b1 (J6 hll (ho.y1 (by omega)) (cu (cu h)) _ (Jb hll al hw (cu (cu h)) _)),wc,k,ho.t0 (by omega),ho.e0 (by omega),hb,hl]
   simp only[length_append,length_cons,length_nil]
   rw[show i+1 + 1+1 + 1+1 + 1+(atk s.bN).length+1 + 1=i+(0+1 + 1+((atk s.bN).length+(0+1)+1 + 1+1 + 1+(0+1))) by omega]
   rfl
 ·obtain⟨t2,tw⟩:=ho.t5 (by omega)
  have hx:=ho.x1 (by omega)
  rw[if_neg (xq hx),if_neg (by omega),if_neg (by omega),if_neg (by omega),if_neg (by omega),if_pos k] at h ⊢
  simp only[append_assoc,cons_append,nil_append] at h
  obtain⟨q,b1,-⟩:=ua h
  refine⟨q.fAt,?_⟩
  rw[zK hll hn h b1 (J9 (.inl rfl) (cu (cu h)) _ (WZ hp hll tw t2 (cu (cu h)) _)),wc,k,ho.y0 (by omega),ho.n0 (by omega),ho.e0 (by omega),ho.a0 (by omega),hb,hl]
  simp only[length_append,length_cons,length_nil]
  rw[show i+1 + 1+1 + (tyK ps s.av).length+1=i+(0+1 + 1+((tyK ps s.av).length+1 + (0+1))) by omega]
 ·obtain⟨t2,tw⟩:=ho.t5 (by omega)
  have hx:=ho.x1 (by omega)
  have hf:=iz (ho.e1 (by omega))
  rw[if_neg (xq hx),if_neg (by omega),if_neg (by omega),if_neg (by omega),if_neg (by omega),if_neg (by omega),if_pos k,abZ hf (ho.e6 k)] at h ⊢
  simp only[append_assoc,cons_append,nil_append] at h
  obtain⟨q,b1,-⟩:=ua h
  refine⟨q.fAt,?_⟩
  rw[zK hll hn h b1 (J9 (.inr rfl) (cu (cu h)) _ (UE hp hll tw t2 hf (ho.e6 k) (cu (cu h)) _)),wc,k,ho.y0 (by omega),ho.n0 (by omega),ho.a0 (by omega),hb,hl]
  simp only[length_append,length_cons,length_nil]
  rw[show i+1 + 1+1 + (tyK ps s.av).length+(tE s.fE 4).length+1=i+(0+1 + 1+((tyK ps s.av).length+(tE s.fE 4).length+1 + (0+1))) by omega]
 ·have hx:=ho.x1 (by omega)
  rw[if_neg (xq hx),if_neg (by omega),if_neg (by omega),if_neg (by omega),if_neg (by omega),if_neg (by omega),if_neg (by omega),if_pos k] at h ⊢
  obtain⟨q,b1,-⟩:=ua h
  refine⟨q.fAt,?_⟩
  rw[zK hll hn h b1 (Wz hll (cu (cu h)) _),wc,k,ho.n0 (by omega),ho.t0 (by omega),ho.e0 (by omega),ho.a0 (by omega),hb,hl]
  rfl
 ·have hx:=ho.x0 (by omega)
  rw[if_pos hx,if_neg (by omega),if_neg (by omega),if_neg (by omega),if_neg (by omega),if_neg (by omega),if_neg (by omega),if_neg (by omega),if_pos k,nil_append] at h ⊢
  obtain⟨q,b1,-⟩:=ua h
  refine⟨q.fAt,?_⟩
  rw[WO hll hn h b1,wc,k,hx,ho.n0 (by omega),ho.t0 (by omega),ho.e0 (by omega),ho.a0 (by omega),hb,hl]
  rfl
 ·have hx:=ho.x0 (by omega)
  rw[if_pos hx,if_neg (by omega),if_neg (by omega),if_neg (by omega),if_neg (by omega),if_neg (by omega),if_neg (by omega),if_neg (by omega),if_neg (by omega),nil_append] at h ⊢
  simp only[append_assoc,cons_append,nil_append] at h
  obtain⟨q,b1,-⟩:=ua h
  refine⟨q.fAt,?_⟩
  rw[Xl hll hn (ho.e11 k) hme h b1,wc,k,hx,ho.y0 (by omega),ho.n0 (by omega),ho.t0 (by omega),ho.a0 (by omega),hb,hl]
  simp only[length_append,length_cons,length_nil]
  generalize (if eX s.fE=[] then [] else tE s.fE 0).length=z
  rw[show i+1 + z+1=i+(z+1 + (0+1)) by omega]
  rfl
abbrev elW : List UInt8:=[101,108,115,101]
abbrev btk (ps:List (List UInt8)) (l:List ah) (d:Nat):List KT:=tks (wR ps l d)
theorem NG {ps s} (h:s.aa=9\/s.aa=10) (d:Nat):tks (stP ps s d)=ifK s.aa::(4,[40])::(tE s.fE 0++(4,[41])::(4,[123])::(btk ps s.au (d+1)++(4,[125])::(if s.aZ.length=0 then [] else(3,elW)::(4,[123])::(btk ps s.aZ (d+1)++[(4,[125])])))):=by
 rw[S6 h,Ir,ifK,cf (by decide),de,cf (by decide),ed,cf (by decide),de,cf (by decide),de,ed,ed,Ir]
 by_cases h0:s.aZ.length=0
 ·rw[if_pos h0,if_pos h0];rfl
 ·rw[if_neg h0,if_neg h0,Ir,cf (by decide),de,cf (by decide),de,cf (by decide),de];rfl
theorem Io {ps s} (ho:ON ps s) (d:Nat):∃ t ts,tks (stP ps s d)=t::ts/\isT t [125]=false/\isT t elW=false:=by
 by_cases h9:s.aa=9\/s.aa=10
 ·rw[NG h9]
  exact⟨_,_,rfl,by rcases h9 with k | k<;>(rw[k];decide)⟩
 ·have hy:∀ y,isT (yP y) [125]=false/\isT (yP y) elW=false:=fun y=>by
   unfold yP
   by_cases e:y=[116,104,105,115]
   ·rw[if_pos e,e];decide
   ·rw[if_neg e];exact⟨rfl,rfl⟩
  rw[UB h9]
  by_cases hx:s.fX=[]
  ·have hk:s.aa=3\/s.aa=4\/s.aa=8\/s.aa=11:=by
    have:=ho.k
    have h1:¬ (s.aa=1\/s.aa=2\/s.aa=5\/s.aa=6\/s.aa=7):=fun k=>xq (ho.x1 k) hx
    omega
   rw[if_pos hx]
   unfold plP
   rcases hk with k | k | k | k<;>rw[k]
   ·exact⟨yP s.fY,_,by rw[if_neg (by decide),if_neg (by decide),if_pos rfl,Ba];rfl,hy _⟩
   ·exact⟨yP s.fY,_,by rw[if_neg (by decide),if_neg (by decide),if_neg (by decide),if_pos rfl,Ba];rfl,hy _⟩
   ·exact⟨(3,[100,101,108,101,116,101]),_,rfl,by decide⟩
   ·by_cases e:eX s.fE=[]
    ·rw[e];exact⟨(3,[114,101,116,117,114,110]),_,rfl,by decide⟩
    ·simp only[e];exact⟨(3,[114,101,116,117,114,110]),_,rfl,by decide⟩
  ·rw[if_neg hx];exact⟨(1,s.fX),_,rfl,rfl,rfl⟩
def WK (ps:List (List UInt8)) (l:List aK) (nest:Nat) (f d:Nat) (s:ah):Prop:=∀ (i:Nat) (u:KT) (r:List KT),At l i (tks (stP ps s d)++u::r)->isT u elW=false->
 ∃ q,dP f l (i:Int) ps (nest:Int)=some { fS:=q,fL:=[],fA:=[],aU:=((i+(tks (stP ps s d)).length:Nat):Int),fF:=aM }/\z0 q=z0 s
theorem Rf {ps l d} (hw:∀ s∈l,ON ps s) (r:List KT):∃ u r',btk ps l d++(4,[125])::r=u::r'/\isT u elW=false:=by
 cases l with
 | nil=>exact⟨_,_,rfl,by decide⟩
 | cons s l=>
  obtain⟨t,ts,e,-,h⟩:=Io (hw s (by simp)) d
  exact⟨t,_,by unfold btk;rw[wR,ed,e];rfl,h⟩
theorem Vg {ps l} (hll:l.length<=20000) {nest f d}:∀ (ss:List ah) (out:List ah) (i n:Nat) (r:List KT),(∀ s∈ss,ON ps s/\WK ps l nest f d s)->out.length+ss.length<=20000->At l i (btk ps ss d++(4,[125])::r)->ss.length+1<=n->
  ∃ qs,mr l ps (nest:Int) (dP f) n (i:Int) out=some (((i+(btk ps ss d).length:Nat):Int),out++qs)/\qs.map z0=ss.map z0
 | ss,out,i,0,r,_,_,_,hn=>absurd hn (by omega)
 | [],out,i,n+1,r,_,_,hat,hn=>by
  refine⟨[],?_,rfl⟩
  rw[mr,is8 hat,obs,if_neg (by decide),append_nil];rfl
 | s::ss,out,i,n+1,r,hw,ho,hat,hn=>by
  obtain⟨on,rd⟩:=hw s (by simp)
  obtain⟨t,ts,e,h1,-⟩:=Io on d
  have eb:btk ps (s::ss) d=tks (stP ps s d)++btk ps ss d:=by unfold btk;rw[wR,ed]
  rw[eb,append_assoc] at hat
  obtain⟨u,r',e2,hu⟩:=Rf (d:=d) (fun x hx=>(hw x (by simp[hx])).1) (l:=ss) r
  have hat2:=hat
  rw[e2] at hat2
  obtain⟨q,hq,hz⟩:=rd i u r' hat2 hu
  have h3:=hat2
  rw[e,cons_append] at h3
  obtain⟨qs,hqs,hzs⟩:=Vg hll ss (out++[q]) (i+(tks (stP ps s d)).length) n r (fun x hx=>hw x (by simp[hx])) (by rw[length_append];simp only[length_cons,length_nil] at ho ⊢;omega) (gy hat).2 (by simp only[length_cons] at hn;omega)
  refine⟨q::qs,?_,by rw[map_cons,map_cons,hz,hzs]⟩
  simp only[length_cons] at ho
  rw[mr,is8 h3,obs,h1,if_pos (by decide),hq,obs]
  simp only
  rw[if_neg (by decide),gz (by simp only[length_cons,length_nil];omega),obs,hqs,eb,length_append,append_assoc,Nat.add_assoc]
  rfl
theorem Qj {ps d}:∀ {ss:List ah},(∀ s∈ss,ON ps s)->ss.length<=(btk ps ss d).length
 | [],_=>Nat.zero_le _
 | s::ss,h=>by
  obtain⟨t,ts,e,-⟩:=Io (h s (by simp)) d
  have:=Qj (d:=d) (ss:=ss) fun x hx=>h x (by simp[hx])
  have eb:btk ps (s::ss) d=tks (stP ps s d)++btk ps ss d:=by unfold btk;rw[wR,ed]
  rw[eb,e,length_append,length_cons,length_cons];omega
theorem SJ {ps l} (hll:l.length<=20000) {nest f d ss i r} (hw:∀ s∈ss,ON ps s/\WK ps l nest f d s) (hat:At l i ((4,[123])::(btk ps ss d++(4,[125])::r))):
  ∃ qs,jM (f+1) l (i:Int) ps (nest:Int)=some { fS:=iW,fL:=qs,fA:=[],aU:=((i+1 + (btk ps ss d).length+1:Nat):Int),fF:=aM }/\qs.map z0=ss.map z0:=by
 have h1:=cu hat
 have hi:=FH h1
 have hlen:=Qj (d:=d) fun s hs=>(hw s hs).1
 obtain⟨qs,hqs,hz⟩:=Vg hll ss [] (i+1) (l.length+64) r hw (by rw[length_nil];omega) h1 (by omega)
 refine⟨qs,?_,hz⟩
 rw[jM,is8 hat,obs,if_neg (by decide),wN (by omega),hqs,obs]
 simp only[nil_append]
 rw[wN (by omega)]
theorem aaF {ps l} (hll:l.length<=20000) {nest f d s} (ho:ON ps s) (h9:s.aa=9\/s.aa=10) (hm:cc s<=1000000) (hn:nest < 20) {i u r}
  (hb:∀ x∈s.au,ON ps x/\WK ps l (nest+1) f (d+1) x) (he:∀ x∈s.aZ,ON ps x/\WK ps l (nest+1) f (d+1) x) (hat:At l i (tks (stP ps s d)++u::r)) (hu:isT u elW=false) (a:Int):
  ∃ q,mQ (f+2) l (i:Int) (sZ a) ps (nest:Int)=some { fS:=q,fL:=[],fA:=[],aU:=((i+(tks (stP ps s d)).length:Nat):Int),fF:=aM }/\z0 q=z0 s:=by
 rw[NG h9] at hat ⊢
 simp only[cons_append,append_assoc] at hat
 have h1:=cu hat
 have h2:=cu h1
 have h3:=(gy h2).2
 have h4:=cu h3
 have hme:bL s.fE<=1000000:=by have:=(nW s).1;omega
 have hi:=FH h2
 obtain⟨qb,hqb,hzb⟩:=SJ hll hb h4
 have h5:=cu (gy (cu h4)).2
 have hi5:=FH (cu h4)
 have hw1:ae ((nest:Int)+1)=((nest+1:Nat):Int):=wN (by omega)
 have hk:((dj l (i:Int) [119,104,105,108,101]).bind fun(y3:Bool)=>if y3=true then some ({ ({ sZ a with aa:=9 }:ah) with aa:=10 }:ah) else some ({ sZ a with aa:=9 }:ah):Option ah)=some { sZ a with aa:=s.aa }:=by
  rw[is8 hat,obs]
  rcases h9 with k | k<;>rw[k]<;>rfl
 rw[mQ,hk,obs,wN (by omega),is8 h1,obs,if_neg (by decide),w2 (by omega),xd (ho.e1 (by omega)) hme hll h2 ME.1,obs]
 simp only
 rw[if_neg (by decide),is8 h3,obs,if_neg (by decide),wN (by omega),hw1,hqb,obs]
 simp only
 rw[if_neg (by decide)]
 have hz:∀ (qe:List ah),qe.map z0=s.aZ.map z0->z0 ({ sZ a with aa:=s.aa,fE:=s.fE,au:=qb,aZ:=qe }:ah)=z0 s:=fun qe e=>by
  rw[Jr,Jr]
  simp only
  rw[hzb,e,ho.x0 (by omega),ho.y0 (by omega),ho.n0 (by omega),ho.t0 (by omega),ho.a0 (by omega)]
  rfl
 by_cases h0:s.aZ.length=0
 ·rw[if_pos h0] at h5 ⊢
  have hel:((if(s.aa==9)=true then(dj l ((i+1 + 1+(tE s.fE 0).length+1 + 1+(btk ps s.au (d+1)).length+1:Nat):Int) [101,108,115,101]).bind fun(y1:Bool)=>some y1 else some false):Option Bool)=some false:=by
   rw[is8 h5,obs]
   split
   ·exact congrArg some hu
   ·rfl
  refine⟨_,?_,hz [] (by rw[eq_nil_of_length_eq_zero h0])⟩
  rw[hel,obs,if_neg (by decide)]
  simp only[length_cons,length_append,length_nil]
  rw[show i+1 + 1+(tE s.fE 0).length+1 + 1+(btk ps s.au (d+1)).length+1=i+((tE s.fE 0).length+((btk ps s.au (d+1)).length+(0+1)+1 + 1)+1 + 1) by omega]
 ·have k:s.aa=9:=Classical.byContradiction fun k=>h0 (by rw[ho.l0 k];rfl)
  rw[if_neg h0] at h5 ⊢
  simp only[cons_append,append_assoc,nil_append] at h5
  have h6:=cu h5
  obtain⟨qe,hqe,hze⟩:=SJ hll he h6
  have hi6:=FH (cu h6)
  refine⟨_,?_,hz qe hze⟩
  rw[if_pos (by rw[k];rfl),is8 h5,obs,obs,if_pos (by decide),wN (by omega),hqe,obs]
  simp only
  rw[if_neg (by decide)]
  simp only[length_cons,length_append,length_nil]
  rw[show i+1 + 1+(tE s.fE 0).length+1 + 1+(btk ps s.au (d+1)).length+1 + 1+1 + (btk ps s.aZ (d+1)).length+1=i+((tE s.fE 0).length+((btk ps s.au (d+1)).length+((btk ps s.aZ (d+1)).length+(0+1)+1 + 1+1)+1 + 1)+1 + 1) by omega]
theorem Ri {ps} (hp:PN ps) {l} (hll:l.length<=20000):∀ (F:Nat) (s:ah) (f nest d:Nat),cc s<=F->cc s<=1000000->OA ps s->nest+dSt s<=20->3 * dSt s<=f->WK ps l nest f d s
 | 0,s,f,nest,d,h,_,_,_,_=>by have:=lI s;omega
 | F+1,s,f,nest,d,h,hm,ha,hd,hf=>by
  intro i u r hat hu
  have hds:=Bl s
  cases ha with
  | mk _ ho hbo hel=>
   by_cases h9:s.aa=9\/s.aa=10
   ·obtain⟨g,rfl⟩:∃ g,f=g+3:=⟨f - 3,by omega⟩
    have sub:∀ x,cc x+2<=cc s->OA ps x->dSt x+1<=dSt s->ON ps x/\WK ps l (nest+1) g (d+1) x:=fun x h1 h2 h3=>
     ⟨by cases h2 with | mk _ q _ _=>exact q,Ri hp hll F x g (nest+1) (d+1) (by omega) (by omega) h2 (by omega) (by omega)⟩
    have h0:=hat
    rw[NG h9,cons_append] at h0
    obtain⟨k,a1,a2,a3,hlt⟩:=ua h0
    obtain⟨q,hq,hz⟩:=aaF (f:=g) (d:=d) (nest:=nest) hll ho h9 hm (by omega) (fun x hx=>sub x (wA hx) (hbo x hx) (by have:=(qh s.au _).1 (Nat.le_refl _) x hx;omega)) (fun x hx=>sub x (xh hx) (hel x hx) (by have:=(qh s.aZ _).1 (Nat.le_refl _) x hx;omega)) hat hu k.fAt
    refine⟨q,?_,hz⟩
    have hi:isT (ifK s.aa) [116,104,105,115]=false/\isT (ifK s.aa) [100,101,108,101,116,101]=false/\((isT (ifK s.aa) [105,102]=true)\/isT (ifK s.aa) [119,104,105,108,101]=true)/\((ifK s.aa).1==1)=false:=by
     rcases h9 with k | k<;>(rw[k];decide)
    have hw:(Option.bind (dj l (i:Int) [105,102]) fun(y0:Bool)=>if y0=true then some true else(dj l (i:Int) [119,104,105,108,101]).bind fun(y1:Bool)=>some y1:Option Bool)=some true:=by
     rw[is8 h0,obs,is8 h0,obs]
     rcases hi.2.2.1 with e | e
     ·rw[if_pos e]
     ·rw[e];simp
    rw[dP,a1,obs,if_neg (by simp;omega),uI h0,obs,hi.1,hi.2.2.2,if_neg (by decide),obs,if_neg (by decide),obs,a2,hi.2.2.2,if_neg (by decide),is8 h0,obs,hi.1,if_neg (by decide),is8 h0,obs,hi.2.1,if_neg (by decide),hw,obs,if_pos rfl,if_neg (by omega),hq,obs]
   ·obtain⟨g,rfl⟩:∃ g,f=g+1:=⟨f - 1,by omega⟩
    obtain⟨a,e⟩:=XP hp ho h9 hm (f:=g) (nest:=nest) hll (by omega) hat
    exact⟨_,e,by rw[Jr,Jr]⟩
def vaP (ps:List (List UInt8)) (v:cN):List KT:=tyP ps v.av++[(0,[32]),(1,v.af)]
def vaK (ps:List (List UInt8)) (v:cN):List KT:=tyK ps v.av++[(1,v.af)]
theorem Uo (ps:List (List UInt8)) (v:cN):tks (vaP ps v)=vaK ps v:=by unfold vaP vaK;rw[ed,de];rfl
structure VW (ps:List (List UInt8)) (v:cN):Prop where
 k:v.av.aa≠0
 n:dw v.af=true
 w:WT ps v.av
theorem ael {ps v} (h:J3 (ps.length:Int) v=true):VW ps v:=by
 unfold J3 at h
 simp only[Bool.and_eq_true,Bool.not_eq_true',decide_eq_false_iff_not] at h
 exact⟨h.1,h.2.1,h.2.2⟩
theorem Yx {ps v} (h:VW ps v):tx (vaP ps v)=vaT ps v:=by unfold vaP vaT;rw[mp,PR h.w];simp[dy,kr]
theorem ZL {ps} (hp:PN ps) {v} (h:VW ps v):ok (vaP ps v)=true:=fe (Ou hp h.w) (by decide) (tB h.n)
def zV (v:cN):cN:={ v with fAt:=0 }
def afb (u:KT):Prop:=u=(4,[41])\/u=(4,[44])\/u=(4,[59])
theorem Ui {u} (h:afb u\/u=(4,[40])) (n:List UInt8):Fol true (1,n) u:=by
 rcases h with(h | h | h) | h<;>subst h<;>exact⟨rfl,fun _=>⟨rfl,by decide,rfl,rfl,rfl⟩,fun _=> .inl rfl⟩
theorem Ua {ps} (hp:PN ps) {l} (hll:l.length<=20000) {v} (h:VW ps v) {i u r} (hu:afb u) (hat:At l i (vaK ps v++u::r)):
  ∃ a,uE l (i:Int) ps=some { fL:=[],fT:=dY,fV:=⟨v.af,v.av,a⟩,aU:=((i+(vaK ps v).length:Nat):Int),fF:=aM }:=by
 unfold vaK at hat ⊢
 rw[append_assoc] at hat
 have hT:=Si (f:=true) hp h.w hll hat (fun _=>Ui (.inl hu) _)
 have h1:=(gy hat).2
 obtain⟨k,b1,b2,b3,hlt⟩:=ks h1
 have h0:∃ q,dC l (i:Int)=some q:=by
  have:∃ t ts,At l i (t::ts):=by
   cases e:tyK ps v.av++(1,v.af)::u :: r with
   | nil=>simp at e
   | cons t ts=>exact⟨t,ts,by rw[<- e];exact hat⟩
  obtain⟨t,ts,q⟩:=this
  obtain⟨k,c1,-⟩:=ks q
  exact⟨k,c1⟩
 obtain⟨q,hq⟩:=h0
 refine⟨q.fAt,?_⟩
 unfold uE
 rw[hT,obs]
 simp only
 rw[if_neg (by decide),if_neg (by simpa using h.k),b1,obs,if_neg (by rw[b2];simp),hq,obs,wN (by omega),b3,length_append]
 rfl
theorem is9 {l i t r} (h:At l i (t::r)) (s:List UInt8):gd l (i:Int) s=some (isT t s):=by
 obtain⟨k,h1,h2,h3,-⟩:=ks h
 unfold gd
 rw[h1,obs,py h2 h3,obs]
theorem Ji {l i t r} (h:At l i (t::r)):∃ k,jy l (i:Int)=some k/\k.aa=t.1/\k.bV=t.2/\i < l.length:=by
 obtain⟨k,h1,h2,h3,h4⟩:=ks h
 exact⟨k,by unfold jy;rw[h1,obs],h2,h3,h4⟩
abbrev g9 (c:be) (m:br) (v:List cN) (n:List (List UInt8)) (i:Nat):cJ:={ fC:=c,fM:=m,fV:=v,fN:=n,aU:=(i:Int),fF:=aM }
def pak (ps:List (List UInt8)) (vs:List cN):List KT:=tks (cmP (vs.map (vaP ps)))
theorem aep (ps:List (List UInt8)) (v:cN):pak ps [v]=vaK ps v:=by unfold pak;rw[map_cons,map_nil,yE,Uo]
theorem aeW (ps:List (List UInt8)) (v w:cN) (vs:List cN):pak ps (v::w :: vs)=vaK ps v++(4,[44])::pak ps (w::vs):=by unfold pak;rw[map_cons,map_cons,zD,Uo]
theorem SH {ps} (hp:PN ps) {l} (hll:l.length<=20000):∀ (vs:List cN) (v:cN) (out:List cN) (i n:Nat) (r:List KT),out.length+vs.length+1<=5->(∀ x∈v::vs,VW ps x)->At l i (pak ps (v::vs)++(4,[41])::r)->vs.length+1<=n->
  ∃ qs,mU l ps n (i:Int) out=some (.stop (g9 zGClass zGMethod (out++qs) [] (i+(pak ps (v::vs)).length+1)))/\qs.map zV=(v::vs).map zV
 | vs,v,out,i,0,r,_,_,_,hn=>absurd hn (by omega)
 | vs,v,out,i,n+1,r,hl,hw,hat,hn=>by
  have hv:=hw v (by simp)
  have hi:=FH hat
  rw[mU,if_neg (by simp;omega)]
  cases vs with
  | nil=>
   rw[aep] at hat hi ⊢
   obtain⟨a,ha⟩:=Ua hp hll hv (.inl rfl) hat
   refine⟨[⟨v.af,v.av,a⟩],?_,rfl⟩
   rw[ha,obs]
   simp only
   rw[if_neg (by decide),gz (by simp only[length_cons,length_nil];omega),obs,is9 (gy hat).2,obs,if_pos (by decide),wN (by omega)]
  | cons w vs=>
   rw[aeW] at hat hi ⊢
   rw[append_assoc,cons_append] at hat
   have h2:=(gy hat).2
   rw[length_append,length_cons] at hi
   obtain⟨a,ha⟩:=Ua hp hll hv (.inr (.inl rfl)) hat
   obtain⟨qs,hq,hz⟩:=SH hp hll vs w (out++[⟨v.af,v.av,a⟩]) (i+(vaK ps v).length+1) n r (by rw[length_append,length_cons,length_nil];simp only[length_cons] at hl;omega) (fun x hx=>hw x (by simp[hx])) (cu h2) (by simp only[length_cons] at hn;omega)
   refine⟨⟨v.af,v.av,a⟩::qs,?_,by rw[map_cons,map_cons,hz];rfl⟩
   rw[ha,obs]
   simp only
   rw[if_neg (by decide),gz (by simp only[length_cons,length_nil];omega),obs,is9 h2,obs,if_neg (by decide),is9 h2,obs,if_neg (by decide),wN (by omega),hq,append_assoc,length_append,length_cons,
    show i+(vaK ps v).length+1 + (pak ps (w::vs)).length+1=i+((vaK ps v).length+((pak ps (w::vs)).length+1))+1 by omega]
   rfl
theorem aaV {ps v} (h:VW ps v):∃ t ts,vaK ps v=t::ts/\isT t [41]=false:=by
 unfold vaK tyK
 have hn:=h.k
 by_cases h1:v.av.aa=1
 ·exact⟨(3,[105,110,116]),_,by unfold tyP;rw[if_neg hn,if_pos h1];rfl,rfl⟩
 ·have:=UU (ps:=ps) hn h1
  unfold tyK at this
  rw[this]
  by_cases h7:v.av.am.a0.aa=7
  ·rw[if_pos h7];exact⟨_,_,rfl,rfl⟩
  ·rw[if_neg h7]
   refine⟨oK ps v.av.am.a0,_,rfl,?_⟩
   have ho:=((ZH h.w hn h1).2.2.2.1).resolve_left fun e=>h7 (by rw[e])
   unfold oK
   by_cases h3:v.av.am.a0.aa=3
   ·rw[if_pos h3];rfl
   ·obtain⟨ht,-,k⟩:=Xb ho h3
    rw[if_neg h3,ht]
    rcases k with k | k | k | k | k<;>(rw[k];decide)
theorem Xg {ps} (hp:PN ps) {l} (hll:l.length<=20000) {vs i r} (hl:vs.length<=5) (hw:∀ x∈vs,VW ps x) (h:At l i ((4,[40])::(pak ps vs++(4,[41])::r))):
  ∃ qs,rI l (i:Int) ps=some (g9 zGClass zGMethod qs [] (i+1 + (pak ps vs).length+1))/\qs.map zV=vs.map zV:=by
 have h1:=cu h
 have hi:=FH h1
 unfold rI
 rw[wN (by omega)]
 cases vs with
 | nil=>
  have h2:At l (i+1) ((4,[41])::r):=h1
  refine⟨[],?_,rfl⟩
  rw[is9 h2,obs,if_pos (by decide),wN (by omega)];rfl
 | cons v vs=>
  have hne:∃ t ts,pak ps (v::vs)++(4,[41])::r=t::ts/\isT t [41]=false:=by
   obtain⟨t,ts,e,q⟩:=aaV (hw v (by simp))
   cases vs with
   | nil=>rw[aep,e];exact⟨t,_,rfl,q⟩
   | cons w vs=>rw[aeW,e];exact⟨t,_,rfl,q⟩
  obtain⟨t,ts,e,ht⟩:=hne
  have h2:=h1
  rw[e] at h2
  obtain⟨qs,hq,hz⟩:=SH hp hll vs v [] (i+1) (l.length+64) r (by simp only[length_nil];simp only[length_cons] at hl;omega) hw h1 (by simp only[length_cons] at hl;omega)
  refine⟨qs,?_,hz⟩
  rw[is9 h2,obs,ht,if_neg (by decide),hq,obs]
  rfl
def BgT (t u:KT):Bool:=isT t [105,110,116]||(decide (Nz t≠0)||(t.1==1&&(u.1==1||isT u [60])))
theorem MN {l i} (hi:i<=20000) {t u r} (h:At l i (t::u :: r)):rJ l (i:Int)=some (BgT t u):=by
 obtain⟨k,h1,h2,h3,-⟩:=ks h
 obtain⟨q,g1,g2,g3,-⟩:=ks (cu h)
 have hI:=py h2 h3
 have hJ:=py g2 g3
 unfold rJ BgT
 rw[h1,obs,hI,obs,NA h2 h3,wN (by omega),g1]
 simp only[obs]
 rw[h2,g2,hJ]
 cases isT t [105,110,116]
 ·by_cases hw:Nz t=0
  ·rw[hw]
   cases hk:(t.1==1)
   ·have:(t.1 != 1)=true:=by simp only[bne,hk];rfl
    simp[this]
   ·have:(t.1 != 1)=false:=by simp only[bne,hk];rfl
    cases (u.1==1)<;>simp[this]
  ·have:(Nz t != 0)=true:=by simpa using hw
   simp[this,hw]
 ·simp
theorem RU (s:List UInt8):Nz (1,s)=0:=rfl
theorem Xh {ps v} (h:VW ps v) {u r}:∃ t w ts,vaK ps v++u::r=t::w :: ts/\BgT t w=true:=by
 unfold vaK tyK
 have hn:=h.k
 by_cases h1:v.av.aa=1
 ·exact⟨(3,[105,110,116]),_,_,by unfold tyP;rw[if_neg hn,if_pos h1];rfl,rfl⟩
 ·have:=UU (ps:=ps) hn h1
  unfold tyK at this
  rw[this]
  by_cases h7:v.av.am.a0.aa=7
  ·rw[if_pos h7]
   have hq:∃ w ts,(tlK ps ((own v.av).drop 1)++[(1,v.af)])++u::r=w::ts/\(w.1==1||isT w [60])=true:=by
    cases (own v.av).drop 1 with
    | nil=>exact⟨_,_,rfl,rfl⟩
    | cons o os=>exact⟨_,_,rfl,rfl⟩
   obtain⟨w,ts,e,q⟩:=hq
   refine⟨(1,v.av.bu),w,ts,?_,?_⟩
   ·rw[<- e];rfl
   ·unfold BgT;rw[RU,q];rfl
  ·rw[if_neg h7]
   refine⟨oK ps v.av.am.a0,(1,v.av.bu),_,rfl,?_⟩
   have ho:=((ZH h.w hn h1).2.2.2.1).resolve_left fun e=>h7 (by rw[e])
   unfold oK
   by_cases h3:v.av.am.a0.aa=3
   ·rw[if_pos h3];unfold BgT;rw[RU];rfl
   ·obtain⟨ht,-,k⟩:=Xb ho h3
    rw[if_neg h3,ht]
    rcases k with k | k | k | k | k<;>(rw[k];rfl)
def lok (ps:List (List UInt8)) (vs:List cN):List KT:=(vs.map fun v=>vaK ps v++[(4,[59])]).flatten
theorem VV (ps:List (List UInt8)) (v:cN) (vs:List cN) (r:List KT):lok ps (v::vs)++r=vaK ps v++(4,[59])::(lok ps vs++r):=by unfold lok;rw[map_cons,flatten_cons];simp
theorem Rc {ps} (hp:PN ps) {l} (hll:l.length<=20000):∀ (vs:List cN) (out:List cN) (i n:Nat) (t u:KT) (r:List KT),out.length+vs.length<=12->(∀ x∈vs,VW ps x)->At l i (lok ps vs++t::u :: r)->BgT t u=false->vs.length+1<=n->
  ∃ qs,ky l ps n (i:Int) out=some (((i+(lok ps vs).length:Nat):Int),out++qs)/\qs.map zV=vs.map zV
 | vs,out,i,0,t,u,r,_,_,_,_,hn=>absurd hn (by omega)
 | [],out,i,n+1,t,u,r,hl,hw,hat,hb,hn=>by
  obtain⟨-,-,-,-,hlt⟩:=ks (show At l i (t::u :: r) from hat)
  refine⟨[],?_,rfl⟩
  rw[ky,MN (by omega) (show At l i (t::u :: r) from hat),obs,hb,if_neg (by decide),append_nil];rfl
 | v::vs,out,i,n+1,t,u,r,hl,hw,hat,hb,hn=>by
  have hv:=hw v (by simp)
  have hat0:=hat
  rw[VV] at hat
  have hi:=FH hat
  obtain⟨t1,t2,ts,e,hb1⟩:=Xh hv (u:=(4,[59])) (r:=lok ps vs++t::u :: r)
  have h2:=hat
  rw[e] at h2
  obtain⟨a,ha⟩:=Ua hp hll hv (.inr (.inr rfl)) hat
  have h3:=(gy hat).2
  simp only[length_cons] at hl
  obtain⟨qs,hq,hz⟩:=Rc hp hll vs (out++[⟨v.af,v.av,a⟩]) (i+(vaK ps v).length+1) n t u r (by rw[length_append,length_cons,length_nil];omega) (fun x hx=>hw x (by simp[hx])) (cu h3) hb (by simp only[length_cons] at hn;omega)
  refine⟨⟨v.af,v.av,a⟩::qs,?_,by rw[map_cons,map_cons,hz];rfl⟩
  rw[ky,MN (by omega) h2,obs,hb1,if_pos rfl,if_neg (by simp;omega),ha,obs]
  simp only
  rw[if_neg (by decide),is9 h3,obs,if_neg (by decide),gz (by simp only[length_cons,length_nil];omega),obs,wN (by omega),hq,append_assoc]
  have hlen:(lok ps (v::vs)).length=(vaK ps v).length+1 + (lok ps vs).length:=by
   have:=congrArg length (VV ps v vs [])
   simp only[append_nil,length_append,length_cons] at this
   omega
  rw[hlen,show i+(vaK ps v).length+1 + (lok ps vs).length=i+((vaK ps v).length+1 + (lok ps vs).length) by omega]
  rfl
theorem QF : ∀ (l:List ah),(∀ s∈l,cc (z0 s)=cc s/\nSt (z0 s)=nSt s)->cC (l.map z0)=cC l/\gV (l.map z0)=gV l
 | [],_=>⟨rfl,rfl⟩
 | s::l,h=>by
  obtain⟨h1,h2⟩:=h s (by simp)
  obtain⟨h3,h4⟩:=QF l fun x hx=>h x (by simp[hx])
  rw[map_cons,cC,cC,gV,gV,h1,h2,h3,h4];exact⟨rfl,rfl⟩
theorem WL : ∀ (f:Nat) (s:ah),cc s<=f->cc (z0 s)=cc s/\nSt (z0 s)=nSt s
 | 0,s,h=>by have:=lI s;omega
 | f+1,s,h=>by
  obtain⟨b1,b2⟩:=QF s.au fun x hx=>WL f x (by have:=wA hx;omega)
  obtain⟨e1,e2⟩:=QF s.aZ fun x hx=>WL f x (by have:=xh hx;omega)
  rw[lI,lI s,Ks,Ks s,Jr]
  simp only
  rw[b1,b2,e1,e2];exact⟨rfl,rfl⟩
theorem aaT {q s} (h:z0 q=z0 s):cc q=cc s/\nSt q=nSt s:=by
 have h1:=WL _ q (Nat.le_refl _)
 have h2:=WL _ s (Nat.le_refl _)
 rw[h] at h1
 exact⟨h1.1.symm.trans h2.1,h1.2.symm.trans h2.2⟩
theorem II {q s} (h:q.map z0=s.map z0):cC q=cC s/\gV q=gV s:=by
 have h1:=QF q fun x _=>WL _ x (Nat.le_refl _)
 have h2:=QF s fun x _=>WL _ x (Nat.le_refl _)
 rw[h] at h1
 exact⟨h1.1.symm.trans h2.1,h1.2.symm.trans h2.2⟩
structure MW (ps:List (List UInt8)) (x:br):Prop where
 n:dw x.af=true
 t:WT ps x.aQ
 p:x.ac.length<=5/\∀ v∈x.ac,VW ps v
 l:x.bC.length<=12/\∀ v∈x.bC,VW ps v
 b:∀ s∈x.au,OA ps s/\dSt s<=20
 m:cC x.au<=1000000
theorem PC {ps l most} (h:oT l most (ps.length:Int)=true):l.length<=most/\∀ v∈l,VW ps v:=by
 unfold oT at h
 rw[Bool.and_eq_true,decide_eq_true_eq,all_eq_true] at h
 exact⟨h.1,fun v hv=>ael (h.2 v hv)⟩
theorem aeO {ps x} (hb:BM x) (h:DI (ps.length:Int) x=true):MW ps x:=by
 unfold DI bdL at h
 simp only[Bool.and_eq_true,all_eq_true] at h
 obtain⟨h1,h2,h3,h4,h5,h6⟩:=h
 rw[Af,all_eq_true] at h6
 refine⟨h1,h2,PC h3,PC h4,fun s hs=> ?_,hb.b⟩
 have:=h5 s hs
 rw[Dq _ 20 _ s (Nat.le_refl _),Bool.and_eq_true,decide_eq_true_eq] at this
 exact⟨Zn _ s (Nat.le_refl _) this.1 (h6 s hs),this.2⟩
theorem ado {ps s} (ho:ON ps s) (d:Nat) (u:KT) (r:List KT):∃ t w ts,tks (stP ps s d)++u::r=t::w :: ts/\BgT t w=false:=by
 by_cases h9:s.aa=9\/s.aa=10
 ·rw[NG h9]
  exact⟨_,_,_,rfl,by rcases h9 with k | k<;>(rw[k];rfl)⟩
 ·have hy:∀ y,BgT (yP y) (4,[46])=false:=fun y=>by
   unfold yP
   by_cases e:y=[116,104,105,115]
   ·rw[if_pos e,e];rfl
   ·rw[if_neg e];rfl
  rw[UB h9]
  by_cases hx:s.fX=[]
  ·have hk:s.aa=3\/s.aa=4\/s.aa=8\/s.aa=11:=by
    have:=ho.k
    have h1:¬ (s.aa=1\/s.aa=2\/s.aa=5\/s.aa=6\/s.aa=7):=fun k=>xq (ho.x1 k) hx
    omega
   rw[if_pos hx]
   unfold plP
   rcases hk with k | k | k | k<;>rw[k]
   ·exact⟨yP s.fY,(4,[46]),_,by rw[if_neg (by decide),if_neg (by decide),if_pos rfl,Ba];rfl,hy _⟩
   ·exact⟨yP s.fY,(4,[46]),_,by rw[if_neg (by decide),if_neg (by decide),if_neg (by decide),if_pos rfl,Ba];rfl,hy _⟩
   ·exact⟨(3,[100,101,108,101,116,101]),_,_,rfl,rfl⟩
   ·by_cases e:eX s.fE=[]
    ·rw[e];exact⟨(3,[114,101,116,117,114,110]),(4,[59]),_,rfl,rfl⟩
    ·have e2:∀ z:List KT,∃ w ts,z++[((4,[59]):KT)]++u::r=w::ts:=fun z=>by cases z<;>exact⟨_,_,rfl⟩
     obtain⟨w,ts,q⟩:=e2 (tks (eP s.fE 0))
     refine⟨(3,[114,101,116,117,114,110]),w,ts,?_,rfl⟩
     rw[<- q];simp only[e];rfl
  ·rw[if_neg hx];exact⟨(1,s.fX),_,_,rfl,rfl⟩
theorem Yg {ps ss} (hw:∀ s∈ss,ON ps s) (d:Nat) (u:KT) (r:List KT):∃ t w ts,btk ps ss d++(4,[125])::u :: r=t::w :: ts/\BgT t w=false:=by
 cases ss with
 | nil=>exact⟨_,_,_,rfl,rfl⟩
 | cons s ss=>
  have e:btk ps (s::ss) d++(4,[125])::u :: r=tks (stP ps s d)++(btk ps ss d++(4,[125])::u :: r):=by unfold btk;rw[wR,ed,append_assoc]
  rw[e]
  cases h:btk ps ss d++(4,[125])::u :: r with
  | nil=>simp at h
  | cons v q=>exact ado (hw s (by simp)) d v q
theorem acx {ps} (hp:PN ps) {l} (hll:l.length<=20000):∀ (ss:List ah) (out:List ah) (i n a:Nat) (r:List KT),(∀ s∈ss,OA ps s/\dSt s<=20/\cc s<=1000000)->out.length+ss.length<=20000->a+gV ss<=400->At l i (btk ps ss 2++(4,[125])::r)->ss.length+1<=n->
  ∃ qs,kz l ps n (i:Int) (a:Int) out=some (((i+(btk ps ss 2).length:Nat):Int),out++qs)/\qs.map z0=ss.map z0
 | ss,out,i,0,a,r,_,_,_,_,hn=>absurd hn (by omega)
 | [],out,i,n+1,a,r,_,_,_,hat,hn=>by
  refine⟨[],?_,rfl⟩
  rw[kz,is9 hat,obs,if_neg (by decide),append_nil];rfl
 | s::ss,out,i,n+1,a,r,hw,ho,hs,hat,hn=>by
  obtain⟨oa,hd,hm⟩:=hw s (by simp)
  have on:∀ x∈s::ss,ON ps x:=fun x hx=>by cases (hw x hx).1 with | mk _ q _ _=>exact q
  obtain⟨t,ts,e,h1,-⟩:=Io (on s (by simp)) 2
  have eb:btk ps (s::ss) 2=tks (stP ps s 2)++btk ps ss 2:=by unfold btk;rw[wR,ed]
  rw[eb,append_assoc] at hat
  obtain⟨u,r',e2,hu⟩:=Rf (d:=2) (fun x hx=>on x (by simp[hx])) (l:=ss) r
  have hat2:=hat
  rw[e2] at hat2
  obtain⟨q,hq,hz⟩:=Ri hp hll _ s 80 0 2 (Nat.le_refl _) hm oa (by omega) (by omega) i u r' hat2 hu
  have h3:=hat2
  rw[e,cons_append] at h3
  obtain⟨z1,z2⟩:=aaT hz
  have hns:gV (s::ss)=nSt s+gV ss:=by rw[gV]
  have hsz:=sB (cc q+1) q (Nat.le_refl _) (by omega)
  rw[z2] at hsz
  have hw1:ae ((a:Int)+(nSt s:Int))=((a+nSt s:Nat):Int):=by rw[w64 (by omega) (by omega)];omega
  obtain⟨qs,hqs,hzs⟩:=acx hp hll ss (out++[q]) (i+(tks (stP ps s 2)).length) n (a+nSt s) r (fun x hx=>hw x (by simp[hx])) (by rw[length_append];simp only[length_cons,length_nil] at ho ⊢;omega) (by omega) (gy hat).2 (by simp only[length_cons] at hn;omega)
  refine⟨q::qs,?_,by rw[map_cons,map_cons,hz,hzs]⟩
  simp only[length_cons] at ho
  rw[kz,is9 h3,obs,h1,if_pos (by decide),show (0:Int)=((0:Nat):Int) from rfl,hq,obs]
  simp only
  rw[if_neg (by decide),hsz,obs,hw1,if_neg (by simp;omega),gz (by simp only[length_cons,length_nil];omega),obs,hqs,eb,length_append,append_assoc,Nat.add_assoc]
  rfl
def zM (x:br):br:={ x with ac:=x.ac.map zV,bC:=x.bC.map zV,au:=x.au.map z0,fAt:=0 }
def mbK (ps:List (List UInt8)) (x:br):List KT:=(4,[40])::(pak ps x.ac++(4,[41])::(4,[123])::(lok ps x.bC++(btk ps x.au 2++[(4,[125])])))
theorem WU {ps} (hp:PN ps) {l} (hll:l.length<=20000) {x} (h:MW ps x) {i a u r} (hat:At l i (mbK ps x++u::r)) (hs:a+gV x.au<=400) (k:Int):
  ∃ y,rz l (i:Int) ps x.af x.fm x.aQ.aa x.aQ.bu x.aQ.fN x.aQ.am.a0.aa x.aQ.am.a0.fN x.aQ.am.a1.aa x.aQ.am.a1.fN x.aQ.am.a2.aa x.aQ.am.a2.fN x.aQ.am.a3.aa x.aQ.am.a3.fN zGMethod.ac zGMethod.bC k (a:Int) []=some (g9 zGClass y [] [] (i+(mbK ps x).length))/\zM y=zM x:=by
 unfold mbK at hat ⊢
 simp only[cons_append,append_assoc,nil_append] at hat
 obtain⟨vs,hv,zv⟩:=Xg hp hll h.p.1 h.p.2 hat
 have h2:=(gy (cu hat)).2
 have h3:=cu h2
 have h4:=cu h3
 have on:∀ y∈x.au,ON ps y:=fun y hy=>by cases (h.b y hy).1 with | mk _ q _ _=>exact q
 obtain⟨t,w,ts,e,hb⟩:=Yg on 2 u r
 have h4':=h4
 rw[e] at h4'
 have hi4:i+1 + (pak ps x.ac).length+1 < l.length:=by obtain⟨-,-,-,-,q⟩:=ks h3;exact q
 have ll:=h.l.1
 obtain⟨ws,hw,zw⟩:=Rc hp hll x.bC [] (i+1 + (pak ps x.ac).length+1 + 1) (l.length+64) t w ts (by rw[length_nil];omega) h.l.2 h4' hb (by omega)
 have h5:=(gy h4).2
 have hi5:=FH h5
 have hlen:=Qj (d:=2) on
 obtain⟨qs,hq,zq⟩:=acx hp hll x.au [] (i+1 + (pak ps x.ac).length+1 + 1+(lok ps x.bC).length) (l.length+64) a (u::r) (fun s hs=>⟨(h.b s hs).1,(h.b s hs).2,by have:=qq hs;have:=h.m;omega⟩) (by rw[length_nil];omega) hs h5 (by omega)
 refine⟨⟨x.af,x.fm,x.aQ,vs,ws,qs,k⟩,?_,?_⟩
 ·have hloc:rC l ((i+1 + (pak ps x.ac).length+1 + 1:Nat):Int) ps=some (g9 zGClass zGMethod ws [] (i+1 + (pak ps x.ac).length+1 + 1+(lok ps x.bC).length)):=by
   unfold rC
   rw[hw,obs];rfl
  unfold rz
  rw[hv,obs]
  simp only
  rw[if_neg (by decide),is9 h3,obs,if_neg (by decide),wN (by omega),hloc,obs]
  simp only
  rw[if_neg (by decide),hq,obs]
  simp only[nil_append]
  rw[wN (by omega)]
  simp only[length_cons,length_append,length_nil]
  rw[show i+1 + (pak ps x.ac).length+1 + 1+(lok ps x.bC).length+(btk ps x.au 2).length+1=i+((pak ps x.ac).length+((lok ps x.bC).length+((btk ps x.au 2).length+(0+1))+1 + 1)+1) by omega]
 ·unfold zM
  simp only
  rw[zv,zw,zq]
def mT (nm:List UInt8) (ps:List (List UInt8)) (su:List UInt8) (ab:List ay) (fs:List cN) (ms:List br) (k i:Int):=(nm,ps,su,ab,fs,ms,k,zGGot_ref09.fM.af,zGGot_ref09.fM.fm,zGGot_ref09.fM.aQ.aa,zGGot_ref09.fM.aQ.bu,zGGot_ref09.fM.aQ.fN,zGGot_ref09.fM.aQ.am.a0.aa,zGGot_ref09.fM.aQ.am.a0.fN,zGGot_ref09.fM.aQ.am.a1.aa,zGGot_ref09.fM.aQ.am.a1.fN,zGGot_ref09.fM.aQ.am.a2.aa,zGGot_ref09.fM.aQ.am.a2.fN,zGGot_ref09.fM.aQ.am.a3.aa,zGGot_ref09.fM.aQ.am.a3.fN,zGGot_ref09.fM.ac,zGGot_ref09.fM.bC,([]:List ah),zGGot_ref09.fM.fAt,zGGot_ref09.fV,zGGot_ref09.fN,i,zGGot_ref09.fF.gY,zGGot_ref09.fF.fAt)
theorem YG {α:Type} {nm:List UInt8} {ps:List (List UInt8)} {su:List UInt8} {ab:List ay} {fs:List cN} {ms:List br} {k i:Int} {x y:α}:(if((mT nm ps su ab fs ms k i).2.2.2.2.2.2.2.2.2.2.2.2.2.2.2.2.2.2.2.2.2.2.2.2.2.2.2.1 != 0)=true then x else y)=y:=rfl
theorem JY {α:Type} (f:α->Nat):∀ a b:List α,cg f (a++b)=cg f a+cg f b
 | [],b=>by simp[cg]
 | x::a,b=>by rw[cons_append,cg,cg,JY f a b,Nat.add_assoc]
abbrev puW : List UInt8:=[112,117,114,101]
theorem Il {ps t} (h:WT ps t):∃ u ts,tyK ps t=u::ts/\isT u puW=false/\isT u [125]=false:=by
 unfold tyK
 by_cases h0:t.aa=0
 ·exact⟨(3,[118,111,105,100]),_,by unfold tyP;rw[if_pos h0];rfl,by decide⟩
 by_cases h1:t.aa=1
 ·exact⟨(3,[105,110,116]),_,by unfold tyP;rw[if_neg h0,if_pos h1];rfl,by decide⟩
 have:=UU (ps:=ps) h0 h1
 unfold tyK at this
 rw[this]
 by_cases h7:t.am.a0.aa=7
 ·rw[if_pos h7];exact⟨_,_,rfl,rfl,rfl⟩
 ·rw[if_neg h7]
  refine⟨oK ps t.am.a0,_,rfl,?_⟩
  have ho:=((ZH h h0 h1).2.2.2.1).resolve_left fun e=>h7 (by rw[e])
  unfold oK
  by_cases h3:t.am.a0.aa=3
  ·rw[if_pos h3];exact⟨rfl,rfl⟩
  ·obtain⟨ht,-,k⟩:=Xb ho h3
   rw[if_neg h3,ht]
   rcases k with k | k | k | k | k<;>(rw[k];decide)
theorem WJ {ps} (hp:PN ps) {l} (hll:l.length<=20000) {v} (h:VW ps v) {i r} (hat:At l i (vaK ps v++(4,[59])::r)) (nm su:List UInt8) (ab:List ay) (k a:Int) {b0} (b1:List br) (hl:b0.length < 12):
  ∃ q,mB l (i:Int) nm ps su ab k a b0 b1=some (mT nm ps su ab (b0++[⟨v.af,v.av,q⟩]) b1 k ((i+(vaK ps v).length+1:Nat):Int)):=by
 unfold vaK at hat ⊢
 rw[append_assoc] at hat
 have hT:=Si (f:=true) hp h.w hll hat (fun _=>Ui (.inl (.inr (.inr rfl))) _)
 have h1:=(gy hat).2
 have h2:=cu h1
 obtain⟨u,ts,e,hu,-⟩:=Il h.w
 have h0:=hat
 rw[e,cons_append] at h0
 obtain⟨q,c1,-⟩:=Ji h0
 obtain⟨w,b1',b2,b3,hlt⟩:=Ji h1
 obtain⟨-,-,-,-,hlt2⟩:=ks h2
 refine⟨q.fAt,?_⟩
 unfold mB
 rw[c1,obs,is9 h0,obs,hu,if_neg (by decide),obs,hT,obs]
 simp only
 rw[if_neg (by decide),b1',obs,if_neg (by rw[b2];simp),wN (by omega),is9 h2,obs,if_neg (by decide),is9 h2,obs,if_neg (by decide),if_neg (by decide),obs,show (v.av.aa==0)=false from by simpa using h.k,if_neg (by decide),if_neg (by simp;omega),gz (by simp only[length_cons,length_nil];omega),obs,wN (by omega),b3,length_append]
 rfl
def meK (ps:List (List UInt8)) (x:br):List KT:=(if x.fm=true then [(3,puW)] else [])++(tyK ps x.aQ++(1,x.af)::mbK ps x)
theorem UF {ps} (hp:PN ps) {l} (hll:l.length<=20000) {x} (h:MW ps x) {i u r} (hat:At l i (meK ps x++u::r)) (nm su:List UInt8) (ab:List ay) (k:Int) {a} (b0:List cN) {b1} (hl:b1.length < 12) (hs:a+gV x.au<=400):
  ∃ q,mB l (i:Int) nm ps su ab k (a:Int) b0 b1=some (mT nm ps su ab b0 (b1++[q]) k ((i+(meK ps x).length:Nat):Int))/\zM q=zM x:=by
 unfold meK at hat ⊢
 obtain⟨t,ts,e,ht,-⟩:=Il h.t
 -- where the type begins
 have hj:∃ j:Nat,At l j (tyK ps x.aQ++(1,x.af)::(mbK ps x++u::r))/\j=i+(if x.fm=true then 1 else 0):=by
  cases hpu:x.fm with
  | false=>rw[hpu] at hat;simp only[Bool.false_eq_true,if_false,nil_append,append_assoc,cons_append] at hat;exact⟨i,hat,by simp⟩
  | true=>rw[hpu] at hat;simp only[if_true,append_assoc,cons_append,nil_append] at hat;exact⟨i+1,cu hat,by simp⟩
 obtain⟨j,hj,hji⟩:=hj
 have h0:∃ w ws,At l i (w::ws)/\isT w puW=x.fm:=by
  cases hpu:x.fm with
  | false=>rw[hpu] at hat;simp only[Bool.false_eq_true,if_false,nil_append,append_assoc,cons_append] at hat;rw[e] at hat;exact⟨_,_,hat,ht⟩
  | true=>rw[hpu] at hat;simp only[if_true,append_assoc,cons_append,nil_append] at hat;exact⟨_,_,hat,by decide⟩
 obtain⟨w,ws,hw,hwp⟩:=h0
 have hj2:At l j (tyK ps x.aQ++(1,x.af)::(4,[40])::((mbK ps x).tail++u::r)):=hj
 have hT:=Si (f:=true) hp h.t hll hj2 (fun _=>Ui (.inr rfl) _)
 have h1:=(gy hj).2
 have h2:=cu h1
 have h2':At l (j+(tyK ps x.aQ).length+1) ((4,[40])::((mbK ps x).tail++u::r)):=h2
 obtain⟨q,c1,-⟩:=Ji hw
 obtain⟨w',b1',b2,b3,hlt⟩:=Ji h1
 obtain⟨-,-,-,-,hlt2⟩:=ks hw
 obtain⟨y,hy,hz⟩:=WU hp hll h h2 hs q.fAt
 refine⟨y,?_,hz⟩
 have hpos:((if x.fm=true then some (ae ((i:Int)+1)) else some (i:Int)):Option Int)=some (j:Int):=by
  rw[hji]
  cases x.fm with
  | false=>rfl
  | true=>rw[if_pos rfl,if_pos rfl,wN (by omega)]
 unfold mB
 rw[c1,obs,is9 hw,obs,hwp,hpos,obs,hT,obs]
 simp only
 rw[if_neg (by decide),b1',obs,if_neg (by rw[b2];simp),wN (by omega),is9 h2',obs,if_pos (by decide),if_neg (by simp;omega),b3]
 rw[hy,obs]
 simp only
 rw[if_neg (by decide),gz (by simp only[length_cons,length_nil];omega),obs]
 unfold mT
 have hlen:j+(tyK ps x.aQ).length+1 + (mbK ps x).length=i+((if x.fm=true then [((3,puW):KT)] else [])++(tyK ps x.aQ++(1,x.af)::mbK ps x)).length:=by
  rw[hji]
  cases x.fm<;>simp only[Bool.false_eq_true,if_true,if_false,length_append,length_cons,length_nil]<;>omega
 rw[hlen]
theorem QG {ps} (hp:PN ps) {l} (hll:l.length<=20000) (nm su:List UInt8) (ab:List ay) (k:Int) (hab:ab.length<=3) {a}:∀ (vs:List cN) (out:List cN) (i n:Nat) (r:List KT),out.length+vs.length<=12->(∀ x∈vs,VW ps x)->At l i (lok ps vs++r)->
  ∃ qs,iw l (a:Int) (n+vs.length) (i:Int) nm ps su ab out [] k=iw l (a:Int) n ((i+(lok ps vs).length:Nat):Int) nm ps su ab (out++qs) [] k/\qs.map zV=vs.map zV
 | [],out,i,n,r,_,_,_=>⟨[],by rw[append_nil];rfl,rfl⟩
 | v::vs,out,i,n,r,hl,hw,hat=>by
  rw[VV] at hat
  have hv:=hw v (by simp)
  simp only[length_cons] at hl
  obtain⟨q,hq⟩:=WJ hp hll hv hat nm su ab k (ae ((a:Int)+0)) ([]:List br) (b0:=out) (by omega)
  obtain⟨qs,hqs,hz⟩:=QG hp hll nm su ab k hab vs (out++[⟨v.af,v.av,q⟩]) (i+(vaK ps v).length+1) n r (by rw[length_append];simp only[length_cons,length_nil];omega) (fun x hx=>hw x (by simp[hx])) (cu (gy hat).2)
  refine⟨⟨v.af,v.av,q⟩::qs,?_,by rw[map_cons,map_cons,hz];rfl⟩
  obtain⟨t,ts,e,-,h1⟩:=Il hv.w
  have h0:=hat
  unfold vaK at h0
  rw[e,append_assoc,cons_append] at h0
  have hst:jU (⟨nm,ps,su,ab,out,[],k⟩:be)=some 0:=by
   have:=hp.n
   exact rr ⟨by simp only;omega,by simp only;omega,by simp only;omega,by simp,fun x hx=>by cases hx⟩ (by simp[stC,cg])
  rw[length_cons,<- Nat.add_assoc,iw,is9 h0,obs,h1,if_pos (by decide),hst,obs,hq,obs]
  rw[YG]
  simp only[mT]
  rw[hqs,append_assoc]
  have hlen:(lok ps (v::vs)).length=(vaK ps v).length+1 + (lok ps vs).length:=by
   have:=congrArg length (VV ps v vs [])
   simp only[append_nil,length_append,length_cons] at this
   omega
  rw[hlen,show i+(vaK ps v).length+1 + (lok ps vs).length=i+((vaK ps v).length+1 + (lok ps vs).length) by omega]
  rfl
theorem aev {ps q x} (h:MW ps x) (hz:zM q=zM x):BM q/\gV q.au=gV x.au:=by
 unfold zM at hz
 injection hz with e1 e2 e3 e4 e5 e6 e7
 obtain⟨m1,m2⟩:=II e6
 have h1:=congrArg length e4
 have h2:=congrArg length e5
 rw[length_map,length_map] at h1 h2
 have:=h.p.1
 have:=h.l.1
 have:=h.m
 exact⟨⟨by omega,by omega,by omega⟩,m2⟩
def mfK (ps:List (List UInt8)) (xs:List br):List KT:=(xs.map (meK ps)).flatten
theorem ace {ps x} (h:MW ps x):∃ t ts,meK ps x=t::ts/\isT t [125]=false:=by
 unfold meK
 cases x.fm with
 | true=>exact⟨(3,puW),_,rfl,by decide⟩
 | false=>
  obtain⟨t,ts,e,-,h1⟩:=Il h.t
  rw[e];exact⟨t,_,rfl,h1⟩
theorem MA {ps} (hp:PN ps) {l} (hll:l.length<=20000) (nm su:List UInt8) (ab:List ay) (k:Int) (hab:ab.length<=3) {fs} (hfs:fs.length<=12) {a}:∀ (xs:List br) (out:List br) (i n b:Nat) (r:List KT),out.length+xs.length<=12->(∀ x∈xs,MW ps x)->(∀ x∈out,BM x)->cg (fun x:br=>gV x.au) out=b->a+b + cg (fun x:br=>gV x.au) xs<=400->At l i (mfK ps xs++(4,[125])::r)->xs.length+1<=n->
  ∃ qs,iw l (a:Int) n (i:Int) nm ps su ab fs out k=some (((i+(mfK ps xs).length:Nat):Int),nm,ps,su,ab,fs,out++qs,k)/\qs.map zM=xs.map zM
 | xs,out,i,0,b,r,_,_,_,_,_,_,hn=>absurd hn (by omega)
 | [],out,i,n+1,b,r,_,_,_,_,_,hat,hn=>by
  refine⟨[],?_,rfl⟩
  rw[iw,is9 (show At l i ((4,[125])::r) from hat),obs,if_neg (by decide),append_nil];rfl
 | x::xs,out,i,n+1,b,r,hl,hw,ho,hb,hs,hat,hn=>by
  have hx:=hw x (by simp)
  have e0:mfK ps (x::xs)=meK ps x++mfK ps xs:=by unfold mfK;rw[map_cons,flatten_cons]
  rw[e0,append_assoc] at hat
  have hu:∃ u r',mfK ps xs++(4,[125])::r=u::r':=by cases h:mfK ps xs++(4,[125])::r with | nil=>simp at h | cons u r'=>exact⟨u,r',rfl⟩
  obtain⟨u,r',eu⟩:=hu
  have hat2:=hat
  rw[eu] at hat2
  simp only[length_cons] at hl hn
  simp only[cg] at hs
  have hst:jU (⟨nm,ps,su,ab,fs,out,k⟩:be)=some (b:Int):=by
   have:=hp.n
   have h1:=rr (c:=(⟨nm,ps,su,ab,fs,out,k⟩:be)) ⟨by simp only;omega,by simp only;omega,by simp only;omega,by simp only;omega,ho⟩ (by show cg (fun x:br=>gV x.au) out<=_;omega)
   rw[h1]
   exact congrArg (fun z:Nat=>some (z:Int)) hb
  obtain⟨q,hq,hz⟩:=UF hp hll hx hat2 nm su ab k fs (b1:=out) (a:=a+b) (by omega) (by omega)
  obtain⟨hB,hN⟩:=aev hx hz
  obtain⟨qs,hqs,hzs⟩:=MA (a:=a) hp hll nm su ab k hab hfs xs (out++[q]) (i+(meK ps x).length) n (b+gV x.au) r (by rw[length_append];simp only[length_cons,length_nil];omega) (fun y hy=>hw y (by simp[hy])) (fun y hy=>by
   rcases List.mem_append.1 hy with q1 | q1
   ·exact ho y q1
   ·rw[List.mem_singleton.1 q1];exact hB) (by rw[JY,hb];simp only[cg];rw[hN];rfl) (by omega) (gy hat).2 (by omega)
  refine⟨q::qs,?_,by rw[map_cons,map_cons,hz,hzs]⟩
  obtain⟨t,ts,e,h1⟩:=ace hx
  have h0:=hat
  rw[e,cons_append] at h0
  have hw1:ae ((a:Int)+(b:Int))=((a+b:Nat):Int):=by rw[w64 (by omega) (by omega)];omega
  rw[iw,is9 h0,obs,h1,if_pos (by decide),hst,obs,hw1,hq,obs]
  rw[YG]
  simp only[mT]
  rw[hqs,append_assoc,e0,length_append,Nat.add_assoc]
  rfl
def nmk (ps:List (List UInt8)):List KT:=tks (cmP (ps.map fun p=>[((1,p):KT)]))
theorem afs (p:List UInt8):nmk [p]=[(1,p)]:=by unfold nmk;rw[map_cons,map_nil,yE];rfl
theorem aft (p q:List UInt8) (ps:List (List UInt8)):nmk (p::q :: ps)=(1,p)::(4,[44])::nmk (q::ps):=by unfold nmk;rw[map_cons,map_cons,zD];rfl
def nmA : List (List UInt8)->List KT
 | []=>[]
 | p::ps=>(4,[60])::(nmk (p::ps)++[(4,[62])])
theorem UH {l} (hll:l.length<=20000):∀ (ps:List (List UInt8)) (p:List UInt8) (out:List (List UInt8)) (i n:Nat) (r:List KT),out.length+ps.length+1<=3->At l (i+1) (nmk (p::ps)++(4,[62])::r)->ps.length+1<=n->
  ma l n (i:Int) out=some (.stop (g9 zGClass zGMethod [] (out++p::ps) (i+1 + (nmk (p::ps)).length+1)))
 | ps,p,out,i,0,r,_,_,hn=>absurd hn (by omega)
 | [],p,out,i,n+1,r,hl,hat,hn=>by
  rw[afs] at hat ⊢
  have h2:=cu hat
  obtain⟨k,a1,a2,a3,hlt⟩:=Ji hat
  simp only[length_nil] at hl
  rw[ma,wN (by omega),a1,obs,if_neg (by rw[a2];simp),if_neg (by simp;omega),obs,a3,gz (by simp only[length_cons,length_nil];omega),obs,wN (by omega),is9 h2,obs,if_pos (by decide),wN (by omega)]
  rfl
 | q::ps,p,out,i,n+1,r,hl,hat,hn=>by
  rw[aft] at hat ⊢
  have h2:=cu hat
  obtain⟨k,a1,a2,a3,hlt⟩:=Ji hat
  simp only[length_cons] at hl hn
  have ih:=UH hll ps q (out++[p]) (i+1 + 1) n r (by rw[length_append];simp only[length_cons,length_nil];omega) (cu h2) (by omega)
  rw[ma,wN (by omega),a1,obs,if_neg (by rw[a2];simp),if_neg (by simp;omega),obs,a3,gz (by simp only[length_cons,length_nil];omega),obs,wN (by omega),is9 h2,obs,if_neg (by decide),is9 h2,obs,if_neg (by decide),ih,append_assoc,length_cons,length_cons,
   show i+1 + 1+1 + (nmk (q::ps)).length+1=i+1 + ((nmk (q::ps)).length+1 + 1)+1 by omega]
  rfl
theorem ZG {l} (hll:l.length<=20000) {ps p i r} (hl:ps.length+1<=3) (hat:At l i (nmA (p::ps)++r)):qI l (i:Int)=some (g9 zGClass zGMethod [] (p::ps) (i+(nmA (p::ps)).length)):=by
 unfold nmA at hat ⊢
 rw[cons_append,append_assoc] at hat
 have:=UH hll ps p [] i (l.length+64) r (by rw[length_nil];omega) (cu hat) (by omega)
 unfold qI
 rw[this,obs,C9,length_cons,length_append,length_cons,length_nil,show i+1 + (nmk (p::ps)).length+1=i+((nmk (p::ps)).length+(0+1)+1) by omega]
 rfl
abbrev exW : List UInt8:=[101,120,116,101,110,100,115]
def AbW (ps:List (List UInt8)) (ab:List ay):Prop:=ab.length<=3/\∀ o∈ab,OW ps o/\(o.aa=2\/o.aa=3\/o.aa=4)
theorem Wi {g} (hl:g.fL.length<=3) (h:∀ o∈g.fL,o.aa=2\/o.aa=3\/o.aa=4):∀ (n k:Nat),n+k=g.fL.length+1->k<=g.fL.length->oI g n (k:Int)=some ()
 | 0,k,h1,hk=>by omega
 | n+1,k,h1,hk=>by
  rw[oI]
  by_cases hlt:k < g.fL.length
  ·have:=h _ (getElem_mem hlt)
   rw[if_pos (by simpa using hlt),cU hlt,obs,if_neg (by simp;omega),obs,obs,show (g.fL[k].aa==5)=false from by simp;omega,if_neg (by decide),cn hlt (by omega),Wi hl h n (k+1) (by omega) (by omega)]
  ·rw[if_neg (by simpa using hlt)]
theorem Zx {ps} (hp:PN ps) {l} (hll:l.length<=20000) {su ab} (h:AbW ps ab) {i r} (hat:At l i ((3,exW)::(1,su)::(tlK ps ab++(4,[123])::r))) (nm s0:List UInt8) (k:Int):
  sH l (i:Int) nm ps s0 zGClass.bl k [] []=some (mT nm ps su ab [] [] k ((i+1 + 1+(tlK ps ab).length:Nat):Int)):=by
 have h1:=cu hat
 have h2:=cu h1
 obtain⟨q,a1,a2,a3,hlt⟩:=Ji h1
 unfold sH
 rw[wN (by omega),a1,obs,if_neg (by rw[a2];simp),obs,w2 (by omega),a3]
 cases ab with
 | nil=>
  have h3:At l (i+1 + 1) ((4,[123])::r):=h2
  rw[is9 h3,obs,if_pos (by decide)];rfl
 | cons o os=>
  have h3:At l (i+1 + 1) ((4,[60])::(otk ps (o::os)++(4,[62])::(4,[123])::r)):=by rw[tlK,cons_append,append_assoc] at h2;exact h2
  have hO:=zI hp hll (i:=i+1 + 1) (by have:=h.1;simp only[length_cons] at this;exact this) (fun x hx=>⟨(h.2 x hx).1,by have:=(h.2 x hx).2;omega⟩) h3
  have hL:=Wi (g:={ fL:=o::os,fT:=dY,fV:=pM,aU:=((i+1 + 1+1 + (otk ps (o::os)).length+1:Nat):Int),fF:=aM }) h.1 (fun x hx=>(h.2 x hx).2) ((o::os).length+1) 0 (by simp) (by simp)
  rw[is9 h3,obs,if_neg (by decide),hO,obs]
  simp only
  rw[if_neg (by decide),gq,show (0:Int)=((0:Nat):Int) from rfl,hL,obs]
  simp only[tlK,length_cons,length_append,length_nil]
  rw[show i+1 + 1+1 + (otk ps (o::os)).length+1=i+1 + 1+((otk ps (o::os)).length+(0+1)+1) by omega]
  rfl
structure CW (c:be):Prop where
 hp:PN c.ac
 n:dw c.af=true
 s0:c.cb=[]->c.bl=[]
 s1:c.cb≠[]->dw c.cb=true
 ab:AbW c.ac c.bl
 f:c.bn.length<=12/\∀ v∈c.bn,VW c.ac v
 m:c.ak.length<=12/\∀ x∈c.ak,MW c.ac x
theorem afj {c} (hb:BC c) (h:clS c=true) (hu:c.ac.Pairwise (·≠·)):CW c:=by
 unfold clS hdS at h
 simp only[Bool.and_eq_true,decide_eq_true_eq,all_eq_true] at h
 obtain⟨⟨h1,h2,h3,h4,h5⟩,h6,h7,h8⟩:=h
 have hs:(c.cb=[]->c.bl=[])/\(c.cb≠[]->dw c.cb=true)/\∀ o∈c.bl,Lm (c.ac.length:Int) o=true:=by
  by_cases hs:c.cb=[]
  ·rw[if_pos (by simp[hs])] at h5
   have e:=eq_nil_of_length_eq_zero (of_decide_eq_true h5)
   exact⟨fun _=>e,fun k=>absurd hs k,by rw[e];intro o ho;cases ho⟩
  ·rw[if_neg (by simp[hs]),Bool.and_eq_true,all_eq_true] at h5
   exact⟨fun e=>absurd e hs,fun _=>h5.2,h5.1⟩
 refine⟨⟨h2,h4,hu⟩,h1,hs.1,hs.2.1,⟨h3,fun o ho=> ?_⟩,PC h6,h7,fun x hx=>aeO (hb.ms x hx) (h8 x hx)⟩
 have:=hs.2.2 o ho
 unfold Lm at this
 simp only[Bool.and_eq_true,Bool.or_eq_true,decide_eq_true_eq] at this
 exact⟨⟨this.2,by omega⟩,this.1⟩
def exK (ps:List (List UInt8)) (su:List UInt8) (ab:List ay):List KT:=if su=[] then [] else(3,exW)::(1,su)::tlK ps ab
abbrev clW : List UInt8:=[99,108,97,115,115]
def clK (c:be):List KT:=(3,clW)::(1,c.af)::(nmA c.ac++(exK c.ac c.cb c.bl++(4,[123])::(lok c.ac c.bn++(mfK c.ac c.ak++[(4,[125])]))))
def zC (c:be):be:={ c with bn:=c.bn.map zV,ak:=c.ak.map zM,fAt:=0 }
theorem aad {c} (h:CW c) {l} (hll:l.length<=20000) {i a u r} (hs:a+stC c<=400) (hat:At l i (clK c++u::r)):
  ∃ q,sO l (i:Int) (a:Int)=some (g9 q zGMethod [] [] (i+(clK c).length))/\zC q=zC c:=by
 unfold clK at hat ⊢
 simp only[cons_append,append_assoc,nil_append] at hat
 have h1:=cu hat
 have h2:=cu h1
 have h3:=(gy h2).2
 have h4:=(gy h3).2
 have h5:=cu h4
 obtain⟨q,a1,a2,a3,hlt⟩:=Ji hat
 obtain⟨w,b1,b2,b3,-⟩:=Ji h1
 obtain⟨-,-,-,-,hlt4⟩:=ks h4
 have hn:=h.hp.n
 have hab:=h.ab.1
 obtain⟨n,hfu⟩:∃ n,l.length+64=n+c.bn.length:=⟨l.length+64 - c.bn.length,by have:=h.f.1;omega⟩
 obtain⟨fs,hf,zf⟩:=QG h.hp hll c.af c.cb c.bl q.fAt hab (a:=a) c.bn [] (i+1 + 1+(nmA c.ac).length+(exK c.ac c.cb c.bl).length+1) n _ (by rw[length_nil];have:=h.f.1;omega) h.f.2 h5
 have h6:=(gy h5).2
 have hfl:fs.length<=12:=by have:=congrArg length zf;rw[length_map,length_map] at this;have:=h.f.1;omega
 have hi6:=FH h6
 obtain⟨ms,hm,zm⟩:=MA (a:=a) h.hp hll c.af c.cb c.bl q.fAt hab hfl c.ak [] (i+1 + 1+(nmA c.ac).length+(exK c.ac c.cb c.bl).length+1 + (lok c.ac c.bn).length) n 0 (u::r) (by rw[length_nil];have:=h.m.1;omega) h.m.2 (fun y hy=>by cases hy) rfl (by have:stC c=cg (fun x:br=>gV x.au) c.ak:=rfl;omega) h6 (by have:=h.m.1;have:=h.f.1;omega)
 have hL:=hf.trans hm
 rw[<- hfu] at hL
 refine⟨⟨c.af,c.ac,c.cb,c.bl,fs,ms,q.fAt⟩,?_,by unfold zC;simp only;rw[zf,zm]⟩
 have hend:i+1 + 1+(nmA c.ac).length+(exK c.ac c.cb c.bl).length+1 + (lok c.ac c.bn).length+(mfK c.ac c.ak).length+1=i+((3,clW)::(1,c.af)::(nmA c.ac++(exK c.ac c.cb c.bl++(4,[123])::(lok c.ac c.bn++(mfK c.ac c.ak++[((4,[125]):KT)]))))).length:=by
  simp only[length_cons,length_append,length_nil];omega
 unfold sO
 rw[a1,obs,wN (by omega),b1,obs,if_neg (by rw[b2];simp),obs,w2 (by omega),b3]
 have hname:∀ F:Int×(List (List UInt8))->Option cJ,((gd l ((i+1 + 1:Nat):Int) [60]).bind fun(y0:Bool)=>if y0=true then(qI l ((i+1 + 1:Nat):Int)).bind fun y1=>if(y1.fF.gY != 0) then none else some (y1.aU,y1.fN) else some (((i+1 + 1:Nat):Int),zGClass.ac):Option (Int×(List (List UInt8)))).bind F=F (((i+1 + 1+(nmA c.ac).length:Nat):Int),c.ac):=fun F=>by
  cases hps:c.ac with
  | nil=>
   have hx:∃ t ts,At l (i+1 + 1) (t::ts)/\isT t [60]=false:=by
    rw[hps] at h2
    unfold exK at h2
    by_cases e:c.cb=[]
    ·rw[if_pos e] at h2;exact⟨_,_,h2,rfl⟩
    ·rw[if_neg e] at h2;exact⟨_,_,h2,rfl⟩
   obtain⟨t,ts,ht,hf⟩:=hx
   rw[is9 ht,obs,hf,if_neg (by decide),obs];rfl
  | cons p ps=>
   rw[hps] at h2 hn
   have ht:At l (i+1 + 1) ((4,[60])::_):=h2
   rw[is9 ht,obs,if_pos (by decide),ZG hll (by simp only[length_cons] at hn;exact hn) h2,obs]
   simp only
   rw[if_neg (by decide),obs]
 rw[hname]
 simp only
 have hext:∀ (G:Bool->Option (Int×(List UInt8)×(List (List UInt8))×(List UInt8)×(List ay)×(List cN)×(List br)×Int)) (F:_->Option cJ),(c.cb=[]->G false=some (((i+1 + 1+(nmA c.ac).length:Nat):Int),c.af,c.ac,[],[],[],[],q.fAt))->(c.cb≠[]->G true=some (((i+1 + 1+(nmA c.ac).length+(exK c.ac c.cb c.bl).length:Nat):Int),c.af,c.ac,c.cb,c.bl,[],[],q.fAt))->((gd l ((i+1 + 1+(nmA c.ac).length:Nat):Int) [101,120,116,101,110,100,115]).bind G).bind F=F (((i+1 + 1+(nmA c.ac).length+(exK c.ac c.cb c.bl).length:Nat):Int),c.af,c.ac,c.cb,c.bl,[],[],q.fAt):=fun G F g0 g1=>by
  by_cases e:c.cb=[]
  ·have e2:=h.s0 e
   have h3':=h3
   unfold exK at h3' ⊢
   rw[if_pos e,nil_append] at h3'
   rw[is9 h3',obs,show isT (4,[123]) [101,120,116,101,110,100,115]=false from rfl,g0 e,obs,if_pos e,e,e2];rfl
  ·have h3':=h3
   unfold exK at h3'
   rw[if_neg e,cons_append] at h3'
   rw[is9 h3',obs,show isT (3,exW) [101,120,116,101,110,100,115]=true from by decide,g1 e,obs]
 rw[hext]
 ·simp only
  rw[is9 h4,obs,if_neg (by decide),wN (by omega),hL,obs]
  simp only
  rw[wN (by omega),hend]
  rfl
 ·intro e
  rw[if_neg (by decide)]
 ·intro e
  have h3':=h3
  unfold exK at h3'
  rw[if_neg e] at h3'
  simp only[cons_append] at h3'
  rw[if_pos rfl,Zx h.hp hll h.ab h3',obs,YG]
  simp only[mT]
  unfold exK
  rw[if_neg e,length_cons,length_cons,show i+1 + 1+(nmA c.ac).length+1 + 1+(tlK c.ac c.bl).length=i+1 + 1+(nmA c.ac).length+((tlK c.ac c.bl).length+1 + 1) by omega]
theorem acz {s} (hll:s.length<=20000):∀ (p:List be) (out:List be) (i n a:Nat) (f:nK),(∀ c∈p,CW c)->out.length+p.length<=20->a+cg stC p<=400->(∀ c∈p,∀ q,zC q=zC c->jU q=some ((stC c:Nat):Int))->At s i ((p.map clK).flatten++[(0,[])])->p.length+1<=n->
  ∃ qs,qC (s,f) n out (i:Int) (a:Int)=some (out++qs)/\qs.map zC=p.map zC
 | p,out,i,0,a,f,_,_,_,_,_,hn=>absurd hn (by omega)
 | [],out,i,n+1,a,f,_,_,_,_,hat,hn=>by
  have h0:At s i ((0,[])::[]):=hat
  obtain⟨k,a1,a2,a3,-⟩:=Ji h0
  refine⟨[],?_,rfl⟩
  rw[qC]
  simp only
  rw[a1,obs,if_neg (by rw[a2];decide),append_nil]
 | c::p,out,i,n+1,a,f,hw,hl,hs,hst,hat,hn=>by
  rw[map_cons,flatten_cons,append_assoc] at hat
  have hu:∃ u r',(p.map clK).flatten++[((0,[]):KT)]=u::r':=by cases h:(p.map clK).flatten++[((0,[]):KT)] with | nil=>simp at h | cons u r'=>exact⟨u,r',rfl⟩
  obtain⟨u,r',eu⟩:=hu
  have hat2:=hat
  rw[eu] at hat2
  simp only[cg] at hs
  simp only[length_cons] at hl hn
  obtain⟨q,hq,hz⟩:=aad (a:=a) (hw c (by simp)) hll (by omega) hat2
  have hS:=hst c (by simp) q hz
  obtain⟨qs,hqs,hzs⟩:=acz hll p (out++[q]) (i+(clK c).length) n (a+stC c) f (fun x hx=>hw x (by simp[hx])) (by rw[length_append];simp only[length_cons,length_nil];omega) (by omega) (fun x hx=>hst x (by simp[hx])) (gy hat).2 (by omega)
  refine⟨q::qs,?_,by rw[map_cons,map_cons,hz,hzs]⟩
  have h0:At s i ((3,clW)::_):=hat
  obtain⟨k,a1,a2,a3,-⟩:=Ji h0
  have hw1:ae ((a:Int)+(stC c:Int))=((a+stC c:Nat):Int):=by rw[w64 (by omega) (by omega)];omega
  rw[qC]
  simp only
  rw[a1,obs,if_pos (by rw[a2];decide),is9 h0,obs,if_neg (by decide),if_neg (by simp;omega),hq,obs]
  simp only
  rw[if_neg (by decide),gz (by simp only[length_cons,length_nil];omega),obs,hS,obs,hw1,hqs,append_assoc]
  rfl
theorem EY {α β γ:Type} {a:List α} {b:List β} {L:Nat->Int->Option γ} {z:γ} (hl:a.length<=1000000) (he:b.length=a.length) (h1:∀ (n k:Nat) (h:k < a.length) (h':k < b.length),decide ((k:Int) < (a.length:Int))=true->idx a (k:Int)=some a[k]->idx b (k:Int)=some b[k]->L (n+1) (k:Int)=L n (ae ((k:Int)+1))) (h0:∀ n,L (n+1) (a.length:Int)=some z):L (((a.length - 0:Int)).toNat+1) 0=some z:=by
 have h:∀ (n k:Nat),n+k=a.length+1->k<=a.length->L n (k:Int)=some z:=fun n=>by
  induction n with
  | zero=>intro k h hk;omega
  | succ n ih=>
   intro k h hk
   by_cases hlt:k < a.length
   ·have hlt':k < b.length:=by omega
    rw[h1 n k hlt hlt' (by simpa using hlt) (cU hlt) (cU hlt'),cn hlt (by omega)]
    exact ih (k+1) (by omega) (by omega)
   ·rw[show k=a.length by omega];exact h0 n
 rw[gq]
 exact h (a.length+1) 0 (by omega) (by omega)
theorem sv {α β:Type} {f:α->β} {a b:List α} (h:b.map f=a.map f) {k:Nat} (h1:k < a.length) (h2:k < b.length):f b[k]=f a[k]:=by
 have:=congrArg (·[k]?) h
 simpa [h1,h2] using this
theorem uk {α β:Type} {f:α->β} {a b:List α} (h:b.map f=a.map f):b.length=a.length:=by have:=congrArg length h;rwa [length_map,length_map] at this
theorem adc (a:bZ):jp a a=true:=by simp[jp]
theorem WC (e:ai):e.az.length<=bL e:=by
 have h:∀ l:List ai,l.length<=dL l:=fun l=>by
  induction l with
  | nil=>exact Nat.zero_le _
  | cons x l ih=>have:=sD x;simp only[dL,length_cons];omega
 have:=h e.az
 rw[sD];omega
theorem MU : ∀ l:List ah,l.length<=cC l
 | []=>Nat.zero_le _
 | x::l=>by have:=MU l;have:=lI x;simp only[cC,length_cons];omega
theorem Pt : ∀ (n:Nat) (e:ai),bL e<=1000000->bL e < n->gU n e e=some true
 | 0,e,_,h=>by omega
 | n+1,e,hm,h=>by
  have hL:=EY (a:=e.az) (b:=e.az) (L:=lz e e (gU n)) (by have:=WC e;omega) rfl (fun m k hk _ hd hi _=>by
   rw[lz,if_pos hd,hi,obs,obs,Pt n _ (by have:=we (getElem_mem hk);omega) (by have:=we (getElem_mem hk);omega),obs,if_neg (by simp)]) (fun m=>by rw[lz,if_neg (by simp)])
  rw[gU]
  simp only[bne_self_eq_false,Bool.false_eq_true,if_false,beq_self_eq_true,Bool.not_true,obs]
  rw[hL,obs,Bc]
theorem TI {f a b} (hl:a.length<=1000000) (hz:b.map z0=a.map z0) (hr:∀ s∈a,∀ q,z0 q=z0 s->lk f s q=some true):kg (f+1) a b=some true:=by
 have he:=uk hz
 have hL:=EY (a:=a) (b:=b) (L:=nr a b (lk f)) hl he (fun m k hk hk' hd hi hj=>by
  rw[nr,if_pos hd,hi,obs,hj,obs,hr _ (getElem_mem hk) _ (sv hz hk hk'),obs,if_neg (by simp)]) (fun m=>by rw[nr,if_neg (by simp)])
 rw[kg,he,if_neg (by simp),hL,obs]
theorem ZP {q s} (h:z0 q=z0 s):q.aa=s.aa/\q.fX=s.fX/\q.fY=s.fY/\q.af=s.af/\q.av=s.av/\q.fE=s.fE/\q.bN=s.bN/\q.au.map z0=s.au.map z0/\q.aZ.map z0=s.aZ.map z0:=by
 rw[Jr,Jr s] at h
 injection h with h1 h2 h3 h4 h5 h6 h7 h8 h9 h0
 exact⟨h1,h2,h3,h4,h5,h6,h7,h8,h9⟩
theorem YF : ∀ (f:Nat) (s q:ah),cc s<=1000000->z0 q=z0 s->2 * cc s<=f->lk f s q=some true
 | 0,s,q,_,_,h=>by have:=lI s;omega
 | 1,s,q,_,_,h=>by have:=lI s;omega
 | f+2,s,q,hm,hz,h=>by
  obtain⟨e1,e2,e3,e4,e5,e6,e7,e8,e9⟩:=ZP hz
  have hp:=nW s
  have hb:=Wk s
  have hE:=Pt (bL s.fE+bL s.fE+1) s.fE (by omega) (by omega)
  have hA:=EY (a:=s.bN) (b:=s.bN) (L:=nG s q) (by omega) rfl (fun m k hk _ hd hi _=>by
   have:=hp.2.2.2.2 _ (getElem_mem hk)
   rw[nG,if_pos hd,hi,obs,e7,hi,obs,Pt _ _ (by omega) (by omega),obs,if_neg (by simp)]) (fun m=>by rw[nG,if_neg (by simp)])
  have hB:=TI (f:=f) (a:=s.au) (b:=q.au) (by omega) e8 fun x hx y hy=>YF f x y (by have:=wA hx;omega) hy (by have:=wA hx;omega)
  have hC:=TI (f:=f) (a:=s.aZ) (b:=q.aZ) (by omega) e9 fun x hx y hy=>YF f x y (by have:=xh hx;omega) hy (by have:=xh hx;omega)
  rw[lk,e1,e2,e3,e4,e5,e6,e7,hE]
  simp only[bne_self_eq_false,Bool.false_eq_true,if_false,beq_self_eq_true,Bool.not_true,adc,obs]
  rw[hA,obs,hB,obs,if_pos rfl,hC,obs]
theorem YY {a b} (hl:a.length<=1000000) (hz:b.map zV=a.map zV):qk a b false=some true:=by
 have he:=uk hz
 have hL:=EY (a:=a) (b:=b) (L:=nz a b false) hl he (fun m k hk hk' hd hi hj=>by
  have hg:=sv hz hk hk'
  unfold zV at hg
  injection hg with g1 g2
  rw[nz,if_pos hd,hi,obs,hj,obs,g1,if_neg (by simp),obs,obs,g2,adc,if_neg (by simp),if_neg (by simp),obs,if_neg (by simp)]) (fun m=>by rw[nz,if_neg (by simp)])
 unfold qk
 rw[he,if_neg (by simp),hL,obs]
theorem aeX {x y} (hp:x.ac.length<=1000) (hl:x.bC.length<=1000) (hm:cC x.au<=1000000) (hz:zM y=zM x):uU x y false=some true:=by
 unfold zM at hz
 injection hz with e1 e2 e3 e4 e5 e6 e7
 have hB:=TI (f:=cC x.au+cC x.au) (a:=x.au) (b:=y.au) (by have:=MU x.au;omega) e6 fun s hs q hq=>YF _ s q (by have:=qq hs;omega) hq (by have:=qq hs;omega)
 unfold uU
 rw[e1,e2,e3,(II e6).1,YY (by omega) e4,YY (by omega) e5,hB]
 simp only[bne_self_eq_false,Bool.false_eq_true,if_false,beq_self_eq_true,Bool.not_true,adc,obs,if_true]
theorem afu {c d} (hb:BC c) (hz:zC d=zC c):wG c d false=some true:=by
 unfold zC at hz
 injection hz with e1 e2 e3 e4 e5 e6 e7
 have h1:=EY (a:=c.ac) (b:=c.ac) (L:=pd c d) (by have:=hb.p;omega) rfl (fun m k hk _ hv hi _=>by
  rw[pd,if_pos hv,e2,hi,obs,obs,if_neg (by simp)]) (fun m=>by rw[pd,if_neg (by simp)])
 have h2:=EY (a:=c.bl) (b:=c.bl) (L:=pg c d) (by have:=hb.a;omega) rfl (fun m k hk _ hv hi _=>by
  rw[pg,if_pos hv,e4,hi,obs,obs,if_neg (by simp[jx])]) (fun m=>by rw[pg,if_neg (by simp)])
 have h3:=EY (a:=c.ak) (b:=d.ak) (L:=pk c d false) (by have:=hb.m;omega) (uk e6) (fun m k hk hk' hv hi hj=>by
  have hx:=hb.ms _ (getElem_mem hk)
  rw[pk,if_pos hv,hi,obs,hj,obs,aeX hx.p hx.l hx.b (sv e6 hk hk'),obs,if_neg (by simp)]) (fun m=>by rw[pk,if_neg (by simp)])
 unfold wG
 rw[e1,e3,e2,e4,uk e6]
 simp only[bne_self_eq_false,Bool.false_eq_true,if_false,beq_self_eq_true,Bool.not_true,obs]
 rw[h1,obs,h2,obs,h3,obs,YY (by have:=hb.f;omega) e5,obs]
theorem aeP {p q} (hl:p.length<=1000000) (hb:∀ c∈p,BC c) (hz:q.map zC=p.map zC):uQ p q false=some true:=by
 have he:=uk hz
 have hL:=EY (a:=p) (b:=q) (L:=nF p q false) hl he (fun m k hk hk' hd hi hj=>by
  rw[nF,if_pos hd,hi,obs,hj,obs,afu (hb _ (getElem_mem hk)) (sv hz hk hk'),obs,if_neg (by simp)]) (fun m=>by rw[nF,if_neg (by simp)])
 unfold uQ
 rw[he,if_neg (by simp),hL,obs]
theorem aem {c q} (hb:BC c) (hz:zC q=zC c):BC q/\stC q=stC c:=by
 unfold zC at hz
 injection hz with e1 e2 e3 e4 e5 e6 e7
 have hM:∀ {y x:br},zM y=zM x->BM x->BM y/\gV y.au=gV x.au:=fun {y x} h hx=>by
  unfold zM at h
  injection h with f1 f2 f3 f4 f5 f6 f7
  obtain⟨m1,m2⟩:=II f6
  have h1:=uk f4
  have h2:=uk f5
  have:=hx.p
  have:=hx.l
  have:=hx.b
  exact⟨⟨by omega,by omega,by omega⟩,m2⟩
 have hms:∀ (a b:List br),b.map zM=a.map zM->(∀ x∈a,BM x)->(∀ y∈b,BM y)/\cg (fun x:br=>gV x.au) b=cg (fun x:br=>gV x.au) a:=fun a=>by
  induction a with
  | nil=>intro b h _;rw[map_nil] at h;rw[List.map_eq_nil_iff.1 h];exact⟨fun y hy=>(by cases hy),rfl⟩
  | cons x a ih=>
   intro b h hx
   cases b with
   | nil=>cases h
   | cons y b=>
    rw[map_cons,map_cons] at h
    injection h with h1 h2
    obtain⟨i1,i2⟩:=ih b h2 fun z hz=>hx z (by simp[hz])
    obtain⟨j1,j2⟩:=hM h1 (hx x (by simp))
    refine⟨fun z hz=> ?_,by simp only[cg];rw[j2,i2]⟩
    rcases List.mem_cons.1 hz with rfl | hz
    ·exact j1
    ·exact i1 z hz
 obtain⟨m1,m2⟩:=hms c.ak q.ak e6 hb.ms
 have h5:=uk e5
 have h6:=uk e6
 exact⟨⟨by rw[e2];exact hb.p,by rw[e4];exact hb.a,by rw[h5];exact hb.f,by rw[h6];exact hb.m,m1⟩,m2⟩
def agP (l:List (List KT)):List KT:=if l=[] then [] else(4,[60])::(cmP l++[(4,[62])])
def exP (ps:List (List UInt8)) (su:List UInt8) (ab:List ay):List KT:=if su=[] then [] else(0,[32])::(3,exW)::(0,[32])::(1,su)::agP (ab.map fun o=>[oK ps o])
def feP (ps:List (List UInt8)) (b:List UInt8) (v:cN):List KT:=(0,b)::(vaP ps v++[(4,[59]),(0,[10])])
def meP (ps:List (List UInt8)) (x:br):List KT:=(0,[9])::((if x.fm=true then [(3,puW),(0,[32])] else [])++(tyP ps x.aQ++(0,[32])::(1,x.af)::(4,[40])::(cmP (x.ac.map (vaP ps))++(4,[41])::(0,[32])::(4,[123])::(0,[10])::((x.bC.map (feP ps [9,9])).flatten++(wR ps x.au 2++[(0,[9]),(4,[125]),(0,[10])])))))
def clP (c:be):List KT:=(3,clW)::(0,[32])::(1,c.af)::(agP (c.ac.map fun p=>[(1,p)])++(exP c.ac c.cb c.bl++(0,[32])::(4,[123])::(0,[10])::((c.bn.map (feP c.ac [9])).flatten++((c.ak.map (meP c.ac)).flatten++[(4,[125]),(0,[10])]))))
theorem Yd (l:List (List KT)):tx (agP l)=Gv (l.map tx):=by
 unfold agP Gv
 rw[length_map]
 by_cases h:l=[]
 ·rw[if_pos h,if_pos (by rw[h];rfl)];rfl
 ·rw[if_neg h,if_neg (fun e=>h (eq_nil_of_length_eq_zero e)),dy,mp,Pq];rfl
theorem adK {l} (h:∀ x∈l,ok x=true):l=[]\/(∃ q,agP l=(4,[60])::(q++[(4,[62])])/\ok q=true):=by
 by_cases e:l=[]
 ·exact .inl e
 ·exact .inr ⟨cmP l,by unfold agP;rw[if_neg e],O4 h⟩
theorem XW {l} (h:∀ x∈l,ok x=true) {a q b} (ha:ok a=true) (hq:sp q=true) (hb:ok (q::b)=true):ok (a++(agP l++q::b))=true:=by
 rcases adK h with e | ⟨z,e,hz⟩
 ·rw[e]
  show ok (a++(q::b))=true
  have:ok b=true:=by
   unfold ok at hb
   rw[Bool.and_eq_true,Bool.and_eq_true] at hb
   exact hb.2.2
  exact fe ha hq this
 ·rw[e,cons_append,append_assoc]
  exact fe ha (by decide) (fe hz (by decide) hb)
theorem aeJ (ps:List (List UInt8)) (o:ay):tx [oK ps o]=gh o ps:=by simp[dy,kr,oK]
theorem Sj {α:Type} {f g}:∀ {l:List α},(∀ x∈l,tx (f x)=g x)->tx ((l.map f).flatten)=(l.map g).flatten
 | [],_=>rfl
 | x::l,h=>by rw[map_cons,map_cons,flatten_cons,flatten_cons,mp,h x (by simp),Sj fun y hy=>h y (by simp[hy])]
theorem Wu {α:Type} {f g}:∀ {l:List α},(∀ x∈l,tks (f x)=g x)->tks ((l.map f).flatten)=(l.map g).flatten
 | [],_=>rfl
 | x::l,h=>by rw[map_cons,map_cons,flatten_cons,flatten_cons,ed,h x (by simp),Wu fun y hy=>h y (by simp[hy])]
theorem XH {α:Type} {f}:∀ {l:List α},(∀ x∈l,OX (f x))->OX (l.map f).flatten
 | [],_=>fun b hb=>hb
 | x::l,h=>fun b hb=>by rw[map_cons,flatten_cons,append_assoc];exact h x (by simp) _ (XH (fun y hy=>h y (by simp[hy])) b hb)
theorem Ye {ps v} (h:VW ps v) (b:List UInt8):tx (feP ps b v)=b++(vaT ps v++[59,10]):=by unfold feP;rw[dy,mp,Yx h];rfl
theorem acq {ps} (hp:PN ps) {v} (h:VW ps v) {b} (hb:sp (0,b)=true):OX (feP ps b v):=fun c hc=>by
 unfold feP
 rw[cons_append,append_assoc]
 exact eh hb (fe (ZL hp h) (by decide) (eh (by decide) hc))
theorem abU {ps l} (h:∀ s∈l,OA ps s/\dSt s<=20) (hs:∀ s∈l,sR 20 (ps.length:Int) s=true):tx (wR ps l 2)=(l.map (stX ps)).flatten:=by
 rw[GU fun s hs=>Ud _ s 2 (Nat.le_refl _) (h s hs).1,Dh]
 congr 1
 exact map_congr_left fun s h1=>by unfold stX;rw[if_pos (hs s h1)]
theorem acW {ps x} (h:MW ps x) (hs:∀ s∈x.au,sR 20 (ps.length:Int) s=true):tx (meP ps x)=meT ps x:=by
 have hv:(x.ac.map (vaP ps)).map tx=x.ac.map (vaT ps):=by rw[map_map];exact map_congr_left fun v hv=>Yx (h.p.2 v hv)
 have hl:tx ((x.bC.map (feP ps [9,9])).flatten)=(x.bC.map (loT ps)).flatten:=Sj fun v hv=>Ye (h.l.2 v hv) _
 have hq:tx (if x.fm=true then [((3,puW):KT),(0,[32])] else [])=if x.fm=true then [112,117,114,101,32] else []:=by cases x.fm<;>rfl
 unfold meP meT hdT hmT
 simp only[dy,mp,kr]
 rw[hq,PR h.t,Pq,hv,hl,abU h.b hs]
 simp[append_assoc]
theorem aex {ps} (hp:PN ps) {x} (h:MW ps x):OX (meP ps x):=fun b hb=>by
 unfold meP
 simp only[cons_append,append_assoc]
 refine eh (by decide) ?_
 have h1:ok (tyP ps x.aQ++(0,[32])::(1,x.af)::(4,[40])::(cmP (x.ac.map (vaP ps))++(4,[41])::(0,[32])::(4,[123])::(0,[10])::((x.bC.map (feP ps [9,9])).flatten++(wR ps x.au 2++(0,[9])::(4,[125])::(0,[10])::([]++b)))))=true:=by
  refine fe (Ou hp h.t) (by decide) (fe (a:=[(1,x.af)]) (tB h.n) (by decide) (fe (O4 fun z hz=> ?_) (by decide) (eh (by decide) (eh (by decide) (eh (by decide) ?_)))))
  ·obtain⟨v,hv,rfl⟩:=List.mem_map.1 hz
   exact ZL hp (h.p.2 v hv)
  ·refine XH (fun v hv=>acq hp (h.l.2 v hv) (by decide)) _ (Iv (fun s hs=>Ut hp _ s 2 (Nat.le_refl _) (h.b s hs).1) _ (eh (by decide) (eh (by decide) (eh (by decide) hb))))
 cases x.fm with
 | false=>exact h1
 | true=>exact fe (a:=[(3,puW)]) (by decide) (by decide) h1
theorem adB {c} (h:CW c) (hs:∀ x∈c.ak,∀ s∈x.au,sR 20 (c.ac.length:Int) s=true):tx (clP c)=clT c:=by
 have h1:(c.ac.map fun p=>[((1,p):KT)]).map tx=c.ac:=by
  rw[map_map]
  conv=>rhs;rw[<- map_id c.ac]
  exact map_congr_left fun p _=>by simp[dy,kr]
 have h2:(c.bl.map fun o=>[oK c.ac o]).map tx=c.bl.map (gh · c.ac):=by rw[map_map];exact map_congr_left fun o _=>aeJ _ o
 have hf:tx ((c.bn.map (feP c.ac [9])).flatten)=(c.bn.map (feT c.ac)).flatten:=Sj fun v hv=>Ye (h.f.2 v hv) _
 have hm:tx ((c.ak.map (meP c.ac)).flatten)=(c.ak.map (meT c.ac)).flatten:=Sj fun x hx=>acW (h.m.2 x hx) (hs x hx)
 have he:tx (exP c.ac c.cb c.bl)=if c.cb=[] then [] else [32,101,120,116,101,110,100,115,32]++(c.cb++Gv (c.bl.map (gh · c.ac))):=by
  unfold exP
  by_cases e:c.cb=[]
  ·rw[if_pos e,if_pos e];rfl
  ·rw[if_neg e,if_neg e];simp only[dy];rw[Yd,h2];rfl
 unfold clP clT fiT
 simp only[dy,mp,kr]
 rw[Yd,h1,he,hf,hm]
 simp[append_assoc]
theorem aeu {c} (h:CW c):OX (clP c):=fun b hb=>by
 have h3:ok ((0,[32])::(4,[123])::(0,[10])::((c.bn.map (feP c.ac [9])).flatten++((c.ak.map (meP c.ac)).flatten++((4,[125])::(0,[10])::([]++b)))))=true:=
  eh (by decide) (eh (by decide) (eh (by decide) (XH (fun v hv=>acq h.hp (h.f.2 v hv) (by decide)) _ (XH (fun x hx=>aex h.hp (h.m.2 x hx)) _ (eh (by decide) (eh (by decide) hb))))))
 have hn:∀ x∈(c.ac.map fun p=>[((1,p):KT)]),ok x=true:=fun x hx=>by obtain⟨p,hp,rfl⟩:=List.mem_map.1 hx;exact tB (h.hp.v p hp)
 have ho:∀ x∈(c.bl.map fun o=>[oK c.ac o]),ok x=true:=fun x hx=>by obtain⟨o,ho,rfl⟩:=List.mem_map.1 hx;exact ZJ h.hp (h.ab.2 o ho).1
 unfold clP
 simp only[cons_append,append_assoc]
 refine fe (a:=[(3,clW)]) (by decide) (by decide) ?_
 unfold exP
 by_cases e:c.cb=[]
 ·rw[if_pos e,nil_append]
  exact XW hn (a:=[(1,c.af)]) (tB h.n) (by decide) h3
 ·rw[if_neg e]
  simp only[cons_append]
  refine XW hn (a:=[(1,c.af)]) (tB h.n) (by decide) (eh (by decide) (fe (a:=[(3,exW)]) (by decide) (by decide) ?_))
  exact XW ho (a:=[(1,c.cb)]) (tB (h.s1 e)) (by decide) h3
theorem aah {α:Type} (f:α->KT) (l:List α):tks (agP (l.map fun o=>[f o]))=match l with | []=>[] | o::os=>(4,[60])::(tks (cmP ((o::os).map fun o=>[f o]))++[(4,[62])]):=by
 cases l with
 | nil=>rfl
 | cons o os=>unfold agP;rw[if_neg (by simp),cf (by decide),ed];rfl
theorem adh (ps:List (List UInt8)) (b:List UInt8) (v:cN):tks (feP ps b v)=vaK ps v++[(4,[59])]:=by unfold feP;rw[de,ed,Uo,cf (by decide),de];rfl
theorem acA (ps:List (List UInt8)) (b:List UInt8) (l:List cN):tks ((l.map (feP ps b)).flatten)=lok ps l:=Wu fun v _=>adh ps b v
theorem acQ (ps:List (List UInt8)) (x:br):tks (meP ps x)=meK ps x:=by
 have hq:tks (if x.fm=true then [((3,puW):KT),(0,[32])] else [])=if x.fm=true then [(3,puW)] else []:=by cases x.fm<;>rfl
 unfold meP meK mbK
 rw[de,ed,hq,ed,de,cf (by decide),cf (by decide),ed,cf (by decide),de,cf (by decide),de,ed,acA,ed,de,cf (by decide),de]
 rfl
theorem ade (c:be):tks (clP c)=clK c:=by
 have h1:tks (agP (c.ac.map fun p=>[((1,p):KT)]))=nmA c.ac:=by rw[aah (fun p=>((1,p):KT))];cases c.ac<;>rfl
 have h2:tks (exP c.ac c.cb c.bl)=exK c.ac c.cb c.bl:=by
  unfold exP exK
  by_cases e:c.cb=[]
  ·rw[if_pos e,if_pos e];rfl
  ·rw[if_neg e,if_neg e,de,cf (by decide),de,cf (by decide),aah];cases c.bl<;>rfl
 unfold clP clK
 rw[cf (by decide),de,cf (by decide),ed,h1,ed,h2,de,cf (by decide),de,ed,acA,ed,show tks ((c.ak.map (meP c.ac)).flatten)=mfK c.ac c.ak from Wu fun x _=>acQ _ x,cf (by decide),de]
 rfl
structure PW (p:List be):Prop where
 n:p.length<=20
 s:cg stC p<=400
 c:∀ c∈p,CW c
 b:∀ c∈p,BC c
 r:∀ c∈p,∀ x∈c.ak,∀ s∈x.au,sR 20 (c.ac.length:Int) s=true
theorem aba {p} (h:PW p) (hl:(p.map clT).flatten.length<=16384):∃ q,xg (p.map clT).flatten=some (q,aM)/\q.map zC=p.map zC:=by
 have e:tx ((p.map clP).flatten)=(p.map clT).flatten:=Sj fun c hc=>adB (h.c c hc) (h.r c hc)
 have ho:ok ((p.map clP).flatten)=true:=by have:=XH (f:=clP) (fun c hc=>aeu (h.c c hc)) [] rfl;rwa [append_nil] at this
 have hk:tks ((p.map clP).flatten)=(p.map clK).flatten:=Wu fun c _=>ade c
 rw[<- e] at hl ⊢
 obtain⟨l,t,h1,h2,h3,h4⟩:=adq ho hl
 have hat:At (l++[t]) 0 ((p.map clK).flatten++[(0,[])]):=⟨[],by rw[drop_zero,map_append,h2,hk,append_nil,map_cons,h3];rfl⟩
 have hn:=h.n
 obtain⟨qs,hq,hz⟩:=acz (by rw[length_append];simp only[length_cons,length_nil];omega) p [] 0 ((tx ((p.map clP).flatten)).length+64) 0 aM h.c (by rw[length_nil];omega) (by have:=h.s;omega) (fun c hc q hz=>by
  obtain⟨b1,b2⟩:=aem (h.b c hc) hz
  have:=NJ stC hc
  have:=h.s
  rw[<- b2]
  exact rr b1 (by omega)) hat (by omega)
 refine⟨qs,?_,hz⟩
 unfold xg
 rw[h1,obs]
 simp only
 rw[if_neg (by decide)]
 exact(congrArg (fun o=>Option.bind o _) hq).trans rfl
theorem QT {y} (hl:y.ac.length<=1000000) {K} (hK:K < y.ac.length):∀ (n m:Nat),n+m=K+1->m<=K->mg (K:Int) y n (m:Int)=some (.stop true)\/(mg (K:Int) y n (m:Int)=some (.next ())/\∀ j,m<=j->(h:j < K)->y.ac[j]≠y.ac[K])
 | 0,m,h,hm=>by omega
 | n+1,m,h,hm=>by
  rw[mg]
  by_cases hlt:m < K
  ·rw[if_pos (by simpa using hlt),cU (show m < y.ac.length by omega),obs,cU hK,obs]
   by_cases he:y.ac[m]=y.ac[K]
   ·rw[if_pos (by simpa using he)];exact .inl rfl
   ·rw[if_neg (by simpa using he),cn hlt (by omega)]
    rcases QT hl hK n (m+1) (by omega) (by omega) with q | ⟨q,hq⟩
    ·exact .inl q
    ·refine .inr ⟨q,fun j h1 h2=> ?_⟩
     by_cases e:j=m
     ·subst e;exact he
     ·exact hq j (by omega) h2
  ·rw[if_neg (by simpa using hlt)]
   exact .inr ⟨rfl,fun j h1 h2=>by omega⟩
theorem QK {y} (hl:y.ac.length<=1000000):∀ (n k:Nat),n+k=y.ac.length+1->k<=y.ac.length->mb y n (k:Int)=some (.stop true)\/(mb y n (k:Int)=some (.next ())/\∀ i j (hi:i < j) (hj:j < y.ac.length),k<=j->y.ac[i]≠y.ac[j])
 | 0,k,h,hk=>by omega
 | n+1,k,h,hk=>by
  rw[mb]
  by_cases hlt:k < y.ac.length
  ·rw[if_pos (by simpa using hlt),Ac k]
   rcases QT hl hlt (k+1) 0 (by omega) (by omega) with q | ⟨q,hq⟩
   ·rw[show (0:Int)=((0:Nat):Int) from rfl,q,obs,C9];exact .inl rfl
   ·rw[show (0:Int)=((0:Nat):Int) from rfl,q,obs,Bc,cn hlt (by omega)]
    rcases QK hl n (k+1) (by omega) (by omega) with z | ⟨z,hz⟩
    ·exact .inl z
    ·refine .inr ⟨z,fun i j hi hj hk=> ?_⟩
     by_cases e:j=k
     ·subst e;exact hq i (by omega) hi
     ·exact hz i j hi hj (by omega)
  ·rw[if_neg (by simpa using hlt)]
   exact .inr ⟨rfl,fun i j hi hj hk=>by omega⟩
theorem SD {p} (hl:p.length<=1000000) (hc:∀ c∈p,c.ac.length<=1000000):∀ (n k:Nat),n+k=p.length+1->k<=p.length->me p n (k:Int)=some (.stop true)\/(me p n (k:Int)=some (.next ())/\∀ j,k<=j->(h:j < p.length)->p[j].ac.Pairwise (·≠·))
 | 0,k,h,hk=>by omega
 | n+1,k,h,hk=>by
  rw[me]
  by_cases hlt:k < p.length
  ·rw[if_pos (by simpa using hlt),cU hlt,obs,gq]
   rcases QK (hc _ (getElem_mem hlt)) (p[k].ac.length+1) 0 (by omega) (by omega) with q | ⟨q,hq⟩
   ·rw[show (0:Int)=((0:Nat):Int) from rfl,q,obs,C9];exact .inl rfl
   ·rw[show (0:Int)=((0:Nat):Int) from rfl,q,obs,Bc,cn hlt (by omega)]
    rcases SD hl hc n (k+1) (by omega) (by omega) with z | ⟨z,hz⟩
    ·exact .inl z
    ·refine .inr ⟨z,fun j h1 h2=> ?_⟩
     by_cases e:j=k
     ·subst e;exact List.pairwise_iff_getElem.2 fun i j' hi hj hij=>hq i j' hij hj (by omega)
     ·exact hz j (by omega) h2
  ·rw[if_neg (by simpa using hlt)]
   exact .inr ⟨rfl,fun j h1 h2=>by omega⟩
theorem ZB {p} (hl:p.length<=1000000) (hc:∀ c∈p,c.ac.length<=1000000):∃ b,sV p=some b/\(b=false->∀ c∈p,c.ac.Pairwise (·≠·)):=by
 unfold sV
 rw[gq,show (0:Int)=((0:Nat):Int) from rfl]
 rcases SD hl hc (p.length+1) 0 (by omega) (by omega) with q | ⟨q,hq⟩
 ·rw[q,obs,C9];exact⟨true,rfl,fun e=>by cases e⟩
 ·rw[q,obs,Bc]
  refine⟨false,rfl,fun _ c hc=> ?_⟩
  obtain⟨j,hj,rfl⟩:=getElem_of_mem hc
  exact hq j (by omega) hj
theorem aeq {p} (hb:BP p) (h:rS p=true) (hu:∀ c∈p,c.ac.Pairwise (·≠·)):PW p:=by
 unfold rS at h
 simp only[Bool.and_eq_true,decide_eq_true_eq,all_eq_true] at h
 refine⟨h.1,h.2.2,fun c hc=>afj (hb.c c hc) (h.2.1 c hc) (hu c hc),hb.c,fun c hc x hx s hs=> ?_⟩
 have:=h.2.1 c hc
 unfold clS at this
 simp only[Bool.and_eq_true,all_eq_true] at this
 have h2:=this.2.2.2 x hx
 unfold DI bdL at h2
 simp only[Bool.and_eq_true,all_eq_true] at h2
 exact h2.2.2.2.2.1 s hs
theorem Am {a0} (h0:kj (fun y=>vk y) a0) (hu:cg mF a0<=1048576):rm a0=some true:=by
 obtain⟨b,hb,hl⟩:=WQ h0
 unfold rm
 rw[hb,obs,IR]
 cases b with
 | true=>rw[if_pos rfl,obs]
 | false=>
  obtain⟨hn,hc⟩:=hl rfl
  have hB:=aeV hn hc hu
  rw[if_neg (by decide),PQ hB,obs,JX hB,obs]
  unfold prX
  cases hr:rS a0 with
  | false=>rw[if_pos (by decide),if_neg Bool.false_ne_true];rfl
  | true=>
   obtain⟨t,ht,htu⟩:=ZB (p:=a0) (by have:=hB.n;omega) (fun c hc=>by have:=(hB.c c hc).p;omega)
   rw[if_neg (by decide),if_pos rfl,ht]
   by_cases hlen:(a0.map clT).flatten.length > 16384
   ·rw[if_pos (decide_eq_true (by omega)),obs,if_pos rfl,obs]
   ·rw[if_neg (fun e=>hlen (by have:=of_decide_eq_true e;omega)),obs,obs]
    cases t with
    | true=>rw[if_pos rfl,obs]
    | false=>
     obtain⟨q,h1,h2⟩:=aba (aeq hB hr (htu rfl)) (by omega)
     rw[if_neg (by decide),h1,obs]
     simp only
     rw[if_pos (by decide),aeP (by have:=hB.n;omega) hB.c h2,obs,if_pos rfl,obs]
end Go.Proofs.YtjimbkljclfflaaGreatDoor
