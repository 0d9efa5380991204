/- A part of the proof that the law ShowBack gives true for every input. -/
import Derived.Test.YtjimbkljclfflaaGreatDoorShowBackT
/- What the iterators yield. -/
namespace Go.Proofs.YtjimbkljclfflaaGreatDoor
open List
open Go.RowKit Go.Abs































































































theorem rY (l:List ai):∀ m,m<=l.length->(dB l m).length=m
 | 0,_=>rfl
 | m+1,h=>by
  have hm:l[m]? =some l[m]:=getElem?_eq_getElem (by omega)
  simp only[dB,hm,length_cons,rY l m (by omega)]
theorem ue {l:List ai} {rows:List (Int×ai)} {sp:Nat} (hl:l.length < 4611686018427387904) (hrl:rows.length=l.length):∀ (m k fuel:Nat),k+m=l.length->m+1<=fuel->rows.drop k=dB l m->k<=sp->
  ∃ r,dW l sp rows fuel k ((m:Int) - 1)=some r/\Ctl.elim r (fun v=>v) (fun v=>v)=min (sp+1) rows.length
 | m,k,0,_,hf,_,_=>by omega
 | 0,k,fuel+1,hk,_,_,hs=>by
  refine⟨.next k,?_,?_⟩
  ·simp only[dW]
   rw[if_neg (by simp)]
  ·show k=_
   omega
 | m+1,k,fuel+1,hk,hf,hd,hs=>by
  have hm:m < l.length:=by omega
  have hmg:l[m]? =some l[m]:=getElem?_eq_getElem hm
  simp only[dB,hmg] at hd
  have h1:rows[k]? =some ((m:Int),l[m]):=by
   have:=congrArg (fun z=>z[0]?) hd
   simpa using this
  have h2:rows.drop (k+1)=dB l m:=by
   have:=congrArg (fun z=>z.drop 1) hd
   simpa using this
  simp only[dW]
  have e:(((m+1:Nat):Int) - 1)=(m:Int):=by omega
  rw[e,if_pos (by simp),cU hm]
  simp only[obs,aag h1 hs]
  by_cases hsp:k=sp
  ·rw[if_pos (by simp[hsp])]
   refine⟨_,rfl,?_⟩
   show k+1=_
   omega
  ·rw[if_neg (by simpa using hsp),w64 (by omega) (by omega)]
   exact ue hl hrl m (k+1) fuel (by omega) (by omega) h2 (by omega)
theorem zA {l:List ai} {rows:List (Int×ai)} (h:kS l=some rows):∀ sp,iv rows sp l=some (min (sp+1) rows.length):=by
 intro sp
 unfold kS at h
 split at h
 ·rename_i hl
  cases h
  unfold iv
  rw[w64 (by omega) (by omega)]
  have hlen:=rY l l.length (Nat.le_refl _)
  obtain⟨r,h1,h2⟩:=ue (sp:=sp) hl hlen l.length 0 ((((l.length:Int) - 1:Int) - (0)).toNat+2) (by omega) (by omega) (by simp) (by omega)
  rw[h1]
  cases r with
  | stop v=>simpa [obs,Ctl.elim] using h2
  | next v=>simpa [obs,Ctl.elim] using h2
 ·cases h


theorem abD (x:ai):JK x=x::sb x.az:=by cases x;simp only[JK]
theorem Zl (x:ai):bL x=1+dL x.az:=by cases x;simp only[bL]
theorem MJ : ∀ (a b:List ai),sb (a++b)=sb a++sb b
 | [],b=>rfl
 | x::a,b=>by simp only[cons_append,sb,MJ a b,append_assoc]
theorem Py : ∀ (a b:List ai),dL (a++b)=dL a+dL b
 | [],b=>by simp[dL]
 | x::a,b=>by simp only[cons_append,dL,Py a b];omega
theorem Ig : ∀ (l:List ai),l.length<=dL l
 | []=>by simp
 | x::l=>by have:=Ig l;have:=Zl x;simp only[length_cons,dL];omega
theorem Re (kids:List ai):∀ (m:Nat) (stk:List ai),m<=kids.length->stk.length+m<=1000000->DQ pH (dB kids m) stk=some (.next (stk++(kids.take m).reverse))
 | 0,stk,_,_=>by simp[dB,DQ]
 | m+1,stk,h,hl=>by
  have hm:kids[m]? =some kids[m]:=getElem?_eq_getElem (by omega)
  simp only[dB,hm,DQ,pH]
  have hi:idx (stk++([cA]:List ai)) (stk.length:Int)=some cA:=by
   rw[cU (by simp)];simp
  have hs:(stk++([cA]:List ai)).set ((stk.length:Int)).toNat kids[m]=stk++[kids[m]]:=by
   rw[Int.toNat_natCast,set_append];simp
  rw[gz (by simp;omega),obs,hi,obs,hs,obs]
  simp only[Ctl.elim]
  rw[Re kids m _ (by omega) (by simp;omega),take_succ_eq_append_getElem (by omega),reverse_append]
  simp
theorem ach {rows:List ai} {sp:Nat}:∀ (fuel k:Nat) (r:List ai),rows.drop k=sb r->k<=sp->k<=rows.length->dL r < fuel->dL r<=1000000->
  ∃ res,nC sp rows fuel k r.reverse=some res/\Ctl.elim res (fun v=>v) (fun v=>v)=min (sp+1) rows.length
 | 0,k,r,_,_,_,h,_=>by omega
 | fuel+1,k,[],hd,hk,hkr,_,_=>by
  have hlen:rows.length<=k:=by have:=congrArg length hd;simp[sb] at this;omega
  refine⟨.next k,by simp[nC],?_⟩
  show k=_
  omega
 | fuel+1,k,x::r,hd,hk,hkr,hf,hM=>by
  have hlm:=Ig (x::r)
  have hmx:=Zl x
  simp only[dL] at hf hM hlm
  simp only[sb,abD x,cons_append] at hd
  have h1:rows[k]? =some x:=by
   have:=congrArg (fun z=>z[0]?) hd
   simpa using this
  have h2:rows.drop (k+1)=sb x.az++sb r:=by
   have:=congrArg (fun z=>z.drop 1) hd
   simpa using this
  have hkl:=(List.getElem?_eq_some_iff.1 h1).1
  simp only[length_cons] at hlm
  simp only[nC,reverse_cons]
  have hlr:(r.reverse++[x]).length=r.length+1:=by simp
  have hw:ae (((r.reverse++[x]).length:Int) - 1)=(r.length:Int):=by rw[hlr,w64 (by omega) (by omega)];omega
  have hi:idx (r.reverse++[x]) (r.length:Int)=some x:=by rw[cU (by simp)];simp
  have hc:jK (r.reverse++[x]) 0 (r.length:Int)=some r.reverse:=by
   unfold jK
   rw[if_pos ⟨by omega,by omega,by simp;omega⟩]
   simp
  rw[if_pos (by simp<;>omega),hw,hi,obs,hc,obs,aag h1 hk,obs]
  by_cases hsp:k=sp
  ·refine⟨.stop (k+1),by simp[hsp],?_⟩
   show k+1=_
   omega
  ·have hkids:=Ig x.az
   have hr2:=Ig r
   have hb:kS x.az=some (dB x.az x.az.length):=by unfold kS;rw[if_pos (by omega)]
   rw[if_neg (by simpa using hsp)]
   unfold ji
   rw[obs,hb,obs,Re x.az x.az.length r.reverse (Nat.le_refl _) (by rw[length_reverse];omega),obs]
   simp only[Ctl.elim,take_length]
   rw[<- reverse_append]
   exact ach fuel (k+1) (x.az++r) (by rw[h2,MJ]) (by omega) (by omega) (by rw[Py];omega) (by rw[Py];omega)
theorem TK {e:ai} {rows:List ai} (h:Ib e=some rows):∀ sp,xW rows sp e=some (min (sp+1) rows.length):=by
 intro sp
 unfold Ib at h
 split at h
 ·rename_i hm
  cases h
  obtain⟨r,h1,h2⟩:=ach (rows:=JK e) (sp:=sp) (bL e+2) 0 [e] (by simp[sb]) (by omega) (by omega) (by simp[dL]) (by simpa [dL] using hm)
  unfold xW
  rw[show ([e]:List ai)=[e].reverse from rfl,h1]
  cases r with
  | stop v=>simpa [obs,Ctl.elim] using h2
  | next v=>simpa [obs,Ctl.elim] using h2
 ·cases h













































































end Go.Proofs.YtjimbkljclfflaaGreatDoor
