/- A part of the proof that the law ShowAgain gives true for every input. -/
import Derived.Test.YtjimbkljclfflaaGreatDoorShowAgainT
/- What the iterators yield. -/
namespace Go.Proofs.YtjimbkljclfflaaGreatDoor
open List
open Go.RowKit Go.Abs
































































































theorem qY (l:List au):∀ m,m<=l.length->(dW l m).length=m
 | 0,_=>rfl
 | m+1,h=>by
  have hm:l[m]? =some l[m]:=getElem?_eq_getElem (by omega)
  simp only[dW,hm,length_cons,qY l m (by omega)]
theorem sJ {l:List au} {rows:List (Int×au)} {sp:Nat} (hl:l.length < 4611686018427387904) (hrl:rows.length=l.length):∀ (m k fuel:Nat),k+m=l.length->m+1<=fuel->rows.drop k=dW l m->k<=sp->
  ∃ r,ek l sp rows fuel k ((m:Int) - 1)=some r/\Ctl.elim r (fun v=>v) (fun v=>v)=min (sp+1) rows.length
 | m,k,0,_,hf,_,_=>by omega
 | 0,k,fuel+1,hk,_,_,hs=>by
  refine⟨.next k,?_,?_⟩
  ·simp only[ek]
   rw[if_neg (by simp)]
  ·show k=_
   omega
 | m+1,k,fuel+1,hk,hf,hd,hs=>by
  have hm:m < l.length:=by omega
  have hmg:l[m]? =some l[m]:=getElem?_eq_getElem hm
  simp only[dW,hmg] at hd
  have h1:rows[k]? =some ((m:Int),l[m]):=by
   have:=congrArg (fun z=>z[0]?) hd
   simpa using this
  have h2:rows.drop (k+1)=dW l m:=by
   have:=congrArg (fun z=>z.drop 1) hd
   simpa using this
  simp only[ek]
  have e:(((m+1:Nat):Int) - 1)=(m:Int):=by omega
  rw[e,if_pos (by simp),dQ hm]
  simp only[obs,Xq h1 hs]
  by_cases hsp:k=sp
  ·rw[if_pos (by simp[hsp])]
   refine⟨_,rfl,?_⟩
   show k+1=_
   omega
  ·rw[if_neg (by simpa using hsp),w64 (by omega) (by omega)]
   exact sJ hl hrl m (k+1) fuel (by omega) (by omega) h2 (by omega)
theorem xd {l:List au} {rows:List (Int×au)} (h:lf l=some rows):∀ sp,iO rows sp l=some (min (sp+1) rows.length):=by
 intro sp
 unfold lf at h
 split at h
 ·rename_i hl
  cases h
  unfold iO
  rw[w64 (by omega) (by omega)]
  have hlen:=qY l l.length (Nat.le_refl _)
  obtain⟨r,h1,h2⟩:=sJ (sp:=sp) hl hlen l.length 0 ((((l.length:Int) - 1:Int) - (0)).toNat+2) (by omega) (by omega) (by simp) (by omega)
  rw[h1]
  cases r with
  | stop v=>simpa [obs,Ctl.elim] using h2
  | next v=>simpa [obs,Ctl.elim] using h2
 ·cases h


theorem YK (x:au):Fj x=x::qV x.aY:=by cases x;simp only[Fj]
theorem WU (x:au):bR x=1+ct x.aY:=by cases x;simp only[bR]
theorem Jw : ∀ (a b:List au),qV (a++b)=qV a++qV b
 | [],b=>rfl
 | x::a,b=>by simp only[cons_append,qV,Jw a b,append_assoc]
theorem Ma : ∀ (a b:List au),ct (a++b)=ct a+ct b
 | [],b=>by simp[ct]
 | x::a,b=>by simp only[cons_append,ct,Ma a b];omega
theorem DM : ∀ (l:List au),l.length<=ct l
 | []=>by simp
 | x::l=>by have:=DM l;have:=WU x;simp only[length_cons,ct];omega
theorem OI (kids:List au):∀ (m:Nat) (stk:List au),m<=kids.length->stk.length+m<=1000000->BE pw (dW kids m) stk=some (.next (stk++(kids.take m).reverse))
 | 0,stk,_,_=>by simp[dW,BE]
 | m+1,stk,h,hl=>by
  have hm:kids[m]? =some kids[m]:=getElem?_eq_getElem (by omega)
  simp only[dW,hm,BE,pw]
  have hi:idx (stk++([bT]:List au)) (stk.length:Int)=some bT:=by
   rw[dQ (by simp)];simp
  have hs:(stk++([bT]:List au)).set ((stk.length:Int)).toNat kids[m]=stk++[kids[m]]:=by
   rw[Int.toNat_natCast,set_append];simp
  rw[ed (by simp;omega),obs,hi,obs,hs,obs]
  simp only[Ctl.elim]
  rw[OI kids m _ (by omega) (by simp;omega),take_succ_eq_append_getElem (by omega),reverse_append]
  simp
theorem aaP {rows:List au} {sp:Nat}:∀ (fuel k:Nat) (r:List au),rows.drop k=qV r->k<=sp->k<=rows.length->ct r < fuel->ct r<=1000000->
  ∃ res,nj sp rows fuel k r.reverse=some res/\Ctl.elim res (fun v=>v) (fun v=>v)=min (sp+1) rows.length
 | 0,k,r,_,_,_,h,_=>by omega
 | fuel+1,k,[],hd,hk,hkr,_,_=>by
  have hlen:rows.length<=k:=by have:=congrArg length hd;simp[qV] at this;omega
  refine⟨.next k,by simp[nj],?_⟩
  show k=_
  omega
 | fuel+1,k,x::r,hd,hk,hkr,hf,hM=>by
  have hlm:=DM (x::r)
  have hmx:=WU x
  simp only[ct] at hf hM hlm
  simp only[qV,YK x,cons_append] at hd
  have h1:rows[k]? =some x:=by
   have:=congrArg (fun z=>z[0]?) hd
   simpa using this
  have h2:rows.drop (k+1)=qV x.aY++qV r:=by
   have:=congrArg (fun z=>z.drop 1) hd
   simpa using this
  have hkl:=(List.getElem?_eq_some_iff.1 h1).1
  simp only[length_cons] at hlm
  simp only[nj,reverse_cons]
  have hlr:(r.reverse++[x]).length=r.length+1:=by simp
  have hw:ah (((r.reverse++[x]).length:Int) - 1)=(r.length:Int):=by rw[hlr,w64 (by omega) (by omega)];omega
  have hi:idx (r.reverse++[x]) (r.length:Int)=some x:=by rw[dQ (by simp)];simp
  have hc:jW (r.reverse++[x]) 0 (r.length:Int)=some r.reverse:=by
   unfold jW
   rw[if_pos ⟨by omega,by omega,by simp;omega⟩]
   simp
  rw[if_pos (by simp<;>omega),hw,hi,obs,hc,obs,Xq h1 hk,obs]
  by_cases hsp:k=sp
  ·refine⟨.stop (k+1),by simp[hsp],?_⟩
   show k+1=_
   omega
  ·have hkids:=DM x.aY
   have hr2:=DM r
   have hb:lf x.aY=some (dW x.aY x.aY.length):=by unfold lf;rw[if_pos (by omega)]
   rw[if_neg (by simpa using hsp)]
   unfold jv
   rw[obs,hb,obs,OI x.aY x.aY.length r.reverse (Nat.le_refl _) (by rw[length_reverse];omega),obs]
   simp only[Ctl.elim,take_length]
   rw[<- reverse_append]
   exact aaP fuel (k+1) (x.aY++r) (by rw[h2,Jw]) (by omega) (by omega) (by rw[Ma];omega) (by rw[Ma];omega)
theorem P6 {e:au} {rows:List au} (h:DR e=some rows):∀ sp,wo rows sp e=some (min (sp+1) rows.length):=by
 intro sp
 unfold DR at h
 split at h
 ·rename_i hm
  cases h
  obtain⟨r,h1,h2⟩:=aaP (rows:=Fj e) (sp:=sp) (bR e+2) 0 [e] (by simp[qV]) (by omega) (by omega) (by simp[ct]) (by simpa [ct] using hm)
  unfold wo
  rw[show ([e]:List au)=[e].reverse from rfl,h1]
  cases r with
  | stop v=>simpa [obs,Ctl.elim] using h2
  | next v=>simpa [obs,Ctl.elim] using h2
 ·cases h



























































end Go.Proofs.YtjimbkljclfflaaGreatDoor
