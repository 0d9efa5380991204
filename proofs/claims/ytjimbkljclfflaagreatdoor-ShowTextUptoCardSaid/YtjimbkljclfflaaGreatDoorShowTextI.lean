/- A part of the proof that the law ShowText gives true for every input. -/
import Derived.Test.YtjimbkljclfflaaGreatDoorShowTextT
/- What the iterators yield. -/
namespace Go.Proofs.YtjimbkljclfflaaGreatDoor
open Go.RowKit Go.Abs





































































theorem qc (l:List au):∀ m,m≤l.length→(dv l m).length=m
 | 0,_=>rfl
 | m+1,h=>by
  have hm:l[m]? =some l[m]:=List.getElem?_eq_getElem (by omega)
  simp only[dv,hm,List.length_cons,qc l m (by omega)]
theorem rJ {l:List au} {rows:List (Int×au)} {sp:Nat} (hl:l.length < 4611686018427387904) (hrl:rows.length=l.length):∀ (m k fuel:Nat),k+m=l.length→m+1≤fuel→rows.drop k=dv l m→k≤sp→
  ∃ r,dD l sp rows fuel k ((m:Int) - 1)=some r∧Ctl.elim r (fun v=>v) (fun v=>v)=min (sp+1) rows.length
 | m,k,0,_,hf,_,_=>by omega
 | 0,k,fuel+1,hk,_,_,hs=>by
  refine⟨.next k,?_,?_⟩
  ·simp only[dD]
   rw[if_neg (by simp)]
  ·show k=_
   omega
 | m+1,k,fuel+1,hk,hf,hd,hs=>by
  have hm:m < l.length:=by omega
  have hmg:l[m]? =some l[m]:=List.getElem?_eq_getElem hm
  simp only[dv,hmg] at hd
  have h1:rows[k]? =some ((m:Int),l[m]):=by
   have:=congrArg (fun z=>z[0]?) hd
   simpa using this
  have h2:rows.drop (k+1)=dv l m:=by
   have:=congrArg (fun z=>z.drop 1) hd
   simpa using this
  simp only[dD]
  have e:(((m+1:Nat):Int) - 1)=(m:Int):=by omega
  rw[e,if_pos (by simp),cR hm]
  simp only[obs,QX h1 hs]
  by_cases hsp:k=sp
  ·rw[if_pos (by simp[hsp])]
   refine⟨_,rfl,?_⟩
   show k+1=_
   omega
  ·rw[if_neg (by simpa using hsp),w64 (by omega) (by omega)]
   exact rJ hl hrl m (k+1) fuel (by omega) (by omega) h2 (by omega)
theorem wU {l:List au} {rows:List (Int×au)} (h:jL l=some rows):∀ sp,gu rows sp l=some (min (sp+1) rows.length):=by
 intro sp
 unfold jL at h
 split at h
 ·rename_i hl
  cases h
  unfold gu
  rw[w64 (by omega) (by omega)]
  have hlen:=qc l l.length (Nat.le_refl _)
  obtain⟨r,h1,h2⟩:=rJ (sp:=sp) hl hlen l.length 0 ((((l.length:Int) - 1:Int) - (0)).toNat+2) (by omega) (by omega) (by simp) (by omega)
  rw[h1]
  cases r with
  | stop v=>simpa [obs,Ctl.elim] using h2
  | next v=>simpa [obs,Ctl.elim] using h2
 ·cases h


theorem S4 (x:au):DD x=x::qb x.aZ:=by cases x;simp only[DD]
theorem Rb (x:au):cr x=1+dB x.aZ:=by cases x;simp only[cr]
theorem Iu : ∀ (a b:List au),qb (a++b)=qb a++qb b
 | [],b=>rfl
 | x::a,b=>by simp only[List.cons_append,qb,Iu a b,List.append_assoc]
theorem Ju : ∀ (a b:List au),dB (a++b)=dB a+dB b
 | [],b=>by simp[dB]
 | x::a,b=>by simp only[List.cons_append,dB,Ju a b];omega
theorem CE : ∀ (l:List au),l.length≤dB l
 | []=>by simp
 | x::l=>by have:=CE l;have:=Rb x;simp only[List.length_cons,dB];omega
theorem LU (kids:List au):∀ (m:Nat) (stk:List au),m≤kids.length→stk.length+m≤1000000→Au nR (dv kids m) stk=some (.next (stk++(kids.take m).reverse))
 | 0,stk,_,_=>by simp[dv,Au]
 | m+1,stk,h,hl=>by
  have hm:kids[m]? =some kids[m]:=List.getElem?_eq_getElem (by omega)
  simp only[dv,hm,Au,nR]
  have hi:idx (stk++([gv]:List au)) (stk.length:Int)=some gv:=by
   rw[cR (by simp)];simp
  have hs:(stk++([gv]:List au)).set ((stk.length:Int)).toNat kids[m]=stk++[kids[m]]:=by
   rw[Int.toNat_natCast,List.set_append];simp
  rw[lq (by simp;omega),obs,hi,obs,hs,obs]
  simp only[Ctl.elim]
  rw[LU kids m _ (by omega) (by simp;omega),List.take_succ_eq_append_getElem (by omega),List.reverse_append]
  simp
theorem UG {rows:List au} {sp:Nat}:∀ (fuel k:Nat) (r:List au),rows.drop k=qb r→k≤sp→k≤rows.length→dB r < fuel→dB r≤1000000→
  ∃ res,mc sp rows fuel k r.reverse=some res∧Ctl.elim res (fun v=>v) (fun v=>v)=min (sp+1) rows.length
 | 0,k,r,_,_,_,h,_=>by omega
 | fuel+1,k,[],hd,hk,hkr,_,_=>by
  have hlen:rows.length≤k:=by have:=congrArg List.length hd;simp[qb] at this;omega
  refine⟨.next k,by simp[mc],?_⟩
  show k=_
  omega
 | fuel+1,k,x::r,hd,hk,hkr,hf,hM=>by
  have hlm:=CE (x::r)
  have hmx:=Rb x
  simp only[dB] at hf hM hlm
  simp only[qb,S4 x,List.cons_append] at hd
  have h1:rows[k]? =some x:=by
   have:=congrArg (fun z=>z[0]?) hd
   simpa using this
  have h2:rows.drop (k+1)=qb x.aZ++qb r:=by
   have:=congrArg (fun z=>z.drop 1) hd
   simpa using this
  have hkl:=(List.getElem?_eq_some_iff.1 h1).1
  simp only[List.length_cons] at hlm
  simp only[mc,List.reverse_cons]
  have hlr:(r.reverse++[x]).length=r.length+1:=by simp
  have hw:ae (((r.reverse++[x]).length:Int) - 1)=(r.length:Int):=by rw[hlr,w64 (by omega) (by omega)];omega
  have hi:idx (r.reverse++[x]) (r.length:Int)=some x:=by rw[cR (by simp)];simp
  have hc:jG (r.reverse++[x]) 0 (r.length:Int)=some r.reverse:=by
   unfold jG
   rw[if_pos ⟨by omega,by omega,by simp;omega⟩]
   simp
  rw[if_pos (by simp<;>omega),hw,hi,obs,hc,obs,QX h1 hk,obs]
  by_cases hsp:k=sp
  ·refine⟨.stop (k+1),by simp[hsp],?_⟩
   show k+1=_
   omega
  ·have hkids:=CE x.aZ
   have hr2:=CE r
   have hb:jL x.aZ=some (dv x.aZ x.aZ.length):=by unfold jL;rw[if_pos (by omega)]
   rw[if_neg (by simpa using hsp)]
   unfold gZ
   rw[obs,hb,obs,LU x.aZ x.aZ.length r.reverse (Nat.le_refl _) (by rw[List.length_reverse];omega),obs]
   simp only[Ctl.elim,List.take_length]
   rw[← List.reverse_append]
   exact UG fuel (k+1) (x.aZ++r) (by rw[h2,Iu]) (by omega) (by omega) (by rw[Ju];omega) (by rw[Ju];omega)
theorem Nq {e:au} {rows:List au} (h:CF e=some rows):∀ sp,vl rows sp e=some (min (sp+1) rows.length):=by
 intro sp
 unfold CF at h
 split at h
 ·rename_i hm
  cases h
  obtain⟨r,h1,h2⟩:=UG (rows:=DD e) (sp:=sp) (cr e+2) 0 [e] (by simp[qb]) (by omega) (by omega) (by simp[dB]) (by simpa [dB] using hm)
  unfold vl
  rw[show ([e]:List au)=[e].reverse from rfl,h1]
  cases r with
  | stop v=>simpa [obs,Ctl.elim] using h2
  | next v=>simpa [obs,Ctl.elim] using h2
 ·cases h



























































































end Go.Proofs.YtjimbkljclfflaaGreatDoor
