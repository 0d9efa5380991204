/- A part of the proof that the law ShowText gives true for every input. -/
import Derived.Test.YtjimbkljclfflaaGreatDoorShowTextT
/- What the iterators yield. -/
namespace Go.Proofs.YtjimbkljclfflaaGreatDoor
open Go.RowKit Go.Abs





































































theorem qb (l:List au):∀ m,m≤l.length→(dv l m).length=m
 | 0,_=>rfl
 | m+1,h=>by
  have hm:l[m]? =some l[m]:=List.getElem?_eq_getElem (by omega)
  simp only[dv,hm,List.length_cons,qb l m (by omega)]
theorem rJ {l:List au} {rows:List (Int×au)} {sp:Nat} (hl:l.length < 4611686018427387904) (hrl:rows.length=l.length):∀ (m k fuel:Nat),k+m=l.length→m+1≤fuel→rows.drop k=dv l m→k≤sp→
  ∃ r,dD l sp rows fuel k ((m:Int) - 1)=some r∧Ctl.elim r (fun v=>v) (fun v=>v)=min (sp+1) rows.length
 | m,k,0,_,hf,_,_=>by omega
 | 0,k,fuel+1,hk,_,_,hs=>by
  refine⟨.next k,?_,?_⟩
  ·simp only[dD]
   rw[if_neg (by simp)]
  ·show k=_
   omega
 | m+1,k,fuel+1,hk,hf,hd,hs=>by
  have hm:m < l.length:=by omega
  have hmg:l[m]? =some l[m]:=List.getElem?_eq_getElem hm
  simp only[dv,hmg] at hd
  have h1:rows[k]? =some ((m:Int),l[m]):=by
   have:=congrArg (fun z=>z[0]?) hd
   simpa using this
  have h2:rows.drop (k+1)=dv l m:=by
   have:=congrArg (fun z=>z.drop 1) hd
   simpa using this
  simp only[dD]
  have e:(((m+1:Nat):Int) - 1)=(m:Int):=by omega
  rw[e,if_pos (by simp),cR hm]
  simp only[obs,Sb h1 hs]
  by_cases hsp:k=sp
  ·rw[if_pos (by simp[hsp])]
   refine⟨_,rfl,?_⟩
   show k+1=_
   omega
  ·rw[if_neg (by simpa using hsp),w64 (by omega) (by omega)]
   exact rJ hl hrl m (k+1) fuel (by omega) (by omega) h2 (by omega)
theorem wI {l:List au} {rows:List (Int×au)} (h:jQ l=some rows):∀ sp,gv rows sp l=some (min (sp+1) rows.length):=by
 intro sp
 unfold jQ at h
 split at h
 ·rename_i hl
  cases h
  unfold gv
  rw[w64 (by omega) (by omega)]
  have hlen:=qb l l.length (Nat.le_refl _)
  obtain⟨r,h1,h2⟩:=rJ (sp:=sp) hl hlen l.length 0 ((((l.length:Int) - 1:Int) - (0)).toNat+2) (by omega) (by omega) (by simp) (by omega)
  rw[h1]
  cases r with
  | stop v=>simpa [obs,Ctl.elim] using h2
  | next v=>simpa [obs,Ctl.elim] using h2
 ·cases h


theorem SX (x:au):Dj x=x::qc x.aZ:=by cases x;simp only[Dj]
theorem Qt (x:au):cr x=1+dB x.aZ:=by cases x;simp only[cr]
theorem GM : ∀ (a b:List au),qc (a++b)=qc a++qc b
 | [],b=>rfl
 | x::a,b=>by simp only[List.cons_append,qc,GM a b,List.append_assoc]
theorem Kn : ∀ (a b:List au),dB (a++b)=dB a+dB b
 | [],b=>by simp[dB]
 | x::a,b=>by simp only[List.cons_append,dB,Kn a b];omega
theorem CA : ∀ (l:List au),l.length≤dB l
 | []=>by simp
 | x::l=>by have:=CA l;have:=Qt x;simp only[List.length_cons,dB];omega
theorem LJ (kids:List au):∀ (m:Nat) (stk:List au),m≤kids.length→stk.length+m≤1000000→Ak om (dv kids m) stk=some (.next (stk++(kids.take m).reverse))
 | 0,stk,_,_=>by simp[dv,Ak]
 | m+1,stk,h,hl=>by
  have hm:kids[m]? =some kids[m]:=List.getElem?_eq_getElem (by omega)
  simp only[dv,hm,Ak,om]
  have hi:idx (stk++([gu]:List au)) (stk.length:Int)=some gu:=by
   rw[cR (by simp)];simp
  have hs:(stk++([gu]:List au)).set ((stk.length:Int)).toNat kids[m]=stk++[kids[m]]:=by
   rw[Int.toNat_natCast,List.set_append];simp
  rw[lj (by simp;omega),obs,hi,obs,hs,obs]
  simp only[Ctl.elim]
  rw[LJ kids m _ (by omega) (by simp;omega),List.take_succ_eq_append_getElem (by omega),List.reverse_append]
  simp
theorem UA {rows:List au} {sp:Nat}:∀ (fuel k:Nat) (r:List au),rows.drop k=qc r→k≤sp→k≤rows.length→dB r < fuel→dB r≤1000000→
  ∃ res,mB sp rows fuel k r.reverse=some res∧Ctl.elim res (fun v=>v) (fun v=>v)=min (sp+1) rows.length
 | 0,k,r,_,_,_,h,_=>by omega
 | fuel+1,k,[],hd,hk,hkr,_,_=>by
  have hlen:rows.length≤k:=by have:=congrArg List.length hd;simp[qc] at this;omega
  refine⟨.next k,by simp[mB],?_⟩
  show k=_
  omega
 | fuel+1,k,x::r,hd,hk,hkr,hf,hM=>by
  have hlm:=CA (x::r)
  have hmx:=Qt x
  simp only[dB] at hf hM hlm
  simp only[qc,SX x,List.cons_append] at hd
  have h1:rows[k]? =some x:=by
   have:=congrArg (fun z=>z[0]?) hd
   simpa using this
  have h2:rows.drop (k+1)=qc x.aZ++qc r:=by
   have:=congrArg (fun z=>z.drop 1) hd
   simpa using this
  have hkl:=(List.getElem?_eq_some_iff.1 h1).1
  simp only[List.length_cons] at hlm
  simp only[mB,List.reverse_cons]
  have hlr:(r.reverse++[x]).length=r.length+1:=by simp
  have hw:ae (((r.reverse++[x]).length:Int) - 1)=(r.length:Int):=by rw[hlr,w64 (by omega) (by omega)];omega
  have hi:idx (r.reverse++[x]) (r.length:Int)=some x:=by rw[cR (by simp)];simp
  have hc:jP (r.reverse++[x]) 0 (r.length:Int)=some r.reverse:=by
   unfold jP
   rw[if_pos ⟨by omega,by omega,by simp;omega⟩]
   simp
  rw[if_pos (by simp<;>omega),hw,hi,obs,hc,obs,Sb h1 hk,obs]
  by_cases hsp:k=sp
  ·refine⟨.stop (k+1),by simp[hsp],?_⟩
   show k+1=_
   omega
  ·have hkids:=CA x.aZ
   have hr2:=CA r
   have hb:jQ x.aZ=some (dv x.aZ x.aZ.length):=by unfold jQ;rw[if_pos (by omega)]
   rw[if_neg (by simpa using hsp)]
   unfold ig
   rw[obs,hb,obs,LJ x.aZ x.aZ.length r.reverse (Nat.le_refl _) (by rw[List.length_reverse];omega),obs]
   simp only[Ctl.elim,List.take_length]
   rw[← List.reverse_append]
   exact UA fuel (k+1) (x.aZ++r) (by rw[h2,GM]) (by omega) (by omega) (by rw[Kn];omega) (by rw[Kn];omega)
theorem NF {e:au} {rows:List au} (h:Cw e=some rows):∀ sp,vE rows sp e=some (min (sp+1) rows.length):=by
 intro sp
 unfold Cw at h
 split at h
 ·rename_i hm
  cases h
  obtain⟨r,h1,h2⟩:=UA (rows:=Dj e) (sp:=sp) (cr e+2) 0 [e] (by simp[qc]) (by omega) (by omega) (by simp[dB]) (by simpa [dB] using hm)
  unfold vE
  rw[show ([e]:List au)=[e].reverse from rfl,h1]
  cases r with
  | stop v=>simpa [obs,Ctl.elim] using h2
  | next v=>simpa [obs,Ctl.elim] using h2
 ·cases h



























































































end Go.Proofs.YtjimbkljclfflaaGreatDoor
