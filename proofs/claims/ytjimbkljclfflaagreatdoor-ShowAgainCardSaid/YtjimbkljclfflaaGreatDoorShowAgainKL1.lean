/- A part of the proof that the law ShowAgain gives true for every input. -/
import Derived.Test.YtjimbkljclfflaaGreatDoorShowAgainA2
import Derived.Test.YtjimbkljclfflaaGreatDoorShowAgainA3
import Derived.Test.YtjimbkljclfflaaGreatDoorShowAgainT
import Derived.Test.YtjimbkljclfflaaGreatDoorShowAgainA5
import Derived.Test.YtjimbkljclfflaaGreatDoorShowAgainA4
import Derived.Test.YtjimbkljclfflaaGreatDoorShowAgainD
/- The plain law. -/
namespace Go.Proofs.YtjimbkljclfflaaGreatDoor
open List
open Go.RowKit Go.Abs
theorem kF (m:Nat):(((m:Int):Int) - (0)).toNat+1=m+1:=by omega
theorem wG {l e}:e∈l->cf e<=cb l:=by
 induction l with
 | nil=>intro h;simp at h
 | cons x l ih=>
  intro h
  simp only[cb]
  rcases List.mem_cons.1 h with rfl | h
  ·omega
  ·have:=ih h;omega
theorem OU (e:au):bR e=1+ct e.aY:=by cases e;simp only[bR]
theorem nf (e:ap):cf e=1+bR e.fE+ct e.cO+cb e.aC+cb e.bQ:=by cases e;simp only[cf]
theorem TA {A B} {x v:Int}:(A++x::B).set A.length v=A++v::B:=by
 rw[set_append_right _ _ (Nat.le_refl _)];simp
theorem aaM : ∀ (n:Nat) (M A B:List Int),M.length < 2 * n->(A++(M++B)).length<=1000000->ig n (A++(M++B)) (A.length:Int) ((A.length:Int)+(M.length:Int) - 1)=some (A++(M.reverse++B))
 | 0,M,A,B,h,_=>by omega
 | n+1,M,A,B,h,hl=>by
  rw[ig]
  by_cases h2:2<=M.length
  ·obtain⟨x,M',y,rfl⟩:∃ x M' y,M=x::(M'++[y]):=by
    cases M with
    | nil=>simp at h2
    | cons x T=>
     have hT:T≠[]:=by intro e;subst e;simp at h2
     exact⟨x,T.dropLast,T.getLast hT,by rw[dropLast_concat_getLast]⟩
   simp only[length_append,length_cons,length_nil] at h hl
   have e0:A++(x::(M'++[y])++B)=A++x::(M'++(y::B)):=by simp
   have ej:((A.length:Int)+((x::(M'++[y])).length:Int) - 1)=((A++x::M').length:Int):=by simp;omega
   have e1:A++x::(M'++(y::B))=(A++x::M')++y::B:=by simp
   have ix:idx (A++x::(M'++(y::B))) (A.length:Int)=some x:=by rw[Am];simp
   have iy:idx (A++x::(M'++(y::B))) ((A++x::M').length:Int)=some y:=by rw[e1,Am,getElem?_append_right (Nat.le_refl _)];simp
   have s1:(A++x::(M'++(y::B))).set A.length y=A++y::(M'++(y::B)):=TA
   have i2:idx (A++y::(M'++(y::B))) ((A++x::M').length:Int)=some y:=by
    rw[show A++y::(M'++(y::B))=(A++y::M')++y::B by simp,show (A++x::M').length=(A++y::M').length by simp,Am,getElem?_append_right (Nat.le_refl _)];simp
   have s2:(A++y::(M'++(y::B))).set (A++x::M').length x=(A++[y])++(M'++(x::B)):=by
    rw[show A++y::(M'++(y::B))=(A++y::M')++y::B by simp,show (A++x::M').length=(A++y::M').length by simp,TA];simp
   rw[e0,ej,if_pos (by simp;omega),iy,obs,ix,obs,obs]
   simp only[Int.toNat_natCast]
   rw[s1,i2,obs,s2,w64 (by omega) (by omega),w64 (by simp;omega) (by simp;omega)]
   have ih:=aaM n M' (A++[y]) (x::B) (by omega) (by simp;omega)
   rw[show ((A.length:Int)+1)=(((A++[y]).length:Nat):Int) by simp,show (((A++x::M').length:Nat):Int) - 1=(((A++[y]).length:Nat):Int)+(M'.length:Int) - 1 by simp;omega,ih]
   simp
  ·rw[if_neg (by simp;omega)]
   match M,h2 with
   | [],_=>rfl
   | [_],_=>rfl
   | _::_ :: _,h2=>simp at h2
theorem Ig {l} (h:l.length<=100000):jm l=some l.reverse:=by
 unfold jm
 have:=aaM (l.length+1) l [] [] (by omega) (by simp;omega)
 simp only[nil_append,append_nil,length_nil] at this
 rw[w64 (by omega) (by omega),show (l.length:Int) - 1=((0:Nat):Int)+(l.length:Int) - 1 by omega,show (0:Int)=((0:Nat):Int) from rfl,this,obs]
theorem ace {n:Int} (h1:0<=n) (h2:n < 18446744073709551616):mg n=n:=by
 show IntKind.u64.wrap n=n
 unfold IntKind.wrap
 simp only[IntKind.bits,IntKind.signed]
 first | omega | (simp;omega) | skip
theorem wu8 {n:Int} (h1:0<=n) (h2:n < 256):yx n=n:=by
 show IntKind.u8.wrap n=n
 unfold IntKind.wrap
 simp only[IntKind.bits,IntKind.signed]
 first | omega | (simp;omega) | skip
def rst : Nat->Nat->List Int
 | 0,_=>[]
 | f+1,m=>if 10<=m then((48+m / 10 % 10:Nat):Int)::rst f (m / 10) else []
theorem abk (m:Nat):Int.tdiv (m:Int) 10=((m / 10:Nat):Int):=by rw[Int.tdiv_eq_ediv_of_nonneg (by omega)];omega
theorem Xy (m:Nat):Int.tmod (m:Int) 10=((m % 10:Nat):Int):=by rw[Int.tmod_eq_emod_of_nonneg (by omega)];omega
theorem aaE {k}:yx (mg (48+((k % 10:Nat):Int)))=((48+k % 10:Nat):Int):=by
 have:k % 10 < 10:=Nat.mod_lt _ (by omega)
 rw[ace (by omega) (by omega),wu8 (by omega) (by omega)];omega
theorem Cw (a b:List Int):pY (a++b)=pY a++pY b:=by simp[pY]
theorem O4 : ∀ (f m:Nat) (acc:List Int),m < 10 ^ (f+1)->m < 18446744073709551616->acc.length+f<=1000->oj (f+1) (m:Int) acc=some (acc++rst (f+1) m)
 | f,m,acc,h,hm,ha=>by
  rw[oj]
  by_cases h0:10<=m
  ·have hd:m / 10 < 10 ^ f:=Nat.div_lt_of_lt_mul (by rw[Nat.pow_succ,Nat.mul_comm] at h;exact h)
   cases f with
   | zero=>simp at hd;omega
   | succ f=>
    rw[if_pos (by simp;omega),abk,ace (n:=((m / 10:Nat):Int)) (by omega) (by omega),Xy,aaE,ed (by simp;omega),obs,O4 f (m / 10) _ hd (by omega) (by simp;omega)]
    rw[show rst (f+1 + 1) m=((48+m / 10 % 10:Nat):Int)::rst (f+1) (m / 10) by rw[rst,if_pos h0]]
    simp
  ·rw[if_neg (by simp;omega),rst,if_neg h0];simp
theorem Lv : ∀ (f m:Nat),(rst f m).length<=f
 | 0,m=>by simp[rst]
 | f+1,m=>by
  rw[rst];split
  ·have:=Lv f (m / 10);simp;omega
  ·simp
def vu (a:Int):List UInt8:=(if a < 0 then [45] else [])++(pY (rst 21 a.natAbs).reverse++pY [((48+a.natAbs % 10:Nat):Int)])
theorem Gd {a:Int} (h1: -9223372036854775808<=a) (h2:a<=9223372036854775807):pR a=some (vu a):=by
 have hu:(if(decide (a < 0))=true then some (mg (0 - (mg a))) else some (mg a):Option Int)=some (a.natAbs:Int):=by
  by_cases h0:a < 0
  ·rw[if_pos (by simpa using h0)]
   congr 1
   have:mg a=a+18446744073709551616:=by
    show IntKind.u64.wrap a=_
    unfold IntKind.wrap
    simp only[IntKind.bits,IntKind.signed]
    first | omega | (simp;omega) | skip
   rw[this]
   show IntKind.u64.wrap _=_
   unfold IntKind.wrap
   simp only[IntKind.bits,IntKind.signed]
   first | omega | (simp;omega) | skip
  ·rw[if_neg (by simpa using h0),ace (by omega) (by omega)]
   congr 1;omega
 have hm:a.natAbs<=9223372036854775808:=by omega
 have hl:=Lv 21 a.natAbs
 unfold pR vu
 rw[hu,obs,Xy,aaE,ed (by simp),obs,O4 20 a.natAbs _ (by omega) (by omega) (by simp),obs]
 by_cases h0:a < 0
 ·rw[if_pos (by simpa using h0),ed (by simp;omega),obs,obs,Ig (by simp;omega),obs,if_pos h0]
  simp[pY]
 ·rw[if_neg (by simpa using h0),obs,Ig (by simp;omega),obs,if_neg h0]
  simp[pY]
theorem Bw (m:Nat):(((m:Int):Int) - (0)).toNat+1=m+1:=by omega
theorem Uf (b:UInt8):jL (b.toNat:Int)=mU (b.toNat:Int):=by
 have:∀ k:Fin 256,jL (k.val:Int)=mU (k.val:Int):=by decide +kernel
 exact this ⟨b.toNat,b.toNat_lt⟩
def isD (b:UInt8):Bool:=decide (48<=b.toNat/\b.toNat<=57)
theorem xz (b:UInt8):uk (b.toNat:Int)=some (isD b)/\mz (b.toNat:Int)=some (isD b):=by
 have:∀ k:Fin 256,uk (k.val:Int)=some (decide (48<=k.val/\k.val<=57))/\mz (k.val:Int)=some (decide (48<=k.val/\k.val<=57)):=by decide +kernel
 exact this ⟨b.toNat,b.toNat_lt⟩
def wY : List UInt8->Nat->Option Nat
 | [],n=>some n
 | b::l,n=>if isD b=true then wY l (10 * n+(b.toNat - 48)) else none
def adF : Option Nat->Ctl (Int×Bool) Int
 | some n=> .next (n:Int)
 | none=> .stop (0,false)
theorem Vt {s} (hs:s.length<=9):∀ (n k m:Nat),n+k=s.length+1->k<=s.length->m < 10 ^ k->nb s n (m:Int) (k:Int)=some (adF (wY (s.drop k) m))
 | 0,k,m,h,hk,_=>by omega
 | n+1,k,m,h,hk,hm=>by
  rw[nb]
  by_cases hlt:k < s.length
  ·have hp:10 ^ k<=10 ^ 8:=Nat.pow_le_pow_right (by omega) (by omega)
   rw[if_pos (by simpa using hlt),dQ hlt,obs,obs,(xz s[k]).2,obs,drop_eq_getElem_cons hlt]
   simp only[wY]
   by_cases hd:isD s[k]=true
   ·have hr:=of_decide_eq_true hd
    rw[if_neg (by simp[hd]),if_pos hd,wu8 (by omega) (by omega),w64 (n:=10 * (m:Int)) (by omega) (by omega),w64 (n:=(s[k].toNat:Int) - 48) (by omega) (by omega),w64 (by omega) (by omega),dx hlt (by omega)]
    have:=Vt hs n (k+1) (10 * m+(s[k].toNat - 48)) (by omega) (by omega) (by rw[Nat.pow_succ];omega)
    rw[<- this];congr 1;omega
   ·rw[if_pos (by simpa using hd),if_neg hd];rfl
  ·rw[if_neg (by simpa using hlt),drop_eq_nil_of_le (by omega)];rfl
theorem O7 : ∀ (f m:Nat),m < 10 ^ (f+1)->rst f m=rst (f+1) m
 | 0,m,h=>by rw[rst,rst,if_neg (by simp at h;omega)]
 | f+1,m,h=>by
  rw[rst,rst]
  by_cases h0:10<=m
  ·rw[if_pos h0,if_pos h0,O7 f (m / 10) (Nat.div_lt_of_lt_mul (by rw[Nat.pow_succ,Nat.mul_comm] at h;exact h))]
  ·rw[if_neg h0,if_neg h0]
def D (n:Nat):List Int:=(rst 21 n).reverse++[((48+n % 10:Nat):Int)]
theorem Bh {d} (h:d < 10):D d=[((48+d:Nat):Int)]:=by
 unfold D;rw[rst,if_neg (by omega),Nat.mod_eq_of_lt h];rfl
theorem QT {k d} (hk:1<=k) (hd:d < 10) (hk2:k < 10 ^ 21):D (10 * k+d)=D k++[((48+d:Nat):Int)]:=by
 have e1:(10 * k+d) / 10=k:=by omega
 have e2:(10 * k+d) % 10=d:=by omega
 unfold D
 rw[show rst 21 (10 * k+d)=((48+k % 10:Nat):Int)::rst 20 k by rw[rst,if_pos (by omega),e1],e2,O7 20 k hk2,reverse_cons]
theorem abT : ∀ (n:Nat),0 < n->n < 10 ^ 21->∃ (x:Nat) (t:List Int),D n=(x:Int)::t/\48 < x/\x<=57:=by
 intro n
 induction n using Nat.strongRecOn with
 | _ n ih=>
  intro h0 h1
  by_cases h5:n < 10
  ·exact⟨48+n,[],Bh h5,by omega,by omega⟩
  ·obtain⟨x,t,h2,h3,h4⟩:=ih (n / 10) (by omega) (by omega) (by omega)
   have:=QT (k:=n / 10) (d:=n % 10) (by omega) (by omega) (by omega)
   rw[show 10 * (n / 10)+n % 10=n by omega,h2] at this
   exact⟨x,t++[((48+n % 10:Nat):Int)],by rw[this];rfl,h3,h4⟩
theorem UZ (n:Nat):vu (n:Int)=pY (D n):=by
 unfold vu D
 rw[if_neg (by omega),Cw,Int.natAbs_natCast];rfl
theorem RN : ∀ (l:List UInt8) (n r:Nat),wY l n=some r->r+1<=(n+1) * 10 ^ l.length
 | [],n,r,h=>by simp only[wY,Option.some.injEq] at h;subst h;simp
 | b::l,n,r,h=>by
  simp only[wY] at h
  by_cases hd:isD b=true
  ·rw[if_pos hd] at h
   have hr:=of_decide_eq_true hd
   have ih:=RN l _ r h
   have h9:(10 * n+(b.toNat - 48)+1) * 10 ^ l.length<=(10 * (n+1)) * 10 ^ l.length:=Nat.mul_le_mul_right _ (by omega)
   have e2:(10 * (n+1)) * 10 ^ l.length=(n+1) * 10 ^ (b::l).length:=by rw[length_cons,Nat.pow_succ,Nat.mul_comm 10 (n+1),Nat.mul_assoc,Nat.mul_comm 10 (10 ^ l.length)]
   omega
  ·rw[if_neg hd] at h;cases h
def ji (s:List UInt8):Int×Bool:=if s.length=0\/9 < s.length then(0,false) else if s.head? =some 48/\1 < s.length then(0,false) else match wY s 0 with | some r=>((r:Int),true) | none=>(0,false)
theorem pA (s:List UInt8):oW s=some (ji s):=by
 unfold oW ji
 by_cases h0:s.length=0
 ·rw[length_eq_zero_iff] at h0;subst h0;rfl
 by_cases h9:9 < s.length
 ·rw[if_neg (by simp;omega),if_pos (by simp;omega),obs,if_pos rfl,if_pos (.inr h9)]
 ·match s,h0 with
  | b::t,h0=>
   have hg:(Option.bind (idx (b::t) 0) fun(y3:UInt8)=>if((y3.toNat:Int)==48)=true then some (decide (((b::t).length:Int) > 1)) else some false)=some (decide ((b::t).head? =some 48/\1 < (b::t).length)):=by
    show (if((b.toNat:Int)==48)=true then some (decide (((b::t).length:Int) > 1)) else some false)=_
    by_cases h1:b=48
    ·subst h1
     rw[if_pos (by decide)]
     congr 1
     rw[Bool.eq_iff_iff];simp;omega
    ·rw[if_neg (by
      simp only[beq_iff_eq];intro e
      exact h1 (UInt8.toNat_inj.1 (show b.toNat=(48:UInt8).toNat by have:(48:UInt8).toNat=48:=rfl;omega)))]
     simp[h1]
   rw[if_neg (by simp;omega),if_neg (by simp at h9 ⊢;omega),hg,obs,if_neg (show ¬ ((b::t).length=0\/9 < (b::t).length) from fun h=>h.elim h0 h9)]
   by_cases hc:(b::t).head? =some 48/\1 < (b::t).length
   ·rw[if_pos (by simpa using hc),if_pos hc]
   ·rw[if_neg (by simpa using hc),if_neg hc,Bw,show (0:Int)=((0:Nat):Int) from rfl,Vt (by omega) _ 0 0 (by omega) (by omega) (by simp),obs,drop_zero]
    cases wY (b::t) 0<;>rfl
theorem Np : ∀ (l:List UInt8) (b:UInt8) (n:Nat),isD b=true->wY (l++[b]) n=(wY l n).map fun r=>10 * r+(b.toNat - 48)
 | [],b,n,h=>by simp[wY,h]
 | c::l,b,n,h=>by
  simp only[cons_append,wY]
  by_cases hc:isD c=true
  ·rw[if_pos hc,if_pos hc];exact Np l b _ h
  ·rw[if_neg hc,if_neg hc];rfl
theorem VV {d} (h:d < 10):isD (UInt8.ofNat (48+d))=true/\(UInt8.ofNat (48+d)).toNat - 48=d:=by
 have e:(UInt8.ofNat (48+d)).toNat=48+d:=by rw[UInt8.toNat_ofNat'];omega
 refine⟨?_,by rw[e];omega⟩
 unfold isD
 rw[e]
 simp;omega
theorem NU (d:Nat):pY [((48+d:Nat):Int)]=[UInt8.ofNat (48+d)]:=rfl
theorem aaS : ∀ (n:Nat),n < 10 ^ 20->wY (pY (D n)) 0=some n:=by
 intro n
 induction n using Nat.strongRecOn with
 | _ n ih=>
  intro hn
  by_cases h:n < 10
  ·rw[Bh h,NU]
   obtain⟨h1,h2⟩:=VV h
   simp only[wY];rw[if_pos h1,h2];simp
  ·have e:n=10 * (n / 10)+n % 10:=by omega
   have hd:n % 10 < 10:=by omega
   rw[e,QT (by omega) hd (by omega),Cw,NU]
   obtain⟨h1,h2⟩:=VV hd
   rw[Np _ _ _ h1,h2,ih (n / 10) (by omega) (by omega)]
   rfl
theorem aao : ∀ (k n:Nat),n < 10 ^ (k+1)->k<=19->(D n).length<=k+1
 | 0,n,h,_=>by rw[Bh (by simpa using h)];simp
 | k+1,n,h,hk=>by
  by_cases h0:n < 10
  ·rw[Bh h0];simp
  ·have e:n=10 * (n / 10)+n % 10:=by omega
   have hlt:n / 10 < 10 ^ (k+1):=by
    rw[Nat.pow_succ] at h
    omega
   have h1:n / 10 < 10 ^ 21:=Nat.lt_of_lt_of_le hlt (Nat.pow_le_pow_right (by omega) (by omega))
   rw[e,QT (by omega) (by omega) h1,length_append]
   have:=aao k (n / 10) hlt (by omega)
   simp;omega
theorem VK (l:List Int):(pY l).length=l.length:=by simp[pY]
theorem MN {n:Nat} (h:n < 1000000000):ji (vu (n:Int))=((n:Int),true):=by
 rw[UZ]
 have hl:=aao 8 n (by omega) (by omega)
 have hp:0 < (D n).length:=by unfold D;simp
 unfold ji
 rw[VK,if_neg (by omega)]
 have hh:¬ ((pY (D n)).head? =some 48/\1 < (D n).length):=by
  rintro ⟨h1,h2⟩
  by_cases h0:n=0
  ·subst h0;rw[Bh (by omega)] at h2;simp at h2
  ·obtain⟨x,t,e1,e2,e3⟩:=abT n (by omega) (by omega)
   rw[e1] at h1
   simp only[pY,map_cons,head?_cons,Option.some.injEq,Int.toNat_natCast] at h1
   have:=congrArg UInt8.toNat h1
   simp at this
   omega
 rw[if_neg hh,aaS n (by omega)]
def vO (s:List UInt8):Int:=match glob_0.findIdx? (fun y=>y==s) with | some i=>((i:Nat):Int)+1 | none=>0
theorem NY (s:List UInt8):0<=vO s/\vO s<=23:=by
 unfold vO
 split
 ·rename_i i h
  have:=(List.findIdx?_eq_some_iff_getElem.1 h).1
  have e:glob_0.length=23:=rfl
  omega
 ·omega
theorem J5 (s:List UInt8):vG s=some (vO s):=by
 unfold vG DJ gx
 rw[obs,AX (ef glob_0 (fun z3=>vn z3 s)) (b:=fun y=>y==s) (by decide) (fun n x=>by simp only[ef,vn,obs]),obs,qd,obs]
 have h:=NY s
 unfold vO at *
 cases hf:glob_0.findIdx? (fun y=>y==s) with
 | none=>rfl
 | some i=>rw[hf] at h;simp only at h ⊢;rw[w64 (by omega) (by omega)]
theorem Jr {s l} (hl:l.length<=1000):∀ (n k:Nat),n+k=l.length+1->k<=l.length->np s l n (k:Int)=some (match(l.drop k).findIdx? (fun y=>y==s) with | some i=> .stop (((k+i:Nat):Int)+1) | none=> .next ())
 | 0,k,h,hk=>by omega
 | n+1,k,h,hk=>by
  simp only[np]
  by_cases hlt:k < l.length
  ·rw[if_pos (by simpa using hlt),dQ hlt,drop_eq_getElem_cons hlt,obs,findIdx?_cons,dx hlt (by omega)]
   cases hb:l[k]==s with
   | true=>simp
   | false=>
    rw[if_neg (by simp),Jr hl n (k+1) (by omega) (by omega)]
    cases (l.drop (k+1)).findIdx? (fun y=>y==s) with
    | none=>simp
    | some i=>simp;omega
  ·rw[if_neg (by simpa using hlt),drop_eq_nil_of_le (by omega)]
   rfl
theorem IL (s:List UInt8):uq s=some (vO s):=by
 unfold uq uG
 rw[obs]
 have h:=Jr (s:=s) (l:=glob_0) (by decide) 24 0 (by decide) (by decide)
 have e:(show List (List UInt8) from glob_0).length=23:=rfl
 show Option.bind (np s glob_0 24 ((0:Nat):Int)) _=_
 rw[h,obs,drop_zero]
 unfold vO
 cases glob_0.findIdx? (fun y=>y==s) with
 | none=>rfl
 | some i=>simp[Ctl.elim]
def isL (b:UInt8):Bool:=(jL (b.toNat:Int)).getD false
theorem OZ (a:Int):jL a=some ((jL a).getD false):=by unfold jL;split<;>rfl
theorem Qq (b:UInt8):jL (b.toNat:Int)=some (isL b):=OZ _
theorem Sc (b:UInt8):mU (b.toNat:Int)=some (isL b):=by rw[<- Uf];exact Qq b
def isC (b:UInt8):Bool:=isL b||isD b
def db (s:List UInt8):Bool:=match s with
 | []=>false
 | b::t=>decide (t.length < 20)&&(isL b&&((b::t).all isC&&vO (b::t)==0))
theorem Ux {s:List UInt8} {k:Nat} (h:k < s.length):idx (bu s) (k:Int)=some (s[k].toNat:Int):=by
 have hb:k < (bu s).length:=by simp[bu];exact h
 rw[dQ hb];simp[bu]
theorem Sn {s} (hs:s.length<=1000):∀ (n k:Nat),n+k=s.length+1->k<=s.length->qh s n (k:Int)=some (if(s.drop k).all isC=true then .next () else .stop false)
 | 0,k,h,hk=>by omega
 | n+1,k,h,hk=>by
  have hb:(bu s).length=s.length:=by simp[bu]
  simp only[qh,hb]
  by_cases hlt:k < s.length
  ·rw[if_pos (by simpa using hlt),Ux hlt,obs,Qq,obs,(xz s[k]).1,drop_eq_getElem_cons hlt,dx hlt (by omega),Sn hs n (k+1) (by omega) (by omega)]
   simp only[all_cons,isC]
   rcases Bool.eq_false_or_eq_true (isL s[k]) with h1 | h1<;>rcases Bool.eq_false_or_eq_true (isD s[k]) with h2 | h2<;>simp[obs,h1,h2]
  ·rw[if_neg (by simpa using hlt),drop_eq_nil_of_le (by omega)];rfl
theorem lu (s:List UInt8):jT s=some (db s):=by
 unfold jT db
 match s with
 | []=>rfl
 | b::t=>
  have hi:idx (b::t) 0=some b:=rfl
  have hb:(bu (b::t)).length=(b::t).length:=by simp[bu]
  by_cases h0:t.length < 20
  ·have e0:((b::t)==([]:List UInt8))=false:=rfl
   have e1:decide (((b::t).length:Int) > 20)=false:=by simp;omega
   rw[e0,e1,hi,if_neg (by simp),if_neg (by simp),obs,Qq,obs,obs]
   cases hL:isL b with
   | false=>simp[hL]
   | true=>
    rw[if_neg (by simp),ed (by simp;omega),obs,hb,Bw,show (0:Int)=((0:Nat):Int) from rfl,Sn (by simp;omega) _ 0 (by omega) (by omega),obs,drop_zero]
    cases hA:(b::t).all isC with
    | false=>rw[if_neg (by simp)];simp[Ctl.elim,hL,hA]
    | true=>rw[if_pos rfl];simp only[Ctl.elim,J5,obs];simp[h0,hL,hA]
  ·have e0:((b::t)==([]:List UInt8))=false:=rfl
   have e1:decide (((b::t).length:Int) > 20)=true:=by simp;omega
   rw[e0,e1]
   simp[h0]
def xx (n:Int):Nat:=if n<=0 then 0 else if 3<=n then 3 else n.toNat
theorem SJ (n:Int):xx n<=3:=by unfold xx;split;omega;split;omega;omega
theorem Xh (n:Int):(if(if 3 < n then 3 else n) > 0 then(if 3 < n then 3 else n) else 0)=((xx n:Nat):Int):=by
 unfold xx
 by_cases h:n<=0
 ·rw[if_neg (show ¬ 3 < n by omega),if_neg (show ¬ n > 0 by omega),if_pos h];rfl
 ·by_cases h3:3<=n
  ·by_cases h4:3 < n
   ·simp only[if_pos h4,if_neg h,if_pos h3];omega
   ·simp only[if_neg h4,if_neg h,if_pos h3];rw[if_pos (by omega)];omega
  ·simp only[if_neg (show ¬ 3 < n by omega),if_neg h,if_neg h3];rw[if_pos (by omega)];omega
def own (t:cd):List aF:=if t.aa=2 then t.ae.l.take (xx t.fN+1) else []
theorem GV {α:Type} (x:A4 α):x.l.length=4:=rfl
theorem ZP {t} (h:t.aa=2):(own t).length=xx t.fN+1:=by
 unfold own;rw[if_pos h,length_take,GV];have:=SJ t.fN;omega
theorem Qc (t:cd):(own t).length<=4:=by
 unfold own;split
 ·rw[length_take,GV];omega
 ·simp
theorem CA (t:cd):vE t=some (t.ae.l.take (xx t.fN+1)):=by
 unfold vE
 have:=SJ t.fN
 rw[Xh,w64 (by omega) (by omega),show ((xx t.fN:Nat):Int)+1=((xx t.fN+1:Nat):Int) by omega]
 unfold jW
 rw[if_pos ⟨by omega,by omega,by rw[GV];omega⟩]
 simp
theorem Qd (a b:aF):kO a b=decide (a=b):=by
 rw[Bool.eq_iff_iff];cases a;cases b;simp[kO]
def lQ (o:aF) (m:Int):Bool:=if o.aa=3 then decide (0 < o.fN)&&decide (o.fN<=m) else if o.aa=7 then decide (0<=o.fN) else decide (o.fN=0)&&(decide (o.aa=1)||(decide (o.aa=2)||(decide (o.aa=4)||(decide (o.aa=5)||decide (o.aa=6)))))
theorem um (o:aF) (m:Int):od o m=some (lQ o m):=by
 unfold od lQ
 by_cases h3:o.aa=3
 ·by_cases hn:o.fN > 0<;>simp[h3,hn,Ctl.go]
 by_cases h7:o.aa=7
 ·simp[h7,Ctl.go]
 by_cases h1:o.aa=1
 ·simp[h1,Ctl.go];rfl
 by_cases h2:o.aa=2
 ·simp[h2,Ctl.go];rfl
 by_cases h4:o.aa=4
 ·simp[h4,Ctl.go,eZ];rfl
 by_cases h5:o.aa=5
 ·simp[h5,Ctl.go,eZ];rfl
 by_cases h6:o.aa=6
 ·simp[h6,Ctl.go,eZ];rfl
 simp[h3,h7,h1,h2,h4,h5,h6,Ctl.go,eZ]
def B8 (t:cd):cd:={ aa:=t.aa,aM:=[],fN:=0,ae:=⟨av,av,av,av⟩ }
def qX (t:cd) (m:Int):Bool:=if t.aa=0\/t.aa=1 then lM t (B8 t) else if t.aa=2 then
 db t.aM&&(decide (0<=t.fN)&&(decide (t.fN<=3)&&((own t).all (fun o=>lQ o m)&&(((own t).drop 1).all (fun o=> !decide (o.aa=6))&&(t.ae.l.drop (own t).length).all (fun o=>kO o ⟨0,0⟩))))) else false
theorem acN {l} (m:Int) (hl:l.length<=1000):nr m l ((((l.length:Int):Int) - (0)).toNat+1) 0=some (if l.all (fun o=>lQ o m)=true then .next () else .stop false):=by
 rw[Ze (nr m l) (by omega) (b:=fun o=> !lQ o m) (r:=false) (fun n x=>by
  simp only[nr,um,obs])]
 rw[any_eq_not_all_not]
 simp only[Bool.not_not]
 cases l.all (fun o=>lQ o m)<;>rfl
theorem acK {l} (hl:l.length<=1000):ng l ((((l.length:Int):Int) - (0)).toNat+1) 0=some (if l.all (fun o=> !decide (o.aa=6))=true then .next () else .stop false):=by
 rw[Ze (ng l) (by omega) (b:=fun o=>decide (o.aa=6)) (r:=false) (fun n x=>by
  simp only[ng,beq_iff_eq,decide_eq_true_eq])]
 rw[any_eq_not_all_not]
 cases l.all (fun o=> !decide (o.aa=6))<;>rfl
theorem acX {l} (hl:l.length<=1000):nv l ((((l.length:Int):Int) - (0)).toNat+1) 0=some (if l.all (fun o=>kO o ⟨0,0⟩)=true then .next () else .stop false):=by
 rw[Ze (nv l) (by omega) (b:=fun o=> !kO o ⟨0,0⟩) (r:=false) (fun n x=>by
  simp only[nv])]
 rw[any_eq_not_all_not]
 simp only[Bool.not_not]
 cases l.all (fun o=>kO o ⟨0,0⟩)<;>rfl
theorem rl {α:Type} {l:List α} {k:Nat} (h:k<=l.length):jW l (k:Int) (l.length:Int)=some (l.drop k):=by
 unfold jW
 rw[if_pos ⟨by omega,by omega,by omega⟩]
 simp
theorem uU (t:cd) (m:Int):nQ t m=some (qX t m):=by
 unfold nQ qX
 by_cases h0:t.aa=0
 ·simp[h0,B8]
 by_cases h1:t.aa=1
 ·simp[h1,B8]
 have e1:(t.aa==0)=false:=by simpa using h0
 have e2:(t.aa==1)=false:=by simpa using h1
 rw[if_neg (show ¬ (t.aa=0\/t.aa=1) by simp[h0,h1])]
 simp only[e1,e2,Bool.false_eq_true,if_false,obs]
 by_cases h2:t.aa=2
 ·have e3:(t.aa==2)=true:=by simpa using h2
  rw[if_pos h2]
  simp only[e3,if_true,lu,obs]
  cases hn:db t.aM with
  | false=>rfl
  | true=>
   by_cases hN:t.fN < 0
   ·have e4:decide (0<=t.fN)=false:=by simp;omega
    simp[hN,e4]
   by_cases hN3:t.fN > 3
   ·have e4:decide (t.fN<=3)=false:=by simp;omega
    simp[hN,hN3,e4]
   have hle:=Qc t
   have hol:=ZP h2
   have hown:t.ae.l.take (xx t.fN+1)=own t:=by unfold own;rw[if_pos h2]
   have e4:decide (0<=t.fN)=true:=by simp;omega
   have e5:decide (t.fN<=3)=true:=by simp;omega
   rw[e4,e5,decide_eq_false hN,decide_eq_false hN3,CA,hown]
   simp only[Bool.not_true,Bool.false_eq_true,if_false,obs,acN m (show (own t).length<=1000 by omega)]
   cases ha:(own t).all (fun o=>lQ o m) with
   | false=>rfl
   | true=>
    simp only[if_true,Ctl.elim]
    have c1:=rl (l:=own t) (k:=1) (by omega)
    rw[show ((1:Nat):Int)=1 from rfl] at c1
    rw[c1,obs,acK (by simp;omega),obs]
    cases hb:((own t).drop 1).all (fun o=> !decide (o.aa=6)) with
    | false=>rfl
    | true=>
     simp only[if_true]
     have c2:=rl (l:=t.ae.l) (k:=(own t).length) (by rw[GV];omega)
     rw[c2,obs,acX (by simp[GV];omega),obs]
     cases (t.ae.l.drop (own t).length).all (fun o=>kO o ⟨0,0⟩)<;>rfl
 ·have e3:(t.aa==2)=false:=by simpa using h2
  rw[if_neg h2]
  simp only[e3,Bool.false_eq_true,if_false]
def yJ (k:Int):List UInt8:=if k=1 then [114,101,112] else if k=2 then [112,101,101,114] else if k=4 then [119,111,114,108,100] else if k=5 then [97,110,121] else if k=6 then [117,110,105,113,117,101] else [63]
def gL (o:aF) (ps:List (List UInt8)):List UInt8:=if lQ o (ps.length:Int)=true then(if o.aa=3 then(ps[(o.fN - 1).toNat]?).getD [] else yJ o.aa) else []
theorem ta {o} {m:Int} (h:lQ o m=true):(o.aa=3/\0 < o.fN/\o.fN<=m)\/(o.aa=7/\0<=o.fN)\/(o.fN=0/\(o.aa=1\/o.aa=2\/o.aa=4\/o.aa=5\/o.aa=6)):=by
 unfold lQ at h
 split at h
 ·rename_i h3;simp at h;exact .inl ⟨h3,h.1,h.2⟩
 ·split at h
  ·rename_i h7;simp at h;exact .inr (.inl ⟨h7,h⟩)
  ·simp at h;exact .inr (.inr h)
theorem yR (o:aF) (ps:List (List UInt8)) (hp:ps.length<=1000):rf o ps=some (gL o ps):=by
 unfold rf gL
 rw[um,obs]
 cases hr:lQ o (ps.length:Int) with
 | false=>simp
 | true=>
  rcases ta hr with⟨h3,h1,h2⟩ | ⟨h7,_⟩ | ⟨_,h1 | h1 | h1 | h1 | h1⟩
  ·have e:ah (o.fN - 1)=(((o.fN - 1).toNat:Nat):Int):=by rw[w64 (by omega) (by omega)];omega
   have hlt:(o.fN - 1).toNat < ps.length:=by omega
   generalize (o.fN - 1).toNat=j at *
   simp only[h3,e,dQ hlt,obs,getElem?_eq_getElem hlt]
   simp
  ·simp[h7,yJ]
  ·simp[h1,yJ]
  ·simp[h1,yJ]
  ·simp[h1,yJ]
  ·simp[h1,yJ]
  ·simp[h1,yJ]
def yT : List (List UInt8)->List UInt8
 | []=>[]
 | x::r=>[60]++(x++((r.map ([44,32]++·)).flatten++[62]))
def vh (t:cd) (ps:List (List UInt8)):List UInt8:=if qX t (ps.length:Int)=true then(if t.aa=0 then [118,111,105,100] else if t.aa=1 then [105,110,116] else
 (if t.ae.a0.aa=7 then [] else gL t.ae.a0 ps++[32])++(t.aM++yT (((own t).drop 1).map (gL · ps)))) else []
theorem nT {n:Int} (h0:0<=n) (h:n<=100000000000):dL n 1=some ():=ed (by omega)
theorem Oq {ps} (hp:ps.length<=1000) {l} (hl:l.length<=1000):oU ps l ((((l.length:Int):Int) - (0)).toNat+1) [] 0=some (l.map (gL · ps)):=by
 rw[acH (fun n s x=>oU ps l n s x) (by omega) (f:=fun s y=>Option.bind (dL ((s.length:Int)+([gL y ps].length:Int)) 16) fun _=>some (s++[gL y ps])) (fin:=fun s=>some s) (fun n s x=>by
  simp only[oU]
  by_cases hc:decide (x < (l.length:Int))=true
  ·rw[if_pos hc,if_pos hc]
   cases idx l x with
   | none=>simp only[Option.bind_none]
   | some y=>simp only[obs,yR y ps hp,Option.bind_assoc]
  ·rw[if_neg hc,if_neg hc])]
 rw[Gi _ (gL · ps) 1000 (fun s y hs=>by rw[ed (by simp only[length_cons,length_nil];omega),obs]) l [] (by simp;omega),obs]
 rfl
theorem Kv {t} {m:Int} (h:qX t m=true) (h0:t.aa≠0) (h1:t.aa≠1):t.aa=2/\db t.aM=true/\0<=t.fN/\t.fN<=3/\(∀ o∈own t,lQ o m=true)/\(∀ o∈(own t).drop 1,o.aa≠6)/\∀ o∈t.ae.l.drop (own t).length,o=⟨0,0⟩:=by
 unfold qX at h
 rw[if_neg (by simp[h0,h1])] at h
 split at h
 ·rename_i h2
  simp only[Bool.and_eq_true,decide_eq_true_eq,all_eq_true,Bool.not_eq_true',decide_eq_false_iff_not] at h
  obtain⟨a,b,c,d,e,f⟩:=h
  exact⟨h2,a,b,c,d,e,fun o ho=>by have:=f o ho;rw[Qd] at this;simpa using this⟩
 ·cases h
theorem jV {s} (h:db s=true):s.length<=20:=by
 unfold db at h
 match s with
 | []=>simp
 | b::t=>simp at h;simp;omega
theorem MF {t ps} (hp:ps.length<=1000) (hM:∀ o,(gL o ps).length<=10000000000):oX t ps=some (vh t ps):=by
 unfold oX vh
 rw[uU,obs]
 cases hr:qX t (ps.length:Int) with
 | false=>rfl
 | true=>
  by_cases h0:t.aa=0
  ·simp[h0]
  by_cases h1:t.aa=1
  ·simp[h1]
  obtain⟨h2,hn,hN0,hN3,_⟩:=Kv hr h0 h1
  have hcl:=jV hn
  have hown:t.ae.l.take (xx t.fN+1)=own t:=by unfold own;rw[if_pos h2]
  have hle:=Qc t
  rw[if_neg (by simp),if_neg (by simp[h2]),CA,obs,hown,Oq hp (by omega),obs,if_pos rfl,if_neg h0,if_neg h1]
  obtain⟨kd,cl,N,⟨o0,o1,o2,o3⟩⟩:=t
  simp only at h2 hcl hN0 hN3 ⊢
  subst h2
  have m0:=hM o0;have m1:=hM o1;have m2:=hM o2;have m3:=hM o3
  have hN4:N=0\/N=1\/N=2\/N=3:=by omega
  rcases hN4 with rfl | rfl | rfl | rfl
  ·have ho:own { aa:=2,aM:=cl,fN:=0,ae:=⟨o0,o1,o2,o3⟩ }=[o0]:=rfl
   rw[ho]
   simp only[map_cons,map_nil,drop_succ_cons,drop_zero,drop_nil,yT,length_cons,length_nil]
   generalize gL o0 ps=t0 at *
   rw[if_neg (by decide),obs]
   by_cases h7:o0.aa=7
   ·simp[h7]
   ·have hi:idx [t0] 0=some t0:=rfl
    rw[if_neg (by simpa using h7),if_neg h7,hi,obs,nT (by omega) (by simp;omega),obs,nT (by omega) (by simp;omega),obs]
    simp
  ·have ho:own { aa:=2,aM:=cl,fN:=1,ae:=⟨o0,o1,o2,o3⟩ }=[o0,o1]:=rfl
   rw[ho]
   simp only[map_cons,map_nil,drop_succ_cons,drop_zero,drop_nil,yT,length_cons,length_nil]
   generalize gL o0 ps=t0 at *
   generalize gL o1 ps=t1 at *
   have hc:jW [t0,t1] 1 ((0+1 + 1:Nat):Int)=some [t1]:=rfl
   have hj:Lib.join [t1] [44,32]=t1:=by simp[Lib.join,intercalate]
   rw[if_pos (by decide),hc,obs]
   unfold strings_Join CU
   rw[hj,if_pos ⟨by simp,by omega⟩,obs,nT (by omega) (by simp;omega),obs,nT (by omega) (by simp;omega),obs,nT (by omega) (by simp;omega),obs,obs]
   by_cases h7:o0.aa=7
   ·simp[h7]
   ·have hi:idx [t0,t1] 0=some t0:=rfl
    rw[if_neg (by simpa using h7),if_neg h7,hi,obs,nT (by omega) (by simp;omega),obs,nT (by omega) (by simp;omega),obs]
    simp
  ·have ho:own { aa:=2,aM:=cl,fN:=2,ae:=⟨o0,o1,o2,o3⟩ }=[o0,o1,o2]:=rfl
   rw[ho]
   simp only[map_cons,map_nil,drop_succ_cons,drop_zero,drop_nil,yT,length_cons,length_nil]
   generalize gL o0 ps=t0 at *
   generalize gL o1 ps=t1 at *
   generalize gL o2 ps=t2 at *
   have hc:jW [t0,t1,t2] 1 ((0+1 + 1+1:Nat):Int)=some [t1,t2]:=rfl
   have hj:Lib.join [t1,t2] [44,32]=t1++([44,32]++t2):=by simp[Lib.join,intercalate]
   rw[if_pos (by decide),hc,obs]
   unfold strings_Join CU
   rw[hj,if_pos ⟨by simp,by simp;omega⟩,obs,nT (by omega) (by simp;omega),obs,nT (by omega) (by simp;omega),obs,nT (by omega) (by simp;omega),obs,obs]
   by_cases h7:o0.aa=7
   ·simp[h7]
   ·have hi:idx [t0,t1,t2] 0=some t0:=rfl
    rw[if_neg (by simpa using h7),if_neg h7,hi,obs,nT (by omega) (by simp;omega),obs,nT (by omega) (by simp;omega),obs]
    simp
  ·have ho:own { aa:=2,aM:=cl,fN:=3,ae:=⟨o0,o1,o2,o3⟩ }=[o0,o1,o2,o3]:=rfl
   rw[ho]
   simp only[map_cons,map_nil,drop_succ_cons,drop_zero,drop_nil,yT,length_cons,length_nil]
   generalize gL o0 ps=t0 at *
   generalize gL o1 ps=t1 at *
   generalize gL o2 ps=t2 at *
   generalize gL o3 ps=t3 at *
   have hc:jW [t0,t1,t2,t3] 1 ((0+1 + 1+1 + 1:Nat):Int)=some [t1,t2,t3]:=rfl
   have hj:Lib.join [t1,t2,t3] [44,32]=t1++([44,32]++(t2++([44,32]++t3))):=by simp[Lib.join,intercalate]
   rw[if_pos (by decide),hc,obs]
   unfold strings_Join CU
   rw[hj,if_pos ⟨by simp,by simp;omega⟩,obs,nT (by omega) (by simp;omega),obs,nT (by omega) (by simp;omega),obs,nT (by omega) (by simp;omega),obs,obs]
   by_cases h7:o0.aa=7
   ·simp[h7]
   ·have hi:idx [t0,t1,t2,t3] 0=some t0:=rfl
    rw[if_neg (by simpa using h7),if_neg h7,hi,obs,nT (by omega) (by simp;omega),obs,nT (by omega) (by simp;omega),obs]
    simp
theorem qU (e:au):bR e=1+ct e.aY:=by cases e;simp only[bR]
theorem LZ : ∀ {l:List au} {x:au},x∈l->bR x<=ct l
 | y::l,x,h=>by
  simp only[ct]
  rcases List.mem_cons.1 h with rfl | h
  ·omega
  ·have:=LZ h;omega
theorem LH : ∀ l:List au,l.length<=ct l
 | []=>by simp
 | x::l=>by
  have:=LH l
  have:=qU x
  simp only[ct,length_cons];omega
theorem xL {e x} (h:x∈e.aY):bR x < bR e:=by
 have:=LZ h
 have:=qU e
 omega
theorem Oy (e:au):e.aY.length < bR e:=by
 have:=LH e.aY
 have:=qU e
 omega
theorem uI {α:Type} {l:List α} {x:Int} {y:α} (h:idx l x=some y):y∈l:=by
 unfold idx at h
 split at h
 ·exact mem_of_getElem? h
 ·cases h
def uH (k:Int):Int:=if 1<=k/\k<=5 then 0 else if k=12\/k=13 then 1 else if(6<=k/\k<=11)\/k=14 then 2 else -1
theorem N4 {k:Int} (h:1<=k/\k<=14):k=1\/k=2\/k=3\/k=4\/k=5\/k=6\/k=7\/k=8\/k=9\/k=10\/k=11\/k=12\/k=13\/k=14:=by omega
theorem L7 (k:Int):vF k=some (uH k):=by
 by_cases h:1<=k/\k<=14
 ·rcases N4 h with rfl | rfl | rfl | rfl | rfl | rfl | rfl | rfl | rfl | rfl | rfl | rfl | rfl | rfl<;>rfl
 ·have hn:∀ j:Int,1<=j->j<=14->(k==j)=false:=fun j h1 h2=>by simp;omega
  unfold vF uH
  simp only[hn 1 (by omega) (by omega),hn 2 (by omega) (by omega),hn 3 (by omega) (by omega),hn 4 (by omega) (by omega),hn 5 (by omega) (by omega),hn 6 (by omega) (by omega),hn 7 (by omega) (by omega),hn 8 (by omega) (by omega),hn 9 (by omega) (by omega),hn 10 (by omega) (by omega),hn 11 (by omega) (by omega),hn 12 (by omega) (by omega),hn 13 (by omega) (by omega),hn 14 (by omega) (by omega),obs,Bool.false_eq_true,if_false]
  rw[if_neg (by omega),if_neg (by omega),if_neg (by omega)]
def vQ (k:Int) (x:au):Bool:=if k=13 then decide (x.aa=2)||decide (x.aa=3) else if k=14 then decide (x.aa=2)||(decide (x.aa=3)||decide (x.aa=4)) else true
def zg (e:au):Bool:=decide ((e.aY.length:Int)=uH e.aa)&&((decide (e.aa=1)||decide (e.dp=0))&&((decide (e.aa=2)||e.ai==[])&&((!decide (e.aa=1)||(decide (e.dp >= 0)&&decide (e.dp<=999999999)))&&(!decide (e.aa=2)||db e.ai))))
def vV (e:au):Bool:=zg e&&e.aY.all (vQ e.aa)
theorem A7 {l} (hl:l.length<=1000000) {q b} (hq:∀ y,q y=some (b y)):cJ l q=some (l.any b):=by
 unfold cJ gW
 rw[AX (dP l q) (b:=b) (by omega) (fun n x=>by rw[dP];simp only[hq,obs]),obs,qd,obs,uD]
theorem Sq (x c:au):qu x c=some (if x.aa=2 then false else if x.aa=3 then false else if x.aa=4 then decide (c.aa=13) else true):=by
 unfold qu
 by_cases h2:x.aa=2
 ·simp[h2]
 ·by_cases h3:x.aa=3
  ·simp[h3]
  ·by_cases h4:x.aa=4
   ·by_cases h5:c.aa=13<;>simp[h4,h5]
   ·simp[h2,h3,h4]
theorem yG {e} (hl:e.aY.length<=1000000):tJ e=some (vV e):=by
 unfold tJ vV zg
 rw[L7,obs]
 by_cases h0:(e.aY.length:Int)=uH e.aa
 ·by_cases h1:e.aa=1
  ·have k1:e.aY.all (vQ e.aa)=true:=by simp[vQ,h1]
   rw[k1]
   by_cases hn:(e.ai==[])=true
   ·by_cases g:e.dp >= 0<;>by_cases g':e.dp<=999999999<;>simp_all [obs]<;>(split<;>simp_all<;>omega)
   ·simp_all [obs]
  ·by_cases h2:e.aa=2
   ·have k1:e.aY.all (vQ e.aa)=true:=by simp[vQ,h2]
    rw[k1,lu]
    by_cases hm:e.dp=0<;>simp_all [obs]
   ·by_cases hm:e.dp=0
    ·by_cases hn:(e.ai==[])=true
     ·have hn':e.ai=[]:=by simpa using hn
      by_cases h3:e.aa=13
      ·rw[A7 hl (fun y=>Sq y e)]
       simp only[h0,h3,hm,hn',obs]
       simp
       rw[Bool.eq_iff_iff]
       simp[vQ]
      ·by_cases h4:e.aa=14
       ·rw[A7 hl (fun y=>Sq y e)]
        simp only[h0,h4,hm,hn',obs]
        simp
        rw[Bool.eq_iff_iff]
        simp[vQ]
       ·have k1:e.aY.all (vQ e.aa)=true:=by simp[vQ,h3,h4]
        rw[k1]
        simp[h0,h1,h2,hm,hn',h3,h4,obs]
     ·simp_all [obs]
    ·simp_all [obs]
 ·simp[h0,obs]
def fS (e:au):Bool:=(Fj e).all vV
theorem JM : ∀ l:List au,(qV l).all vV=l.all fS
 | []=>rfl
 | x::l=>by simp only[qV,all_append,all_cons,JM l,fS]
theorem zZ (e:au):fS e=(vV e&&e.aY.all fS):=by
 obtain⟨k,n,nm,l⟩:=e
 show (Fj ⟨k,n,nm,l⟩).all vV=_
 rw[Fj,all_cons,JM]
mutual
def dE : au->Nat
 | ⟨_,_,_,l⟩=>1+dEL l
def dEL : List au->Nat
 | []=>0
 | x::l=>max (dE x) (dEL l)
end
theorem Cg (e:au):dE e=1+dEL e.aY:=by cases e;simp only[dE]
theorem Qv : ∀ (l:List au) (m:Nat),dEL l<=m↔∀ x∈l,dE x<=m
 | [],m=>by simp[dEL]
 | x::l,m=>by
  have:=Qv l m
  simp only[dEL,mem_cons,forall_eq_or_imp,<- this]
  omega
theorem aaL : ∀ (m:Nat) (e:au),bR e<=m->dE e<=bR e
 | 0,e,h=>by have:=qU e;omega
 | m+1,e,h=>by
  have h1:=qU e
  rw[Cg,h1]
  have:dEL e.aY<=ct e.aY:=(Qv _ _).2 fun x hx=>by
   have h2:=LZ hx
   have:=aaL m x (by omega)
   omega
  omega
theorem zR {l} (hl:l.length<=1000000) {q b} (hq:∀ y∈l,q y=some (b y)):cJ l q=some (l.any b):=by
 unfold cJ gW
 rw[AX (dP l q) (b:=b) (by omega) (fun n x=>by
  rw[dP]
  cases h:idx l x with
  | none=>rfl
  | some y=>simp only[hq y (uI h),obs]),obs,qd,obs,uD]
theorem zY : ∀ (m n:Nat) (e:au),2 * m+2<=n->m<=1000->bR e<=1000000->mu n e (m:Int)=some (decide (dE e<=m))
 | 0,n+1,e,_,_,_=>by
  have:=Cg e
  rw[mu,if_pos (by simp)]
  simp;omega
 | m+1,n+2,e,hn,hm,he=>by
  have hk:=Oy e
  rw[mu,if_neg (by simp;omega),zR (b:=fun y=> !decide (dE y<=m)) (by omega) (fun y hy=>by
   have:=xL hy
   rw[om,show ah (((m+1:Nat):Int) - 1)=(m:Int) by rw[w64 (by omega) (by omega)];omega,zY m n y (by omega) (by omega) (by omega),obs]),obs]
  congr 1
  rw[Bool.eq_iff_iff]
  have h1:=Qv e.aY m
  have h2:=Cg e
  simp
  rw[h2]
  constructor
  ·intro h
   have:=h1.2 h
   omega
  ·intro h
   exact h1.1 (by omega)
theorem GQ : ∀ l:List au,(∀ x∈l,x.aY.length<=1000000)->BE po l ()=some (if l.all vV=true then .next () else .stop ())
 | [],_=>rfl
 | x::l,h=>by
  by_cases hp:vV x=true
  ·have hx:(x::l).all vV=l.all vV:=by rw[all_cons,hp,Bool.true_and]
   simp only[BE,po,yG (h x (by simp)),obs,hx,hp,Bool.not_true,Bool.false_eq_true,if_false,Ctl.elim]
   exact GQ l (fun y hy=>h y (by simp[hy]))
  ·have hx:(x::l).all vV=false:=by rw[all_cons,Bool.eq_false_iff.2 hp,Bool.false_and]
   simp only[BE,po,yG (h x (by simp)),obs,hx,Bool.eq_false_iff.2 hp,Bool.not_false,if_true,Ctl.elim,Bool.false_eq_true,if_false]
mutual
theorem TV : ∀ e:au,∀ x∈Fj e,x.aY.length < bR e
 | ⟨k,n,nm,l⟩,x,hx=>by
  simp only[Fj,mem_cons] at hx
  have h1:=LH l
  rcases hx with rfl | hx
  ·simp only[bR];omega
  ·have:=Oj l x hx
   simp only[bR];omega
theorem Oj : ∀ l:List au,∀ x∈qV l,x.aY.length < ct l
 | [],x,hx=>by simp[qV] at hx
 | y::l,x,hx=>by
  simp only[qV,mem_append] at hx
  simp only[ct]
  rcases hx with hx | hx
  ·have:=TV y x hx;omega
  ·have:=Oj l x hx;omega
end
def fq (e:au):Bool:=decide (dE e<=20)&&fS e
theorem vd {e} (he:bR e<=1000000):pJ e=some (fq e):=by
 unfold pJ fq AJ
 rw[show (20:Int)=((20:Nat):Int) from rfl,zY 20 _ e (by decide) (by omega) he,obs]
 by_cases hd:dE e<=20
 ·rw[decide_eq_true hd,if_neg (by simp),obs]
  unfold DR
  rw[if_pos he,obs,GQ _ (fun x hx=>by have:=TV e x hx;omega),obs]
  unfold fS
  by_cases ha:(Fj e).all vV=true
  ·rw[if_pos ha,ha];rfl
  ·rw[if_neg ha,Bool.eq_false_iff.2 ha];rfl
 ·rw[decide_eq_false hd,if_pos (by simp)];simp
theorem Vq {e} (he:e.aY.length<=1000000) {rec} (hr:∀ y∈e.aY,rec y=some (dE y:Int)):
  ∀ (n k:Nat) (m:Nat),n+k=e.aY.length+1->k<=e.aY.length->ni e rec n (m:Int) (k:Int)=some ((max m (dEL (e.aY.drop k)):Nat):Int)
 | 0,k,m,h,hk=>by omega
 | n+1,k,m,h,hk=>by
  rw[ni]
  by_cases hlt:k < e.aY.length
  ·rw[if_pos (by simpa using hlt),dQ hlt,obs,hr _ (getElem_mem hlt),obs,dx hlt (by omega),drop_eq_getElem_cons hlt,dEL,
    show (if(dE e.aY[k]:Int) > (m:Int) then(dE e.aY[k]:Int) else(m:Int))=((max m (dE e.aY[k]):Nat):Int) by split<;>omega,Vq he hr n (k+1) _ (by omega) (by omega)]
   congr 2;omega
  ·rw[if_neg (by simpa using hlt),drop_eq_nil_of_le (by omega),dEL]
   congr 2;omega
theorem rr : ∀ (n:Nat) (e:au),bR e<=1000000->bR e < n->jp n e=some (dE e:Int)
 | n+1,e,he,hn=>by
  have hk:=Oy e
  have hd:=aaL _ e (Nat.le_refl _)
  have h1:=Cg e
  have hl:ni e (jp n) ((((e.aY.length:Int):Int) - (0)).toNat+1) 0 0=some ((max 0 (dEL (e.aY.drop 0)):Nat):Int):=Vq (e:=e) (by omega) (rec:=jp n) (fun y hy=>rr n y (by have:=xL hy;omega) (by have:=xL hy;omega)) ((((e.aY.length:Int):Int) - (0)).toNat+1) 0 0 (by omega) (by omega)
  rw[jp,hl,obs,drop_zero,w64 (by omega) (by omega)]
  congr 1;omega
theorem P7 {l} (hl:l.length<=1000000) {q b} (hq:∀ y∈l,q y=some (b y)):fh l q=some (l.any b):=by
 unfold fh iZ
 rw[AX (fj l q) (b:=b) (by omega) (fun n x=>by
  rw[fj]
  cases h:idx l x with
  | none=>rfl
  | some y=>simp only[hq y (uI h),obs]),obs,qd,obs,uD]
theorem Xw {l} (hl:l.length<=1000000) {q b} (hq:∀ y∈l,q y=some (b y)):gq l q=some (l.any b):=by
 unfold gq jy
 rw[AX (gi l q) (b:=b) (by omega) (fun n x=>by
  rw[gi]
  cases h:idx l x with
  | none=>rfl
  | some y=>simp only[hq y (uI h),obs]),obs,qd,obs,uD]
theorem Rb {l} (hl:l.length<=1000000) {q b} (hq:∀ y∈l,q y=some (b y)):fg l q=some (l.any b):=by
 unfold fg iK
 rw[AX (fk l q) (b:=b) (by omega) (fun n x=>by
  rw[fk]
  cases h:idx l x with
  | none=>rfl
  | some y=>simp only[hq y (uI h),obs]),obs,qd,obs,uD]
theorem N9 {l} (hl:l.length<=1000000) {q b} (hq:∀ y∈l,q y=some (b y)):ea l q=some (l.any b):=by
 unfold ea iB
 rw[AX (eO l q) (b:=b) (by omega) (fun n x=>by
  rw[eO]
  cases h:idx l x with
  | none=>rfl
  | some y=>simp only[hq y (uI h),obs]),obs,qd,obs,uD]
theorem JX {l} (hl:l.length<=1000000) {q b} (hq:∀ y∈l,q y=some (b y)):ey l q=some (l.any b):=by
 unfold ey jl
 rw[AX (fy l q) (b:=b) (by omega) (fun n x=>by
  rw[fy]
  cases h:idx l x with
  | none=>rfl
  | some y=>simp only[hq y (uI h),obs]),obs,qd,obs,uD]
theorem V7 {l} (hl:l.length<=1000000) {q b} (hq:∀ y∈l,q y=some (b y)):eY l q=some (l.any b):=by
 unfold eY gx
 rw[AX (ef l q) (b:=b) (by omega) (fun n x=>by
  rw[ef]
  cases h:idx l x with
  | none=>rfl
  | some y=>simp only[hq y (uI h),obs]),obs,qd,obs,uD]
theorem wv {α:Type} (l:List α) (b:α->Bool):(!l.any fun y=> !b y)=l.all b:=by
 induction l with
 | nil=>rfl
 | cons x l ih=>simp only[any_cons,all_cons,Bool.not_or,Bool.not_not,ih]
theorem Ci {α:Type} {l:List α} {b c:α->Bool} (h:∀ y∈l,b y=c y):l.all b=l.all c:=by
 induction l with
 | nil=>rfl
 | cons x l ih=>rw[all_cons,all_cons,h x (by simp),ih fun y hy=>h y (by simp[hy])]
theorem Sw {α:Type} {l:List α} (L:Nat->Int->Option (Ctl Bool Unit)) {f:α->Option Bool} {b:α->Bool} (hl:l.length<=1000000) (hq:∀ y∈l,f y=some (b y))
  (hL:∀ (n:Nat) (x:Int),L (n+1) x=if decide (x < (l.length:Int))=true then Option.bind (idx l x) fun y=>Option.bind (f y) fun c=>if(!c)=true then some (.stop false) else L n (ah (x+1)) else some (.next ())):
  L ((((l.length:Int):Int) - (0)).toNat+1) 0=some (if l.all b=true then .next () else .stop false):=by
 rw[Ze L (b:=fun y=> !b y) (r:=false) (by omega) (fun n x=>by
  rw[hL]
  cases h:idx l x with
  | none=>rfl
  | some y=>simp only[hq y (uI h),obs])]
 rw[<- wv]
 cases l.any fun y=> !b y<;>rfl
theorem ow {α:Type} {c:Bool} {x y:α}:(if c=true then some x else some y)=some (if c=true then x else y):=by cases c<;>rfl
theorem aas {R S:Type} {c:Bool} {a b:Ctl (Option R) S} {f:S->Option R}:Ctl.go (if c=true then a else b) f=if c=true then Ctl.go a f else Ctl.go b f:=by cases c<;>rfl
theorem Lc {R S:Type} {s:S} {f:S->Option R}:Ctl.go (.next s) f=f s:=rfl
theorem acY {R S:Type} {o:Option R} {f:S->Option R}:Ctl.go (.stop o) f=o:=rfl
theorem gob {α R S:Type} {a:α} {f:α->Ctl (Option R) S}:eZ (some a) f=f a:=rfl
theorem uW {R S T:Type} {s:S} {f:R->Option T} {g:S->Option T}:Ctl.elim (.next s) f g=g s:=rfl
theorem Nu {R S T:Type} {r:R} {f:R->Option T} {g:S->Option T}:Ctl.elim (.stop r) f g=f r:=rfl
theorem aaJ {R S T:Type} {c:Bool} {a b:Ctl R S} {f:R->Option T} {g:S->Option T}:Ctl.elim (if c=true then a else b) f g=if c=true then Ctl.elim a f g else Ctl.elim b f g:=by cases c<;>rfl
def Af (e:au):Bool:=decide (e.aa=0)&&(decide (e.dp=0)&&(e.ai==[]&&decide (e.aY.length=0)))
theorem acF (n:Nat):((n:Int)==0)=decide (n=0):=by rw[Bool.eq_iff_iff];simp
theorem adG (n:Nat):decide ((n:Int) > 0)= !decide (n=0):=by rw[Bool.eq_iff_iff];simp;omega
theorem MJ (e:au):tv e=some (Af e):=by
 unfold tv
 rw[pO]
 unfold jh Af
 by_cases h:e.aY.length=0
 ·have h1:((e.aY.length:Int) != ((([]:List au).length:Nat):Int))=false:=by rw[h];rfl
  have h2:e.aY=[]:=eq_nil_of_length_eq_zero h
  simp only[h1,Bool.false_eq_true,if_false,h2]
  cases hk:decide (e.aa=0)<;>cases hn:decide (e.dp=0)<;>cases hs:(e.ai==[])<;>simp_all [io,uW]
 ·have h1:((e.aY.length:Int) != ((([]:List au).length:Nat):Int))=true:=by simp;intro e2;exact h (by simp[e2])
  simp only[h1,if_true,obs]
  cases hk:decide (e.aa=0)<;>cases hn:decide (e.dp=0)<;>cases hs:(e.ai==[])<;>simp_all
def zT : cd:={ aa:=0,aM:=[],fN:=0,ae:=⟨av,av,av,av⟩ }
def xS (s:ap):Bool:=if s.aa=1\/s.aa=2\/s.aa=5\/s.aa=6\/s.aa=7 then db s.fX else if s.aa=4 then s.fX==[]||db s.fX else s.fX==[]
def yS (s:ap):Bool:=if s.aa=2\/s.aa=3\/s.aa=4 then db s.fY||s.fY==[116,104,105,115] else if s.aa=7\/s.aa=8 then db s.fY else s.fY==[]
def nS (s:ap):Bool:=if s.aa=2\/s.aa=3\/s.aa=4 then db s.ai else s.ai==[]
def tS (m:Int) (s:ap):Bool:=if s.aa=5\/s.aa=6 then decide (s.aJ.aa=2)&&qX s.aJ m else lM s.aJ zT
def eS8 (s:ap):Bool:=if s.aa=1\/s.aa=3\/s.aa=9\/s.aa=10 then fq s.fE else if s.aa=6 then fq s.fE&&(decide (s.fE.aa=2)||(decide (s.fE.aa=3)||decide (s.fE.aa=4))) else if s.aa=11 then Af s.fE||fq s.fE else Af s.fE
def aS (s:ap):Bool:=if s.aa=4 then decide (s.cO.length<=5)&&s.cO.all fq else decide (s.cO.length=0)
def bS (s:ap):Bool:=(decide (s.aa=9)||(decide (s.aa=10)||decide (s.aC.length=0)))&&(decide (s.aa=9)||decide (s.bQ.length=0))
def ur (m:Int) (s:ap):Bool:=decide (1<=s.aa/\s.aa<=11)&&(xS s&&(yS s&&(nS s&&(tS m s&&(eS8 s&&(aS s&&bS s))))))
theorem DV {k:Int} (h:1<=k/\k<=11):k=1\/k=2\/k=3\/k=4\/k=5\/k=6\/k=7\/k=8\/k=9\/k=10\/k=11:=by omega
theorem XG {s} {h:Int} (hk:1<=s.aa/\s.aa<=11) (hh:qf s.aa=some h):ue s h=some (xS s&&(yS s&&nS s)):=by
 unfold ue xS yS nS
 rcases DV hk with e | e | e | e | e | e | e | e | e | e | e
 all_goals
  rw[e] at hh
  obtain rfl:=Option.some.inj hh
  simp only[e,lu,obs,gob,ow,aas,Lc,acY]
  generalize db s.fX=A
  generalize db s.fY=B
  generalize db s.ai=C
  generalize (s.fX==[])=D
  generalize (s.fY==[])=E
  generalize (s.ai==[])=F
  generalize (s.fY==[116,104,105,115])=H
  clear hh hk e
  revert A B C D E F H
  decide +kernel
theorem ieq (a b:Int):(a==b)=decide (a=b):=by rw[Bool.eq_iff_iff];simp
theorem ine (a b:Int):(a != b)= !decide (a=b):=by rw[Bool.eq_iff_iff];simp
theorem adT (n:Nat):decide ((n:Int)=0)=decide (n=0):=by rw[Bool.eq_iff_iff];simp
theorem ile (n:Nat):decide ((n:Int)<=5)=decide (n<=5):=by rw[Bool.eq_iff_iff];simp;omega
theorem QH {e} (h:Af e=true):fq e=false:=by
 unfold Af at h
 unfold fq
 rw[zZ]
 unfold vV zg
 simp only[Bool.and_eq_true,decide_eq_true_eq] at h
 have h2:decide ((((0:Nat):Int))=uH 0)=false:=by decide
 rw[h.1,h.2.2.2,h2]
 simp
theorem Yq {s} {h m:Int} (hk:1<=s.aa/\s.aa<=11) (hh:qf s.aa=some h) (he:bR s.fE<=1000000) (hl:s.cO.length<=1000000) (ha:∀ y∈s.cO,bR y<=1000000):vm s h m=some (tS m s&&(eS8 s&&aS s)):=by
 have hc:cJ s.cO (fun z=>sc z)=some (s.cO.any fun y=> !fq y):=zR hl (fun y hy=>by
  unfold sc
  rw[vd (ha y hy)];rfl)
 unfold vm tS eS8 aS
 rcases DV hk with e | e | e | e | e | e | e | e | e | e | e
 all_goals
  rw[e] at hh
  obtain rfl:=Option.some.inj hh
  simp only[e,hc,uU,vd he,MJ,wv,zT,ieq,ine,adT,ile,obs,gob,ow,aas,Lc,acY]
  have hn:= @QH s.fE
  revert hn
  generalize lM s.aJ _=A
  generalize qX s.aJ m=B
  generalize fq s.fE=C
  generalize Af s.fE=D
  generalize s.cO.all _=E
  generalize decide (s.cO.length=0)=F
  generalize decide (s.cO.length<=5)=H
  generalize decide (s.aJ.aa=2)=I
  generalize decide (s.fE.aa=2)=J
  generalize decide (s.fE.aa=3)=K
  generalize decide (s.fE.aa=4)=L
  clear hc hh hk e he hl ha
  revert A B C D E F H I J K L
  decide +kernel
def sR : Nat->Int->ap->Bool
 | 0,_,_=>false
 | n+1,m,s=>ur m s&&(s.aC.all (sR n m)&&s.bQ.all (sR n m))
theorem YG {k:Int} (h:¬ (1<=k/\k<=11)):qf k=some 0:=by
 unfold qf
 simp only[ieq]
 repeat' split
 all_goals first | rfl | (simp only[decide_eq_true_eq] at *;omega)
theorem abm {k:Int} (h:1<=k/\k<=11):∃ r,qf k=some r/\(r==0)=false:=by
 rcases DV h with e | e | e | e | e | e | e | e | e | e | e
 all_goals exact⟨_,by rw[e];rfl,by decide⟩
theorem aad {s} {h:Int} (hk:1<=s.aa/\s.aa<=11) (hh:qf s.aa=some h):
  (if((wZ .i64 h 128)==0)=true then(if(decide ((s.aC.length:Int) > 0))=true then some true else if((wZ .i64 h 256)==0)=true then some (decide ((s.bQ.length:Int) > 0)) else some false)
   else(if((wZ .i64 h 256)==0)=true then some (decide ((s.bQ.length:Int) > 0)) else some false):Option Bool)=some (!bS s):=by
 unfold bS
 rcases DV hk with e | e | e | e | e | e | e | e | e | e | e
 all_goals
  rw[e] at hh
  obtain rfl:=Option.some.inj hh
  simp only[e,adG,ow]
  generalize decide (s.aC.length=0)=A
  generalize decide (s.bQ.length=0)=B
  clear hh hk e
  revert A B
  decide +kernel
theorem YR {m:Int} {s} (h:¬ (1<=s.aa/\s.aa<=11)):ur m s=false:=by unfold ur;rw[decide_eq_false h];rfl
theorem yy {s y} (h:y∈s.aC):cf y+2<=cf s:=by
 have h1:=nf s
 have h2:=wG h
 have h3:=OU s.fE
 omega
theorem yE {s y} (h:y∈s.bQ):cf y+2<=cf s:=by
 have h1:=nf s
 have h2:=wG h
 have h3:=OU s.fE
 omega
theorem tj : ∀ l:List ap,l.length<=cb l
 | []=>by simp
 | x::l=>by
  have:=tj l
  have h1:=nf x
  simp only[length_cons,cb];omega
theorem sd (s:ap):bR s.fE<=cf s/\s.cO.length<=cf s/\s.aC.length<=cf s/\s.bQ.length<=cf s/\∀ y∈s.cO,bR y<=cf s:=by
 have h1:=nf s
 have h2:=LH s.cO
 have h3:=tj s.aC
 have h4:=tj s.bQ
 refine⟨by omega,by omega,by omega,by omega,fun y hy=> ?_⟩
 have:=LZ hy
 omega
theorem uO (m:Int):∀ (f n:Nat) (s:ap),cf s+1<=f->n<=1000->cf s<=1000000->mc f s m (n:Int)=some (sR n m s)
 | 0,n,s,h,_,_=>by omega
 | 1,n,s,h,_,_=>by have h1:=nf s;have h3:=OU s.fE;omega
 | f+2,n,s,hf,hn,hs=>by
  obtain⟨p1,p2,p3,p4,p5⟩:=sd s
  rw[mc]
  by_cases hk:1<=s.aa/\s.aa<=11
  ·obtain⟨h,hh,h0⟩:=abm hk
   rw[hh]
   simp only[obs]
   cases n with
   | zero=>
    rw[if_pos (by simp)]
    simp only[obs,if_true,sR]
   | succ n=>
    have hB:∀ y∈s.aC,iG (f+1) y m ((n+1:Nat):Int)=some (!sR n m y):=fun y hy=>by
     have:=yy hy
     rw[iG,show ah (((n+1:Nat):Int) - 1)=(n:Int) by rw[w64 (by omega) (by omega)];omega,uO m f n y (by omega) (by omega) (by omega)]
     rfl
    have hE:∀ y∈s.bQ,iG (f+1) y m ((n+1:Nat):Int)=some (!sR n m y):=fun y hy=>by
     have:=yE hy
     rw[iG,show ah (((n+1:Nat):Int) - 1)=(n:Int) by rw[w64 (by omega) (by omega)];omega,uO m f n y (by omega) (by omega) (by omega)]
     rfl
    rw[if_neg (by simp;omega),h0]
    simp only[Bool.false_eq_true,if_false]
    rw[XG hk hh,Yq hk hh (by omega) (by omega) (fun y hy=>by have:=p5 y hy;omega),aad hk hh,JX (by omega) hB,JX (by omega) hE]
    simp only[obs,ow,wv,sR,ur]
    rw[decide_eq_true hk]
    generalize xS s=A
    generalize yS s=B
    generalize nS s=C
    generalize tS m s=D
    generalize eS8 s=E
    generalize aS s=F
    generalize bS s=H
    generalize s.aC.all (sR n m)=I
    generalize s.bQ.all (sR n m)=J
    clear hB hE hh h0 hk hf hn hs p1 p2 p3 p4 p5
    revert A B C D E F H I J
    decide +kernel
  ·rw[YG hk]
   simp only[obs]
   have hx:(if((n:Int)==0)=true then some true else some true:Option Bool)=some true:=by split<;>rfl
   cases n with
   | zero=>rw[if_pos (by simp)];simp only[obs,if_true,sR]
   | succ n=>
    rw[if_neg (by simp;omega),if_pos (by decide)]
    simp only[obs,if_true,sR,YR hk,Bool.false_and]
theorem yK {s} (m:Int) (hs:cf s<=1000000):nG s m=some (sR 20 m s):=by
 unfold nG
 rw[show (20:Int)=((20:Nat):Int) from rfl,uO m _ 20 s (by omega) (by omega) hs]
 rfl
mutual
def fmS (m:Int):ap->Bool
 | ⟨k,x,y,nm,t,e,ar,bo,el,at'⟩=>ur m ⟨k,x,y,nm,t,e,ar,bo,el,at'⟩&&(fmL m bo&&fmL m el)
def fmL (m:Int):List ap->Bool
 | []=>true
 | s::l=>fmS m s&&fmL m l
end
theorem Lj (m:Int):∀ l:List ap,fmL m l=l.all (fmS m)
 | []=>rfl
 | s::l=>by rw[fmL,all_cons,Lj m l]
theorem Lq (m:Int) (s:ap):fmS m s=(ur m s&&(s.aC.all (fmS m)&&s.bQ.all (fmS m))):=by
 rw[<- Lj,<- Lj];cases s;rw[fmS]
mutual
def dSt : ap->Nat
 | ⟨_,_,_,_,_,_,_,bo,el,_⟩=>1+max (xM bo) (xM el)
def xM : List ap->Nat
 | []=>0
 | s::l=>max (dSt s) (xM l)
end
theorem Ew (s:ap):dSt s=1+max (xM s.aC) (xM s.bQ):=by cases s;rw[dSt]
theorem rz : ∀ (l:List ap) (m:Nat),xM l<=m↔∀ x∈l,dSt x<=m
 | [],m=>by simp[xM]
 | x::l,m=>by
  have:=rz l m
  simp only[xM,mem_cons,forall_eq_or_imp,<- this]
  omega
mutual
def nSt : ap->Nat
 | ⟨_,_,_,_,_,_,_,bo,el,_⟩=>1+(fc bo+fc el)
def fc : List ap->Nat
 | []=>0
 | s::l=>nSt s+fc l
end
theorem Fq (s:ap):nSt s=1+(fc s.aC+fc s.bQ):=by cases s;rw[nSt]
theorem Ru : ∀ (l:List ap),(∀ x∈l,nSt x<=cf x)->fc l<=cb l
 | [],_=>by simp[fc,cb]
 | x::l,h=>by
  have:=Ru l fun y hy=>h y (by simp[hy])
  have:=h x (by simp)
  simp only[fc,cb];omega
theorem Wl : ∀ (f:Nat) (s:ap),cf s<=f->nSt s<=cf s
 | 0,s,h=>by have:=nf s;omega
 | f+1,s,h=>by
  have h1:=nf s
  have h2:=Fq s
  have h3:=Ru s.aC fun x hx=>Wl f x (by have:=yy hx;omega)
  have h4:=Ru s.bQ fun x hx=>Wl f x (by have:=yE hx;omega)
  omega
theorem DE (m:Int):∀ (n f:Nat) (s:ap),cf s<=f->sR n m s=(fmS m s&&decide (dSt s<=n))
 | 0,f,s,_=>by
  have:=Ew s
  rw[sR,decide_eq_false (by omega),Bool.and_false]
 | n+1,0,s,h=>by have:=nf s;omega
 | n+1,f+1,s,h=>by
  rw[sR,Lq,Ci fun y hy=>DE m n f y (by have:=yy hy;omega),Ci (l:=s.bQ) fun y hy=>DE m n f y (by have:=yE hy;omega)]
  have h1:=Ew s
  have h2:=rz s.aC n
  have h3:=rz s.bQ n
  have all_and:∀ (l:List ap),(l.all fun y=>fmS m y&&decide (dSt y<=n))=(l.all (fmS m)&&decide (xM l<=n)):=fun l=>by
   have:=rz l n
   rw[Bool.eq_iff_iff]
   simp only[all_eq_true,Bool.and_eq_true,decide_eq_true_eq,this]
   exact⟨fun h=>⟨fun x hx=>(h x hx).1,fun x hx=>(h x hx).2⟩,fun h x hx=>⟨h.1 x hx,h.2 x hx⟩⟩
  rw[all_and,all_and]
  have h4:decide (dSt s<=n+1)=(decide (xM s.aC<=n)&&decide (xM s.bQ<=n)):=by
   rw[Bool.eq_iff_iff];simp;omega
  rw[h4]
  generalize ur m s=A
  generalize s.aC.all _=B
  generalize s.bQ.all _=C
  generalize decide (xM s.aC<=n)=D
  generalize decide (xM s.bQ<=n)=E
  revert A B C D E
  decide
theorem NF {s rec} (hl:s.aC.length<=1000000) (hr:∀ y∈s.aC,rec y=some (nSt y:Int)):
  ∀ (n k m:Nat),n+k=s.aC.length+1->k<=s.aC.length->m+fc (s.aC.drop k)<=10000000->pt s rec n (m:Int) (k:Int)=some ((m+fc (s.aC.drop k):Nat):Int)
 | 0,k,m,h,hk,_=>by omega
 | n+1,k,m,h,hk,hm=>by
  rw[pt]
  by_cases hlt:k < s.aC.length
  ·rw[drop_eq_getElem_cons hlt,fc] at hm ⊢
   rw[if_pos (by simpa using hlt),dQ hlt,obs,hr _ (getElem_mem hlt),obs,dx hlt (by omega),w64 (by omega) (by omega),show (m:Int)+(nSt s.aC[k]:Int)=((m+nSt s.aC[k]:Nat):Int) by omega,NF hl hr n (k+1) _ (by omega) (by omega) (by omega)]
   congr 2;omega
  ·rw[if_neg (by simpa using hlt),drop_eq_nil_of_le (by omega),fc,Nat.add_zero]
theorem OH {s rec} (hl:s.bQ.length<=1000000) (hr:∀ y∈s.bQ,rec y=some (nSt y:Int)):
  ∀ (n k m:Nat),n+k=s.bQ.length+1->k<=s.bQ.length->m+fc (s.bQ.drop k)<=10000000->pr s rec n (m:Int) (k:Int)=some ((m+fc (s.bQ.drop k):Nat):Int)
 | 0,k,m,h,hk,_=>by omega
 | n+1,k,m,h,hk,hm=>by
  rw[pr]
  by_cases hlt:k < s.bQ.length
  ·rw[drop_eq_getElem_cons hlt,fc] at hm ⊢
   rw[if_pos (by simpa using hlt),dQ hlt,obs,hr _ (getElem_mem hlt),obs,dx hlt (by omega),w64 (by omega) (by omega),show (m:Int)+(nSt s.bQ[k]:Int)=((m+nSt s.bQ[k]:Nat):Int) by omega,OH hl hr n (k+1) _ (by omega) (by omega) (by omega)]
   congr 2;omega
  ·rw[if_neg (by simpa using hlt),drop_eq_nil_of_le (by omega),fc,Nat.add_zero]
theorem pd : ∀ (f:Nat) (s:ap),cf s+1<=f->cf s<=1000000->jq f s=some (nSt s:Int)
 | 0,s,h,_=>by omega
 | f+1,s,hf,hs=>by
  obtain⟨p1,p2,p3,p4,p5⟩:=sd s
  have hd:=Wl _ s (Nat.le_refl _)
  have h1:=Fq s
  have a1:=NF (s:=s) (rec:=jq f) (by omega) (fun y hy=>pd f y (by have:=yy hy;omega) (by have:=yy hy;omega)) (s.aC.length+1) 0 1 (by omega) (by omega) (by rw[drop_zero];omega)
  have a2:=OH (s:=s) (rec:=jq f) (by omega) (fun y hy=>pd f y (by have:=yE hy;omega) (by have:=yE hy;omega)) (s.bQ.length+1) 0 (1+fc s.aC) (by omega) (by omega) (by rw[drop_zero];omega)
  rw[drop_zero,show ((0:Nat):Int)=0 from rfl] at a1 a2
  rw[jq]
  simp only[kF]
  rw[show (1:Int)=((1:Nat):Int) from rfl,a1,obs,a2,obs]
  congr 2;omega
def wrS (t:cd) (m:Int):Bool:=qX t m&&((t.ae.l.drop 1).all (fun o=> !decide (o.aa=7))&&(!decide (t.ae.a0.aa=7)||decide (t.ae.a0.fN=0)))
theorem Ul {α:Type} (l:List α) (b:α->Bool):(l.all fun y=> !b y)= !l.any b:=by
 induction l with
 | nil=>rfl
 | cons x l ih=>simp only[any_cons,all_cons,Bool.not_or,ih]
theorem sG (t:cd) (m:Int):mQ t m=some (wrS t m):=by
 have hc:jW t.ae.l 1 (t.ae.l.length:Int)=some (t.ae.l.drop 1):=rl (l:=t.ae.l) (k:=1) (by show 1<=4;omega)
 unfold mQ wrS
 rw[hc,obs,Rb (b:=fun o=>decide (o.aa=7)) (by rw[length_drop];show 4 - 1<=1000000;omega) (fun y _=>by rw[qt,ieq]),Ul]
 simp only[obs,uU,ieq,ine,ow]
 generalize List.any _ _=A
 generalize qX t m=B
 generalize decide (t.ae.a0.aa=7)=C
 generalize decide (t.ae.a0.fN=0)=D
 revert A B C D
 decide
def yC (m:Int) (v:dr):Bool:= !decide (v.aJ.aa=0)&&(db v.ai&&wrS v.aJ m)
def oz (l:List dr) (most:Nat) (m:Int):Bool:=decide (l.length<=most)&&l.all (yC m)
theorem wx {l} (hl:l.length<=1000000) (most:Nat) (m:Int):ny l (most:Int) m=some (oz l most m):=by
 have hd:decide ((l.length:Int)<=(most:Int))=decide (l.length<=most):=by rw[Bool.eq_iff_iff];simp
 unfold ny oz
 rw[Xw (b:=fun v=> !yC m v) hl (fun y _=>by
  unfold uC yC
  simp only[lu,sG,obs,ieq,ow]
  generalize decide (y.aJ.aa=0)=A
  generalize db y.ai=B
  generalize wrS y.aJ m=C
  revert A B C
  decide),hd]
 simp only[obs,wv,ow]
 generalize decide (l.length<=most)=A
 generalize l.all (yC m)=B
 revert A B
 decide
mutual
def opS (m:Int):ap->Bool
 | ⟨_,_,_,_,t,_,_,bo,el,_⟩=>(!decide (t.aa=2)||wrS t m)&&(opL m bo&&opL m el)
def opL (m:Int):List ap->Bool
 | []=>true
 | s::l=>opS m s&&opL m l
end
theorem ux (m:Int):∀ l:List ap,opL m l=l.all (opS m)
 | []=>rfl
 | s::l=>by rw[opL,all_cons,ux m l]
theorem Kx (m:Int) (s:ap):opS m s=((!decide (s.aJ.aa=2)||wrS s.aJ m)&&(opL m s.aC&&opL m s.bQ)):=by cases s;rw[opS]
theorem Vu (s:ap):cb s.aC+2<=cf s/\cb s.bQ+2<=cf s:=by
 have h1:=nf s
 have h3:=OU s.fE
 omega
def bdL (m:Int) (l:List ap):Bool:=l.all (sR 20 m)&&opL m l
theorem DL (m:Int):∀ (n:Nat) (s:ap),sR n m s=true->sR (n+1) m s=true
 | 0,s,h=>by simp[sR] at h
 | n+1,s,h=>by
  rw[sR] at h ⊢
  simp only[Bool.and_eq_true,all_eq_true] at h ⊢
  exact⟨h.1,fun y hy=>DL m n y (h.2.1 y hy),fun y hy=>DL m n y (h.2.2 y hy)⟩
theorem Yz {m:Int} {s} (h:sR 20 m s=true):s.aC.all (sR 20 m)=true/\s.bQ.all (sR 20 m)=true:=by
 rw[show (20:Nat)=19+1 from rfl,sR] at h
 simp only[Bool.and_eq_true,all_eq_true] at h ⊢
 exact⟨fun y hy=>DL m 19 y (h.2.1 y hy),fun y hy=>DL m 19 y (h.2.2 y hy)⟩
theorem we (m:Int):∀ (f:Nat) (l:List ap),cb l+1<=f->cb l<=1000000->iw f l m=some (bdL m l)
 | 0,l,h,_=>by omega
 | f+1,l,hf,hs=>by
  have hl:=tj l
  have hL:oI l m (iw f) ((((l.length:Int):Int) - (0)).toNat+1) 0=some (if l.all (fun s=>sR 20 m s&&opS m s)=true then .next () else .stop false):=
   Sw (oI l m (iw f)) (f:=fun y=>(nG y m).bind fun a=>if(!a)=true then some false else if(y.aJ.aa==2)=true then(some (wrS y.aJ m)).bind fun a=>if(!a)=true then some false else(iw f y.aC m).bind fun b=>if(!b)=true then some false else(iw f y.bQ m)
     else(iw f y.aC m).bind fun b=>if(!b)=true then some false else(iw f y.bQ m)) (by omega) (fun y hy=>by
    have h1:=wG hy
    have h2:=Vu y
    have h3:= @Yz m y
    rw[yK m (by omega),we m f y.aC (by omega) (by omega),we m f y.bQ (by omega) (by omega),Kx]
    simp only[obs,ieq,ow,bdL]
    revert h3
    generalize sR 20 m y=X
    generalize y.aC.all (sR 20 m)=Y
    generalize y.bQ.all (sR 20 m)=Z
    generalize decide (y.aJ.aa=2)=A
    generalize wrS y.aJ m=B
    generalize opL m y.aC=C
    generalize opL m y.bQ=D
    clear h1 h2 hl hf hs hy
    revert X Y Z A B C D
    decide +kernel) (fun n x=>by
   rw[oI]
   cases h:idx l x with
   | none=>rfl
   | some y=>
    simp only[sG,obs]
    cases nG y m with
    | none=>rfl
    | some r=>cases iw f y.aC m with
     | none=>cases r<;>cases (y.aJ.aa==2)<;>cases wrS y.aJ m<;>rfl
     | some b=>cases iw f y.bQ m with
      | none=>cases r<;>cases (y.aJ.aa==2)<;>cases wrS y.aJ m<;>cases b<;>rfl
      | some c=>cases r<;>cases (y.aJ.aa==2)<;>cases wrS y.aJ m<;>cases b<;>cases c<;>rfl)
  have all_and:∀ (l:List ap),(l.all fun y=>sR 20 m y&&opS m y)=(l.all (sR 20 m)&&l.all (opS m)):=fun l=>by
   rw[Bool.eq_iff_iff]
   simp only[all_eq_true,Bool.and_eq_true]
   exact⟨fun h=>⟨fun x hx=>(h x hx).1,fun x hx=>(h x hx).2⟩,fun h x hx=>⟨h.1 x hx,h.2 x hx⟩⟩
  rw[iw,hL,bdL,ux,all_and]
  simp only[obs,aaJ,uW,Nu,ow]
  generalize l.all (opS m)=A
  generalize l.all (sR 20 m)=B
  revert A B
  decide
def BQ (m:Int) (x:bM):Bool:=db x.ai&&(wrS x.af m&&(oz x.ac 5 m&&(oz x.aP 12 m&&bdL m x.aC)))
structure BM (x:bM):Prop where
 p:x.ac.length<=1000
 l:x.aP.length<=1000
 b:cb x.aC<=1000000
theorem GF {x} (h:BM x) (m:Int):rI x m=some (BQ m x):=by
 have h1:ny x.ac 5 m=some (oz x.ac 5 m):=wx (by have:=h.p;omega) 5 m
 have h2:ny x.aP 12 m=some (oz x.aP 12 m):=wx (by have:=h.l;omega) 12 m
 unfold rI BQ
 rw[lu,sG,h1,h2,we m _ _ (Nat.le_refl _) h.b]
 simp only[obs,ow]
 generalize db x.ai=A
 generalize wrS x.af m=B
 generalize oz x.ac 5 m=C
 generalize oz x.aP 12 m=D
 generalize bdL m x.aC=E
 revert A B C D E
 decide
def KF (n:Int) (o:aF):Bool:=(decide (o.aa=2)||(decide (o.aa=3)||decide (o.aa=4)))&&lQ o n
def hdS (c:bH):Bool:=db c.ai&&(decide (c.ac.length<=3)&&(decide (c.aH.length<=3)&&(c.ac.all db&&(if(c.aU==[])=true then decide (c.aH.length=0) else c.aH.all (KF (c.ac.length:Int))&&db c.aU))))
def clS (c:bH):Bool:=hdS c&&(oz c.aZ 12 (c.ac.length:Int)&&(decide (c.am.length<=12)&&c.am.all (BQ (c.ac.length:Int))))
structure BC (c:bH):Prop where
 p:c.ac.length<=1000
 a:c.aH.length<=1000
 f:c.aZ.length<=1000
 m:c.am.length<=1000
 ms:∀ x∈c.am,BM x
theorem gt3 (n:Nat):decide ((n:Int) > 3)= !decide (n<=3):=by rw[Bool.eq_iff_iff];simp;omega
theorem adR (n:Nat):decide ((n:Int)<=12)=decide (n<=12):=by rw[Bool.eq_iff_iff];simp;omega
theorem L8 {c} (h:BC c):vt c=some (hdS c):=by
 have hp:=h.p
 have ha:=h.a
 have h1:eY c.ac (fun z=>sn z)=some (c.ac.any fun s=> !db s):=V7 (by omega) (fun y _=>by rw[sn,lu];rfl)
 have h2:oE c ((((c.aH.length:Int):Int) - (0)).toNat+1) 0=some (if c.aH.all (KF (c.ac.length:Int))=true then .next () else .stop false):=
  Sw (oE c) (f:=fun y=>some (KF (c.ac.length:Int) y)) (by omega) (fun _ _=>rfl) (fun n x=>by
   rw[oE]
   cases h:idx c.aH x with
   | none=>rfl
   | some y=>
    simp only[um,obs,ieq,ow,KF]
    generalize decide (y.aa=2)=A
    generalize decide (y.aa=3)=B
    generalize decide (y.aa=4)=C
    generalize lQ y _=D
    cases A<;>cases B<;>cases C<;>cases D<;>rfl)
 unfold vt hdS
 rw[lu,lu,h1,h2,<- wv c.ac db]
 simp only[obs,aaJ,uW,Nu,ow,gt3,acF]
 generalize db c.ai=A
 generalize db c.aU=B
 generalize decide (c.ac.length<=3)=C
 generalize decide (c.aH.length<=3)=D
 generalize decide (c.aH.length=0)=E
 generalize (c.aU==[])=F
 generalize c.aH.all _=G
 generalize List.any c.ac _=H
 clear h1 h2 hp ha h
 revert A B C D E F G H
 decide +kernel
theorem Jh {c} (h:BC c):tV c=some (clS c):=by
 have hf:ny c.aZ 12 (c.ac.length:Int)=some (oz c.aZ 12 (c.ac.length:Int)):=wx (by have:=h.f;omega) 12 _
 have hm:ea c.am (fun z=>qM z (c.ac.length:Int))=some (c.am.any fun x=> !BQ (c.ac.length:Int) x):=N9 (by have:=h.m;omega) (fun y hy=>by rw[qM,GF (h.ms y hy)];rfl)
 unfold tV clS
 rw[L8 h,hf,hm,adR,<- wv c.am (BQ (c.ac.length:Int))]
 simp only[obs,ow]
 generalize hdS c=A
 generalize oz _ _ _=B
 generalize decide (c.am.length<=12)=C
 generalize List.any c.am _=D
 clear hf hm h
 revert A B C D
 decide
def stC (c:bH):Nat:=gK (fun x=>fc x.aC) c.am
def Kp (c r:aI) (n:Nat):Prop:=r.jF=c.jF+(n:Int)/\r.aZ=c.aZ/\r.lh=c.lh
theorem BR (t:cd) (c:aI):∃ r,fm [t] c=some r/\Kp c r 0:=by
 unfold fm
 have hidx:idx [t] 0=some t:=by rw[show (0:Int)=((0:Nat):Int) from rfl,Am];rfl
 have e1:((((([t]:List cd).length:Nat):Int) - 0:Int).toNat+1)=1+1:=rfl
 have w1:ah (0+1)=1:=by decide
 rw[e1]
 simp only[jk,hidx,obs,ieq,ow,w1]
 rw[if_pos (by simp),if_neg (by simp)]
 simp only[obs]
 refine⟨_,rfl,?_⟩
 generalize (if decide (t.aa=2)=true then decide (t.ae.a0.aa=7) else false)=b
 cases b
 ·exact⟨by simp,rfl,rfl⟩
 ·exact⟨by simp,rfl,rfl⟩
theorem NT {l} (hl:l.length<=1000000):∀ (n k:Nat) (c:aI),n+k=l.length+1->k<=l.length->∃ r,ii l n c (k:Int)=some r/\Kp c r 0
 | 0,k,c,h,hk=>by omega
 | n+1,k,c,h,hk=>by
  rw[ii]
  by_cases hlt:k < l.length
  ·obtain⟨r,h1,h2⟩:=BR l[k].aJ c
   obtain⟨r2,h3,h4⟩:=NT hl n (k+1) r (by omega) (by omega)
   rw[if_pos (by simpa using hlt),dQ hlt,obs,h1,obs,dx hlt (by omega)]
   exact⟨r2,h3,by have:=h2.1;have:=h4.1;omega,h4.2.1.trans h2.2.1,h4.2.2.trans h2.2.2⟩
  ·rw[if_neg (by simpa using hlt)]
   exact⟨c,rfl,by simp,rfl,rfl⟩
theorem KE {l} (hl:l.length<=1000000) (c:aI):∃ r,gf l c=some ((l.length:Int),r)/\Kp c r 0:=by
 obtain⟨r,h1,h2⟩:=NT hl (l.length+1) 0 c (by omega) (by omega)
 unfold gf
 rw[show ((0:Nat):Int)=0 from rfl] at h1
 rw[kF,h1]
 exact⟨r,rfl,h2⟩
theorem MQ : ∀ (f:Nat) (l:List ap) (d:Int) (c:aI) (a:Nat),cb l+1<=f->c.jF=(a:Int)->a+fc l<=10000000->cb l<=1000000->∃ r,dM f l d c=some r/\Kp c r (fc l)
 | 0,l,d,c,a,h,_,_,_=>by omega
 | f+1,l,d,c,a,hf,hc,ha,hm=>by
  have hl:=tj l
  have loop:∀ (n k:Nat) (c:aI) (a:Nat),n+k=l.length+1->k<=l.length->c.jF=(a:Int)->a+fc (l.drop k)<=10000000->∃ r,im l d (dM f) n c (k:Int)=some r/\Kp c r (fc (l.drop k)):=by
   intro n
   induction n with
   | zero=>intro k c a h hk;omega
   | succ n ih=>
    intro k c a h hk hc ha
    rw[im]
    by_cases hlt:k < l.length
    ·have h1:=wG (getElem_mem hlt)
     have h2:=Vu l[k]
     have h3:=Fq l[k]
     rw[drop_eq_getElem_cons hlt,fc] at ha ⊢
     have hw:ah (c.jF+1)=((a+1:Nat):Int):=by rw[hc,w64 (by omega) (by omega)];omega
     obtain⟨r1,k1,k2⟩:=BR l[k].aJ ({ c with jF:=ah (c.jF+1) }:aI)
     have e1:=k2.1
     simp only[hw] at e1
     obtain⟨r2,k3,k4⟩:=MQ f l[k].aC (ah (d+1)) r1 (a+1) (by omega) (by omega) (by omega) (by omega)
     have e2:=k4.1
     obtain⟨r3,k5,k6⟩:=MQ f l[k].bQ (ah (d+1)) r2 (a+1 + fc l[k].aC) (by omega) (by omega) (by omega) (by omega)
     have e3:=k6.1
     obtain⟨r4,k7,k8⟩:=ih (k+1) r3 (a+nSt l[k]) (by omega) (by omega) (by omega) (by omega)
     have e4:=k8.1
     rw[if_pos (by simpa using hlt),dQ hlt,obs,k1,obs,k3,obs,k5,obs,dx hlt (by omega),k7]
     exact⟨r4,rfl,by omega,((k8.2.1.trans k6.2.1).trans k4.2.1).trans k2.2.1,((k8.2.2.trans k6.2.2).trans k4.2.2).trans k2.2.2⟩
    ·rw[if_neg (by simpa using hlt),drop_eq_nil_of_le (by omega),fc]
     exact⟨c,rfl,by simp,rfl,rfl⟩
  rw[dM,ow,obs]
  generalize hc2:(if decide ((l.length:Int) > 0)=true then({ c with wO:=(if d > c.wO then d else c.wO) }:aI) else c)=c2
  have k0:c2.jF=c.jF/\c2.aZ=c.aZ/\c2.lh=c.lh:=by rw[<- hc2];split<;>exact⟨rfl,rfl,rfl⟩
  obtain⟨r,h1,h2⟩:=loop (l.length+1) 0 c2 a (by omega) (by omega) (by omega) (by simpa using ha)
  rw[show ((0:Nat):Int)=0 from rfl] at h1
  rw[kF,h1]
  rw[drop_zero] at h2
  exact⟨r,rfl,by have:=h2.1;omega,h2.2.1.trans k0.2.1,h2.2.2.trans k0.2.2⟩
theorem aau {y} (h:BC y):∀ (n k:Nat) (c:aI) (a:Nat),n+k=y.am.length+1->k<=y.am.length->c.jF=(a:Int)->a+gK (fun x=>fc x.aC) (y.am.drop k)<=10000000->
  ∃ r,tC y n c (k:Int)=some r/\r.jF=c.jF+((gK (fun x=>fc x.aC) (y.am.drop k):Nat):Int)
 | 0,k,c,a,h1,hk,_,_=>by omega
 | n+1,k,c,a,h1,hk,hc,ha=>by
  have hm:=h.m
  rw[tC]
  by_cases hlt:k < y.am.length
  ·have hb:=h.ms _ (getElem_mem hlt)
   rw[drop_eq_getElem_cons hlt,gK] at ha ⊢
   obtain⟨r1,k1,k2⟩:=BR y.am[k].af c
   obtain⟨r2,k3,k4⟩:=KE (l:=y.am[k].ac) (by have:=hb.p;omega) r1
   obtain⟨r3,k5,k6⟩:=KE (l:=y.am[k].aP) (by have:=hb.l;omega) r2
   have q2:=k2.1
   have q4:=k4.1
   have q6:=k6.1
   have v4:r2.lh=r1.lh:=k4.2.2
   have v6:r3.lh=r1.lh:=k6.2.2.trans k4.2.2
   obtain⟨r4,k7,k8⟩:=MQ (cb y.am[k].aC+1) y.am[k].aC 1 ({ r3 with lh:=ah (r1.lh+(ah ((y.am[k].ac.length:Int)+(y.am[k].aP.length:Int)))) }:aI) a (Nat.le_refl _) (by simp only;omega) (by omega) hb.b
   have q8:=k8.1
   simp only at q8
   obtain⟨r5,k9,k10⟩:=aau h n (k+1) r4 (a+fc y.am[k].aC) (by omega) (by omega) (by omega) (by omega)
   rw[if_pos (by simpa using hlt),dQ hlt,obs,k1,obs,k3,obs]
   simp only[v4,FH,obs]
   rw[k5,obs]
   simp only[v6,FH,obs]
   rw[k7,obs,dx hlt (by omega),k9]
   exact⟨r5,rfl,by omega⟩
  ·rw[if_neg (by simpa using hlt),drop_eq_nil_of_le (by omega)]
   exact⟨c,rfl,by simp[gK]⟩
structure BP (p:List bH):Prop where
 n:p.length<=1000
 c:∀ x∈p,BC x
 s:gK stC p<=1000000
theorem aaI {p} (hn:p.length<=1000) (hB:∀ x∈p,BC x):∀ (n k:Nat) (c:aI) (a:Nat),n+k=p.length+1->k<=p.length->c.jF=(a:Int)->a+gK stC (p.drop k)<=10000000->
  ∃ r,ub p n c (k:Int)=some r/\r.jF=c.jF+((gK stC (p.drop k):Nat):Int)
 | 0,k,c,a,h1,hk,_,_=>by omega
 | n+1,k,c,a,h1,hk,hc,ha=>by
  rw[ub]
  by_cases hlt:k < p.length
  ·have hb:=hB _ (getElem_mem hlt)
   have hm:=hb.m
   rw[drop_eq_getElem_cons hlt,gK] at ha ⊢
   obtain⟨r1,k1,k2⟩:=KE (l:=p[k].aZ) (by have:=hb.f;omega) c
   have q2:=k2.1
   have v2:r1.aZ=c.aZ:=k2.2.1
   obtain⟨r2,k3,k4⟩:=aau hb (p[k].am.length+1) 0 ({ ({ r1 with aZ:=ah (c.aZ+(p[k].aZ.length:Int)) }:aI) with am:=ah ((({ r1 with aZ:=ah (c.aZ+(p[k].aZ.length:Int)) }:aI).am)+(p[k].am.length:Int)) }:aI) a (by omega) (by omega) (by simp only;omega) (by rw[drop_zero];have:stC p[k]=gK (fun x=>fc x.aC) p[k].am:=rfl;omega)
   rw[drop_zero] at k4
   simp only at k4
   have hst:stC p[k]=gK (fun x=>fc x.aC) p[k].am:=rfl
   obtain⟨r3,k5,k6⟩:=aaI hn hB n (k+1) r2 (a+stC p[k]) (by omega) (by omega) (by omega) (by omega)
   rw[if_pos (by simpa using hlt),dQ hlt,obs,k1,obs]
   simp only[v2,FH,obs,kF]
   rw[show ((0:Nat):Int)=0 from rfl] at k3
   rw[k3,obs,dx hlt (by omega),k5]
   exact⟨r3,rfl,by omega⟩
  ·rw[if_neg (by simpa using hlt),drop_eq_nil_of_le (by omega)]
   exact⟨c,rfl,by simp[gK]⟩
theorem RB {p} (h:BP p):∃ r,Av p=some r/\r.jF=((gK stC p:Nat):Int):=by
 obtain⟨r,h1,h2⟩:=aaI h.n h.c (p.length+1) 0 (⟨(p.length:Int),0,0,0,0,0,0⟩:aI) 0 (by omega) (by omega) rfl (by rw[drop_zero];have:=h.s;omega)
 unfold Av
 rw[show ((0:Nat):Int)=0 from rfl] at h1
 rw[kF,h1,obs]
 rw[drop_zero] at h2
 exact⟨r,rfl,by rw[h2];simp⟩
def rS (p:List bH):Bool:=decide (p.length<=20)&&(p.all clS&&decide (gK stC p<=400))
theorem IC {p} (h:BP p):un p=some (rS p):=by
 have hn:=h.n
 obtain⟨r,h1,h2⟩:=RB h
 have h3:decide (r.jF<=400)=decide (gK stC p<=400):=by rw[h2,Bool.eq_iff_iff];simp;omega
 have h4:decide ((p.length:Int)<=20)=decide (p.length<=20):=by rw[Bool.eq_iff_iff];simp;omega
 unfold un rS
 rw[P7 (b:=fun c=> !clS c) (by omega) (fun y hy=>by rw[tc,Jh (h.c y hy)];rfl),h1,h4]
 simp only[obs,ow,h3,wv]
 generalize decide (p.length<=20)=A
 generalize p.all clS=B
 generalize decide (gK stC p<=400)=C
 clear h1 h2 h3 h4 hn h
 revert A B C
 decide
theorem Wx {c} (h:BC c) {j} (hj:j < c.am.length):∀ (n k a:Nat),n+k=c.am[j].aC.length+1->k<=c.am[j].aC.length->a+fc (c.am[j].aC.drop k)<=10000000->nZ c (j:Int) n (a:Int) (k:Int)=some ((a+fc (c.am[j].aC.drop k):Nat):Int)
 | 0,k,a,h1,hk,_=>by omega
 | n+1,k,a,h1,hk,ha=>by
  have hb:=(h.ms _ (getElem_mem hj)).b
  have hl:=tj c.am[j].aC
  rw[nZ,dQ hj,obs]
  by_cases hlt:k < c.am[j].aC.length
  ·have h2:=wG (getElem_mem hlt)
   rw[drop_eq_getElem_cons hlt,fc] at ha ⊢
   rw[if_pos (by simpa using hlt),obs,dQ hlt,obs,pd _ _ (Nat.le_refl _) (by omega),obs,dx hlt (by omega),w64 (by omega) (by omega),show (a:Int)+(nSt c.am[j].aC[k]:Int)=((a+nSt c.am[j].aC[k]:Nat):Int) by omega,Wx h hj n (k+1) _ (by omega) (by omega) (by omega)]
   congr 2;omega
  ·rw[if_neg (by simpa using hlt),drop_eq_nil_of_le (by omega),fc,Nat.add_zero]
theorem Wh {c} (h:BC c):∀ (n k a:Nat),n+k=c.am.length+1->k<=c.am.length->a+gK (fun x=>fc x.aC) (c.am.drop k)<=10000000->nI c n (a:Int) (k:Int)=some ((a+gK (fun x=>fc x.aC) (c.am.drop k):Nat):Int)
 | 0,k,a,h1,hk,_=>by omega
 | n+1,k,a,h1,hk,ha=>by
  have hm:=h.m
  rw[nI]
  by_cases hlt:k < c.am.length
  ·rw[drop_eq_getElem_cons hlt,gK] at ha ⊢
   have h2:=Wx h hlt (c.am[k].aC.length+1) 0 a (by omega) (by omega) (by rw[drop_zero];omega)
   rw[drop_zero,show ((0:Nat):Int)=0 from rfl] at h2
   rw[if_pos (by simpa using hlt),dQ hlt,obs,Option.getD_some,kF,h2,obs,dx hlt (by omega),Wh h n (k+1) _ (by omega) (by omega) (by omega)]
   congr 2;omega
  ·rw[if_neg (by simpa using hlt),drop_eq_nil_of_le (by omega)]
   simp[gK]
theorem nJ {c} (h:BC c) (hs:stC c<=1000000):lj c=some ((stC c:Nat):Int):=by
 have h1:=Wh h (c.am.length+1) 0 0 (by omega) (by omega) (by rw[drop_zero];have:stC c=gK (fun x=>fc x.aC) c.am:=rfl;omega)
 unfold lj
 rw[show ((0:Nat):Int)=0 from rfl] at h1
 rw[kF,h1,obs,drop_zero,Nat.zero_add]
 rfl
theorem S8 {α:Type} (f:α->Nat):∀ {l:List α} {x:α},x∈l->f x<=gK f l
 | y::l,x,h=>by
  rcases List.mem_cons.1 h with rfl | h
  ·simp only[gK];omega
  ·have:=S8 f h
   simp only[gK];omega
theorem eH {n:Int} {α:Type} {f:Unit->Option α} (h:n<=100000000000000):Option.bind (dL n 1) f=f ():=by rw[ed (by omega)];rfl
theorem pc {α:Type} (a b:List α):(((a++b).length:Nat):Int)=(a.length:Int)+(b.length:Int):=by rw[length_append];omega
theorem jH {α:Type} (x:α) (b:List α):(((x::b).length:Nat):Int)=(b.length:Int)+1:=by simp
theorem jO {α:Type}:((([]:List α).length:Nat):Int)=0:=rfl
def lvS (k:Int):Int:=if k=6\/k=7 then 2 else if k=8 then 3 else if k=9\/k=10 then 1 else if k=11 then 0 else 4
def sgS (k:Int):List UInt8:=if k=6 then [43] else if k=7 then [45] else if k=8 then [42] else if k=9 then [60] else if k=10 then [61,61] else [38,38]
def FE (b:Bool) (s:List UInt8):List UInt8:=if b=true then [40]++(s++[41]) else s
def so (t:List (Int->List UInt8)) (i:Nat) (m:Int):List UInt8:=match t[i]? with | some f=>f m | none=>[]
def eTs (k n:Int) (nm:List UInt8) (a b:Int->List UInt8):List UInt8:=
 if k=1 then vu n else if k=2 then nm else if k=3 then [116,104,105,115] else if k=4 then [110,117,108,108] else if k=5 then [105,110,112,117,116]
 else if k=12 then [33]++a 4 else if k=13 then [110,105,108,40]++(a 4++[41]) else if k=14 then [115,97,109,101,40]++(a 4++([44,32]++(b 4++[41])))
 else a (if lvS k=1 then 2 else lvS k)++([32]++(sgS k++([32]++b (lvS k+1))))
mutual
def eT : au->Int->List UInt8
 | ⟨k,n,nm,l⟩,m=>FE (decide (lvS k < m)) (eTs k n nm (so (eTL l) 0) (so (eTL l) 1))
def eTL : List au->List (Int->List UInt8)
 | []=>[]
 | e::l=>eT e::eTL l
end
theorem Ac (e:au) (m:Int):eT e m=FE (decide (lvS e.aa < m)) (eTs e.aa e.dp e.ai (so (eTL e.aY) 0) (so (eTL e.aY) 1)):=by cases e;rw[eT]
theorem wB {e x} (h:fS e=true) (hx:x∈e.aY):fS x=true:=by
 rw[zZ,Bool.and_eq_true,all_eq_true] at h
 exact h.2 x hx
theorem nR {e} (h:fS e=true):(1<=e.aa/\e.aa<=14)/\(e.aY.length:Int)=uH e.aa/\(e.aa=1->0<=e.dp/\e.dp<=999999999)/\(e.aa=2->db e.ai=true)/\
  (e.aa=13->∀ x∈e.aY,x.aa=2\/x.aa=3)/\(e.aa=14->∀ x∈e.aY,x.aa=2\/x.aa=3\/x.aa=4)/\(e.aa≠1->e.dp=0)/\(e.aa≠2->e.ai=[]):=by
 rw[zZ,Bool.and_eq_true] at h
 have h1:=h.1
 unfold vV zg at h1
 simp only[Bool.and_eq_true,Bool.or_eq_true,decide_eq_true_eq,Bool.not_eq_true',decide_eq_false_iff_not,all_eq_true,beq_iff_eq] at h1
 obtain⟨⟨a,b,c,d,f⟩,g⟩:=h1
 have hk:1<=e.aa/\e.aa<=14:=by
  unfold uH at a
  split at a
  ·omega
  ·split at a
   ·omega
   ·split at a<;>omega
 refine⟨hk,a,fun h1=> ?_,fun h2=> ?_,fun h3 x hx=> ?_,fun h4 x hx=> ?_,fun h5=> ?_,fun h6=> ?_⟩
 ·rcases d with d | d
  ·exact absurd h1 d
  ·exact⟨by omega,by omega⟩
 ·rcases f with f | f
  ·exact absurd h2 f
  ·exact f
 ·have:=g x hx
  unfold vQ at this
  rw[if_pos h3] at this
  simpa using this
 ·have:=g x hx
  unfold vQ at this
  rw[if_neg (by omega),if_pos h4] at this
  simpa using this
 ·rcases b with b | b
  ·exact absurd b h5
  ·exact b
 ·rcases c with c | c
  ·exact absurd c h6
  ·exact c
theorem PD (l:List Int):(pY l).length=l.length:=by simp[pY]
theorem WI (a:Int):(vu a).length<=23:=by
 unfold vu
 have h1:=Lv 21 a.natAbs
 rw[length_append,length_append,PD,PD,length_reverse]
 have:(if a < 0 then [45] else([]:List UInt8)).length<=1:=by split<;>simp
 simp only[length_cons,length_nil]
 omega
theorem XI (b:Bool) (s:List UInt8):(FE b s).length<=s.length+2:=by
 unfold FE;split<;>simp
theorem SH (k:Int):(sgS k).length<=2:=by
 unfold sgS
 repeat (first | split | (simp only[length_cons,length_nil];omega))
theorem NJ {e:au} (h:(e.aY.length:Int)=uH e.aa) (hk:e.aa=12\/e.aa=13):∃ x,e.aY=[x]:=by
 have:e.aY.length=1:=by
  have h1:uH e.aa=1:=by rcases hk with hk | hk<;>(rw[hk];rfl)
  omega
 exact List.length_eq_one_iff.1 this
theorem Pw {e:au} (h:(e.aY.length:Int)=uH e.aa) (hk:(6<=e.aa/\e.aa<=11)\/e.aa=14):∃ x y,e.aY=[x,y]:=by
 have:e.aY.length=2:=by
  unfold uH at h
  rw[if_neg (by omega),if_neg (by omega),if_pos hk] at h
  omega
 match e.aY,this with
 | [x,y],_=>exact⟨x,y,rfl⟩
theorem aaw (x:au) (m:Int):so (eTL [x]) 0 m=eT x m:=rfl
theorem Rl (x y:au) (m:Int):so (eTL [x,y]) 0 m=eT x m:=rfl
theorem Kz (x y:au) (m:Int):so (eTL [x,y]) 1 m=eT y m:=rfl
theorem JW (x:au):x∈[x]:=by simp
theorem Ey (x y:au):x∈[x,y]:=by simp
theorem Bu (x y:au):y∈[x,y]:=by simp
theorem m_1 {e x} (h:e.aY=[x]):bR e=1+bR x:=by rw[qU,h];simp[ct]
theorem m_2 {e x y} (h:e.aY=[x,y]):bR e=1+bR x+bR y:=by rw[qU,h];simp[ct];omega
theorem LK {k n:Int} {nm a b A B} (hk:k=2->nm.length<=20) (ha:∀ m,(a m).length<=A) (hb:∀ m,(b m).length<=B):(eTs k n nm a b).length+20<=A+B + 60:=by
 have h1:=WI n
 have h2:=ha 4
 have h3:=hb 4
 have h4:=SH k
 have h5:=ha (if lvS k=1 then 2 else lvS k)
 have h6:=hb (lvS k+1)
 unfold eTs
 generalize (if lvS k=1 then 2 else lvS k)=q at *
 split
 ·omega
 ·split
  ·rename_i h;have:=hk h;omega
  ·repeat (first | split | (simp only[length_append,length_cons,length_nil];omega))
theorem B7 : ∀ (f:Nat) (e:au) (m:Int),bR e<=f->fS e=true->(eT e m).length<=60 * bR e
 | 0,e,m,h,_=>by have:=qU e;omega
 | f+1,e,m,h,he=>by
  obtain⟨hk,hl,h1,h2,-⟩:=nR he
  have hm:=qU e
  rw[Ac]
  have hp:=XI (decide (lvS e.aa < m)) (eTs e.aa e.dp e.ai (so (eTL e.aY) 0) (so (eTL e.aY) 1))
  have hn:e.aa=2->e.ai.length<=20:=fun k=>jV (h2 k)
  by_cases hk2:(6<=e.aa/\e.aa<=11)\/e.aa=14
  ·obtain⟨x,y,hxy⟩:=Pw hl hk2
   have m2:=m_2 hxy
   have hx:=fun m=>B7 f x m (by omega) (wB he (by rw[hxy];exact Ey x y))
   have hy:=fun m=>B7 f y m (by omega) (wB he (by rw[hxy];exact Bu x y))
   have:=LK (k:=e.aa) (n:=e.dp) (nm:=e.ai) (a:=so (eTL e.aY) 0) (b:=so (eTL e.aY) 1) hn (by rw[hxy];exact hx) (by rw[hxy];exact hy)
   omega
  ·by_cases hk1:e.aa=12\/e.aa=13
   ·obtain⟨x,hx0⟩:=NJ hl hk1
    have m1:=m_1 hx0
    have hx:=fun m=>B7 f x m (by omega) (wB he (by rw[hx0];exact JW x))
    have:=LK (k:=e.aa) (n:=e.dp) (nm:=e.ai) (a:=so (eTL e.aY) 0) (b:=so (eTL e.aY) 1) (B:=0) hn (by rw[hx0];exact hx) (by rw[hx0];exact fun m=>Nat.le_refl _)
    omega
   ·have h0:e.aY=[]:=by
     have:e.aY.length=0:=by
      unfold uH at hl
      rw[if_pos (by omega)] at hl
      omega
     exact eq_nil_of_length_eq_zero this
    have:=LK (k:=e.aa) (n:=e.dp) (nm:=e.ai) (a:=so (eTL e.aY) 0) (b:=so (eTL e.aY) 1) (A:=0) (B:=0) hn (by rw[h0];exact fun m=>Nat.le_refl _) (by rw[h0];exact fun m=>Nat.le_refl _)
    omega
theorem adI {n:Int} (h:0<=n/\n<=999999999):pR n=some (vu n):=Gd (by omega) (by omega)
theorem aaD (x:au):idx [x] 0=some x:=rfl
theorem W4 (x y:au):idx [x,y] 0=some x:=rfl
theorem Yk (x y:au):idx [x,y] 1=some y:=rfl
theorem V8 {c s} (h:s.length<=10000000000000):(if c=true then Option.bind (dL ((([40]:List UInt8).length:Int)+(s.length:Int)) 1) fun(_:Unit)=>Option.bind (dL ((([40]++s).length:Int)+(([41]:List UInt8).length:Int)) 1) fun(_:Unit)=>some (([40]++s)++[41]) else some s)=some (FE c s):=by
 cases c with
 | false=>rfl
 | true=>
  rw[if_pos rfl,eH (by simp only[jH,jO];omega),eH (by simp only[pc,jH,jO];omega)]
  simp[FE]
theorem rR {k:Int} (h:6<=k/\k<=11):k=6\/k=7\/k=8\/k=9\/k=10\/k=11:=by omega
theorem Ca {k:Int} (h:6<=k/\k<=11):lvS k < 4/\0<=lvS k/\idx [[43],[45],[42],[60],[61,61],([38,38]:List UInt8)] (ah (k - 6))=some (sgS k):=by
 rcases rR h with rfl | rfl | rfl | rfl | rfl | rfl<;>exact⟨by decide,by decide,rfl⟩
theorem Ko {k n:Int} {nm a b} (h:6<=k/\k<=11):eTs k n nm a b=a (if lvS k=1 then 2 else lvS k)++([32]++(sgS k++([32]++b (lvS k+1)))):=by
 unfold eTs
 rw[if_neg (by omega),if_neg (by omega),if_neg (by omega),if_neg (by omega),if_neg (by omega),if_neg (by omega),if_neg (by omega),if_neg (by omega)]
theorem adH {a b:Int} (h:a≠b):(a==b)=false:=by simp[h]
def lvP (k:Int):Int:=if lvS k=4 then 5 else lvS k+1
theorem abn {k:Int} (h:1<=k/\k<=14) {m:Int} (hm:m<=4):decide (lvP k < m+1)=decide (lvS k < m):=by
 have h4:lvS k<=4:=by rcases N4 h with rfl | rfl | rfl | rfl | rfl | rfl | rfl | rfl | rfl | rfl | rfl | rfl | rfl | rfl<;>decide
 unfold lvP
 rw[Bool.eq_iff_iff,decide_eq_true_eq,decide_eq_true_eq]
 split<;>omega
theorem Xb {k:Int} (h:1<=k/\k<=14):decide (lvP k < 0)=false/\decide (lvS k < 0)=false:=by
 rcases N4 h with rfl | rfl | rfl | rfl | rfl | rfl | rfl | rfl | rfl | rfl | rfl | rfl | rfl | rfl<;>decide
theorem Vh {e} (h:6<=e.aa/\e.aa<=11):∃ i,iL B6 (fun(z44:Gbind_expr)=>rM z44 e)=some i/\idx B6 i=some ⟨sgS e.aa,lvS e.aa+1,e.aa⟩:=by
 rw[show (fun(z44:Gbind_expr)=>rM z44 e)=fun z=>some (z.fkind==e.aa) from rfl]
 generalize e.aa=k at *
 rcases rR h with rfl | rfl | rfl | rfl | rfl | rfl<;>exact⟨_,rfl,rfl⟩
theorem acL {a b c} (h:a.length+b.length+c.length<=10000000000000):strings_Join [a,b,c] [32]=some (a++([32]++(b++([32]++c)))):=by
 have hj:Lib.join [a,b,c] [32]=a++([32]++(b++([32]++c))):=by simp[Lib.join,intercalate]
 unfold strings_Join CU
 rw[hj,if_pos ⟨by simp,by simp only[length_append,length_cons,length_nil];omega⟩]
theorem zO {e} {m M:Int} {f} (ht:oQ f e=some (eTs e.aa e.dp e.ai (so (eTL e.aY) 0) (so (eTL e.aY) 1),lvP e.aa)) (hc:decide (lvP e.aa < M)=decide (lvS e.aa < m)) (hl:bR e<=1000000) (he:fS e=true):lc (f+1) e M=some (eT e m):=by
 have hb:(eTs e.aa e.dp e.ai (so (eTL e.aY) 0) (so (eTL e.aY) 1)).length<=10000000000000:=by
  have h1:=B7 _ e 0 (Nat.le_refl _) he
  rw[Ac,(Xb (nR he).1).2] at h1
  have:FE false (eTs e.aa e.dp e.ai (so (eTL e.aY) 0) (so (eTL e.aY) 1))=eTs e.aa e.dp e.ai (so (eTL e.aY) 0) (so (eTL e.aY) 1):=rfl
  rw[this] at h1
  omega
 rw[lc,ht,obs,Ac,<- hc]
 exact V8 hb
theorem A8 : ∀ (n:Nat) (e:au) (f:Nat),bR e<=n->2 * bR e<=f->bR e<=1000000->fS e=true->oQ f e=some (eTs e.aa e.dp e.ai (so (eTL e.aY) 0) (so (eTL e.aY) 1),lvP e.aa)
 | 0,e,f,h,_,_,_=>by have:=qU e;omega
 | n+1,e,0,h,hf,_,_=>by have:=qU e;omega
 | n+1,e,1,h,hf,_,_=>by have:=qU e;omega
 | n+1,e,f+2,h,hf,hm,he=>by
  obtain⟨hk,hl,h1,h2,h0,h3,-⟩:=nR he
  have hK:∀ x∈e.aY,(∀ m,m<=4->lc (f+1) x (m+1)=some (eT x m))/\(x.aa=2\/x.aa=3\/x.aa=4->lc (f+1) x 0=some (eT x 4))/\∀ m,(eT x m).length<=60000000:=fun x hx=>by
   have:=xL hx
   have hfx:=wB he hx
   have ht:=A8 n x f (by omega) (by omega) (by omega) hfx
   refine⟨fun m hm4=>zO ht (abn (nR hfx).1 hm4) (by omega) hfx,fun hat=>zO ht ?_ (by omega) hfx,fun m=>by have:=B7 _ x m (Nat.le_refl _) hfx;omega⟩
   rw[(Xb (nR hfx).1).1]
   rcases hat with k | k | k<;>rw[k]<;>rfl
  rw[oQ]
  by_cases hbin:6<=e.aa/\e.aa<=11
  ·obtain⟨x,y,hx⟩:=Pw hl (.inl hbin)
   have hw:=hK x (by rw[hx];exact Ey x y)
   have hv:=hK y (by rw[hx];exact Bu x y)
   obtain⟨hlt,hge,-⟩:=Ca hbin
   obtain⟨i,hi1,hi2⟩:=Vh hbin
   have hs:=SH e.aa
   have hb:=hw.2.2 (if lvS e.aa=1 then 2 else lvS e.aa)
   have hc:=hv.2.2 (lvS e.aa+1)
   have hw1:ah (lvS e.aa+1 + 1)=lvS e.aa+1 + 1:=w64 (by omega) (by omega)
   have hlv:lvP e.aa=lvS e.aa+1:=by unfold lvP;rw[if_neg (by omega)]
   have hleft:((if(e.aa==9)=true then some true else some (e.aa==10):Option Bool).bind fun x0=>if x0=true then some (ah (lvS e.aa+1 + 1)) else some (lvS e.aa+1))=some ((if lvS e.aa=1 then 2 else lvS e.aa)+1):=by
    generalize e.aa=k at *
    rcases rR hbin with rfl | rfl | rfl | rfl | rfl | rfl<;>rfl
   have q0:∀ j:Int,j < 6\/11 < j->(e.aa==j)=false:=fun j hj=>adH (by omega)
   rw[q0 1 (by omega),q0 2 (by omega),q0 3 (by omega),q0 4 (by omega),q0 5 (by omega),q0 12 (by omega),q0 13 (by omega),q0 14 (by omega)]
   simp only[Bool.false_eq_true,if_false]
   rw[hi1,obs,hi2,obs]
   simp only
   rw[hleft,obs,hx,W4,obs,hw.1 _ (by split<;>omega),obs,Yk,obs,hw1,hv.1 _ (by omega),obs,acL (by omega),obs,Ko hbin,Rl,Kz,hlv]
  ·by_cases k:e.aa=1
   ·rw[k,adI (h1 k)];rfl
   ·by_cases k2:e.aa=2
    ·rw[k2];rfl
    ·by_cases k3:e.aa=3
     ·rw[k3];rfl
     ·by_cases k4:e.aa=4
      ·rw[k4];rfl
      ·by_cases k5:e.aa=5
       ·rw[k5];rfl
       ·by_cases k12:e.aa=12
        ·obtain⟨x,hx⟩:=NJ hl (.inl k12)
         have hw:=hK x (by rw[hx];exact JW x)
         have hb:=hw.2.2 4
         have hw4:=hw.1 4 (by omega)
         rw[show (4:Int)+1=5 from rfl] at hw4
         rw[k12,hx]
         simp only[aaD,hw4,Int.reduceBEq,obs,Bool.false_eq_true,if_false,if_true]
         rw[eH (by simp only[jH,jO];omega)]
         rfl
        ·by_cases k13:e.aa=13
         ·obtain⟨x,hx⟩:=NJ hl (.inr k13)
          have hw:=hK x (by rw[hx];exact JW x)
          have hb:=hw.2.2 4
          have hw4:=hw.2.1 (by rcases h0 k13 x (by rw[hx];exact JW x) with h | h<;>simp[h])
          rw[k13,hx]
          simp only[aaD,hw4,Int.reduceBEq,obs,Bool.false_eq_true,if_false,if_true]
          rw[eH (by simp only[jH,jO];omega),eH (by simp only[pc,jH,jO];omega),append_assoc]
          rfl
         ·have k14:e.aa=14:=by omega
          obtain⟨x,y,hx⟩:=Pw hl (.inr k14)
          have hw:=hK x (by rw[hx];exact Ey x y)
          have hv:=hK y (by rw[hx];exact Bu x y)
          have hb:=hw.2.2 4
          have hc:=hv.2.2 4
          have hw4:=hw.2.1 (h3 k14 x (by rw[hx];exact Ey x y))
          have hv4:=hv.2.1 (h3 k14 y (by rw[hx];exact Bu x y))
          rw[k14,hx]
          simp only[W4,Yk,hw4,hv4,Int.reduceBEq,obs,Bool.false_eq_true,if_false,if_true]
          rw[eH (by simp only[jH,jO];omega),eH (by simp only[pc,jH,jO];omega),eH (by simp only[pc,jH,jO];omega),eH (by simp only[pc,jH,jO];omega)]
          simp only[append_assoc]
          rfl
def eX (e:au):List UInt8:=if fq e=true then eT e 0 else []
theorem ja {e} (h:fq e=true):fS e=true:=by
 unfold fq at h
 simp only[Bool.and_eq_true] at h
 first | exact h.1 | exact h.2
theorem wt {e} (he:bR e<=1000000):re e=some (eX e):=by
 unfold re eX
 rw[vd he,obs]
 cases h:fq e with
 | false=>rfl
 | true=>
  have hf:=ja h
  have h0:=Xb (nR hf).1
  rw[if_neg (by decide),zO (m:=0) (A8 _ e _ (Nat.le_refl _) (by omega) he hf) (by rw[h0.1,h0.2]) he hf]
  rfl
theorem Mw (e:au):(eX e).length<=60 * bR e:=by
 unfold eX
 split
 ·rename_i h;exact B7 _ e 0 (Nat.le_refl _) (ja h)
 ·simp
theorem lV (a b:List UInt8):bu (a++b)=bu a++bu b:=by simp[bu]
theorem da (a:List UInt8):(bu a).length=a.length:=by simp[bu]
def gr {α β:Type} (g:Nat->α -> List β):Nat->List α->List β
 | _,[]=>[]
 | k,y::t=>g k y++gr g (k+1) t
theorem Oh {α β:Type} {L:Nat->List β->Int->Option (List β)} {l:List α} {g:Nat->α -> List β} {M:Nat}
  (hL:∀ (n k:Nat) (x:List β) (h:k < l.length),x.length+(g k l[k]).length<=M->L (n+1) x (k:Int)=L n (x++g k l[k]) ((k+1:Nat):Int)) (hE:∀ (n:Nat) (x:List β),L (n+1) x (l.length:Int)=some x):
  ∀ (n k:Nat) (x:List β),n+k=l.length+1->k<=l.length->x.length+(gr g k (l.drop k)).length<=M->L n x (k:Int)=some (x++gr g k (l.drop k))
 | 0,k,x,h,hk,_=>by omega
 | n+1,k,x,h,hk,hm=>by
  by_cases hlt:k < l.length
  ·rw[drop_eq_getElem_cons hlt,gr,length_append] at hm
   rw[hL n k x hlt (by omega),Oh hL hE n (k+1) _ (by omega) (by omega) (by rw[length_append];omega),drop_eq_getElem_cons hlt,gr,append_assoc]
  ·have:k=l.length:=by omega
   subst this
   rw[hE,drop_length,gr,append_nil]
theorem xw {α β:Type} (L:Nat->List β->Int->Option (List β)) {l} (g:Nat->α -> List β) (M:Nat) {x}
  (hL:∀ (n k:Nat) (x:List β) (h:k < l.length),x.length+(g k l[k]).length<=M->L (n+1) x (k:Int)=L n (x++g k l[k]) ((k+1:Nat):Int)) (hE:∀ (n:Nat) (x:List β),L (n+1) x (l.length:Int)=some x) (hm:x.length+(gr g 0 l).length<=M):
  L ((((l.length:Int):Int) - (0)).toNat+1) x 0=some (x++gr g 0 l):=by
 have:=Oh hL hE (l.length+1) 0 x (by omega) (by omega) (by rw[drop_zero];exact hm)
 rw[drop_zero,show ((0:Nat):Int)=0 from rfl] at this
 rw[kF,this]
theorem qJ {α β:Type} (g:α->List β):∀ (l:List α) (k:Nat),gr (fun _ y=>g y) k l=(l.map g).flatten
 | [],_=>rfl
 | y::t,k=>by rw[gr,qJ g t,map_cons,flatten_cons]
theorem zI {α β:Type} (g:α->β):∀ (l:List α) (k:Nat),gr (fun _ y=>[g y]) k l=l.map g
 | [],_=>rfl
 | y::t,k=>by rw[gr,zI g t,map_cons];rfl
theorem qK {α:Type} (g:Nat->α -> List UInt8):∀ (l:List α) (k:Nat),gr (fun k y=>bu (g k y)) k l=bu (gr g k l)
 | [],_=>rfl
 | y::t,k=>by rw[gr,gr,qK g t,lV]
def cm : List (List UInt8)->List UInt8
 | []=>[]
 | x::r=>x++(r.map ([44,32]++·)).flatten
theorem Sd {l} (hl:l.length<=1000000) (h:(cm l).length<=100000000000000):strings_Join l [44,32]=some (cm l):=by
 have hj:Lib.join l [44,32]=cm l:=by
  cases l with
  | nil=>rfl
  | cons x r=>rw[Lib.join_cons,cm,Lib.joinTail]
 unfold strings_Join CU
 rw[hj,if_pos ⟨by omega,by omega⟩]
theorem Kq {α:Type} (g:α->List UInt8):∀ l:List α,((l.map g).flatten).length=gK (fun y=>(g y).length) l
 | []=>rfl
 | y::t=>by rw[map_cons,flatten_cons,length_append,Kq g t,gK]
theorem U1 (l:List (List UInt8)):(cm l).length<=gK (fun x=>x.length+2) l:=by
 cases l with
 | nil=>simp[cm]
 | cons x r=>
  have h:=Kq ([44,32]++·) r
  have e:gK (fun y:List UInt8=>([44,32]++y).length) r=gK (fun x=>x.length+2) r:=rfl
  rw[cm,length_append,h,e,gK];omega
theorem Ah {α:Type} {f c}:∀ {l:List α},(∀ y∈l,f y<=c)->gK f l<=l.length * c
 | [],_=>by simp[gK]
 | y::t,h=>by
  have h1:=h y (by simp)
  have h2:=Ah (l:=t) fun z hz=>h z (by simp[hz])
  simp only[gK,length_cons,Nat.succ_mul];omega
theorem Fu {α β:Type} (f:β->Nat) (g:α->β):∀ l:List α,gK f (l.map g)=gK (fun y=>f (g y)) l
 | []=>rfl
 | y::t=>by rw[map_cons,gK,Fu f g t,gK]
structure PS (ps:List (List UInt8)):Prop where
 n:ps.length<=1000
 l:∀ p∈ps,p.length<=20
theorem xD {ps} (h:PS ps) (o:aF):(gL o ps).length<=20:=by
 unfold gL
 split
 ·split
  ·cases hh:ps[(o.fN - 1).toNat]? with
   | none=>simp
   | some p=>exact h.l p (mem_of_getElem? hh)
  ·unfold yJ
   repeat (first | (split) | (simp only[length_cons,length_nil];omega))
 ·simp
theorem UI {ps} (h:PS ps) (o:aF):(gL o ps).length<=10000000000:=by have:=xD h o;omega
theorem Uw : ∀ (l:List (List UInt8)),(∀ x∈l,x.length<=20)->(yT l).length<=22 * l.length+3
 | [],_=>by simp[yT]
 | x::r,h=>by
  have h1:=h x (by simp)
  have h2:=Kq ([44,32]++·) r
  have h3:=Ah (f:=fun y:List UInt8=>([44,32]++y).length) (c:=22) (l:=r) fun y hy=>by have:=h y (by simp[hy]);simp;omega
  simp only[yT,length_append,length_cons,length_nil,h2]
  simp only[length_append,length_cons,length_nil] at h3
  omega
theorem vk {ps} (h:PS ps) (t:cd):(vh t ps).length<=200:=by
 unfold vh
 split
 ·rename_i hr
  split
  ·simp
  ·rename_i h0
   split
   ·simp
   ·rename_i h1
    have hc:=jV (Kv hr h0 h1).2.1
    have h2:=xD h t.ae.a0
    have h3:=Uw (((own t).drop 1).map (gL · ps)) fun x hx=>by
     obtain⟨o,_,rfl⟩:=List.mem_map.1 hx
     exact xD h o
    have h4:=Qc t
    rw[length_map,length_drop] at h3
    have h5:(if t.ae.a0.aa=7 then [] else gL t.ae.a0 ps++[32]).length<=21:=by
     split
     ·simp
     ·simp;omega
    rw[length_append,length_append]
    omega
 ·simp
theorem Fx {ps} (h:PS ps) (t:cd):oX t ps=some (vh t ps):=MF h.n (UI h)
def tB (d:Nat):List UInt8:=replicate d 9
def LF (l:List au):List UInt8:=cm (l.map eX)
def plS (ps:List (List UInt8)) (k:Int) (y nm:List UInt8) (t:cd) (e:au) (ar:List au):List UInt8:=
 if k=1 then eX e else if k=2 then y++([46]++nm) else if k=3 then y++([46]++(nm++([32,61,32]++eX e)))
 else if k=4 then y++([46]++(nm++([40]++(LF ar++[41])))) else if k=5 then [110,101,119,32]++vh t ps
 else if k=6 then [99,97,115,116,32]++(vh t ps++([32]++eX e)) else if k=7 then [109,111,118,101,32]++y else if k=8 then [100,101,108,101,116,101,32]++y
 else if eX e=[] then [114,101,116,117,114,110] else [114,101,116,117,114,110,32]++eX e
def xxS (x:List UInt8):List UInt8:=if x=[] then [] else x++[32,61,32]
def hdW (k:Int):List UInt8:=if k=10 then [119,104,105,108,101,32,40] else [105,102,32,40]
mutual
def stT (ps:List (List UInt8)):ap->Nat->List UInt8
 | ⟨k,x,y,nm,t,e,ar,bo,el,_⟩,d=>
  if k=9\/k=10 then tB d++(hdW k++(eX e++([41,32,123,10]++(uJ ps bo (d+1)++((if el.length=0 then [] else tB d++([125,32,101,108,115,101,32,123,10]++uJ ps el (d+1)))++(tB d++[125,10]))))))
  else tB d++(xxS x++(plS ps k y nm t e ar++[59,10]))
def uJ (ps:List (List UInt8)):List ap->Nat->List UInt8
 | [],_=>[]
 | s::l,d=>stT ps s d++uJ ps l d
end
theorem vT (ps:List (List UInt8)) (d:Nat):∀ l:List ap,uJ ps l d=(l.map fun s=>stT ps s d).flatten
 | []=>rfl
 | s::l=>by rw[uJ,map_cons,flatten_cons,vT ps d l]
theorem QP {ps s} (h:s.aa=9\/s.aa=10) (d:Nat):stT ps s d=tB d++(hdW s.aa++(eX s.fE++([41,32,123,10]++(uJ ps s.aC (d+1)++((if s.bQ.length=0 then [] else tB d++([125,32,101,108,115,101,32,123,10]++uJ ps s.bQ (d+1)))++(tB d++[125,10])))))):=by
 cases s;rw[stT,if_pos h]
theorem Rj {ps s} (h:¬ (s.aa=9\/s.aa=10)) (d:Nat):stT ps s d=tB d++(xxS s.fX++(plS ps s.aa s.fY s.ai s.aJ s.fE s.cO++[59,10])):=by
 cases s;rw[stT,if_neg h]
structure LN (s:ap):Prop where
 k:1<=s.aa/\s.aa<=11
 x:s.fX.length<=20
 y:s.fY.length<=20
 n:s.ai.length<=20
 a:s.cO.length<=5
 r:s.aa=9\/s.aa=10\/(s.aC.length=0/\s.bQ.length=0)
 z:s.aa=11->s.fX=[]
theorem WH {m:Int} {s} (h:ur m s=true):LN s:=by
 unfold ur at h
 simp only[Bool.and_eq_true,decide_eq_true_eq] at h
 obtain⟨hk,hx,hy,hn,-,-,ha,hb⟩:=h
 have nl:∀ l:List UInt8,(l==[])=true->l.length<=20:=fun l h=>by rw[(by simpa using h:l=[])];simp
 refine⟨hk,?_,?_,?_,?_,?_,fun h0=> ?_⟩
 ·unfold xS at hx
  split at hx
  ·exact jV hx
  ·split at hx
   ·rcases Bool.or_eq_true_iff.1 hx with h | h
    ·exact nl _ h
    ·exact jV h
   ·exact nl _ hx
 ·unfold yS at hy
  split at hy
  ·rcases Bool.or_eq_true_iff.1 hy with h | h
   ·exact jV h
   ·rw[(by simpa using h:s.fY=[116,104,105,115])];simp
  ·split at hy
   ·exact jV hy
   ·exact nl _ hy
 ·unfold nS at hn
  split at hn
  ·exact jV hn
  ·exact nl _ hn
 ·unfold aS at ha
  split at ha
  ·simp only[Bool.and_eq_true,decide_eq_true_eq] at ha;exact ha.1
  ·have:=of_decide_eq_true ha;omega
 ·unfold bS at hb
  simp only[Bool.and_eq_true,Bool.or_eq_true,decide_eq_true_eq] at hb
  omega
 ·unfold xS at hx
  rw[if_neg (by omega),if_neg (by omega)] at hx
  simpa using hx
theorem EN (d:Nat):(tB d).length=d:=by simp[tB]
theorem NZ : ∀ l:List au,gK (fun x=>(eX x).length+2) l<=62 * ct l
 | []=>by simp[gK]
 | e::l=>by
  have h1:=NZ l
  have h2:=Mw e
  have h3:=qU e
  simp only[gK,ct];omega
theorem Pc (l:List au):(LF l).length<=62 * ct l:=by
 have h1:=U1 (l.map eX)
 rw[Fu] at h1
 have h2:=NZ l
 unfold LF;omega
theorem YD (x:List UInt8):(xxS x).length<=x.length+3:=by
 unfold xxS;split
 ·simp
 ·simp
theorem So (k:Int):(hdW k).length<=7:=by unfold hdW;split<;>simp
theorem SG {ps} (hp:PS ps) {s} (h:LN s):(plS ps s.aa s.fY s.ai s.aJ s.fE s.cO).length<=300+60 * bR s.fE+62 * ct s.cO:=by
 have h1:=h.y
 have h2:=h.n
 have h3:=Mw s.fE
 have h4:=Pc s.cO
 have h5:=vk hp s.aJ
 unfold plS
 repeat (first | omega | (simp only[length_append,length_cons,length_nil];omega) | split)
theorem Ea {ps d}:∀ l:List ap,(∀ x∈l,(stT ps x d).length<=1000 * cf x)->(uJ ps l d).length<=1000 * cb l
 | [],_=>by simp[uJ]
 | x::l,h=>by
  have h1:=h x (by simp)
  have h2:=Ea l fun y hy=>h y (by simp[hy])
  rw[uJ,length_append,cb];omega
theorem J8 {ps} (hp:PS ps) {m:Int}:∀ (f:Nat) (s:ap) (d:Nat),cf s<=f->fmS m s=true->d+dSt s<=100->(stT ps s d).length<=1000 * cf s
 | 0,s,d,h,_,_=>by have:=nf s;omega
 | f+1,s,d,h,hs,hd=>by
  have h1:=nf s
  have h2:=Ew s
  rw[Lq] at hs
  simp only[Bool.and_eq_true,all_eq_true] at hs
  have ln:=WH hs.1
  have t:=EN d
  have e1:=Mw s.fE
  by_cases hk:s.aa=9\/s.aa=10
  ·have b1:=Ea (ps:=ps) (d:=d+1) s.aC fun x hx=>J8 hp f x (d+1) (by have:=yy hx;omega) (hs.2.1 x hx) (by have:=(rz s.aC (xM s.aC)).1 (Nat.le_refl _) x hx;omega)
   have b2:=Ea (ps:=ps) (d:=d+1) s.bQ fun x hx=>J8 hp f x (d+1) (by have:=yE hx;omega) (hs.2.2 x hx) (by have:=(rz s.bQ (xM s.bQ)).1 (Nat.le_refl _) x hx;omega)
   have w:=So s.aa
   rw[QP hk]
   simp only[length_append,length_cons,length_nil]
   have:(if s.bQ.length=0 then [] else tB d++([125,32,101,108,115,101,32,123,10]++uJ ps s.bQ (d+1))).length<=d+9 + 1000 * cb s.bQ:=by
    split
    ·simp
    ·simp only[length_append,length_cons,length_nil];omega
   omega
  ·have p:=SG hp ln
   have x:=YD s.fX
   have lx:=ln.x
   rw[Rj hk]
   simp only[length_append,length_cons,length_nil]
   omega
theorem JT : ∀ (f m:Nat),∀ z∈rst f m,∃ k:Nat,k < 10/\z=((48+k:Nat):Int)
 | 0,m,z,h=>by simp[rst] at h
 | f+1,m,z,h=>by
  unfold rst at h
  split at h
  ·rcases List.mem_cons.1 h with rfl | h
   ·exact⟨m / 10 % 10,by omega,rfl⟩
   ·exact JT f (m / 10) z h
  ·simp at h
theorem OY {k} (h:k < 10):UInt8.ofNat (48+k)≠10/\UInt8.ofNat (48+k)≠32/\UInt8.ofNat (48+k)≠9:=by
 have:k=0\/k=1\/k=2\/k=3\/k=4\/k=5\/k=6\/k=7\/k=8\/k=9:=by omega
 rcases this with rfl | rfl | rfl | rfl | rfl | rfl | rfl | rfl | rfl | rfl<;>decide
theorem Ri (a:Int):∀ b∈vu a,b≠10/\b≠32/\b≠9:=by
 intro b hb
 unfold vu at hb
 rcases List.mem_append.1 hb with hb | hb
 ·split at hb
  ·rw[mem_singleton] at hb;subst hb;decide
  ·simp at hb
 ·unfold pY at hb
  rcases List.mem_append.1 hb with hb | hb
  ·obtain⟨z,hz,rfl⟩:=List.mem_map.1 hb
   obtain⟨k,hk,rfl⟩:=JT _ _ z (List.mem_reverse.1 hz)
   rw[Int.toNat_natCast];exact OY hk
  ·obtain⟨z,hz,rfl⟩:=List.mem_map.1 hb
   rw[mem_singleton] at hz
   subst hz
   rw[Int.toNat_natCast];exact OY (by omega)
def En (s:List UInt8):Prop:=∃ p c,s=p++[c]/\c≠32
theorem tQ (a:List UInt8) {b} (h:En b):En (a++b):=by
 obtain⟨p,c,rfl,hc⟩:=h
 exact⟨a++p,c,by simp,hc⟩
theorem VH {s} (h:s≠[]) (hb:∀ b∈s,b≠32):En s:=
 ⟨s.dropLast,s.getLast h,(dropLast_concat_getLast h).symm,hb _ (getLast_mem h)⟩
theorem aac (a:Int):vu a≠[]:=by
 unfold vu pY
 simp
theorem Zk {s} (h:db s=true):En s:=by
 cases s with
 | nil=>cases h
 | cons b t=>
  refine VH (by simp) fun c hc he=> ?_
  simp only[db,Bool.and_eq_true,all_eq_true] at h
  have:=h.2.2.1 c hc
  rw[he] at this
  exact absurd this (by decide)
theorem Za (b:Bool) {s} (h:En s):En (FE b s):=by
 unfold FE
 split
 ·exact⟨[40]++s,41,by simp,by decide⟩
 ·exact h
theorem XW : ∀ (f:Nat) (e:au) (m:Int),bR e<=f->fS e=true->En (eT e m)
 | 0,e,m,h,_=>by have:=qU e;omega
 | f+1,e,m,h,he=>by
  obtain⟨hk,hl,h1,h2,-⟩:=nR he
  have hK:∀ x∈e.aY,∀ m,En (eT x m):=fun x hx m=>XW f x m (by have:=xL hx;omega) (wB he hx)
  rw[Ac]
  refine Za _ ?_
  by_cases hbin:6<=e.aa/\e.aa<=11
  ·obtain⟨x,y,hx⟩:=Pw hl (.inl hbin)
   rw[Ko hbin,hx,Kz]
   exact tQ _ (tQ _ (tQ _ (tQ _ (hK y (by rw[hx];exact Bu x y) _))))
  ·unfold eTs
   by_cases k:e.aa=1
   ·rw[if_pos k];exact VH (aac _) fun b hb=>(Ri _ b hb).2.1
   rw[if_neg k]
   by_cases k:e.aa=2
   ·rw[if_pos k];exact Zk (h2 k)
   rw[if_neg k]
   by_cases k:e.aa=3
   ·rw[if_pos k];exact⟨[116,104,105],115,rfl,by decide⟩
   rw[if_neg k]
   by_cases k:e.aa=4
   ·rw[if_pos k];exact⟨[110,117,108],108,rfl,by decide⟩
   rw[if_neg k]
   by_cases k:e.aa=5
   ·rw[if_pos k];exact⟨[105,110,112,117],116,rfl,by decide⟩
   rw[if_neg k]
   by_cases k:e.aa=12
   ·obtain⟨x,hx⟩:=NJ hl (.inl k)
    rw[if_pos k,hx,aaw];exact tQ _ (hK x (by rw[hx];exact JW x) _)
   rw[if_neg k]
   have e41:En [41]:=⟨[],41,rfl,by decide⟩
   by_cases k:e.aa=13
   ·rw[if_pos k];exact tQ _ (tQ _ e41)
   rw[if_neg k,if_pos (by omega)]
   exact tQ _ (tQ _ (tQ _ (tQ _ e41)))
theorem adm {e} (h:eX e≠[]):En (eX e):=by
 unfold eX at h ⊢
 split at h
 ·rename_i hr
  rw[if_pos hr];exact XW _ e 0 (Nat.le_refl _) (ja hr)
 ·exact absurd rfl h
theorem TI {p c} (h:p.length<=10000000000000):kJ (p++[c]) [32]=some (if c=32 then p else p++[c]):=by
 have hl:(((p++[c]).length:Nat):Int)=(p.length:Int)+1:=by rw[pc,jH,jO];omega
 have hw:ah ((((p++[c]).length:Nat):Int) - ((([32]:List UInt8).length:Nat):Int))=((p.length:Nat):Int):=by rw[hl,jH,jO,w64 (by omega) (by omega)];omega
 have hd:jW (p++[c]) (p.length:Int) (((p++[c]).length:Nat):Int)=some [c]:=by
  rw[rl (by rw[length_append];omega),drop_left]
 have ht:jW (p++[c]) 0 (p.length:Int)=some p:=by
  unfold jW
  rw[if_pos ⟨by omega,by omega,by rw[hl];omega⟩]
  simp
 unfold kJ gy gV
 rw[if_pos (by rw[hl,jH,jO];simp;omega),hw,hd,ht]
 simp only[obs]
 by_cases hc:c=32
 ·rw[if_pos (by simp[hc]),if_pos hc,obs]
 ·rw[if_neg (by simp[hc]),if_neg hc,obs]
theorem Yx {s} (hl:s.cO.length<=5) (ha:∀ y∈s.cO,bR y<=1000000):eo s ((((s.cO.length:Int):Int) - (0)).toNat+1) [] 0=some (s.cO.map eX):=by
 have:=xw (eo s) (l:=s.cO) (fun _ y=>[eX y]) 1000 (x:=[]) (fun n k x h hx=>by
  rw[eo,if_pos (by simpa using h),dQ h,obs,wt (ha _ (getElem_mem h)),obs,ed (by simp only[jH,jO,length_cons,length_nil] at hx ⊢;omega),obs,dx h (by omega)]) (fun n x=>by
  rw[eo,if_neg (by simp)]) (by rw[zI,length_map];simp;omega)
 rw[this,zI,nil_append]
theorem VD {s} (h:cf s<=1000000):(LF s.cO).length<=62000000:=by
 have:=Pc s.cO
 have:=nf s
 omega
theorem abp {s} (h:cf s<=1000000):(eX s.fE).length<=60000000:=by
 have:=Mw s.fE
 have:=nf s
 omega
theorem Yo {ps} (hp:PS ps) {s} (hs:LN s) (hm:cf s<=1000000) (hk:¬ (s.aa=9\/s.aa=10)) (b:List Int):eD s ps b=some (plS ps s.aa s.fY s.ai s.aJ s.fE s.cO):=by
 obtain⟨p1,p2,p3,p4,p5⟩:=sd s
 have lx:=hs.x
 have ly:=hs.y
 have ln:=hs.n
 have la:=VD hm
 have le:=abp hm
 have lt:=vk hp s.aJ
 have hj:strings_Join (s.cO.map eX) [44,32]=some (LF s.cO):=Sd (by rw[length_map];have:=hs.a;omega) (by unfold LF at la;omega)
 unfold eD plS
 rw[wt (by omega),obs,Fx hp,Yx hs.a (fun y hy=>by have:=p5 y hy;omega)]
 simp only[hj,obs,ieq]
 have hE:= @adm s.fE
 generalize eX s.fE=E at *
 generalize LF s.cO=A at *
 generalize vh s.aJ ps=T at *
 by_cases k:s.aa=2
 ·rw[if_pos (by simpa using k),if_neg (by omega),if_pos k,eH (by simp only[jH,jO];omega),eH (by simp only[pc,jH,jO];omega),append_assoc]
 rw[if_neg (by simpa using k)]
 by_cases k3:s.aa=3
 ·rw[if_pos (by simpa using k3),if_neg (by omega),if_neg k,if_pos k3,eH (by simp only[jH,jO];omega),eH (by simp only[pc,jH,jO];omega),eH (by simp only[pc,jH,jO];omega),eH (by simp only[pc,jH,jO];omega)]
  simp only[append_assoc]
 rw[if_neg (by simpa using k3)]
 by_cases k4:s.aa=4
 ·rw[if_pos (by simpa using k4),if_neg (by omega),if_neg k,if_neg k3,if_pos k4,eH (by simp only[jH,jO];omega),eH (by simp only[pc,jH,jO];omega),eH (by simp only[pc,jH,jO];omega),eH (by simp only[pc,jH,jO];omega),eH (by simp only[pc,jH,jO];omega)]
  simp only[append_assoc]
 rw[if_neg (by simpa using k4)]
 by_cases k5:s.aa=5
 ·rw[if_pos (by simpa using k5),if_neg (by omega),if_neg k,if_neg k3,if_neg k4,if_pos k5,eH (by simp only[jH,jO];omega)]
 rw[if_neg (by simpa using k5)]
 by_cases k6:s.aa=6
 ·rw[if_pos (by simpa using k6),if_neg (by omega),if_neg k,if_neg k3,if_neg k4,if_neg k5,if_pos k6,eH (by simp only[jH,jO];omega),eH (by simp only[pc,jH,jO];omega),eH (by simp only[pc,jH,jO];omega)]
  simp only[append_assoc]
 rw[if_neg (by simpa using k6)]
 by_cases k7:s.aa=7
 ·rw[if_pos (by simpa using k7),if_neg (by omega),if_neg k,if_neg k3,if_neg k4,if_neg k5,if_neg k6,if_pos k7,eH (by simp only[jH,jO];omega)]
 rw[if_neg (by simpa using k7)]
 by_cases k8:s.aa=8
 ·rw[if_pos (by simpa using k8),if_neg (by omega),if_neg k,if_neg k3,if_neg k4,if_neg k5,if_neg k6,if_neg k7,if_pos k8,eH (by simp only[jH,jO];omega)]
 rw[if_neg (by simpa using k8)]
 by_cases k11:s.aa=11
 ·rw[if_pos (by simpa using k11),if_neg (by omega),if_neg k,if_neg k3,if_neg k4,if_neg k5,if_neg k6,if_neg k7,if_neg k8,eH (by simp only[jH,jO];omega)]
  by_cases hE0:E=[]
  ·subst hE0
   rw[if_pos rfl,append_nil,show ([114,101,116,117,114,110,32]:List UInt8)=[114,101,116,117,114,110]++[32] from rfl,TI (by simp only[length_cons,length_nil];omega),obs,if_pos rfl]
  ·obtain⟨p,c,e,hc⟩:=hE hE0
   subst e
   rw[if_neg hE0,<- append_assoc,TI (by simp only[length_append,length_cons,length_nil] at *;omega),obs,if_neg hc]
 rw[if_neg (by simpa using k11),if_pos (by have:=hs.k;omega)]
theorem TQ : ∀ d:Nat,Lib.repeatL [9] d=tB d
 | 0=>rfl
 | d+1=>by
  show [9]++Lib.repeatL [9] d=_
  rw[TQ d];rfl
theorem yg {ps:List (List UInt8)} {d:Nat} {l:List (List UInt8)} {b:List Int} (hd:d<=1000) (hl:l.length<=1000) (hb:b.length+(tB d++(l.flatten++[10])).length<=100000000000000):dz (d:Int) l ps b=some (b++bu (tB d++(l.flatten++[10]))):=by
 have ht:=EN d
 have hr:strings_Repeat [9] (d:Int)=some (tB d):=by
  unfold strings_Repeat Zp
  rw[Int.toNat_natCast,TQ,if_pos ⟨by omega,by omega,by simp only[length_cons,length_nil];omega⟩]
 simp only[length_append,length_cons,length_nil] at hb
 have e1:gr (fun _ y=>bu y) 0 l=bu l.flatten:=by
  rw[qK (fun _ y=>y),qJ (fun y=>y)]
  simp
 have:=xw (fU l) (l:=l) (fun _ y=>bu y) 100000000000000 (x:=b++bu (tB d)) (fun n k x h hx=>by
  rw[fU,if_pos (by simpa using h),dQ h,obs,eH (by rw[da] at hx;omega),dx h (by omega)]) (fun n x=>by
  rw[fU,if_neg (by simp)]) (by rw[e1,da,length_append,da];omega)
 unfold dz
 rw[hr,obs,eH (by omega),this,obs,e1,eH (by simp only[length_append,da];omega)]
 simp only[lV,append_assoc]
 rfl
theorem Xx {R S:Type} {c:Ctl (Option R) S} {f:S->Option R} {o:Option R} (h:c= .stop o):Ctl.go c f=o:=by rw[h];rfl
theorem BW {ps} (hp:PS ps) {m:Int}:∀ (f:Nat) (s:ap) (d:Nat) (b:List Int),cf s+1<=f->cf s<=1000000->fmS m s=true->d+dSt s<=100->b.length+(stT ps s d).length<=90000000000000->cN f s (d:Int) ps b=some (b++bu (stT ps s d))
 | 0,s,d,b,h,_,_,_,_=>by omega
 | f+1,s,d,b,h,hm,hs,hd,hb=>by
  have h1:=nf s
  have h2:=Ew s
  obtain⟨p1,p2,p3,p4,p5⟩:=sd s
  rw[Lq] at hs
  simp only[Bool.and_eq_true,all_eq_true] at hs
  have ln:=WH hs.1
  have ht:=EN d
  rw[cN]
  by_cases hk:s.aa=9\/s.aa=10
  ·have hh:(if(s.aa==10)=true then(Ctl.next [119,104,105,108,101,32,40]:Ctl (Option (List Int)) (List UInt8)) else if(s.aa==9)=true then .next [105,102,32,40] else if(!(s.fX==[]))=true then eZ (eD s ps b) fun(y4:(List UInt8))=>eZ (dz (d:Int) [s.fX,[32,61,32],y4,[59]] ps b) fun(y6:(List Int))=> .stop (some y6) else eZ (eD s ps b) fun(y8:(List UInt8))=>eZ (dz (d:Int) [y8,[59]] ps b) fun(y0:(List Int))=> .stop (some y0))= .next (hdW s.aa):=by
    rcases hk with k | k<;>rw[k]<;>rfl
   rw[QP hk] at hb ⊢
   have hw:=So s.aa
   simp only[length_append,length_cons,length_nil] at hb
   have hd1:ah ((d:Int)+1)=((d+1:Nat):Int):=by rw[w64 (by omega) (by omega)];omega
   have kB:∀ (x:List Int) (y:ap),y∈s.aC->x.length+(stT ps y (d+1)).length<=90000000000000->cN f y ((d+1:Nat):Int) ps x=some (x++bu (stT ps y (d+1))):=fun x y hy hx=>
    BW hp f y (d+1) x (by have:=yy hy;omega) (by have:=yy hy;omega) (hs.2.1 y hy) (by have:=(rz s.aC (xM s.aC)).1 (Nat.le_refl _) y hy;omega) hx
   have kE:∀ (x:List Int) (y:ap),y∈s.bQ->x.length+(stT ps y (d+1)).length<=90000000000000->cN f y ((d+1:Nat):Int) ps x=some (x++bu (stT ps y (d+1))):=fun x y hy hx=>
    BW hp f y (d+1) x (by have:=yE hy;omega) (by have:=yE hy;omega) (hs.2.2 y hy) (by have:=(rz s.bQ (xM s.bQ)).1 (Nat.le_refl _) y hy;omega) hx
   have gB:gr (fun _ y=>bu (stT ps y (d+1))) 0 s.aC=bu (uJ ps s.aC (d+1)):=by rw[qK (fun _ y=>stT ps y (d+1)),qJ (fun y=>stT ps y (d+1)),vT]
   have gE:gr (fun _ y=>bu (stT ps y (d+1))) 0 s.bQ=bu (uJ ps s.bQ (d+1)):=by rw[qK (fun _ y=>stT ps y (d+1)),qJ (fun y=>stT ps y (d+1)),vT]
   have lB:=fun(x:List Int) (hx:x.length+(uJ ps s.aC (d+1)).length<=90000000000000)=>xw (ga s (d:Int) ps (cN f)) (l:=s.aC) (fun _ y=>bu (stT ps y (d+1))) 90000000000000 (x:=x) (fun n k x h hx=>by
    rw[ga,if_pos (by simpa using h),dQ h,obs,hd1,kB x _ (getElem_mem h) (by rw[da] at hx;exact hx),obs,dx h (by omega)]) (fun n x=>by
    rw[ga,if_neg (by simp)]) (by rw[gB,da];exact hx)
   have lE:=fun(x:List Int) (hx:x.length+(uJ ps s.bQ (d+1)).length<=90000000000000)=>xw (fW s (d:Int) ps (cN f)) (l:=s.bQ) (fun _ y=>bu (stT ps y (d+1))) 90000000000000 (x:=x) (fun n k x h hx=>by
    rw[fW,if_pos (by simpa using h),dQ h,obs,hd1,kE x _ (getElem_mem h) (by rw[da] at hx;exact hx),obs,dx h (by omega)]) (fun n x=>by
    rw[fW,if_neg (by simp)]) (by rw[gE,da];exact hx)
   rw[gB] at lB
   rw[gE] at lE
   rw[hh]
   simp only[Ctl.go]
   rw[wt (by omega),obs,yg (by omega) (by simp) (by simp only[flatten_cons,flatten_nil,length_append,length_cons,length_nil];omega),obs,lB _ (by simp only[flatten_cons,flatten_nil,length_append,length_cons,length_nil,da];omega),obs]
   by_cases he:s.bQ.length=0
   ·have he0:s.bQ=[]:=eq_nil_of_length_eq_zero he
    have hz:uJ ps s.bQ (d+1)=[]:=by rw[he0,uJ]
    rw[hz] at lE
    rw[if_neg (by simp[he]),obs,lE _ (by simp only[flatten_cons,flatten_nil,length_append,length_cons,length_nil,da];omega),obs,yg (by omega) (by simp) (by simp only[flatten_cons,flatten_nil,length_append,length_cons,length_nil,da];omega),obs,if_pos he]
    refine congrArg some ?_
    rw[show ∀ X Y Z W:List UInt8,(((b++bu X)++bu Y)++bu Z)++bu W=b++bu (X++(Y++(Z++W))) from fun X Y Z W=>by simp only[lV,append_assoc]]
    refine congrArg (fun t=>b++bu t) ?_
    simp only[append_assoc,flatten_cons,flatten_nil,append_nil,cons_append,nil_append]
   ·rw[if_neg he] at hb ⊢
    simp only[length_append,length_cons,length_nil] at hb
    rw[if_pos (by simp;omega),yg (by omega) (by simp) (by simp only[flatten_cons,flatten_nil,length_append,length_cons,length_nil,da];omega),obs,obs,lE _ (by simp only[flatten_cons,flatten_nil,length_append,length_cons,length_nil,da];omega),obs,yg (by omega) (by simp) (by simp only[flatten_cons,flatten_nil,length_append,length_cons,length_nil,da];omega),obs]
    refine congrArg some ?_
    rw[show ∀ X Y V Z W:List UInt8,((((b++bu X)++bu Y)++bu V)++bu Z)++bu W=b++bu (X++(Y++(V++(Z++W)))) from fun X Y V Z W=>by simp only[lV,append_assoc]]
    refine congrArg (fun t=>b++bu t) ?_
    simp only[append_assoc,flatten_cons,flatten_nil,append_nil,cons_append,nil_append]
  ·have k9:(s.aa==9)=false:=by simp;omega
   have k10:(s.aa==10)=false:=by simp;omega
   rw[Rj hk] at hb ⊢
   have lx:=ln.x
   have lp:=SG hp ln
   rw[k9,k10,if_neg (by decide),if_neg (by decide),Yo hp ln hm hk]
   by_cases hx:s.fX=[]
   ·have hx0:xxS s.fX=[]:=by unfold xxS;rw[if_pos hx]
    rw[hx0] at hb ⊢
    simp only[length_append,length_cons,length_nil] at hb
    rw[if_neg (by simp[hx])]
    refine Xx ?_
    simp only[eZ]
    rw[yg (by omega) (by simp) (by simp only[flatten_cons,flatten_nil,length_append,length_cons,length_nil,da];omega)]
    simp only[append_assoc,flatten_cons,flatten_nil,append_nil,cons_append,nil_append]
   ·have hx0:xxS s.fX=s.fX++[32,61,32]:=by unfold xxS;rw[if_neg hx]
    rw[hx0] at hb ⊢
    simp only[length_append,length_cons,length_nil] at hb
    rw[if_pos (by simp[hx])]
    refine Xx ?_
    simp only[eZ]
    rw[yg (by omega) (by simp) (by simp only[flatten_cons,flatten_nil,length_append,length_cons,length_nil,da];omega)]
    simp only[append_assoc,flatten_cons,flatten_nil,append_nil,cons_append,nil_append]
theorem aax {m:Int} {s} (h:sR 20 m s=true):fmS m s=true/\dSt s<=20:=by
 rw[DE m 20 _ s (Nat.le_refl _),Bool.and_eq_true,decide_eq_true_eq] at h
 exact h
def stX (ps:List (List UInt8)) (s:ap):List UInt8:=if sR 20 (ps.length:Int) s=true then stT ps s 2 else []
theorem Sv {ps} (hp:PS ps) (s:ap):(stX ps s).length<=1000 * cf s:=by
 unfold stX
 split
 ·rename_i h
  have:=aax h
  exact J8 hp _ s 2 (Nat.le_refl _) this.1 (by omega)
 ·simp
theorem LQ {ps} (hp:PS ps) {s} (hm:cf s<=1000000):vH s ps 2=some (stX ps s):=by
 have hl:=Sv hp s
 unfold vH stX at *
 rw[yK _ hm,obs]
 cases h:sR 20 (ps.length:Int) s with
 | false=>rfl
 | true=>
  rw[h,if_pos rfl] at hl
  have:=aax h
  rw[if_neg (by decide),show ((if(if 20 < (2:Int) then 20 else 2) > (0:Int) then(if 20 < (2:Int) then 20 else 2) else 0):Int)=((2:Nat):Int) from by decide,BW hp _ s 2 [] (Nat.le_refl _) hm this.1 (by omega) (by simp only[length_nil];omega),obs,nil_append,Ek,obs]
  rfl
def vaT (ps:List (List UInt8)) (v:dr):List UInt8:=vh v.aJ ps++([32]++v.ai)
def C9 (l:List (List UInt8)):List UInt8:=if l.length=0 then [] else [60]++(cm l++[62])
def fiT (c:bH):List UInt8:=[99,108,97,115,115,32]++(c.ai++(C9 c.ac++((if c.aU=[] then [] else [32,101,120,116,101,110,100,115,32]++(c.aU++C9 (c.aH.map (gL · c.ac))))++[32,123])))
def hmT (ps:List (List UInt8)) (x:bM):List UInt8:=vh x.af ps++([32]++(x.ai++([40]++(cm (x.ac.map (vaT ps))++[41]))))
def hdT (ps:List (List UInt8)) (x:bM):List UInt8:=(if x.co=true then [112,117,114,101,32] else [])++hmT ps x
def loT (ps:List (List UInt8)) (v:dr):List UInt8:=[9,9]++(vaT ps v++[59,10])
def feT (ps:List (List UInt8)) (v:dr):List UInt8:=[9]++(vaT ps v++[59,10])
def meT (ps:List (List UInt8)) (x:bM):List UInt8:=[9]++(hdT ps x++([32,123,10]++((x.aP.map (loT ps)).flatten++((x.aC.map (stX ps)).flatten++[9,125,10]))))
def clT (c:bH):List UInt8:=fiT c++([10]++((c.aZ.map (feT c.ac)).flatten++((c.am.map (meT c.ac)).flatten++[125,10])))
structure RM (x:bM):Prop where
 nm:x.ai.length<=20
 pl:x.ac.length<=5
 pn:∀ v∈x.ac,v.ai.length<=20
 ll:x.aP.length<=12
 ln:∀ v∈x.aP,v.ai.length<=20
 b:cb x.aC<=1000000
structure RC (c:bH):Prop where
 ps:PS c.ac
 nm:c.ai.length<=20
 su:c.aU.length<=20
 sa:c.aU=[]->c.aH=[]
 al:c.aH.length<=3
 pl:c.ac.length<=3
 fl:c.aZ.length<=12
 fn:∀ v∈c.aZ,v.ai.length<=20
 ml:c.am.length<=12
 ms:∀ x∈c.am,RM x
theorem GA {l most} {m:Int} (h:oz l most m=true):l.length<=most/\∀ v∈l,v.ai.length<=20:=by
 unfold oz at h
 rw[Bool.and_eq_true,decide_eq_true_eq,all_eq_true] at h
 refine⟨h.1,fun v hv=> ?_⟩
 have:=h.2 v hv
 unfold yC at this
 simp only[Bool.and_eq_true] at this
 exact jV this.2.1
theorem ach {x} {m:Int} (hb:BM x) (h:BQ m x=true):RM x:=by
 unfold BQ at h
 simp only[Bool.and_eq_true] at h
 have h3:=GA h.2.2.1
 have h4:=GA h.2.2.2.1
 exact⟨jV h.1,h3.1,h3.2,h4.1,h4.2,hb.b⟩
theorem aaX {c} (hb:BC c) (h:clS c=true):RC c:=by
 unfold clS hdS at h
 simp only[Bool.and_eq_true,decide_eq_true_eq,all_eq_true] at h
 obtain⟨⟨h1,h2,h3,h4,h5⟩,h6,h7,h8⟩:=h
 have hf:=GA h6
 have hsu:c.aU.length<=20/\(c.aU=[]->c.aH=[]):=by
  by_cases hs:c.aU=[]
  ·rw[if_pos (by simp[hs])] at h5
   exact⟨by rw[hs];simp,fun _=>eq_nil_of_length_eq_zero (of_decide_eq_true h5)⟩
  ·rw[if_neg (by simp[hs]),Bool.and_eq_true] at h5
   exact⟨jV h5.2,fun e=>absurd e hs⟩
 exact⟨⟨hb.p,fun p hp=>jV (h4 p hp)⟩,jV h1,hsu.1,hsu.2,h3,h2,hf.1,hf.2,h7,fun x hx=>ach (hb.ms x hx) (h8 x hx)⟩
theorem DQ {ps} (hp:PS ps) {v} (h:v.ai.length<=20):(vaT ps v).length<=221:=by
 have:=vk hp v.aJ
 unfold vaT
 simp only[length_append,length_cons,length_nil];omega
theorem Fe {l n c} (hl:l.length<=n) (h:∀ x∈l,x.length+2<=c):(cm l).length<=n * c:=by
 have h1:=U1 l
 have h2:=Ah h
 have h3:l.length * c<=n * c:=Nat.mul_le_mul_right c hl
 omega
theorem Sf {ps:List (List UInt8)} (hp:PS ps) {l:List dr} {n:Nat} (hl:l.length<=n) (h:∀ v∈l,v.ai.length<=20):(cm (l.map (vaT ps))).length<=n * 300:=
 Fe (by rw[length_map];exact hl) fun x hx=>by
  obtain⟨v,hv,rfl⟩:=List.mem_map.1 hx
  have:=DQ hp (h v hv);omega
theorem zG {α:Type} {g:α->List UInt8} {l:List α} {n c:Nat} (hl:l.length<=n) (h:∀ x∈l,(g x).length<=c):(l.map g).flatten.length<=n * c:=by
 rw[Kq]
 have h2:=Ah h
 have h3:l.length * c<=n * c:=Nat.mul_le_mul_right c hl
 omega
theorem AQ (l:List (List UInt8)):(C9 l).length<=(cm l).length+2:=by
 unfold C9;split
 ·simp
 ·simp
theorem SB {c} (h:RC c):(fiT c).length<=400:=by
 have h1:=AQ c.ac
 have h2:=AQ (c.aH.map (gL · c.ac))
 have h3:=Fe (c:=22) h.pl fun x hx=>by have:=h.ps.l x hx;omega
 have h4:=Fe (l:=c.aH.map (gL · c.ac)) (n:=3) (c:=22) (by rw[length_map];exact h.al) fun x hx=>by
  obtain⟨v,hv,rfl⟩:=List.mem_map.1 hx
  have:=xD h.ps v;omega
 have h5:=h.nm
 have h6:=h.su
 have h7:(if c.aU=[] then [] else [32,101,120,116,101,110,100,115,32]++(c.aU++C9 (c.aH.map (gL · c.ac)))).length<=100:=by
  split
  ·simp
  ·simp only[length_append,length_cons,length_nil];omega
 unfold fiT
 simp only[length_append,length_cons,length_nil]
 omega
theorem YZ {ps} (hp:PS ps) {x} (h:RM x):(hmT ps x).length<=1800:=by
 have h1:=Sf hp h.pl h.pn
 have h2:=vk hp x.af
 have h3:=h.nm
 unfold hmT
 simp only[length_append,length_cons,length_nil];omega
theorem TN {ps} (hp:PS ps) {x} (h:RM x):(hdT ps x).length<=1805:=by
 have h1:=YZ hp h
 unfold hdT
 split<;>simp only[length_append,length_cons,length_nil]<;>omega
theorem MR {ps} (hp:PS ps):∀ l:List ap,(l.map (stX ps)).flatten.length<=1000 * cb l
 | []=>by simp
 | s::l=>by
  have h1:=MR hp l
  have h2:=Sv hp s
  rw[map_cons,flatten_cons,length_append,cb];omega
theorem Dv {ps} (hp:PS ps) {v} (h:v.ai.length<=20):(loT ps v).length<=300/\(feT ps v).length<=300:=by
 have:=DQ hp h
 unfold loT feT
 simp only[length_append,length_cons,length_nil];omega
theorem Ti {ps} (hp:PS ps) {x} (h:RM x):(meT ps x).length<=1000010000:=by
 have h1:=TN hp h
 have h2:=zG h.ll fun v hv=>(Dv hp (h.ln v hv)).1
 have h3:=MR hp x.aC
 have h4:=h.b
 unfold meT
 simp only[length_append,length_cons,length_nil];omega
theorem ZT {c} (h:RC c):(clT c).length<=12000200000:=by
 have h1:=SB h
 have h2:=zG h.fl fun v hv=>(Dv h.ps (h.fn v hv)).2
 have h3:=zG (g:=meT c.ac) h.ml fun x hx=>Ti h.ps (h.ms x hx)
 unfold clT
 simp only[length_append,length_cons,length_nil];omega
theorem Kf {o e l a} (hl:l.length<=1000) (hc:(cm l).length<=1000000) (ho:o.length<=10) (he:e.length<=10):oM o l e a=some (if l.length=0/\a=false then [] else o++(cm l++e)):=by
 unfold oM
 rw[Sd (by omega) (by omega),acF]
 by_cases h0:l.length=0
 ·rw[if_pos (by simpa using h0),obs]
  cases a with
  | false=>rw[if_pos (by rfl),if_pos ⟨h0,rfl⟩]
  | true=>
   rw[if_neg (by decide),obs,eH (by omega),eH (by simp only[pc];omega),if_neg (by simp),append_assoc]
 ·rw[if_neg (by simpa using h0),obs,if_neg (by decide),obs,eH (by omega),eH (by simp only[pc];omega),if_neg (by simp[h0]),append_assoc]
theorem Wm {c} (h:RC c):uw c=some (fiT c):=by
 have h5:=h.nm
 have h6:=h.su
 have h3:=Fe (c:=22) h.pl fun x hx=>by have:=h.ps.l x hx;omega
 have h4:=Fe (l:=c.aH.map (gL · c.ac)) (n:=3) (c:=22) (by rw[length_map];exact h.al) fun x hx=>by
  obtain⟨v,hv,rfl⟩:=List.mem_map.1 hx
  have:=xD h.ps v;omega
 have hpl:=h.pl
 have hal:=h.al
 have l1:oM [60] c.ac [62] false=some (C9 c.ac):=by
  rw[Kf (by omega) (by omega) (by simp) (by simp)]
  unfold C9
  by_cases h0:c.ac.length=0<;>simp[h0]
 have l2:oM [60] (c.aH.map (gL · c.ac)) [62] false=some (C9 (c.aH.map (gL · c.ac))):=by
  rw[Kf (by rw[length_map];omega) (by omega) (by simp) (by simp)]
  unfold C9
  by_cases h0:(c.aH.map (gL · c.ac)).length=0<;>simp[h0]
 have hL:lG c ((((c.aH.length:Int):Int) - (0)).toNat+1) [] 0=some (c.aH.map (gL · c.ac)):=by
  have:=xw (lG c) (l:=c.aH) (fun _ y=>[gL y c.ac]) 1000 (x:=[]) (fun n k x h' hx=>by
   rw[lG,if_pos (by simpa using h'),dQ h',obs,yR _ _ h.ps.n,obs,ed (by simp only[jH,jO,length_cons,length_nil] at hx ⊢;omega),obs,dx h' (by omega)]) (fun n x=>by
   rw[lG,if_neg (by simp)]) (by rw[zI,length_map];simp;omega)
  rw[this,zI,nil_append]
 have g1:=AQ c.ac
 have g2:=AQ (c.aH.map (gL · c.ac))
 unfold uw fiT
 rw[l1,hL,eH (by simp only[jH,jO];omega),obs,eH (by simp only[pc,jH,jO];omega)]
 by_cases hs:c.aU=[]
 ·rw[if_pos (by simp[hs]),if_pos hs,eH (by simp only[pc,jH,jO];omega)]
  simp only[append_assoc,nil_append]
 ·rw[if_neg (by simp[hs]),if_neg hs,obs,eH (by simp only[pc,jH,jO];omega),eH (by simp only[pc,jH,jO];omega),l2,obs,eH (by simp only[pc,jH,jO];omega),eH (by simp only[pc,jH,jO];omega)]
  simp only[append_assoc]
theorem ya {ps} (hp:PS ps) {v} (h:v.ai.length<=20):lK v ps=some (vaT ps v):=by
 have:=vk hp v.aJ
 unfold lK vaT
 rw[Fx hp,obs,eH (by simp only[jH,jO];omega),eH (by simp only[pc,jH,jO];omega),append_assoc]
theorem abP {ps} (hp:PS ps) {x} (h:RM x):mZ x ps ((((x.ac.length:Int):Int) - (0)).toNat+1) [] 0=some (x.ac.map (vaT ps)):=by
 have hl:=h.pl
 have h1:=xw (mZ x ps) (l:=x.ac) (fun _ y=>[vaT ps y]) 1000 (x:=[]) (fun n k z h' hx=>by
  rw[mZ,if_pos (by simpa using h'),dQ h',obs,ya hp (h.pn _ (getElem_mem h')),obs,ed (by simp only[jH,jO,length_cons,length_nil] at hx ⊢;omega),obs,dx h' (by omega)]) (fun n z=>by
  rw[mZ,if_neg (by simp)]) (by rw[zI,length_map];simp;omega)
 rw[h1,zI,nil_append]
theorem Yw {ps} (hp:PS ps) {x} (h:RM x):vD x ps=some (hdT ps x):=by
 have h1:=Sf hp h.pl h.pn
 have h2:=vk hp x.af
 have h3:=h.nm
 have h4:=h.pl
 unfold vD hdT hmT
 rw[abP hp h,obs,Fx hp,obs,Kf (by rw[length_map];omega) (by omega) (by simp) (by simp),if_neg (by simp),obs]
 generalize cm (x.ac.map (vaT ps))=C at *
 generalize vh x.af ps=T at *
 rw[eH (by simp only[jH,jO];omega),eH (by simp only[pc,jH,jO];omega),eH (by simp only[pc,jH,jO];omega)]
 cases x.co with
 | false=>
  rw[if_neg (by decide),if_neg (by decide)]
  simp only[append_assoc,nil_append]
 | true=>
  rw[if_pos rfl,if_pos rfl,eH (by simp only[pc,jH,jO];omega)]
  simp only[append_assoc]
theorem tp {y b} (hb:b.length+y.length<=90000000000000):jA [y] b=some (b++bu (y++[10])):=by
 have e:((((([y]:List (List UInt8)).length:Nat):Int) - 0:Int).toNat+1)=1+1:=rfl
 have hi:idx [y] 0=some y:=rfl
 have w1:ah (0+1)=1:=by decide
 unfold jA
 rw[e,nc,if_pos (by simp),hi,obs,eH (by omega),eH (by rw[pc,da,jH,jO];omega),w1,nc,if_neg (by simp),obs,lV,append_assoc]
theorem Qo {c} (h:RC c) (hb:∀ x∈c.am,∀ s∈x.aC,cf s<=1000000) {b} (hl:b.length<=1000000000000):qF c b=some (b++bu (clT c)):=by
 have hp:=h.ps
 have hfi:=SB h
 have hfl:=h.fl
 have hml:=h.ml
 have n1:=zG (g:=feT c.ac) h.fl fun v hv=>(Dv h.ps (h.fn v hv)).2
 have n2:=zG (g:=meT c.ac) h.ml fun x hx=>Ti h.ps (h.ms x hx)
 have e1:gr (fun _ y=>bu (feT c.ac y)) 0 c.aZ=bu (c.aZ.map (feT c.ac)).flatten:=by rw[qK (fun _ y=>feT c.ac y),qJ (fun y=>feT c.ac y)]
 have e2:gr (fun _ y=>bu (meT c.ac y)) 0 c.am=bu (c.am.map (meT c.ac)).flatten:=by rw[qK (fun _ y=>meT c.ac y),qJ (fun y=>meT c.ac y)]
 have L1:=fun(x:List Int) (hx:x.length<=2000000000000)=>xw (kZ c) (l:=c.aZ) (fun _ y=>bu (feT c.ac y)) 3000000000000 (x:=x) (fun n k z h' hz=>by
  have hv:=DQ hp (h.fn _ (getElem_mem h'))
  rw[kZ,if_pos (by simpa using h'),dQ h',obs,ya hp (h.fn _ (getElem_mem h')),obs,eH (by simp only[jH,jO];omega),eH (by simp only[pc,jH,jO];omega),tp (by simp only[length_append,length_cons,length_nil];omega),obs,dx h' (by omega)]
  simp only[feT,append_assoc,cons_append,nil_append]) (fun n z=>by
  rw[kZ,if_neg (by simp)]) (by rw[e1,da];omega)
 have L2:=fun(x:List Int) (hx:x.length<=2000000000000)=>xw (jZ c) (l:=c.am) (fun _ y=>bu (meT c.ac y)) 3000000000000 (x:=x) (fun n k z h' hz=>by
  have hm:=h.ms _ (getElem_mem h')
  have hbo:=hb _ (getElem_mem h')
  have hi:=dQ h'
  generalize c.am[k]=x at *
  have hh:=TN hp hm
  have hll:=hm.ll
  have hbl:=tj x.aC
  have hbb:=hm.b
  have m1:=zG (g:=loT c.ac) hm.ll fun v hv=>(Dv h.ps (hm.ln v hv)).1
  have m2:=MR hp x.aC
  have f1:gr (fun _ y=>bu (loT c.ac y)) 0 x.aP=bu (x.aP.map (loT c.ac)).flatten:=by rw[qK (fun _ y=>loT c.ac y),qJ (fun y=>loT c.ac y)]
  have f2:gr (fun _ y=>bu (stX c.ac y)) 0 x.aC=bu (x.aC.map (stX c.ac)).flatten:=by rw[qK (fun _ y=>stX c.ac y),qJ (fun y=>stX c.ac y)]
  have L3:=fun(q:List Int) (hx:q.length<=4000000000000)=>xw (kX c x) (l:=x.aP) (fun _ y=>bu (loT c.ac y)) 5000000000000 (x:=q) (fun n k z h' hz=>by
   have hv:=DQ hp (hm.ln _ (getElem_mem h'))
   rw[kX,if_pos (by simpa using h'),dQ h',obs,ya hp (hm.ln _ (getElem_mem h')),obs,eH (by simp only[jH,jO];omega),eH (by simp only[pc,jH,jO];omega),tp (by simp only[length_append,length_cons,length_nil];omega),obs,dx h' (by omega)]
   simp only[loT,append_assoc,cons_append,nil_append]) (fun n z=>by
   rw[kX,if_neg (by simp)]) (by rw[f1,da];omega)
  have L4:=fun(q:List Int) (hx:q.length<=5000000000000)=>xw (kV c x) (l:=x.aC) (fun _ y=>bu (stX c.ac y)) 6000000000000 (x:=q) (fun n k z h' hz=>by
   rw[kV,if_pos (by simpa using h'),dQ h',obs,LQ hp (hbo _ (getElem_mem h')),obs,eH (by rw[da] at hz;omega),dx h' (by omega)]) (fun n z=>by
   rw[kV,if_neg (by simp)]) (by rw[f2,da];omega)
  rw[f1] at L3
  rw[f2] at L4
  rw[da] at hz
  rw[jZ,if_pos (by simpa using h'),hi,obs,Yw hp hm,obs,eH (by simp only[jH,jO];omega),eH (by simp only[pc,jH,jO];omega),tp (by simp only[length_append,length_cons,length_nil];omega),obs,
   L3 _ (by simp only[length_append,length_cons,length_nil,da];omega),obs,L4 _ (by simp only[length_append,length_cons,length_nil,da];omega),obs,tp (by simp only[length_append,length_cons,length_nil,da];omega),obs,dx h' (by omega)]
  refine congrArg (fun t=>jZ c n t _) ?_
  rw[show ∀ X Y V Z:List UInt8,(((z++bu X)++bu Y)++bu V)++bu Z=z++bu (X++(Y++(V++Z))) from fun X Y V Z=>by simp only[lV,append_assoc]]
  refine congrArg (fun t=>z++bu t) ?_
  simp only[meT,append_assoc,cons_append,nil_append]) (fun n z=>by
  rw[jZ,if_neg (by simp)]) (by rw[e2,da];omega)
 rw[e1] at L1
 rw[e2] at L2
 unfold qF
 rw[Wm h,obs,tp (by omega),obs,L1 _ (by simp only[length_append,length_cons,length_nil,da];omega),obs,L2 _ (by simp only[length_append,length_cons,length_nil,da];omega),obs,tp (by simp only[length_append,length_cons,length_nil,da];omega),obs]
 refine congrArg some ?_
 rw[show ∀ X Y V Z:List UInt8,(((b++bu X)++bu Y)++bu V)++bu Z=b++bu (X++(Y++(V++Z))) from fun X Y V Z=>by simp only[lV,append_assoc]]
 refine congrArg (fun t=>b++bu t) ?_
 simp only[clT,append_assoc,cons_append,nil_append]
structure RP (p:List bH):Prop where
 n:p.length<=20
 c:∀ x∈p,RC x
 b:∀ c∈p,∀ x∈c.am,∀ s∈x.aC,cf s<=1000000
theorem aai {p} (h:RP p):(p.map clT).flatten.length<=20 * 12000200000:=zG h.n fun c hc=>ZT (h.c c hc)
theorem Zj {p} (h:RP p):mN p ((((p.length:Int):Int) - (0)).toNat+1) [] 0=some (bu (p.map clT).flatten):=by
 have hl:=aai h
 have hn:=h.n
 have e1:gr (fun _ y=>bu (clT y)) 0 p=bu (p.map clT).flatten:=by rw[qK (fun _ y=>clT y),qJ (fun y=>clT y)]
 have:=xw (mN p) (l:=p) (fun _ y=>bu (clT y)) 1000000000000 (x:=[]) (fun n k z h' hz=>by
  rw[mN,if_pos (by simpa using h'),dQ h',obs,Qo (h.c _ (getElem_mem h')) (h.b _ (getElem_mem h')) (by omega),obs,dx h' (by omega)]) (fun n z=>by
  rw[mN,if_neg (by simp)]) (by rw[e1,da];simp only[length_nil];omega)
 rw[this,e1,nil_append]
theorem adE {p} (hb:BP p) (h:rS p=true):RP p:=by
 unfold rS at h
 simp only[Bool.and_eq_true,decide_eq_true_eq,all_eq_true] at h
 exact⟨h.1,fun c hc=>aaX (hb.c c hc) (h.2.1 c hc),fun c hc x hx s hs=>by have:=((hb.c c hc).ms x hx).b;have:=wG hs;omega⟩
def prX (p:List bH):List UInt8:=if rS p=true then(p.map clT).flatten else []
theorem AE {p} (hb:BP p):rk p=some (prX p):=by
 unfold rk prX
 rw[IC hb,obs]
 cases h:rS p with
 | false=>rfl
 | true=>rw[if_neg (by decide),if_pos rfl,Zj (adE hb h),obs,Ek,obs]
theorem nU : oi=some true:=by decide +kernel
abbrev KT := Int×List UInt8
def kt (t:az):KT:=(t.aa,t.bz)
def blk (b:UInt8):Bool:=b==9||(b==10||(b==13||b==32))
theorem Jv (b:UInt8):rU (b.toNat:Int)=some (blk b):=by
 have:∀ k:Fin 256,rU (k.val:Int)=some (blk (UInt8.ofNat k.val)):=by decide +kernel
 have h:=this ⟨b.toNat,b.toNat_lt⟩
 simpa using h
theorem Mz {α:Type} {l:List α} {k:Nat} (h:k<=l.length):jW l 0 (k:Int)=some (l.take k):=by
 unfold jW
 rw[if_pos ⟨by omega,by omega,by omega⟩]
 simp
def zA (p:UInt8->Bool) (l:List UInt8):Nat:=(l.takeWhile p).length
theorem tz {p b l}:zA p (b::l)=if p b=true then zA p l+1 else 0:=by
 unfold zA
 rw[takeWhile_cons]
 split<;>simp
theorem Dy (p:UInt8->Bool) (l:List UInt8):zA p l<=l.length:=(takeWhile_sublist p).length_le
theorem Bn (p:UInt8->Bool):∀ l:List UInt8,l.take (zA p l)=l.takeWhile p
 | []=>rfl
 | b::l=>by
  rw[tz,takeWhile_cons]
  split
  ·rw[take_succ_cons,Bn p l]
  ·rfl
theorem Ve {s} (hs:s.length<=20000):∀ (n k:Nat),s.length+1<=n+k->k<=s.length->qI s n (k:Int)=some ((k+zA isC (s.drop k):Nat):Int)
 | 0,k,h,hk=>by omega
 | n+1,k,h,hk=>by
  rw[qI]
  by_cases hlt:k < s.length
  ·rw[if_pos (by simpa using hlt),dQ hlt,obs,Sc,obs,obs,(xz s[k]).2,drop_eq_getElem_cons hlt,tz,isC]
   cases hL:isL s[k]<;>cases hD:isD s[k]<;>simp only[obs,Bool.false_eq_true,if_false,if_true,Bool.or_self,Bool.or_false,Bool.or_true]
   ·rfl
   all_goals
    rw[dx hlt (by omega),Ve hs n (k+1) (by omega) (by omega)]
    congr 2;omega
  ·rw[if_neg (by simpa using hlt),obs,if_neg (by decide),drop_eq_nil_of_le (by omega)];rfl
theorem WN {s} (hs:s.length<=20000):∀ (n k:Nat),s.length+1<=n+k->k<=s.length->qx s n (k:Int)=some ((k+zA isD (s.drop k):Nat):Int)
 | 0,k,h,hk=>by omega
 | n+1,k,h,hk=>by
  rw[qx]
  by_cases hlt:k < s.length
  ·rw[if_pos (by simpa using hlt),dQ hlt,obs,(xz s[k]).2,obs,drop_eq_getElem_cons hlt,tz]
   cases hD:isD s[k]<;>simp only[obs,Bool.false_eq_true,if_false,if_true]
   ·rfl
   ·rw[dx hlt (by omega),WN hs n (k+1) (by omega) (by omega)]
    congr 2;omega
  ·rw[if_neg (by simpa using hlt),obs,if_neg (by decide),drop_eq_nil_of_le (by omega)];rfl
abbrev sgB : List UInt8:=[123,125,40,41,60,62,44,59,46,61,43,45,42,33]
def wM (s:List UInt8):List UInt8:=if s.take 2=[61,61]\/s.take 2=[38,38] then s.take 2 else match s with
 | []=>[]
 | b::_=>if sgB.contains b=true then [b] else []
theorem QZ {b t}:∀ (n k:Nat),15<=n+k->k<=14->pj (b::t) n (k:Int)=some (if(sgB.drop k).contains b=true then .stop [b] else .next ())
 | 0,k,h,hk=>by omega
 | n+1,k,h,hk=>by
  rw[pj]
  by_cases hlt:k < sgB.length
  ·have hlt':k < 14:=hlt
   rw[if_pos (by simp;omega),show (!((b::t)==([]:List UInt8)))=true from rfl,obs,if_pos rfl,show ([123,125,40,41,60,62,44,59,46,61,43,45,42,33]:List UInt8)=sgB from rfl,dQ hlt,obs,show idx (b::t) 0=some b from rfl,obs,drop_eq_getElem_cons hlt,contains_cons]
   by_cases hb:sgB[k]=b
   ·rw[if_pos (by simp[hb]),show jW (b::t) 0 1=some ((b::t).take 1) from Mz (k:=1) (by simp),obs]
    simp[hb]
   ·have h1:((sgB[k].toNat:Int)==(b.toNat:Int))=false:=by
     simp only[beq_eq_false_iff_ne,ne_eq]
     intro e
     exact hb (UInt8.toNat_inj.1 (by omega))
    have h2:(b==sgB[k])=false:=by simp only[beq_eq_false_iff_ne,ne_eq];exact fun e=>hb e.symm
    rw[h1,if_neg (by decide),dx (m:=14) hlt' (by omega),QZ n (k+1) (by omega) (by omega),h2,Bool.false_or]
  ·have hk14:k=14:=by have:¬ k < 14:=hlt;omega
   subst hk14
   rw[if_neg (by simp),obs,if_neg (by decide)];rfl
theorem YU {s} (hs:s.length<=20000):rn s=some (wM s):=by
 unfold rn wM
 match s with
 | []=>rfl
 | [b]=>
  rw[if_neg (by simp),obs,if_neg (by decide),if_neg (by simp),show (0:Int)=((0:Nat):Int) from rfl,QZ _ 0 (by simp) (by omega),obs,drop_zero]
  cases hc:sgB.contains b with
  | false=>simp only[Bool.false_eq_true,if_false,Ctl.elim,hc]
  | true=>simp only[if_true,Ctl.elim,hc]
 | b::c :: t=>
  have h2:jW (b::c :: t) 0 2=some [b,c]:=Mz (k:=2) (by simp)
  rw[if_pos (by simp;omega),h2]
  simp only[obs]
  rw[show (b::c :: t).take 2=[b,c] from rfl]
  by_cases h1:[b,c]=[61,61]
  ·rw[if_pos (by simpa using h1),obs,if_pos rfl,if_pos (.inl h1)]
  ·rw[if_neg (by simpa using h1),obs]
   by_cases h3:[b,c]=[38,38]
   ·rw[if_pos (by simpa using h3),if_pos (.inr h3)]
   ·rw[if_neg (by simpa using h3),if_neg (by simp only[not_or];exact⟨h1,h3⟩),show (0:Int)=((0:Nat):Int) from rfl,QZ _ 0 (by simp) (by omega),obs,drop_zero]
    cases hc:sgB.contains b with
    | false=>simp only[Bool.false_eq_true,if_false,Ctl.elim,hc]
    | true=>simp only[if_true,Ctl.elim,hc]
def xQ (s:List UInt8):KT:=match s with
 | []=>(0,[])
 | b::t=>if isL b=true then(if vO ((b::t).takeWhile isC) > 0 then 3 else 1,(b::t).takeWhile isC) else if isD b=true then(2,(b::t).takeWhile isD) else if wM (b::t)=[] then(0,[]) else(4,wM (b::t))
theorem Vg {s} (h0:s≠[]) (hs:s.length<=20000):vC s=some ⟨(xQ s).1,(xQ s).2,0⟩:=by
 match s,h0 with
 | b::t,_=>
  have h1:=Ve hs ((b::t).length+64) 0 (by omega) (by omega)
  have h2:=WN hs ((b::t).length+64) 0 (by omega) (by omega)
  rw[drop_zero,Nat.zero_add,show ((0:Nat):Int)=0 from rfl] at h1 h2
  unfold vC xQ
  rw[show idx (b::t) 0=some b from rfl,obs,Sc,obs,obs,(xz b).2,obs,h1,h2,YU hs]
  simp only[obs]
  rw[Mz (Dy _ _),Mz (Dy _ _),Bn,Bn]
  simp only[obs,IL]
  cases isL b with
  | true=>
   simp only[if_true]
   by_cases hf:vO ((b::t).takeWhile isC) > 0
   ·rw[if_pos (by simpa using hf),if_pos hf]
   ·rw[if_neg (by simpa using hf),if_neg hf]
  | false=>
   cases isD b with
   | true=>simp
   | false=>
    simp only[Bool.false_eq_true,if_false]
    by_cases he:wM (b::t)=[]
    ·rw[if_neg (by simp[he]),if_pos he]
    ·rw[if_pos (by simpa using he),if_neg he]
def tx (ps:List KT):List UInt8:=(ps.map (·.2)).flatten
def tks (ps:List KT):List KT:=ps.filter fun p=> !decide (p.1=0)
theorem mw (a b:List KT):tx (a++b)=tx a++tx b:=by unfold tx;simp
theorem dT (p:KT) (b:List KT):tx (p::b)=p.2++tx b:=by unfold tx;simp
theorem eC (a b:List KT):tks (a++b)=tks a++tks b:=by unfold tks;simp
abbrev sgL : List (List UInt8):=[[123],[125],[40],[41],[60],[62],[44],[59],[46],[61],[43],[45],[42],[33],[61,61],[38,38]]
def vld (p:KT):Bool:=if p.1=0 then !decide (p.2=[])&&p.2.all blk else if p.1=1 then db p.2 else if p.1=2 then(ji p.2).2 else if p.1=3 then decide (p.2∈glob_0) else decide (p.1=4)&&decide (p.2∈sgL)
def jn (p:KT) (r:List KT):Bool:=if p.1=1\/p.1=2\/p.1=3 then(match r with | []=>true | q::_=>decide (q.1=0)||decide (q.1=4)) else if p.2=[61] then(match r with | []=>false | q::_=>decide (q.1=0)) else true
def ok : List KT->Bool
 | []=>true
 | p::r=>vld p&&(jn p r&&ok r)
def sp (q:KT):Bool:=vld q&&((decide (q.1=0)||decide (q.1=4))&& !decide (q.2=[61]))
theorem RE {q b} (hb:ok b=true) (hq:sp q=true):∀ a:List KT,ok a=true->ok (a++q::b)=true
 | [],_=>by
  unfold sp at hq
  simp only[Bool.and_eq_true,Bool.or_eq_true,decide_eq_true_eq,Bool.not_eq_true',decide_eq_false_iff_not] at hq
  have hj:jn q b=true:=by
   unfold jn
   rw[if_neg (by omega),if_neg hq.2.2]
  simp only[nil_append,ok,Bool.and_eq_true]
  exact⟨hq.1,hj,hb⟩
 | p::r,h=>by
  simp only[ok,Bool.and_eq_true] at h
  simp only[cons_append,ok,Bool.and_eq_true]
  refine⟨h.1,?_,RE hb hq r h.2.2⟩
  have h1:=h.2.1
  unfold sp at hq
  simp only[Bool.and_eq_true,Bool.or_eq_true,decide_eq_true_eq] at hq
  match r with
  | []=>
   unfold jn at h1 ⊢
   by_cases hp:p.1=1\/p.1=2\/p.1=3
   ·rw[if_pos hp] at h1 ⊢
    simpa using hq.2.1
   ·rw[if_neg hp] at h1 ⊢
    by_cases he:p.2=[61]
    ·rw[if_pos he] at h1;cases h1
    ·rw[if_neg he]
  | q'::r'=>exact h1
theorem eG {q b} (hq:sp q=true) (hb:ok b=true):ok (q::b)=true:=RE hb hq [] rfl
theorem UY : ∀ w∈glob_0,w≠[]/\w.all isL=true/\vO w > 0:=by decide +kernel
theorem abg {l:List UInt8} (h:l.all isL=true):l.all isC=true:=by
 rw[all_eq_true] at h ⊢
 exact fun b hb=>by unfold isC;rw[h b hb];rfl
theorem Tn : ∀ (s:List UInt8) (n:Nat) (r:Nat),wY s n=some r->s.all isD=true
 | [],_,_,_=>rfl
 | b::s,n,r,h=>by
  unfold wY at h
  split at h
  ·rename_i hb
   rw[all_cons,hb,Tn s _ r h];rfl
  ·cases h
theorem WE {s} (h:(ji s).2=true):s≠[]/\s.all isD=true:=by
 unfold ji at h
 split at h
 ·cases h
 ·rename_i h0
  refine⟨fun e=>h0 (.inl (by rw[e];rfl)),?_⟩
  split at h
  ·cases h
  ·cases hn:wY s 0 with
   | none=>rw[hn] at h;cases h
   | some r=>exact Tn s 0 r hn
theorem MO {p}:∀ {s t:List UInt8},s.all p=true->(∀ b∈t.head?,p b=false)->(s++t).takeWhile p=s
 | [],[],_,_=>rfl
 | [],c::t,_,h=>by rw[nil_append,takeWhile_cons,h c (by simp),if_neg (by decide)]
 | b::s,t,hs,h=>by
  rw[all_cons,Bool.and_eq_true] at hs
  rw[cons_append,takeWhile_cons,if_pos hs.1,MO hs.2 h]
theorem adO {b} (h:isD b=true):isL b=false:=by
 have:∀ k:Fin 256,isD (UInt8.ofNat k.val)=true->isL (UInt8.ofNat k.val)=false:=by decide +kernel
 have h2:=this ⟨b.toNat,b.toNat_lt⟩
 simp only[UInt8.ofNat_toNat] at h2
 exact h2 h
theorem adt {b} (h:blk b=true):isC b=false/\b≠47/\b≠61:=by
 have:∀ k:Fin 256,blk (UInt8.ofNat k.val)=true->isC (UInt8.ofNat k.val)=false/\UInt8.ofNat k.val≠47/\UInt8.ofNat k.val≠61:=by decide +kernel
 have h2:=this ⟨b.toNat,b.toNat_lt⟩
 simp only[UInt8.ofNat_toNat] at h2
 exact h2 h
theorem MU {b} (h:isC b=true):blk b=false/\b≠47:=by
 have:∀ k:Fin 256,isC (UInt8.ofNat k.val)=true->blk (UInt8.ofNat k.val)=false/\UInt8.ofNat k.val≠47:=by decide +kernel
 have h2:=this ⟨b.toNat,b.toNat_lt⟩
 simp only[UInt8.ofNat_toNat] at h2
 exact h2 h
theorem SY (s:List UInt8) (h:s∈sgL):∃ b t,s=b::t/\isC b=false/\isL b=false/\isD b=false/\blk b=false/\b≠47:=by
 have hd:∀ s∈sgL,s≠[]/\∀ b∈s.head?,isC b=false/\isL b=false/\isD b=false/\blk b=false/\b≠47:=by decide +kernel
 obtain⟨h1,h2⟩:=hd s h
 match s,h1 with
 | b::t,_=>exact⟨b,t,rfl,h2 b rfl⟩
theorem xZ {p} (h:vld p=true):∃ b t,p.2=b::t/\(p.1=0->isC b=false/\b≠61)/\(p.1=4->isC b=false)/\(p.1≠0->blk b=false/\b≠47):=by
 unfold vld at h
 by_cases h0:p.1=0
 ·rw[if_pos h0,Bool.and_eq_true] at h
  cases hp:p.2 with
  | nil=>rw[hp] at h;simp at h
  | cons b t=>
   rw[hp,all_cons,Bool.and_eq_true] at h
   have:=adt h.2.1
   exact⟨b,t,rfl,fun _=>⟨this.1,this.2.2⟩,fun e=>by omega,fun e=>absurd h0 e⟩
 rw[if_neg h0] at h
 by_cases h1:p.1=1
 ·rw[if_pos h1] at h
  cases hp:p.2 with
  | nil=>rw[hp] at h;cases h
  | cons b t=>
   rw[hp] at h
   simp only[db,Bool.and_eq_true,all_cons] at h
   exact⟨b,t,rfl,fun e=>absurd e h0,fun e=>by omega,fun _=>MU h.2.2.1.1⟩
 rw[if_neg h1] at h
 by_cases h2:p.1=2
 ·rw[if_pos h2] at h
  have:=WE h
  cases hp:p.2 with
  | nil=>exact absurd hp this.1
  | cons b t=>
   rw[hp,all_cons,Bool.and_eq_true] at this
   exact⟨b,t,rfl,fun e=>absurd e h0,fun e=>by omega,fun _=>MU (by unfold isC;rw[this.2.1,Bool.or_true])⟩
 rw[if_neg h2] at h
 by_cases h3:p.1=3
 ·rw[if_pos h3,decide_eq_true_eq] at h
  have:=UY _ h
  cases hp:p.2 with
  | nil=>exact absurd hp this.1
  | cons b t=>
   rw[hp,all_cons,Bool.and_eq_true] at this
   exact⟨b,t,rfl,fun e=>absurd e h0,fun e=>by omega,fun _=>MU (by unfold isC;rw[this.2.1.1];rfl)⟩
 rw[if_neg h3,Bool.and_eq_true,decide_eq_true_eq,decide_eq_true_eq] at h
 obtain⟨b,t,e,hb⟩:=SY _ h.2
 exact⟨b,t,e,fun e=>absurd e h0,fun _=>hb.1,fun _=>hb.2.2.2⟩
theorem RR {r} (h:ok r=true):(tx r).head? =(r.head?.bind fun p=>p.2.head?):=by
 cases r with
 | nil=>rfl
 | cons q r=>
  simp only[ok,Bool.and_eq_true] at h
  obtain⟨b,t,e,-⟩:=xZ h.1
  rw[dT,e,head?_cons,Option.bind_some,e];rfl
theorem Ya {p r} (hp:vld p=true) (h0:p.1≠0) (hj:jn p r=true) (hr:ok r=true):xQ (p.2++tx r)=p:=by
 have stop:p.1=1\/p.1=2\/p.1=3->∀ b∈(tx r).head?,isC b=false:=fun hk b hb=>by
  rw[RR hr] at hb
  unfold jn at hj
  rw[if_pos hk] at hj
  cases r with
  | nil=>cases hb
  | cons q r=>
   simp only[ok,Bool.and_eq_true] at hr
   obtain⟨c,t,e,h1,h2,-⟩:=xZ hr.1
   simp only[head?_cons,Option.bind_some,e,Option.mem_def,Option.some.injEq] at hb
   subst hb
   simp only[Bool.or_eq_true,decide_eq_true_eq] at hj
   rcases hj with hj | hj
   ·exact(h1 hj).1
   ·exact h2 hj
 have stopD:p.1=1\/p.1=2\/p.1=3->∀ b∈(tx r).head?,isD b=false:=fun hk b hb=>by
  have:=stop hk b hb
  unfold isC at this
  rw[Bool.or_eq_false_iff] at this
  exact this.2
 unfold vld at hp
 rw[if_neg h0] at hp
 obtain⟨k,s⟩:=p
 simp only at *
 by_cases h1:k=1
 ·subst h1
  rw[if_pos rfl] at hp
  match s with
  | b::t=>
   have hn:=hp
   simp only[db,Bool.and_eq_true,beq_iff_eq] at hn
   rw[cons_append,xQ,<- cons_append,if_pos hn.2.1,MO hn.2.2.1 (stop (by simp)),hn.2.2.2]
   rfl
 rw[if_neg h1] at hp
 by_cases h2:k=2
 ·subst h2
  rw[if_pos rfl] at hp
  obtain⟨hn,hd⟩:=WE hp
  match s,hn with
  | b::t,_=>
   have hb:isD b=true:=by rw[all_cons,Bool.and_eq_true] at hd;exact hd.1
   rw[cons_append,xQ,<- cons_append,if_neg (by rw[adO hb];decide),if_pos hb,MO hd (stopD (by simp))]
 rw[if_neg h2] at hp
 by_cases h3:k=3
 ·subst h3
  rw[if_pos rfl,decide_eq_true_eq] at hp
  obtain⟨hn,hL,hf⟩:=UY _ hp
  match s,hn with
  | b::t,_=>
   have hb:isL b=true:=by rw[all_cons,Bool.and_eq_true] at hL;exact hL.1
   rw[cons_append,xQ,<- cons_append,if_pos hb,MO (abg hL) (stop (by simp)),if_pos hf]
 rw[if_neg h3,Bool.and_eq_true,decide_eq_true_eq,decide_eq_true_eq] at hp
 obtain⟨rfl,hs⟩:=hp
 have hsg:wM (s++tx r)=s:=by
  have ht:s=[61]->∀ b∈(tx r).head?,b≠61:=fun e b hb=>by
   rw[RR hr] at hb
   unfold jn at hj
   rw[if_neg (by simp),if_pos e] at hj
   cases r with
   | nil=>cases hb
   | cons q r=>
    simp only[ok,Bool.and_eq_true] at hr
    obtain⟨c,t,e,h1,-⟩:=xZ hr.1
    simp only[head?_cons,Option.bind_some,e,Option.mem_def,Option.some.injEq] at hb
    subst hb
    exact(h1 (by simpa using hj)).2
  generalize tx r=u at *
  have one:∀ b:UInt8,s=[b]->b≠38->sgB.contains b=true->(b=61->s=[61])->wM ([b]++u)=[b]:=fun b e h4 hc h5=>by
   unfold wM
   rw[if_neg]
   ·show (if sgB.contains b=true then [b] else [])=[b]
    rw[if_pos hc]
   ·cases u with
    | nil=>simp
    | cons c u=>
     simp only[cons_append,nil_append,take_succ_cons,take_zero,List.cons.injEq,and_true,not_or,not_and]
     exact⟨fun e1=>ht (h5 e1) c (by simp),fun e1=>absurd e1 h4⟩
  simp only[mem_cons,not_mem_nil,or_false] at hs
  rcases hs with e | e | e | e | e | e | e | e | e | e | e | e | e | e | e | e
  all_goals rw[e]
  all_goals first
   | exact one _ e (by decide) (by decide) fun h=>absurd h (by decide)
   | exact one _ e (by decide) (by decide) fun _=>e
   | (unfold wM;first | (rw[if_pos (.inl rfl)];rfl) | (rw[if_pos (.inr rfl)];rfl))
 obtain⟨b,t,e,hb⟩:=SY _ hs
 rw[e] at hsg ⊢
 rw[cons_append,xQ,<- cons_append,hsg,if_neg (by rw[hb.2.1];decide),if_neg (by rw[hb.2.2.1];decide),if_neg (by simp)]
theorem Xg {s} (hs:s.length<=20000):∀ (n k:Nat),s.length+1<=n+k->k<=s.length->(∀ b∈(s.drop (k+zA blk (s.drop k))).head?,b≠47)->
  iC s n (k:Int)=some (.stop ((k+zA blk (s.drop k):Nat):Int))\/iC s n (k:Int)=some (.next ((k+zA blk (s.drop k):Nat):Int))
 | 0,k,h,hk,_=>by omega
 | n+1,k,h,hk,hb=>by
  rw[iC]
  by_cases hlt:k < s.length
  ·rw[drop_eq_getElem_cons hlt,tz] at hb ⊢
   rw[if_pos (by simpa using hlt),dQ hlt,obs,Jv,obs]
   cases hc:blk s[k] with
   | true=>
    rw[hc,if_pos rfl,<- Nat.add_assoc,Nat.add_right_comm] at hb
    rw[if_pos rfl,if_pos rfl,dx hlt (by omega),<- Nat.add_assoc,Nat.add_right_comm]
    exact Xg hs n (k+1) (by omega) (by omega) hb
   | false=>
    rw[hc,if_neg (by decide),Nat.add_zero,drop_eq_getElem_cons hlt,head?_cons] at hb
    have h0:=hb _ rfl
    have hne:(((s[k].toNat:Nat):Int) != 47)=true:=by
     simp only[bne_iff_ne,ne_eq]
     intro e
     exact h0 (UInt8.toNat_inj.1 (by simpa using (by omega:s[k].toNat=47)))
    simp only[Bool.false_eq_true,if_false]
    rw[obs,if_pos hne,ite_self,obs,if_pos rfl]
    exact .inl rfl
  ·rw[if_neg (by simpa using hlt),drop_eq_nil_of_le (by omega)]
   right
   congr 2
theorem Tu {s} (hs:s.length<=20000) (hb:∀ b∈(s.drop (zA blk s)).head?,b≠47):lJ s=some ((zA blk s:Nat):Int):=by
 have:=Xg hs (s.length+64) 0 (by omega) (by omega) (by rw[drop_zero,Nat.zero_add];exact hb)
 rw[drop_zero,Nat.zero_add,show ((0:Nat):Int)=0 from rfl] at this
 unfold lJ
 rcases this with h | h<;>(rw[h];rfl)
def lb : List KT->Nat
 | []=>0
 | p::r=>if p.1=0 then p.2.length+lb r else 0
theorem NG {q}:∀ {s t:List UInt8},s.all q=true->zA q (s++t)=s.length+zA q t
 | [],t,_=>by simp
 | b::s,t,h=>by
  rw[all_cons,Bool.and_eq_true] at h
  rw[cons_append,tz,if_pos h.1,NG h.2,length_cons];omega
theorem RL : ∀ (ps:List KT),ok ps=true->zA blk (tx ps)=lb ps/\∀ b∈((tx ps).drop (lb ps)).head?,b≠47
 | [],_=>⟨rfl,fun b hb=>by cases hb⟩
 | p::r,h=>by
  simp only[ok,Bool.and_eq_true] at h
  obtain⟨i1,i2⟩:=RL r h.2.2
  obtain⟨b,t,e,h0,-,hn⟩:=xZ h.1
  rw[dT,lb]
  by_cases hp:p.1=0
  ·have ha:p.2.all blk=true:=by
    have:=h.1
    unfold vld at this
    rw[if_pos hp,Bool.and_eq_true] at this
    exact this.2
   rw[if_pos hp,NG ha,i1,drop_append]
   refine⟨rfl,?_⟩
   rw[drop_eq_nil_of_le (by omega),nil_append,Nat.add_sub_cancel_left]
   exact i2
  ·have hb:=hn hp
   rw[if_neg hp,e,cons_append,tz,if_neg (by rw[hb.1];decide),drop_zero]
   exact⟨rfl,fun c hc=>by simp only[head?_cons,Option.mem_def,Option.some.injEq] at hc;subst hc;exact hb.2⟩
theorem Wt {p} (h:vld p=true):1<=p.2.length:=by
 obtain⟨b,t,e,-⟩:=xZ h
 rw[e];simp
theorem Tk : ∀ ps:List KT,ok ps=true->(tks ps).length+lb ps<=(tx ps).length
 | [],_=>by simp[tks,lb,tx]
 | p::r,h=>by
  simp only[ok,Bool.and_eq_true] at h
  have:=Tk r h.2.2
  have h1:=Wt h.1
  rw[dT,length_append,lb]
  unfold tks at this ⊢
  by_cases hp:p.1=0
  ·rw[if_pos hp,filter_cons_of_neg (by simp[hp])];omega
  ·rw[if_neg hp,filter_cons_of_pos (by simp[hp]),length_cons];omega
theorem aaj {p} (h:vld p=true) (h2:p.1=2):(ji p.2).2=true:=by
 unfold vld at h
 rw[if_neg (by omega),if_neg (by omega),if_pos h2] at h
 exact h
theorem Wq {p} (h:vld p=true) (h1:p.1=1):db p.2=true:=by
 unfold vld at h
 rw[if_neg (by omega),if_pos h1] at h
 exact h
theorem Nf {α:Type} {pre l:List α} {a b:Int} (ha:a=(pre.length:Int)) (hb:b=((pre++l).length:Int)):jW (pre++l) a b=some l:=by
 subst ha hb
 rw[rl (by rw[length_append];omega),drop_left]
theorem aaU {s} (hs:s.length<=16384):∀ (ps:List KT) (pre:List UInt8) (n:Nat) (out:List az),s=pre++tx ps->ok ps=true->(tks ps).length+1<=n->out.length+(tks ps).length<=20000->
  ∃ l:List az,l.map kt=tks ps/\lF s n out ((pre.length+lb ps:Nat):Int)=some (.next (out++l))
 | [],pre,0,out,_,_,hn,_=>by omega
 | [],pre,n+1,out,e,_,_,_=>by
  have e2:s.length=pre.length:=by rw[e];simp[tx]
  refine⟨[],rfl,?_⟩
  rw[lF,if_neg (by simp only[lb];simp;omega),append_nil]
 | p::r,pre,n,out,e,h,hn,ho=>by
  have h':=h
  simp only[ok,Bool.and_eq_true] at h'
  obtain⟨hv,hj,hr⟩:=h'
  rw[dT] at e
  have e':s=(pre++p.2)++tx r:=by rw[e,append_assoc]
  by_cases hp:p.1=0
  ·have ht:tks (p::r)=tks r:=by unfold tks;rw[filter_cons_of_neg (by simp[hp])]
   rw[ht] at hn ho ⊢
   obtain⟨l,h1,h2⟩:=aaU hs r (pre++p.2) n out e' hr hn ho
   refine⟨l,h1,?_⟩
   rw[lb,if_pos hp,<- Nat.add_assoc,<- length_append]
   exact h2
  ·have ht:tks (p::r)=p::tks r:=by unfold tks;rw[filter_cons_of_pos (by simp[hp])]
   rw[ht,length_cons] at hn ho
   match n,hn with
   | n+1,hn=>
    have hpos:=Wt hv
    have hlen:s.length=pre.length+p.2.length+(tx r).length:=by rw[e];simp;omega
    have hl:=RL r hr
    have hk:=Ya hv hp hj hr
    obtain⟨l,h1,h2⟩:=aaU hs r (pre++p.2) n (out++[(⟨p.1,p.2,(pre.length:Int)⟩:az)]) e' hr (by omega) (by rw[length_append,length_cons,length_nil];omega)
    refine⟨(⟨p.1,p.2,(pre.length:Int)⟩:az)::l,by rw[map_cons,h1,ht];rfl,?_⟩
    have hc1:jW s (pre.length:Int) (s.length:Int)=some (p.2++tx r):=by rw[e];exact Nf rfl rfl
    have hw:ah ((pre.length:Int)+(p.2.length:Int))=(((pre++p.2).length:Nat):Int):=by rw[w64 (by omega) (by omega),length_append];omega
    have hc2:jW s (((pre++p.2).length:Nat):Int) (s.length:Int)=some (tx r):=by rw[e'];exact Nf rfl rfl
    have hx:(if(p.1==1)=true then if decide ((p.2.length:Int) > 20)=true then some true else if(p.1==2)=true then some (!(ji p.2).2) else some false else if(p.1==2)=true then some (!(ji p.2).2) else some false:Option Bool)=some false:=by
     by_cases q1:p.1=1
     ·have:=jV (Wq hv q1)
      rw[if_pos (by simpa using q1),if_neg (by simp;omega),if_neg (by simp[q1])]
     ·rw[if_neg (by simpa using q1)]
      by_cases q2:p.1=2
      ·rw[if_pos (by simpa using q2),aaj hv q2];rfl
      ·rw[if_neg (by simpa using q2)]
    rw[show pre.length+lb (p::r)=pre.length by rw[lb,if_neg hp];rfl,lF,if_pos (by simp;omega),hc1,obs,Vg (by intro e0;have:=congrArg length e0;rw[length_append,length_nil] at this;omega) (by rw[length_append];omega),obs,hk]
    simp only
    rw[if_neg (by simpa using hp),pA,obs,hx,obs,if_neg (by decide),ed (by simp only[length_cons,length_nil];omega),obs,hw,hc2,obs,Tu (by omega) (by rw[hl.1];exact hl.2),obs,hl.1,w64 (by have:=Dy blk (tx r);rw[length_append];omega) (by have:=Dy blk (tx r);rw[hl.1] at this;rw[length_append];omega),show ((((pre++p.2).length:Nat):Int)+((lb r:Nat):Int))=(((pre++p.2).length+lb r:Nat):Int) by omega,h2,append_assoc]
    rfl
theorem aci {ps} (h:ok ps=true) (hs:(tx ps).length<=16384):∃ (l:List az) (e:az),tI (tx ps)=some (l++[e],aK)/\l.map kt=tks ps/\kt e=(0,[])/\l.length<=16384:=by
 have hl:=RL ps h
 have ht:=Tk ps h
 obtain⟨l,h1,h2⟩:=aaU hs ps [] ((tx ps).length - lb ps+1) [] rfl h (by omega) (by simp only[length_nil];omega)
 rw[length_nil,Nat.zero_add,nil_append] at h2
 have hll:l.length<=16384:=by
  have:=congrArg length h1
  rw[length_map] at this
  omega
 refine⟨l,{ aa:=0,bz:=[],fAt:=((tx ps).length:Int) },?_,h1,rfl,hll⟩
 have hd:decide (((tx ps).length:Int) > 16384)=false:=decide_eq_false (by omega)
 have hf:((((tx ps).length:Int):Int) - (((lb ps:Nat):Int))).toNat+1=(tx ps).length - lb ps+1:=by omega
 have hr:dL ((l.length:Int)+(([(⟨0,[],((tx ps).length:Int)⟩:az)].length:Nat):Int)) 32=some ():=ed (by rw[length_singleton];omega)
 have hk:lJ (tx ps)=some ((lb ps:Nat):Int):=by rw[Tu (by omega) (by rw[hl.1];exact hl.2),hl.1]
 delta tI
 rw[hd,if_neg (by decide),hk,obs,hf,h2,obs,uW,hr,obs]
theorem dw {s r}:tks ((0,s)::r)=tks r:=by unfold tks;rw[filter_cons_of_neg (by simp)]
theorem cn {k:Int} {s r} (h:k≠0):tks ((k,s)::r)=(k,s)::tks r:=by unfold tks;rw[filter_cons_of_pos (by simp[h])]
theorem Lf : tks []=[]:=rfl
theorem kR : tx []=[]:=rfl
theorem fx {a q b} (ha:ok a=true) (hq:sp q=true) (hb:ok b=true):ok (a++q::b)=true:=RE hb hq a ha
theorem XR {p} (h:vld p=true) (hk:p.2≠[61]):ok [p]=true:=by
 unfold ok ok jn
 rw[h,if_neg hk]
 simp
def PG (b:Bool) (s:List KT):List KT:=if b=true then(4,[40])::(s++[(4,[41])]) else s
def MP (t:List (Int->List KT)) (i:Nat) (m:Int):List KT:=match t[i]? with | some f=>f m | none=>[]
def ePs (k n:Int) (nm:List UInt8) (a b:Int->List KT):List KT:=
 if k=1 then [(2,vu n)] else if k=2 then [(1,nm)] else if k=3 then [(3,[116,104,105,115])] else if k=4 then [(3,[110,117,108,108])] else if k=5 then [(3,[105,110,112,117,116])]
 else if k=12 then(4,[33])::a 4 else if k=13 then(3,[110,105,108])::(4,[40])::(a 4++[(4,[41])]) else if k=14 then(3,[115,97,109,101])::(4,[40])::(a 4++(4,[44])::(0,[32])::(b 4++[(4,[41])]))
 else a (if lvS k=1 then 2 else lvS k)++(0,[32])::(4,sgS k)::(0,[32])::b (lvS k+1)
mutual
def eP : au->Int->List KT
 | ⟨k,n,nm,l⟩,m=>PG (decide (lvS k < m)) (ePs k n nm (MP (ePL l) 0) (MP (ePL l) 1))
def ePL : List au->List (Int->List KT)
 | []=>[]
 | e::l=>eP e::ePL l
end
theorem nN (e:au) (m:Int):eP e m=PG (decide (lvS e.aa < m)) (ePs e.aa e.dp e.ai (MP (ePL e.aY) 0) (MP (ePL e.aY) 1)):=by cases e;rw[eP]
theorem aaY (x:au) (m:Int):MP (ePL [x]) 0 m=eP x m:=rfl
theorem DY (x y:au) (m:Int):MP (ePL [x,y]) 0 m=eP x m:=rfl
theorem L9 (x y:au) (m:Int):MP (ePL [x,y]) 1 m=eP y m:=rfl
theorem Bc (b:Bool) (s:List KT):tx (PG b s)=FE b (tx s):=by
 cases b
 ·rfl
 ·simp[PG,FE,dT,mw,kR]
theorem Ay {k n:Int} {nm a b} (h:6<=k/\k<=11):ePs k n nm a b=a (if lvS k=1 then 2 else lvS k)++(0,[32])::(4,sgS k)::(0,[32])::b (lvS k+1):=by
 unfold ePs
 rw[if_neg (by omega),if_neg (by omega),if_neg (by omega),if_neg (by omega),if_neg (by omega),if_neg (by omega),if_neg (by omega),if_neg (by omega)]
theorem Jy {P:au->Prop}
  (h1:∀ e,e.aa=1->e.aY=[]->e.ai=[]->0<=e.dp/\e.dp<=999999999->P e) (h2:∀ e,e.aa=2->e.aY=[]->e.dp=0->db e.ai=true->P e)
  (h3:∀ e,e.aa=3\/e.aa=4\/e.aa=5->e.aY=[]->e.dp=0->e.ai=[]->P e)
  (h4:∀ e x,e.aa=12\/e.aa=13/\(x.aa=2\/x.aa=3)->e.aY=[x]->e.dp=0->e.ai=[]->fS x=true->P x->P e)
  (h5:∀ e x y,(6<=e.aa/\e.aa<=11)\/e.aa=14/\(x.aa=2\/x.aa=3\/x.aa=4)/\(y.aa=2\/y.aa=3\/y.aa=4)->e.aY=[x,y]->e.dp=0->e.ai=[]->fS x=true->fS y=true->P x->P y->P e):
  ∀ (f:Nat) (e:au),bR e<=f->fS e=true->P e
 | 0,e,h,_=>by have:=qU e;omega
 | f+1,e,h,he=>by
  obtain⟨hk,hl,g1,g2,g0,g3,gn,gm⟩:=nR he
  have ih:=fun x (hx:x∈e.aY)=>Jy h1 h2 h3 h4 h5 f x (by have:=xL hx;omega) (wB he hx)
  by_cases hb:(6<=e.aa/\e.aa<=11)\/e.aa=14
  ·obtain⟨x,y,hx⟩:=Pw hl hb
   have mx:x∈e.aY:=by rw[hx];exact Ey x y
   have my:y∈e.aY:=by rw[hx];exact Bu x y
   exact h5 e x y (hb.imp_right fun k=>⟨k,g3 k x mx,g3 k y my⟩) hx (gn (by omega)) (gm (by omega)) (wB he mx) (wB he my) (ih x mx) (ih y my)
  ·by_cases hu:e.aa=12\/e.aa=13
   ·obtain⟨x,hx⟩:=NJ hl hu
    have mx:x∈e.aY:=by rw[hx];exact JW x
    exact h4 e x (hu.imp_right fun k=>⟨k,g0 k x mx⟩) hx (gn (by omega)) (gm (by omega)) (wB he mx) (ih x mx)
   ·have h0:e.aY=[]:=by
     have:e.aY.length=0:=by
      unfold uH at hl
      rw[if_pos (by omega)] at hl
      omega
     exact eq_nil_of_length_eq_zero this
    by_cases k1:e.aa=1
    ·exact h1 e k1 h0 (gm (by omega)) (g1 k1)
    ·by_cases k2:e.aa=2
     ·exact h2 e k2 h0 (gn k1) (g2 k2)
     ·exact h3 e (by omega) h0 (gn k1) (gm k2)
theorem acA {e} (he:fS e=true):∀ m,tx (eP e m)=eT e m:=by
 refine Jy (P:=fun e=>∀ m,tx (eP e m)=eT e m) ?_ ?_ ?_ ?_ ?_ _ e (Nat.le_refl _) he
 ·intro e k hx _ _ m;rw[nN,Ac,Bc,k];simp[ePs,eTs,dT,kR]
 ·intro e k hx _ _ m;rw[nN,Ac,Bc,k];simp[ePs,eTs,dT,kR]
 ·intro e k hx _ _ m;rw[nN,Ac,Bc];rcases k with k | k | k<;>(rw[k];simp[ePs,eTs,dT,kR])
 ·intro e x k hx _ _ _ ih m;rw[nN,Ac,Bc,hx];rcases k with k | ⟨k,-⟩<;>(rw[k];simp[ePs,eTs,dT,kR,mw,aaY,aaw,ih])
 ·intro e x y k hx _ _ _ _ ix iy m
  rw[nN,Ac,Bc,hx]
  rcases k with k | ⟨k,-⟩
  ·rw[Ay k,Ko k];simp[dT,kR,mw,DY,L9,Rl,Kz,ix,iy]
  ·rw[k];simp[ePs,eTs,dT,kR,mw,DY,L9,Rl,Kz,ix,iy]
theorem abv {s} (h:db s=true):vld (1,s)=true:=by unfold vld;rw[if_neg (by simp),if_pos rfl];exact h
theorem adi {s} (h:db s=true):s≠[61]:=by rintro rfl;revert h;decide
theorem sb {s} (h:db s=true):ok [(1,s)]=true:=XR (abv h) (adi h)
theorem Kj {n:Int} (h:0<=n/\n<=999999999):ji (vu n)=(n,true):=by
 obtain⟨k,rfl⟩:∃ k:Nat,n=(k:Int):=⟨n.toNat,by omega⟩
 exact MN (by omega)
theorem wm {b s} (h:ok s=true):ok (PG b s)=true:=by
 cases b
 ·exact h
 ·exact eG (by decide) (fx h (by decide) rfl)
theorem acI {k:Int} (h:6<=k/\k<=11):sp (4,sgS k)=true:=by rcases rR h with rfl | rfl | rfl | rfl | rfl | rfl<;>decide
theorem JL {e} (he:fS e=true):∀ m,ok (eP e m)=true:=by
 refine Jy (P:=fun e=>∀ m,ok (eP e m)=true) ?_ ?_ ?_ ?_ ?_ _ e (Nat.le_refl _) he
 ·intro e k hx _ h m
  rw[nN,k]
  refine wm (XR ?_ ?_)
  ·unfold vld;rw[if_neg (by simp),if_neg (by simp),if_pos rfl,Kj h]
  ·intro (e2:vu e.dp=[61])
   have:=Kj h
   rw[e2] at this
   revert this;rw[show ji [61]=(0,false) from by decide];simp
 ·intro e k hx _ h m;rw[nN,k];exact wm (sb h)
 ·intro e k hx _ _ m
  rw[nN]
  rcases k with k | k | k<;>rw[k]
  ·exact wm (show ok [(3,[116,104,105,115])]=true by decide)
  ·exact wm (show ok [(3,[110,117,108,108])]=true by decide)
  ·exact wm (show ok [(3,[105,110,112,117,116])]=true by decide)
 ·intro e x k hx _ _ _ ih m
  rw[nN,hx]
  rcases k with k | ⟨k,-⟩
  ·rw[k];exact wm (eG (by decide) (ih 4))
  ·rw[k];exact wm (fx (a:=[(3,[110,105,108])]) (by decide) (by decide) (fx (ih 4) (by decide) rfl))
 ·intro e x y k hx _ _ _ _ ix iy m
  rw[nN,hx]
  rcases k with k | ⟨k,-⟩
  ·rw[Ay k];exact wm (fx (ix _) (by decide) (eG (acI k) (eG (by decide) (iy _))))
  ·rw[k];exact wm (fx (a:=[(3,[115,97,109,101])]) (by decide) (by decide) (fx (ix 4) (by decide) (eG (by decide) (fx (iy 4) (by decide) rfl))))
def At (l:List az) (i:Nat) (ts:List KT):Prop:=∃ r,(l.drop i).map kt=ts++r
theorem gZ {l i a b} (h:At l i (a++b)):At l i a/\At l (i+a.length) b:=by
 obtain⟨r,h⟩:=h
 refine⟨⟨b++r,by rw[h,append_assoc]⟩,r,?_⟩
 rw[<- drop_drop,map_drop,h,append_assoc,drop_left]
theorem cI {l i t ts} (h:At l i (t::ts)):At l (i+1) ts:=(gZ (a:=[t]) h).2
theorem adz {l i t ts} (h:At l i (t::ts)):∃ k,l[i]? =some k/\k.aa=t.1/\k.bz=t.2:=by
 obtain⟨r,h⟩:=h
 cases hd:l.drop i with
 | nil=>rw[hd] at h;cases h
 | cons k q=>
  rw[hd,map_cons,cons_append] at h
  injection h with h1 h2
  have:l[i]? =some k:=by rw[<- head?_drop,hd];rfl
  exact⟨k,this,congrArg Prod.fst h1,congrArg Prod.snd h1⟩
theorem kS {l i t ts} (h:At l i (t::ts)):∃ k,dl l (i:Int)=some k/\k.aa=t.1/\k.bz=t.2/\i < l.length:=by
 obtain⟨k,h1,h2,h3⟩:=adz h
 have hlt:i < l.length:=(List.getElem?_eq_some_iff.1 h1).1
 refine⟨k,?_,h2,h3,hlt⟩
 unfold dl
 rw[if_pos (by simp),obs,if_pos (by simpa using hlt),dQ hlt,obs,<- h1,getElem?_eq_getElem hlt]
def isT (t:KT) (s:List UInt8):Bool:=if t.1=3\/t.1=4 then t.2==s else false
theorem oo {k t} (h1:k.aa=t.1) (h2:k.bz=t.2) (s:List UInt8):dJ k s=some (isT t s):=by
 unfold dJ isT
 rw[h1,h2]
 by_cases h3:t.1=3
 ·rw[if_pos (by simpa using h3),if_pos (.inl h3)]
 ·by_cases h4:t.1=4
  ·rw[if_neg (by simpa using h3),if_pos (by simpa using h4),if_pos (.inr h4)]
  ·rw[if_neg (by simpa using h3),if_neg (by simpa using h4),if_neg (by omega)]
def btw (t:KT) (L:Int):List UInt8:=if L=0 then(if isT t [38,38]=true then [38,38] else []) else if L=1 then(if isT t [60]=true then [60] else if isT t [61,61]=true then [61,61] else [])
 else if L=2 then(if isT t [43]=true then [43] else if isT t [45]=true then [45] else []) else(if isT t [42]=true then [42] else [])
theorem JC {l} {i:Int} {k} (h1:dl l i=some k) {L:Int} (hL:0<=L/\L<=3):lH l i L=some (btw (kt k) L):=by
 have hI:=oo (k:=k) (t:=kt k) rfl rfl
 generalize kt k=t at hI ⊢
 have hc:L=0\/L=1\/L=2\/L=3:=by omega
 have w1:ah (0+1)=1:=by decide
 have w2:ah (1+1)=2:=by decide
 have two:∀ a b:List UInt8,fQ l i [a,b] 3 0=some (if isT t a=true then .stop a else if isT t b=true then .stop b else .next ()):=fun a b=>by
  have i0:idx [a,b] 0=some a:=rfl
  have i1:idx [a,b] 1=some b:=rfl
  rw[fQ,if_pos (by simp),h1,obs,i0,obs,hI,obs]
  by_cases ha:isT t a=true
  ·rw[if_pos ha,if_pos ha,obs]
  ·rw[if_neg ha,if_neg ha,w1,fQ,if_pos (by simp),h1,obs,i1,obs,hI,obs]
   by_cases hb:isT t b=true
   ·rw[if_pos hb,if_pos hb,obs]
   ·rw[if_neg hb,if_neg hb,w2,fQ,if_neg (by simp)]
 have one:∀ a:List UInt8,fQ l i [a] 2 0=some (if isT t a=true then .stop a else .next ()):=fun a=>by
  have i0:idx [a] 0=some a:=rfl
  rw[fQ,if_pos (by simp),h1,obs,i0,obs,hI,obs]
  by_cases ha:isT t a=true
  ·rw[if_pos ha,if_pos ha,obs]
  ·rw[if_neg ha,if_neg ha,w1,fQ,if_neg (by simp)]
 unfold lH btw
 rcases hc with rfl | rfl | rfl | rfl
 ·rw[show nV 0=some [[38,38]] from rfl,obs,show ((((([[38,38]]:List (List UInt8)).length:Nat):Int) - 0:Int).toNat+1)=2 from rfl,one,obs]
  cases isT t [38,38]<;>rfl
 ·rw[show nV 1=some [[60],[61,61]] from rfl,obs,show ((((([[60],[61,61]]:List (List UInt8)).length:Nat):Int) - 0:Int).toNat+1)=3 from rfl,two,obs]
  cases isT t [60]<;>cases isT t [61,61]<;>rfl
 ·rw[show nV 2=some [[43],[45]] from rfl,obs,show ((((([[43],[45]]:List (List UInt8)).length:Nat):Int) - 0:Int).toNat+1)=3 from rfl,two,obs]
  cases isT t [43]<;>cases isT t [45]<;>rfl
 ·rw[show nV 3=some [[42]] from rfl,obs,show ((((([[42]]:List (List UInt8)).length:Nat):Int) - 0:Int).toNat+1)=2 from rfl,one,obs]
  cases isT t [42]<;>rfl
theorem Ga {l i t ts} (h:At l i (t::ts)) {L:Int} (hL:0<=L/\L<=3):lH l (i:Int) L=some (btw t L):=by
 obtain⟨k,h1,h2,h3,-⟩:=kS h
 rw[JC h1 hL,show kt k=t from Prod.ext h2 h3]
def Ax (L:Int) (t:KT):Prop:=∀ j,L<=j->0<=j->j<=3->btw t j=[]
theorem Lm {k:Int} (h:6<=k/\k<=11):Ax (lvS k+1) (4,sgS k)/\btw (4,sgS k) (lvS k)=sgS k/\sgS k≠[]/\uh (sgS k)=some k:=by
 refine⟨fun j h1 h0 h3=> ?_,?_⟩
 ·have hj:j=0\/j=1\/j=2\/j=3:=by omega
  rcases rR h with rfl | rfl | rfl | rfl | rfl | rfl<;>rcases hj with rfl | rfl | rfl | rfl<;>first | rfl | (exact absurd h1 (by decide))
 ·rcases rR h with rfl | rfl | rfl | rfl | rfl | rfl<;>exact⟨rfl,by decide,rfl⟩
def tE (e:au) (L:Int):List KT:=tks (eP e L)
theorem ug {e} {L:Int} (h:L<=lvS e.aa):tE e L=tks (ePs e.aa e.dp e.ai (MP (ePL e.aY) 0) (MP (ePL e.aY) 1)):=by
 unfold tE
 rw[nN,decide_eq_false (by omega)];rfl
theorem P9 {e} {L:Int} (h:lvS e.aa < L) (h0:0<=lvS e.aa):tE e L=(4,[40])::(tE e 0++[(4,[41])]):=by
 rw[ug h0]
 unfold tE
 rw[nN,decide_eq_true h,PG,if_pos rfl,cn (by decide),eC,cn (by decide),Lf]
theorem abD {e x} (h:e.aY=[x]):dE e=1+dE x:=by rw[Cg,h];simp[dEL]
theorem Yy {e x y} (h:e.aY=[x,y]):dE e=1+max (dE x) (dE y):=by rw[Cg,h];simp[dEL]
theorem acD {k:Int} (h:1<=k/\k<=14):0<=lvS k/\lvS k<=4:=by rcases N4 h with rfl | rfl | rfl | rfl | rfl | rfl | rfl | rfl | rfl | rfl | rfl | rfl | rfl | rfl<;>decide
theorem adk {k:Int} (h:1<=k/\k<=14):lvS k=4↔¬ (6<=k/\k<=11):=by rcases N4 h with rfl | rfl | rfl | rfl | rfl | rfl | rfl | rfl | rfl | rfl | rfl | rfl | rfl | rfl<;>decide
theorem wN {i:Nat} (h:i<=1000000):ah ((i:Int)+1)=((i+1:Nat):Int):=by rw[w64 (by omega) (by omega)];omega
def NN (e:au) (L:Int) (nest:Nat):Prop:=if lvS e.aa < L\/lvS e.aa=4 then nest+dE e<=20 else nest+dE e<=21
def FF (e:au) (L:Int) (f:Nat):Prop:=if lvS e.aa < L then 7 * (dE e:Int)+6 - L<=(f:Int) else 7 * (dE e:Int)<=(f:Int)+L
def RdA (e:au):Prop:=∀ (l:List az) (i:Nat) (L:Int) (nest f:Nat) (t:KT) (r:List KT),l.length<=20000->At l i (tE e L++t::r)->0<=L->L<=4->Ax L t->NN e L nest->FF e L f->dq f l (i:Int) L (nest:Int)=some ⟨e,((i+(tE e L).length:Nat):Int),aK⟩
def RdS (e:au):Prop:=∀ (l:List az) (i:Nat) (L:Int) (nest f:Nat) (t:KT) (r:List KT),l.length<=20000->At l i (tE e L++t::r)->0<=L->L<=3->L≠1->Ax (L+1) t->NN e L nest->FF e L (f+1)->∃ n,l.length+64<=n+dE e/\dq (f+1) l (i:Int) L (nest:Int)=Option.bind (eF l L (nest:Int) (dq f) n ⟨e,((i+(tE e L).length:Nat):Int),aK⟩) fun lr0=>Ctl.elim lr0 (fun v=>some v) fun x0=>some x0
def RdT (e:au):Prop:=∀ (l:List az) (i:Nat) (nest h:Nat) (t:KT) (r:List KT),l.length<=20000->At l i (tE e 4++t::r)->Ax 4 t->NN e 4 nest->FF e 4 (h+1)->ia h l (i:Int) (nest:Int)=some ⟨e,((i+(tE e 4).length:Nat):Int),aK⟩
theorem JA {l i t r} (h:At l i (t::r)) {L:Int} (hL:0<=L/\L<=3) (hs:btw t L=[]) {nest:Int} {c n} (e:au):eF l L nest c (n+1) ⟨e,(i:Int),aK⟩=some (.next ⟨e,(i:Int),aK⟩):=by
 rw[eF]
 simp only
 rw[if_pos (by decide),Ga h hL,obs,hs,obs,if_neg (by decide)]
def AH (e:au) (L:Int):Prop:=∀ (l:List az) (i:Nat) (nest f:Nat) (t:KT) (r:List KT),l.length<=20000->At l i (tE e L++t::r)->Ax L t->NN e L nest->FF e L f->dq f l (i:Int) L (nest:Int)=some ⟨e,((i+(tE e L).length:Nat):Int),aK⟩
theorem Di {l i a t r} (h:At l i (a++t::r)):i+a.length < l.length:=by
 obtain⟨-,-,-,-,hlt⟩:=kS (gZ h).2
 exact hlt
theorem BT {L M:Int} {t} (h:Ax L t) (hm:L<=M):Ax M t:=fun j h1 h0 h3=>h j (by omega) h0 h3
theorem ads {e} {L:Int} (hk:1<=e.aa/\e.aa<=14) (h:lvS e.aa≠L):tE e (L+1)=tE e L:=by
 have h0:=acD hk
 by_cases hl:lvS e.aa < L
 ·rw[P9 hl h0.1,P9 (by omega) h0.1]
 ·rw[ug (by omega),ug (by omega)]
theorem zD (e:au):1<=dE e:=by rw[Cg];omega
theorem PM {e} {L:Int} {f} (h:FF e L f) (hL:L<=4):∃ g,f=g+1:=by
 have:=zD e
 unfold FF at h
 refine⟨f - 1,?_⟩
 split at h<;>omega
theorem adc {e} {L:Int} {n} (h:lvS e.aa≠L) (hn:NN e L n):NN e (L+1) n:=by
 unfold NN at hn ⊢
 by_cases h4:lvS e.aa < L\/lvS e.aa=4
 ·rw[if_pos h4] at hn;rw[if_pos (by omega)];exact hn
 ·rw[if_neg h4] at hn;rw[if_neg (by omega)];exact hn
theorem acZ {e} {L:Int} {g} (h:lvS e.aa≠L) (hf:FF e L (g+1)):FF e (L+1) g:=by
 unfold FF at hf ⊢
 by_cases h4:lvS e.aa < L
 ·rw[if_pos h4] at hf;rw[if_pos (by omega)];omega
 ·rw[if_neg h4] at hf;rw[if_neg (by omega)];omega
theorem Wn {e} {L:Int} (hk:1<=e.aa/\e.aa<=14) (h0:0<=L) (h3:L<=3) (hl:lvS e.aa≠L) (hA:AH e (L+1)) {l i nest f t r} (hll:l.length<=20000) (h:At l i (tE e L++t::r)) (hs:Ax (L+1) t) (hn:NN e L nest) (hf:FF e L (f+1)):
  dq (f+1) l (i:Int) L (nest:Int)=Option.bind (eF l L (nest:Int) (dq f) (l.length+64) ⟨e,((i+(tE e L).length:Nat):Int),aK⟩) fun lr0=>Ctl.elim lr0 (fun v=>some v) fun x0=>some x0:=by
 have he:=ads hk hl
 have:=hA l i nest f t r hll (by rw[he];exact h) hs (adc hl hn) (acZ hl hf)
 rw[he] at this
 rw[dq,if_neg (by simp;omega),w64 (by omega) (by omega),this,obs]
theorem aaV {e} {L:Int} (hk:1<=e.aa/\e.aa<=14) (h0:0<=L) (h3:L<=3) (hl:lvS e.aa≠L) (hA:AH e (L+1)):AH e L:=by
 intro l i nest f t r hll h hs hn hf
 obtain⟨g,rfl⟩:=PM hf (by omega)
 rw[Wn hk h0 h3 hl hA hll h (BT hs (by omega)) hn hf,JA (gZ h).2 ⟨h0,h3⟩ (hs L (Int.le_refl _) h0 h3),obs]
 rfl
theorem A_4 {e} (hT:RdT e):AH e 4:=by
 intro l i nest f t r hll h hs hn hf
 obtain⟨g,rfl⟩:=PM hf (by omega)
 rw[dq,if_pos (by decide),hT l i nest g t r hll h hs hn hf,obs]
theorem Mr {e} {M:Int} (hk:1<=e.aa/\e.aa<=14) (hM:M<=4) (hA:AH e M):∀ (n:Nat) (L:Int),0<=L->L+n=M->(∀ j,L<=j->j < M->lvS e.aa≠j)->AH e L
 | 0,L,h0,hL,_=>by
  have:L=M:=by omega
  rw[this];exact hA
 | n+1,L,h0,hL,hne=>aaV hk h0 (by omega) (hne L (Int.le_refl _) (by omega)) (Mr hk hM hA n (L+1) (by omega) (by omega) fun j h1 h2=>hne j (by omega) h2)
theorem yi {l i s r} (hll:l.length<=20000) (h:At l i ((4,s)::r)) (e:au):ky l ⟨e,(i:Int),aK⟩ s=some ⟨e,((i+1:Nat):Int),aK⟩:=by
 obtain⟨k,h1,h2,h3,hlt⟩:=kS h
 unfold ky
 simp only
 rw[if_neg (by decide),h1,obs,oo h2 h3,obs,show isT (4,s) s=true from by simp[isT],if_neg (by decide),wN (by omega)]
theorem adC {e} (h0:0<=lvS e.aa) (h4:lvS e.aa < 4) (hA:AH e 0):RdT e:=by
 intro l i nest h t r hll hat hs hn hf
 rw[P9 h4 h0] at hat ⊢
 rw[cons_append,append_assoc,cons_append,nil_append] at hat
 unfold NN at hn
 unfold FF at hf
 rw[if_pos (.inl h4)] at hn
 rw[if_pos h4] at hf
 have hd:=zD e
 obtain⟨g,rfl⟩:∃ g,h=g+1:=⟨h - 1,by omega⟩
 obtain⟨k,h1,h2,h3,hlt⟩:=kS hat
 have hI:=oo h2 h3
 have hat1:=cI hat
 have hi:=Di hat1
 have:=hA l (i+1) (nest+1) g (4,[41]) (t::r) hll hat1 (fun j h1 h0 h3=>by
   have hj:j=0\/j=1\/j=2\/j=3:=by omega
   rcases hj with rfl | rfl | rfl | rfl<;>rfl) (by unfold NN;rw[if_neg (by omega)];omega) (by unfold FF;rw[if_neg (by omega)];omega)
 rw[ia,h1,obs,hI,obs,show isT (4,[40]) [40]=true from rfl,if_pos rfl,obs,show (((nest:Nat):Int)==20)=false by simp;omega,if_neg (by decide),obs,if_pos rfl,wN (by omega),wN (by omega),this,obs,yi hll (gZ hat1).2,obs]
 simp only[length_cons,length_append,length_nil]
 congr 3
 omega
theorem CR (e:au):e=⟨e.aa,e.dp,e.ai,e.aY⟩:=by cases e;rfl
theorem wC {g l} {i nest:Int} {k t} (h1:dl l i=some k) (h2:k.aa=t.1) (h3:k.bz=t.2) (n40:isT t [40]=false) (n33:isT t [33]=false):ia (g+1) l i nest=if isT t [110,105,108]||isT t [115,97,109,101] then lv l i else
  if isT t [105,110,112,117,116]=true then some ⟨⟨5,0,[],[]⟩,ah (i+1),aK⟩ else if(t.1==2&&(ji t.2).2)=true then some ⟨⟨1,(ji t.2).1,[],[]⟩,ah (i+1),aK⟩ else iI l i true:=by
 have hI:=oo h2 h3
 rw[ia,h1]
 simp only[obs,hI,n40,n33,Bool.false_eq_true,if_false,pA,h2,h3]
 generalize isT t [110,105,108]=A
 generalize isT t [115,97,109,101]=B
 generalize isT t [105,110,112,117,116]=C
 generalize (t.1==2)=D
 generalize (ji t.2).2=E
 cases lv l i<;>cases iI l i true<;>cases A<;>cases B<;>cases C<;>cases D<;>cases E<;>rfl
theorem yu {l i t r} (hll:l.length<=20000) (h:At l i (t::r)) {x nul} (hx:(x=⟨2,0,t.2,[]⟩/\t.1=1)\/(x=⟨3,0,[],[]⟩/\t=(3,[116,104,105,115]))\/(x=⟨4,0,[],[]⟩/\t=(3,[110,117,108,108])/\nul=true)):iI l (i:Int) nul=some ⟨x,((i+1:Nat):Int),aK⟩:=by
 obtain⟨k,h1,h2,h3,hlt⟩:=kS h
 have hI:=oo h2 h3
 unfold iI
 rw[h1,obs,h2,wN (by omega)]
 rcases hx with⟨rfl,e⟩ | ⟨rfl,rfl⟩ | ⟨rfl,rfl,rfl⟩
 ·rw[if_pos (by simpa using e),h3]
 ·rw[if_neg (by decide),hI,obs,if_pos (by decide)]
 ·rw[if_neg (by decide),hI,obs,if_neg (by decide),if_pos rfl,hI,obs,obs,if_pos (by decide)]
theorem Du {x} (hf:fS x=true) (hk:x.aa=2\/x.aa=3\/x.aa=4):∃ t,tE x 4=[t]/\((x=⟨2,0,t.2,[]⟩/\t.1=1)\/(x=⟨3,0,[],[]⟩/\t=(3,[116,104,105,115]))\/(x=⟨4,0,[],[]⟩/\t=(3,[110,117,108,108]))):=by
 obtain⟨hr,hl,-,-,-,-,gn,gm⟩:=nR hf
 have h0:x.aY=[]:=by
  have:x.aY.length=0:=by
   unfold uH at hl
   rw[if_pos (by omega)] at hl
   omega
  exact eq_nil_of_length_eq_zero this
 have hn:=gn (by omega)
 have e:=CR x
 rw[hn,h0] at e
 rw[ug (by rw[(adk hr).2 (by omega)];omega)]
 rcases hk with k | k | k
 ·rw[k] at e ⊢
  exact⟨(1,x.ai),rfl,.inl ⟨e,rfl⟩⟩
 ·rw[k,gm (by omega)] at e
  rw[k]
  exact⟨_,rfl,.inr (.inl ⟨e,rfl⟩)⟩
 ·rw[k,gm (by omega)] at e
  rw[k]
  exact⟨_,rfl,.inr (.inr ⟨e,rfl⟩)⟩
theorem Uc {e} (hm:bR e<=1000000):jp (bR e+1) e=some (dE e:Int):=rr _ e hm (by omega)
theorem PQ {x} {L:Int} {nest} (h:nest+dE x<=20):NN x L nest:=by unfold NN;split<;>omega
theorem FY {x:au} {L:Int} {f:Nat} (h:7 * (dE x:Int)+6 - L<=(f:Int)) (hL:L<=4):FF x L f:=by unfold FF;split<;>omega
theorem adP {e x} (k:e.aa=12) (hx:e.aY=[x]) (hn0:e.dp=0) (hm0:e.ai=[]) (hd:dE e<=20) (hm:bR e<=1000000) (hT:RdT x):RdT e:=by
 intro l i nest h t r hll hat hs hn hf
 have he:e=⟨12,0,[],[x]⟩:=by have:=CR e;rw[k,hx,hn0,hm0] at this;exact this
 have ht:tE e 4=(4,[33])::tE x 4:=by rw[ug (by rw[k];decide),k,hx];rfl
 rw[ht] at hat ⊢
 have hd1:=abD hx
 unfold NN at hn
 unfold FF at hf
 rw[if_pos (.inr (by rw[k];rfl))] at hn
 rw[if_neg (by rw[k];decide)] at hf
 obtain⟨g,rfl⟩:∃ g,h=g+1:=⟨h - 1,by omega⟩
 obtain⟨q,h1,h2,h3,hlt⟩:=kS hat
 have hI:=oo h2 h3
 have hx:=hT l (i+1) (nest+1) g t r hll (cI hat) hs (PQ (by omega)) (FY (by omega) (by omega))
 have hdp:=Uc hm
 rw[he] at hdp
 rw[ia,h1,obs]
 simp only[hI,show isT (4,[33]) [40]=false from rfl,show isT (4,[33]) [33]=true from rfl,obs,Bool.false_eq_true,if_false,if_true]
 rw[show (((nest:Nat):Int)==20)=false by simp;omega,if_neg (by decide),wN (by omega),wN (by omega),hx]
 simp only[obs]
 rw[if_neg (by decide),hdp,obs,if_neg (by rw[<- he];simp;omega),he]
 simp only[length_cons]
 congr 3
 omega
theorem acz {e x} (k:e.aa=13) (hx:e.aY=[x]) (hn0:e.dp=0) (hm0:e.ai=[]) (hf0:fS x=true) (hk:x.aa=2\/x.aa=3):RdT e:=by
 intro l i nest h t r hll hat hs hn hf
 have he:e=⟨13,0,[],[x]⟩:=by have:=CR e;rw[k,hx,hn0,hm0] at this;exact this
 have ht:tE e 4=(3,[110,105,108])::(4,[40])::(tE x 4++[(4,[41])]):=by
  rw[ug (by rw[k];decide),k,hx]
  show tks ((3,[110,105,108])::(4,[40])::(eP x 4++[(4,[41])]))=_
  rw[cn (by decide),cn (by decide),eC];rfl
 obtain⟨u,hu,hux⟩:=Du hf0 (by omega)
 rw[ht,hu] at hat ⊢
 unfold FF at hf
 rw[if_neg (by rw[k];decide)] at hf
 have hdp:=abD hx
 have:=zD x
 obtain⟨g,rfl⟩:∃ g,h=g+1:=⟨h - 1,by omega⟩
 obtain⟨q,h1,h2,h3,hlt⟩:=kS hat
 have hI:=oo h2 h3
 have a1:=cI hat
 have a2:=cI a1
 have a3:=cI a2
 have hat2:iI l (((i+1 + 1:Nat)):Int) false=some ⟨x,((i+1 + 1+1:Nat):Int),aK⟩:=yu hll a2 (by
  rcases hux with h | h | h
  ·exact .inl h
  ·exact .inr (.inl h)
  ·rw[h.1] at hk;simp at hk)
 rw[wC h1 h2 h3 rfl rfl,if_pos (by decide)]
 unfold lv
 rw[h1,obs,hI,obs,wN (by omega),yi hll a1,obs]
 simp only
 rw[if_neg (by decide),show isT (3,[110,105,108]) [115,97,109,101]=false from rfl,hat2,obs]
 simp only
 rw[if_neg (by decide),if_neg (by decide)]
 simp only[Ctl.go]
 rw[yi hll a3,obs]
 simp only
 rw[if_neg (by decide),he]
 rfl
theorem abN {e x y} (k:e.aa=14) (hx:e.aY=[x,y]) (hn0:e.dp=0) (hm0:e.ai=[]) (hf0:fS x=true) (hf1:fS y=true) (hk:x.aa=2\/x.aa=3\/x.aa=4) (hk1:y.aa=2\/y.aa=3\/y.aa=4):RdT e:=by
 intro l i nest h t r hll hat hs hn hf
 have he:e=⟨14,0,[],[x,y]⟩:=by have:=CR e;rw[k,hx,hn0,hm0] at this;exact this
 have ht:tE e 4=(3,[115,97,109,101])::(4,[40])::(tE x 4++(4,[44])::(tE y 4++[(4,[41])])):=by
  rw[ug (by rw[k];decide),k,hx]
  show tks ((3,[115,97,109,101])::(4,[40])::(eP x 4++(4,[44])::(0,[32])::(eP y 4++[(4,[41])])))=_
  rw[cn (by decide),cn (by decide),eC,cn (by decide),dw,eC];rfl
 obtain⟨u,hu,hux⟩:=Du hf0 hk
 obtain⟨v,hv,hvx⟩:=Du hf1 hk1
 rw[ht,hu,hv] at hat ⊢
 unfold FF at hf
 rw[if_neg (by rw[k];decide)] at hf
 have hdp:=Yy hx
 have:=zD x
 obtain⟨g,rfl⟩:∃ g,h=g+1:=⟨h - 1,by omega⟩
 obtain⟨q,h1,h2,h3,hlt⟩:=kS hat
 have hI:=oo h2 h3
 have a1:=cI hat
 have a2:=cI a1
 have a3:=cI a2
 have a4:=cI a3
 have a5:=cI a4
 have hat2:iI l (((i+1 + 1:Nat)):Int) true=some ⟨x,((i+1 + 1+1:Nat):Int),aK⟩:=yu hll a2 (hux.imp_right (·.imp_right fun h=>⟨h.1,h.2,rfl⟩))
 have hat4:iI l (((i+1 + 1+1 + 1:Nat)):Int) true=some ⟨y,((i+1 + 1+1 + 1+1:Nat):Int),aK⟩:=yu hll a4 (hvx.imp_right (·.imp_right fun h=>⟨h.1,h.2,rfl⟩))
 rw[wC h1 h2 h3 rfl rfl,if_pos (by decide)]
 unfold lv
 rw[h1,obs,hI,obs,wN (by omega),yi hll a1,obs]
 simp only
 rw[if_neg (by decide),show isT (3,[115,97,109,101]) [115,97,109,101]=true from rfl,hat2,obs]
 simp only
 rw[if_neg (by decide),if_pos trivial,yi hll a3]
 simp only[eZ]
 rw[if_neg (by decide),hat4]
 simp only
 rw[if_neg (by decide)]
 simp only[Ctl.go]
 rw[yi hll a5,obs]
 simp only
 rw[if_neg (by decide),he]
 rfl
theorem WC {e x y} {M:Int} (hb:6<=e.aa/\e.aa<=11) (hx:e.aY=[x,y]) (hM:M<=lvS e.aa):tE e M=tE x (if lvS e.aa=1 then 2 else lvS e.aa)++(4,sgS e.aa)::tE y (lvS e.aa+1):=by
 rw[ug hM,hx,Ay hb,eC,dw,cn (by decide),dw];rfl
theorem GY {e x y} (hb:6<=e.aa/\e.aa<=11) (hx:e.aY=[x,y]) (hn0:e.dp=0) (hm0:e.ai=[]) (hd:dE e<=20) (hm:bR e<=1000000) {l i j r} (hll:l.length<=20000) (h:At l i ((4,sgS e.aa)::r)) {nest:Int} {c} (hc:c l ((i+1:Nat):Int) (lvS e.aa+1) nest=some ⟨y,(j:Int),aK⟩) (n:Nat):
  eF l (lvS e.aa) nest c (n+1) ⟨x,(i:Int),aK⟩=if lvS e.aa=1 then some (.stop ⟨e,(j:Int),aK⟩) else eF l (lvS e.aa) nest c n ⟨e,(j:Int),aK⟩:=by
 have he:e=⟨e.aa,0,[],[x,y]⟩:=by have:=CR e;rw[hx,hn0,hm0] at this;exact this
 obtain⟨hlt,hge,-⟩:=Ca hb
 obtain⟨-,s2,s3,s4⟩:=Lm hb
 obtain⟨-,-,-,-,hi⟩:=kS h
 have hdp:=Uc hm
 rw[he] at hdp
 rw[eF]
 simp only
 rw[if_pos (by decide),Ga h ⟨hge,by omega⟩,obs,s2,obs,if_pos (by simpa using s3),wN (by omega),w64 (by omega) (by omega),hc,obs]
 simp only
 rw[if_neg (by decide),obs,s4,obs,hdp,obs,if_neg (by rw[<- he];simp;omega),<- he]
 by_cases h1:lvS e.aa=1
 ·rw[if_pos (by simpa using h1),if_pos h1]
 ·rw[if_neg (by simpa using h1),if_neg h1]
theorem L6 {e x nest} {L M:Int} (hb:6<=e.aa/\e.aa<=11) (hM:M<=lvS e.aa) (hd:dE x+1<=dE e) (hn:NN e M nest):NN x L nest:=by
 obtain⟨hlt,-,-⟩:=Ca hb
 unfold NN at hn
 rw[if_neg (by omega)] at hn
 exact PQ (by omega)
theorem aav {e x y} (hb:6<=e.aa/\e.aa<=11) (hx:e.aY=[x,y]) (hn0:e.dp=0) (hm0:e.ai=[]) (hd:dE e<=20) (hm:bR e<=1000000) (hS:RdS x) (hA:AH y (lvS e.aa+1)) (h1:lvS e.aa≠1) {l i nest f t r} (hll:l.length<=20000) (h:At l i (tE e (lvS e.aa)++t::r)) (hs:Ax (lvS e.aa+1) t) (hn:NN e (lvS e.aa) nest) (hf:FF e (lvS e.aa) (f+1)):
  ∃ n,l.length+64<=n+dE e/\dq (f+1) l (i:Int) (lvS e.aa) (nest:Int)=Option.bind (eF l (lvS e.aa) (nest:Int) (dq f) n ⟨e,((i+(tE e (lvS e.aa)).length:Nat):Int),aK⟩) fun lr0=>Ctl.elim lr0 (fun v=>some v) fun x0=>some x0:=by
 obtain⟨hlt,hge,-⟩:=Ca hb
 obtain⟨s1,-⟩:=Lm hb
 have hdp:=Yy hx
 have ht:=WC hb hx (Int.le_refl _)
 rw[if_neg h1] at ht
 rw[ht] at h ⊢
 rw[append_assoc,cons_append] at h
 unfold FF at hf
 rw[if_neg (by omega)] at hf
 obtain⟨n,hn1,hc⟩:=hS l i (lvS e.aa) nest f _ _ hll h hge (by omega) h1 s1 (L6 hb (Int.le_refl _) (by omega) hn) (FY (by omega) (by omega))
 have h2:=(gZ h).2
 have hy:=hA l (i+(tE x (lvS e.aa)).length+1) nest f t r hll (cI h2) hs (L6 hb (Int.le_refl _) (by omega) hn) (FY (by omega) (by omega))
 obtain⟨n',rfl⟩:∃ n',n=n'+1:=⟨n - 1,by omega⟩
 refine⟨n',by omega,?_⟩
 rw[hc,GY hb hx hn0 hm0 hd hm hll h2 hy,if_neg h1,length_append,length_cons,show i+(tE x (lvS e.aa)).length+1 + (tE y (lvS e.aa+1)).length=i+((tE x (lvS e.aa)).length+((tE y (lvS e.aa+1)).length+1)) by omega]
theorem acQ {e x y} (hb:6<=e.aa/\e.aa<=11) (hx:e.aY=[x,y]) (hn0:e.dp=0) (hm0:e.ai=[]) (hd:dE e<=20) (hm:bR e<=1000000) (hS:RdS x) (hX:AH x 2) (hA:AH y (lvS e.aa+1)):AH e (lvS e.aa):=by
 intro l i nest f t r hll h hs hn hf
 obtain⟨hlt,hge,-⟩:=Ca hb
 obtain⟨g,rfl⟩:=PM hf (by omega)
 by_cases h1:lvS e.aa=1
 ·obtain⟨s1,-⟩:=Lm hb
  have hdp:=Yy hx
  have ht:=WC hb hx (Int.le_refl _)
  rw[if_pos h1] at ht
  rw[ht] at h ⊢
  rw[append_assoc,cons_append] at h
  unfold FF at hf
  rw[if_neg (by omega)] at hf
  have hc:=hX l i nest g _ _ hll h (by rw[h1] at s1;exact s1) (L6 hb (Int.le_refl _) (by omega) hn) (FY (by omega) (by omega))
  have h2:=(gZ h).2
  have hy:=hA l (i+(tE x 2).length+1) nest g t r hll (cI h2) (BT hs (by omega)) (L6 hb (Int.le_refl _) (by omega) hn) (FY (by omega) (by omega))
  have hturn:=GY hb hx hn0 hm0 hd hm hll h2 hy (l.length+63)
  rw[if_pos h1] at hturn
  rw[dq,if_neg (by simp;omega),w64 (by omega) (by omega),show lvS e.aa+1=2 by omega,hc,obs,hturn,obs,length_append,length_cons,show i+(tE x 2).length+1 + (tE y (lvS e.aa+1)).length=i+((tE x 2).length+((tE y (lvS e.aa+1)).length+1)) by omega,show lvS e.aa+1=2 by omega]
  rfl
 ·obtain⟨n,hn1,hc⟩:=aav hb hx hn0 hm0 hd hm hS hA h1 hll h (BT hs (by omega)) hn hf
  obtain⟨n',rfl⟩:∃ n',n=n'+1:=⟨n - 1,by omega⟩
  rw[hc,JA (gZ h).2 ⟨hge,by omega⟩ (hs _ (Int.le_refl _) hge (by omega)),obs]
  rfl
theorem U2 {e} (hk:1<=e.aa/\e.aa<=14) (hA:∀ L,0<=L->L<=4->AH e L) (hT:RdT e) (hS:lvS e.aa≠1->lvS e.aa<=3->∀ (l:List az) (i nest f:Nat) (t:KT) (r:List KT),l.length<=20000->At l i (tE e (lvS e.aa)++t::r)->Ax (lvS e.aa+1) t->NN e (lvS e.aa) nest->FF e (lvS e.aa) (f+1)->∃ n,l.length+64<=n+dE e/\dq (f+1) l (i:Int) (lvS e.aa) (nest:Int)=Option.bind (eF l (lvS e.aa) (nest:Int) (dq f) n ⟨e,((i+(tE e (lvS e.aa)).length:Nat):Int),aK⟩) fun lr0=>Ctl.elim lr0 (fun v=>some v) fun x0=>some x0):
  RdA e/\RdS e/\RdT e:=by
 refine⟨fun l i L nest f t r hll h h0 h4=>hA L h0 h4 l i nest f t r hll h,fun l i L nest f t r hll h h0 h3 hL1 hs hn hf=> ?_,hT⟩
 by_cases hl:lvS e.aa=L
 ·subst hl
  exact hS hL1 h3 l i nest f t r hll h hs hn hf
 ·exact⟨l.length+64,by omega,Wn hk h0 h3 hl (hA (L+1) (by omega) (by omega)) hll h hs hn hf⟩
theorem JQ {e} (hk:1<=e.aa/\e.aa<=14) (h4:lvS e.aa=4) (hT:RdT e):RdA e/\RdS e/\RdT e:=
 U2 hk (fun L h0 hL=>Mr hk (Int.le_refl _) (A_4 hT) (4 - L).toNat L h0 (by omega) fun j h1 h2=>by omega) hT (fun h1 h3=>by omega)
theorem MC {e} (h:RdA e) {L:Int} (h0:0<=L) (h4:L<=4):AH e L:=fun l i nest f t r hll hat=>h l i L nest f t r hll hat h0 h4
theorem Wz {e} (he:fS e=true):dE e<=20->bR e<=1000000->RdA e/\RdS e/\RdT e:=by
 refine Jy (P:=fun e=>dE e<=20->bR e<=1000000->RdA e/\RdS e/\RdT e) ?_ ?_ ?_ ?_ ?_ _ e (Nat.le_refl _) he
 ·intro e k hx hm0 hnum hd hm
  refine JQ (by omega) (by rw[k];rfl) ?_
  intro l i nest h t r hll hat hs hn hf
  have hz:e=⟨1,e.dp,[],[]⟩:=by have:=CR e;rw[k,hx,hm0] at this;exact this
  have ht:tE e 4=[(2,vu e.dp)]:=by rw[ug (by rw[k];decide),k];rfl
  rw[ht] at hat ⊢
  unfold FF at hf
  rw[if_neg (by rw[k];decide)] at hf
  have hdp:=zD e
  obtain⟨g,rfl⟩:∃ g,h=g+1:=⟨h - 1,by omega⟩
  obtain⟨q,h1,h2,h3,hlt⟩:=kS hat
  rw[wC h1 h2 h3 rfl rfl,if_neg (by rw[show isT (2,vu e.dp) [110,105,108]=false from rfl,show isT (2,vu e.dp) [115,97,109,101]=false from rfl];decide),if_neg (by rw[show isT (2,vu e.dp) [105,110,112,117,116]=false from rfl];decide)]
  simp only[Kj hnum]
  rw[if_pos (by decide),wN (by omega),<- hz]
  rfl
 ·intro e k hx hn0 hnm hd hm
  refine JQ (by omega) (by rw[k];rfl) ?_
  intro l i nest h t r hll hat hs hn hf
  have hz:e=⟨2,0,e.ai,[]⟩:=by have:=CR e;rw[k,hx,hn0] at this;exact this
  have ht:tE e 4=[(1,e.ai)]:=by rw[ug (by rw[k];decide),k];rfl
  rw[ht] at hat ⊢
  unfold FF at hf
  rw[if_neg (by rw[k];decide)] at hf
  have hdp:=zD e
  obtain⟨g,rfl⟩:∃ g,h=g+1:=⟨h - 1,by omega⟩
  obtain⟨q,h1,h2,h3,hlt⟩:=kS hat
  rw[wC h1 h2 h3 rfl rfl,if_neg (by rw[show isT (1,e.ai) [110,105,108]=false from rfl,show isT (1,e.ai) [115,97,109,101]=false from rfl];decide),if_neg (by rw[show isT (1,e.ai) [105,110,112,117,116]=false from rfl];decide),if_neg (by rw[show ((1:Int)==2)=false from rfl,Bool.false_and];decide),yu hll hat (.inl ⟨rfl,rfl⟩),<- hz]
  rfl
 ·intro e k hx hn0 hm0 hd hm
  refine JQ (by omega) (by rcases k with k | k | k<;>(rw[k];rfl)) ?_
  intro l i nest h t r hll hat hs hn hf
  have hdp:=zD e
  have h7:7 * (dE e:Int)<=(h:Int)+1 + 4:=by
   unfold FF at hf
   rw[if_neg (by rcases k with k | k | k<;>(rw[k];decide))] at hf
   omega
  obtain⟨g,rfl⟩:∃ g,h=g+1:=⟨h - 1,by omega⟩
  have hz:=CR e
  rw[hx,hn0,hm0] at hz
  rcases k with k | k | k
  ·have ht:tE e 4=[(3,[116,104,105,115])]:=by rw[ug (by rw[k];decide),k];rfl
   rw[ht] at hat ⊢
   rw[k] at hz
   obtain⟨q,h1,h2,h3,hlt⟩:=kS hat
   rw[wC h1 h2 h3 rfl rfl,if_neg (by decide),if_neg (by decide),if_neg (by decide),yu hll hat (.inr (.inl ⟨rfl,rfl⟩)),<- hz];rfl
  ·have ht:tE e 4=[(3,[110,117,108,108])]:=by rw[ug (by rw[k];decide),k];rfl
   rw[ht] at hat ⊢
   rw[k] at hz
   obtain⟨q,h1,h2,h3,hlt⟩:=kS hat
   rw[wC h1 h2 h3 rfl rfl,if_neg (by decide),if_neg (by decide),if_neg (by decide),yu hll hat (.inr (.inr ⟨rfl,rfl,rfl⟩)),<- hz];rfl
  ·have ht:tE e 4=[(3,[105,110,112,117,116])]:=by rw[ug (by rw[k];decide),k];rfl
   rw[ht] at hat ⊢
   rw[k] at hz
   obtain⟨q,h1,h2,h3,hlt⟩:=kS hat
   rw[wC h1 h2 h3 rfl rfl,if_neg (by decide),if_pos (by decide),wN (by omega),<- hz];rfl
 ·intro e x k hx hn0 hm0 hf ih hd hm
  have hdp:=abD hx
  have hmp:=m_1 hx
  rcases k with k | ⟨k,hk⟩
  ·exact JQ (by omega) (by rw[k];rfl) (adP k hx hn0 hm0 hd hm (ih (by omega) (by omega)).2.2)
  ·exact JQ (by omega) (by rw[k];rfl) (acz k hx hn0 hm0 hf hk)
 ·intro e x y k hx hn0 hm0 hfx hfy ix iy hd hm
  have hdp:=Yy hx
  have hmp:=m_2 hx
  rcases k with hb | ⟨k,hk,hk1⟩
  ·obtain⟨hlt,hge,-⟩:=Ca hb
   have hk:1<=e.aa/\e.aa<=14:=by omega
   obtain⟨xA,xS,-⟩:=ix (by omega) (by omega)
   obtain⟨yA,-,-⟩:=iy (by omega) (by omega)
   have hA:=acQ hb hx hn0 hm0 hd hm xS (MC xA (by omega) (by omega)) (MC yA (by omega) (by omega))
   have hlow:∀ L,0<=L->L<=lvS e.aa->AH e L:=fun L h0 h1=>Mr hk (by omega) hA (lvS e.aa - L).toNat L h0 (by omega) fun j h1 h2=>by omega
   have hT:=adC hge hlt (hlow 0 (by omega) hge)
   refine U2 hk (fun L h0 h4=> ?_) hT (fun h1 h3 l i nest f t r hll h hs hn hf=>aav hb hx hn0 hm0 hd hm xS (MC yA (by omega) (by omega)) h1 hll h hs hn hf)
   by_cases hL:L<=lvS e.aa
   ·exact hlow L h0 hL
   ·exact Mr hk (Int.le_refl _) (A_4 hT) (4 - L).toNat L h0 (by omega) fun j h1 h2=>by omega
  ·exact JQ (by omega) (by rw[k];rfl) (abN k hx hn0 hm0 hfx hfy hk hk1)
theorem vo {e} (he:fq e=true) (hm:bR e<=1000000) {l i t r} (hll:l.length<=20000) (h:At l i (tE e 0++t::r)) (hs:Ax 0 t):jQ l (i:Int)=some ⟨e,((i+(tE e 0).length:Nat):Int),aK⟩:=by
 have hf:=ja he
 have hd:dE e<=20:=by
  unfold fq at he
  rw[Bool.and_eq_true,decide_eq_true_eq] at he
  exact he.1
 obtain⟨hA,-,-⟩:=Wz hf hd hm
 have h0:=acD (nR hf).1
 have:=hA l i 0 0 200 t r hll h (Int.le_refl _) (by omega) hs (PQ (by omega)) (by unfold FF;rw[if_neg (by omega)];omega)
 rw[show ((0:Nat):Int)=0 from rfl] at this
 unfold jQ
 rw[this,obs]
 simp only
 rw[if_neg (by decide)]
def cmP : List (List KT)->List KT
 | []=>[]
 | x::r=>x++(r.map fun y=>(4,[44])::(0,[32])::y).flatten
theorem KQ (l:List (List KT)):tx (cmP l)=cm (l.map tx):=by
 have h:∀ r:List (List KT),tx ((r.map fun y=>(4,[44])::(0,[32])::y).flatten)=((r.map tx).map ([44,32]++·)).flatten:=fun r=>by
  induction r with
  | nil=>rfl
  | cons y r ih=>rw[map_cons,flatten_cons,mw,ih,dT,dT,map_cons,map_cons,flatten_cons];rfl
 cases l with
 | nil=>rfl
 | cons x r=>rw[cmP,mw,h,map_cons,cm]
theorem Ku {l} (h:∀ x∈l,ok x=true):ok (cmP l)=true:=by
 have h1:∀ (r:List (List KT)) (x:List KT),ok x=true->(∀ y∈r,ok y=true)->ok (x++(r.map fun y=>(4,[44])::(0,[32])::y).flatten)=true:=fun r=>by
  induction r with
  | nil=>intro x hx _;rw[map_nil,flatten_nil,append_nil];exact hx
  | cons y r ih=>
   intro x hx hr
   rw[map_cons,flatten_cons]
   exact fx hx (by decide) (eG (by decide) (ih y (hr y (by simp)) fun z hz=>hr z (by simp[hz])))
 cases l with
 | nil=>rfl
 | cons x r=>exact h1 r x (h x (by simp)) fun y hy=>h y (by simp[hy])
def oK (ps:List (List UInt8)) (o:aF):KT:=(if o.aa=3 then 1 else 3,gL o ps)
structure PN (ps:List (List UInt8)):Prop where
 n:ps.length<=3
 v:∀ p∈ps,db p=true
 u:ps.Pairwise (·≠·)
def OW (ps:List (List UInt8)) (o:aF):Prop:=lQ o (ps.length:Int)=true/\o.aa≠7
theorem ady {ps o} (h:OW ps o) (h3:o.aa=3):∃ j,∃ hj:j < ps.length,o.fN=((j+1:Nat):Int)/\gL o ps=ps[j]:=by
 rcases ta h.1 with⟨-,h1,h2⟩ | ⟨h7,_⟩ | ⟨_,k⟩
 ·have hj:(o.fN - 1).toNat < ps.length:=by omega
  refine⟨(o.fN - 1).toNat,hj,by omega,?_⟩
  unfold gL
  rw[if_pos h.1,if_pos h3,getElem?_eq_getElem hj];rfl
 ·omega
 ·omega
theorem Uv {ps o} (h:OW ps o) (h3:o.aa≠3):gL o ps=yJ o.aa/\o.fN=0/\(o.aa=1\/o.aa=2\/o.aa=4\/o.aa=5\/o.aa=6):=by
 have ht:gL o ps=yJ o.aa:=by unfold gL;rw[if_pos h.1,if_neg h3]
 rcases ta h.1 with⟨k,-,-⟩ | ⟨h7,_⟩ | ⟨hn,k⟩
 ·exact absurd k h3
 ·exact absurd h7 h.2
 ·exact⟨ht,hn,k⟩
theorem VT {ps} (hp:PN ps) {o} (h:OW ps o):ok [oK ps o]=true:=by
 unfold oK
 by_cases h3:o.aa=3
 ·obtain⟨j,hj,-,ht⟩:=ady h h3
  rw[if_pos h3,ht]
  exact sb (hp.v _ (getElem_mem hj))
 ·obtain⟨ht,-,k⟩:=Uv h h3
  rw[if_neg h3,ht]
  rcases k with k | k | k | k | k<;>(rw[k];decide)
abbrev owW : List (List UInt8):=[[114,101,112],[112,101,101,114],[],[119,111,114,108,100],[97,110,121],[117,110,105,113,117,101]]
def sK (t:KT):Int:=if isT t [114,101,112]=true then 1 else if isT t [112,101,101,114]=true then 2 else if isT t [119,111,114,108,100]=true then 4 else if isT t [97,110,121]=true then 5 else if isT t [117,110,105,113,117,101]=true then 6 else 0
theorem UO {k:az} {t:KT} (hI:∀ s,dJ k s=some (isT t s)) {j:Nat} (hj:j < 6) (n:Nat):ku k (n+1) (j:Int)=if isT t owW[j]=true/\owW[j]≠[] then some (.stop ⟨((j+1:Nat):Int),0⟩) else ku k n ((j+1:Nat):Int):=by
 rw[ku,if_pos (by simp;omega),show ([[114,101,112],[112,101,101,114],[],[119,111,114,108,100],[97,110,121],[117,110,105,113,117,101]]:List (List UInt8))=owW from rfl,dQ (show j < owW.length from hj)]
 simp only[obs,hI]
 rw[wN (by omega)]
 by_cases h1:isT t owW[j]=true
 ·rw[if_pos h1,obs]
  by_cases h2:owW[j]=[]
  ·rw[if_neg (by simp[h2]),if_neg (by simp[h2])]
  ·rw[if_pos (by simpa using h2),if_pos ⟨h1,h2⟩]
 ·rw[if_neg h1,obs,if_neg (by decide),if_neg (fun h=>h1 h.1)]
theorem DP {k t} (h1:k.aa=t.1) (h2:k.bz=t.2):iv k=some ⟨sK t,0⟩:=by
 have hI:=oo h1 h2
 have w:=fun j (hj:j < 6) n=>UO hI hj n
 unfold iv sK
 rw[show ((([[114,101,112],[112,101,101,114],[],[119,111,114,108,100],[97,110,121],[117,110,105,113,117,101]].length:Int):Int) - (0)).toNat+1=7 from rfl,show (0:Int)=((0:Nat):Int) from rfl,w 0 (by omega),w 1 (by omega),w 2 (by omega),w 3 (by omega),w 4 (by omega),w 5 (by omega),
  show ku k 1 ((5+1:Nat):Int)=some (.next ()) from by rw[ku,if_neg (by simp)]]
 simp only[show owW[0]=[114,101,112] from rfl,show owW[1]=[112,101,101,114] from rfl,show owW[2]=[] from rfl,show owW[3]=[119,111,114,108,100] from rfl,show owW[4]=[97,110,121] from rfl,show owW[5]=[117,110,105,113,117,101] from rfl]
 cases isT t [114,101,112]<;>cases isT t [112,101,101,114]<;>cases isT t [119,111,114,108,100]<;>cases isT t [97,110,121]<;>cases isT t [117,110,105,113,117,101]<;>simp[Ctl.elim,obs]
theorem Xj {s ps} (hl:ps.length<=1000) {j} (hj:j < ps.length) (hs:ps[j]=s) (hu:∀ i (hi:i < j),ps[i]≠s):∀ (n k:Nat),ps.length+1<=n+k->k<=j->lU s ps n (k:Int)=some (.stop ((j+1:Nat):Int))
 | 0,k,h,hk=>by omega
 | n+1,k,h,hk=>by
  have hlt:k < ps.length:=by omega
  rw[lU,if_pos (by simpa using hlt),dQ hlt,obs,wN (by omega)]
  by_cases he:k=j
  ·subst he
   rw[if_pos (by simp[hs])]
  ·rw[if_neg (by simp;exact hu k (by omega)),Xj hl hj hs hu n (k+1) (by omega) (by omega)]
theorem UC {ps} (hp:PN ps) {k j} (hj:j < ps.length) (hk:k.bz=ps[j]):jG k ps=some ⟨3,((j+1:Nat):Int)⟩:=by
 have hn:=hp.n
 have hf:=Xj (s:=ps[j]) (ps:=ps) (by omega) hj rfl (fun i hi=>List.pairwise_iff_getElem.1 hp.u i j (by omega) hj hi) (ps.length+1) 0 (by omega) (by omega)
 unfold jG uv
 rw[hk,kF,show (0:Int)=((0:Nat):Int) from rfl,hf,obs,Nu,obs,if_neg (by simp;omega)]
theorem SQ {ps} (hp:PN ps) {o} (h:OW ps o) {k} (h1:k.aa=(oK ps o).1) (h2:k.bz=(oK ps o).2):(o.aa=3/\k.aa=1/\iv k=some ⟨0,0⟩/\jG k ps=some o)\/(o.aa≠3/\k.aa=3/\iv k=some o/\o.aa≠0):=by
 have hw:=DP h1 h2
 unfold oK at h1 h2 hw
 by_cases h3:o.aa=3
 ·obtain⟨j,hj,hn,ht⟩:=ady h h3
  rw[if_pos h3] at h1 hw
  refine .inl ⟨h3,h1,by rw[hw];rfl,?_⟩
  rw[UC hp hj (h2.trans ht),<- hn,<- h3]
 ·obtain⟨ht,hn,k⟩:=Uv h h3
  rw[if_neg h3] at h1 hw
  refine .inr ⟨h3,h1,?_,by omega⟩
  rw[hw,ht]
  cases o with
  | mk a b=>simp only at hn k;subst hn;rcases k with k | k | k | k | k<;>(subst k;rfl)
theorem Uk (x y:List KT) (r:List (List KT)):cmP (x::y :: r)=x++(4,[44])::(0,[32])::cmP (y::r):=by
 rw[cmP,cmP,map_cons,flatten_cons];rfl
theorem xy (x y:List KT) (r:List (List KT)):tks (cmP (x::y :: r))=tks x++(4,[44])::tks (cmP (y::r)):=by
 rw[Uk,eC,cn (by decide),dw]
theorem xg (x:List KT):tks (cmP [x])=tks x:=by rw[cmP,map_nil,flatten_nil,append_nil]
theorem Qt (ps:List (List UInt8)) (o:aF):tks [oK ps o]=[oK ps o]:=by
 unfold oK
 by_cases h:o.aa=3
 ·rw[if_pos h,cn (by decide),Lf]
 ·rw[if_neg h,cn (by decide),Lf]
def otk (ps:List (List UInt8)) (os:List aF):List KT:=tks (cmP (os.map fun o=>[oK ps o]))
theorem Nv {ps} (hp:PN ps) {l} (hll:l.length<=20000):∀ (os:List aF) (o:aF) (out:List aF) (i n:Nat) (r:List KT),out.length+os.length+1<=3->(∀ x∈o::os,OW ps x/\x.aa≠6)->At l (i+1) (otk ps (o::os)++(4,[62])::r)->os.length+1<=n->
  kc l ps n (i:Int) out=some (.stop { fL:=out++o::os,fT:=cA,fV:=nF,aq:=((i+1 + (otk ps (o::os)).length+1:Nat):Int),fF:=aK })
 | os,o,out,i,0,r,_,_,_,hn=>absurd hn (by omega)
 | os,o,out,i,n+1,r,hl,hw,hat,hn=>by
  have ho:=hw o (by simp)
  have hrest:∃ u v,otk ps (o::os)++(4,[62])::r=oK ps o::u :: v/\(os=[]->u=(4,[62]))/\(∀ o2 r2,os=o2::r2->u=(4,[44])/\v=otk ps (o2::r2)++(4,[62])::r)/\(otk ps (o::os)).length=if os=[] then 1 else 2+(otk ps os).length:=by
   cases os with
   | nil=>
    have:otk ps [o]=[oK ps o]:=by unfold otk;rw[map_cons,map_nil,xg,Qt]
    rw[this]
    exact⟨_,_,rfl,(fun _=>rfl),(fun _ _ h=>by cases h),rfl⟩
   | cons o2 r2=>
    have:otk ps (o::o2::r2)=oK ps o::(4,[44])::otk ps (o2::r2):=by unfold otk;rw[map_cons,map_cons,xy,Qt];rfl
    rw[this]
    exact⟨_,_,rfl,(fun h=>by cases h),(fun _ _ h=>by injection h with h1 h2;subst h1;subst h2;exact⟨rfl,rfl⟩),by rw[if_neg (by simp)];simp;omega⟩
  obtain⟨u,v,he,hnil,hcons,hlen⟩:=hrest
  rw[he] at hat
  obtain⟨k,h1,h2,h3,hlt⟩:=kS hat
  have hat2:=cI hat
  obtain⟨q,g1,g2,g3,hlt2⟩:=kS hat2
  have hI:=oo g2 g3
  have hk:=SQ hp ho.1 h2 h3
  rw[kc,wN (by omega),h1,obs,wN (by omega)]
  have hread:∀ (F:aF->Option (Ctl ce Unit)),((iv k).bind fun y0=>Ctl.go (if(k.aa==1)=true then eZ (jG k ps) fun(y1:aF)=>if(y1.aa==0)=true then eZ (gD 4 l ((i+1:Nat):Int)) fun(y2:ce)=> .stop (some (.stop y2)) else .next y1 else .next y0:Ctl (Option (Ctl ce Unit)) aF) F)=F o:=fun F=>by
   rcases hk with⟨k3,k1,kw,kn⟩ | ⟨k3,k1,kw,k0⟩
   ·rw[kw,obs,if_pos (by simpa using k1),kn]
    simp only[eZ]
    rw[if_neg (by simp;omega)];rfl
   ·rw[kw,obs,if_neg (by simp;omega)];rfl
  rw[hread]
  have ho0:o.aa≠0:=by rcases hk with⟨k3,-⟩ | ⟨-,-,-,k0⟩<;>omega
  rw[if_neg (by simpa using ho0),obs,if_neg (by simpa using ho.2),if_neg (by simp;omega),ed (by simp only[length_cons,length_nil];omega),obs,g1,obs,hI,obs]
  cases os with
  | nil=>
   rw[hnil rfl,if_pos (by decide),wN (by omega),hlen,if_pos rfl]
  | cons o2 r2=>
   obtain⟨hu,hv⟩:=hcons o2 r2 rfl
   subst hu hv
   rw[if_neg (by decide),obs,hI,obs,if_neg (by decide),Nv hp hll r2 o2 (out++[o]) (i+1 + 1) n r (by rw[length_append,length_cons,length_nil];simp only[length_cons] at hl;omega) (fun x hx=>hw x (by simp[hx])) (cI hat2) (by simp only[length_cons] at hn;omega),hlen,if_neg (by simp),append_assoc]
   simp only[cons_append,nil_append]
   congr 4
   omega
theorem yr {ps} (hp:PN ps) {l} (hll:l.length<=20000) {o os i r} (hl:os.length+1<=3) (hw:∀ x∈o::os,OW ps x/\x.aa≠6) (hat:At l i ((4,[60])::(otk ps (o::os)++(4,[62])::r))):
  lm l (i:Int) ps=some { fL:=o::os,fT:=cA,fV:=nF,aq:=((i+1 + (otk ps (o::os)).length+1:Nat):Int),fF:=aK }:=by
 obtain⟨k,h1,h2,h3,hlt⟩:=kS hat
 unfold lm
 rw[h1,obs,oo h2 h3,obs,if_neg (by decide),Nv hp hll os o [] i (l.length+64) r (by simp only[length_nil];omega) hw (cI hat) (by omega),obs]
 rfl
def tyP (ps:List (List UInt8)) (t:cd):List KT:=if t.aa=0 then [(3,[118,111,105,100])] else if t.aa=1 then [(3,[105,110,116])] else
 (if t.ae.a0.aa=7 then [] else [oK ps t.ae.a0,(0,[32])])++(1,t.aM)::(if(own t).drop 1=[] then [] else(4,[60])::(cmP (((own t).drop 1).map fun o=>[oK ps o])++[(4,[62])]))
def WT (ps:List (List UInt8)) (t:cd):Prop:=wrS t (ps.length:Int)=true
theorem VR {ps t} (h:WT ps t) (h0:t.aa≠0) (h1:t.aa≠1):t.aa=2/\db t.aM=true/\(0<=t.fN/\t.fN<=3)/\(t.ae.a0=⟨7,0⟩\/OW ps t.ae.a0)/\(∀ o∈(own t).drop 1,OW ps o/\o.aa≠6)/\∀ o∈t.ae.l.drop (own t).length,o=⟨0,0⟩:=by
 unfold WT wrS at h
 simp only[Bool.and_eq_true,Bool.or_eq_true,decide_eq_true_eq,Bool.not_eq_true',decide_eq_false_iff_not,all_eq_true] at h
 obtain⟨hk,hh,h7⟩:=h
 obtain⟨h2,hn,hN0,hN3,ho,h6,hz⟩:=Kv hk h0 h1
 have hown:t.ae.a0∈own t:=by
  unfold own
  rw[if_pos h2]
  cases t.ae with
  | mk a b c d=>show a∈take (xx t.fN+1) [a,b,c,d];rw[take_succ_cons];simp
 refine⟨h2,hn,⟨hN0,hN3⟩,?_,fun o hd=>⟨⟨ho o (mem_of_mem_drop hd),?_⟩,h6 o hd⟩,hz⟩
 ·by_cases q:t.ae.a0.aa=7
  ·left
   have:=h7.resolve_left (by omega)
   cases hq:t.ae.a0 with
   | mk a b=>rw[hq] at q this;simp only at q this;rw[q,this]
  ·exact .inr ⟨ho _ hown,q⟩
 ·refine hh o ?_
  have:(own t).drop 1=(t.ae.l.drop 1).take (xx t.fN):=by unfold own;rw[if_pos h2,drop_take];congr 1
  rw[this] at hd
  exact mem_of_mem_take hd
theorem KI {ps t} (h:WT ps t):tx (tyP ps t)=vh t ps:=by
 have hk:qX t (ps.length:Int)=true:=by
  unfold WT wrS at h
  rw[Bool.and_eq_true] at h
  exact h.1
 have htl:∀ os:List aF,tx (if os=[] then [] else(4,[60])::(cmP (os.map fun o=>[oK ps o])++[(4,[62])]))=yT (os.map (gL · ps)):=fun os=>by
  cases os with
  | nil=>rfl
  | cons o os=>
   have e:∀ q:List aF,(q.map fun o=>[oK ps o]).map tx=q.map (gL · ps):=fun q=>by rw[map_map];exact map_congr_left fun o _=>by simp[dT,kR,oK]
   rw[if_neg (by simp),dT,mw,KQ,e,map_cons,yT,cm]
   simp[dT,kR]
 unfold tyP vh
 rw[if_pos hk]
 by_cases h0:t.aa=0
 ·rw[if_pos h0,if_pos h0];rfl
 by_cases h1:t.aa=1
 ·rw[if_neg h0,if_pos h1,if_neg h0,if_pos h1];rfl
 rw[if_neg h0,if_neg h1,if_neg h0,if_neg h1,mw,dT,htl]
 by_cases h7:t.ae.a0.aa=7
 ·rw[if_pos h7,if_pos h7];rfl
 ·rw[if_neg h7,if_neg h7];simp[dT,kR,oK]
theorem Ke {ps} (hp:PN ps) {t} (h:WT ps t):ok (tyP ps t)=true:=by
 unfold tyP
 by_cases h0:t.aa=0
 ·rw[if_pos h0];decide
 by_cases h1:t.aa=1
 ·rw[if_neg h0,if_pos h1];decide
 rw[if_neg h0,if_neg h1]
 obtain⟨-,hn,-,ho,hw,-⟩:=VR h h0 h1
 have htl:ok ((1,t.aM)::(if(own t).drop 1=[] then [] else(4,[60])::(cmP (((own t).drop 1).map fun o=>[oK ps o])++[(4,[62])])))=true:=by
  by_cases hd:(own t).drop 1=[]
  ·rw[if_pos hd];exact sb hn
  ·rw[if_neg hd]
   exact fx (sb hn) (by decide) (fx (Ku fun x hx=>by
    obtain⟨o,hoo,rfl⟩:=List.mem_map.1 hx
    exact VT hp (hw o hoo).1) (by decide) rfl)
 by_cases h7:t.ae.a0.aa=7
 ·rw[if_pos h7];exact htl
 ·rw[if_neg h7]
  exact fx (a:=[oK ps t.ae.a0]) (VT hp (ho.resolve_left fun e=>h7 (by rw[e]))) (by decide) htl
theorem aaq {t u} (h:lM t u=true):t=u:=by
 obtain⟨a,b,c,⟨⟨d0,d1⟩,⟨e0,e1⟩,⟨f0,f1⟩,⟨g0,g1⟩⟩⟩:=t
 obtain⟨a',b',c',⟨⟨d0',d1'⟩,⟨e0',e1'⟩,⟨f0',f1'⟩,⟨g0',g1'⟩⟩⟩:=u
 simp[lM] at h
 obtain⟨rfl,rfl,rfl,rfl,rfl,rfl,rfl,rfl,rfl,rfl,rfl⟩:=h
 rfl
theorem aaK {ps t} (h:WT ps t) (h1:t.aa=0\/t.aa=1):t=B8 t:=by
 unfold WT wrS qX at h
 rw[Bool.and_eq_true,if_pos h1] at h
 exact aaq h.1
def tyK (ps:List (List UInt8)) (t:cd):List KT:=tks (tyP ps t)
def tlK (ps:List (List UInt8)) (os:List aF):List KT:=match os with
 | []=>[]
 | o::os=>(4,[60])::(otk ps (o::os)++[(4,[62])])
theorem Se {ps t} (h0:t.aa≠0) (h1:t.aa≠1):tyK ps t=(if t.ae.a0.aa=7 then [] else [oK ps t.ae.a0])++(1,t.aM)::tlK ps ((own t).drop 1):=by
 have htl:∀ os:List aF,tks (if os=[] then [] else(4,[60])::(cmP (os.map fun o=>[oK ps o])++[(4,[62])]))=tlK ps os:=fun os=>by
  cases os with
  | nil=>rfl
  | cons o os=>rw[if_neg (by simp),cn (by decide),eC];rfl
 unfold tyK tyP
 rw[if_neg h0,if_neg h1,eC,cn (by decide),htl]
 by_cases h7:t.ae.a0.aa=7
 ·rw[if_pos h7,if_pos h7];rfl
 ·rw[if_neg h7,if_neg h7,show [oK ps t.ae.a0,(0,[32])]=[oK ps t.ae.a0]++[(0,[32])] from rfl,eC,Qt];rfl
def Fol (f:Bool) (u v:KT):Prop:=isT u [60]=false/\(u.1=1->f=true/\v.1≠1/\isT v [60]=false/\isT v [116,104,105,115]=false/\isT v [110,117,108,108]=false)/\(f=true->u.1=1\/isT u [116,104,105,115]=true\/isT u [110,117,108,108]=true)
theorem Po {l i b c r} (hi:i<=20000) (h:At l (i+1) (b::c :: r)) (f:Bool):li l (i:Int) f=some (b.1==1&&(!f||(c.1==1||(isT c [60]||(isT c [116,104,105,115]||isT c [110,117,108,108]))))):=by
 obtain⟨k,h1,h2,h3,-⟩:=kS h
 obtain⟨q,g1,g2,g3,-⟩:=kS (cI h)
 have hI:=oo g2 g3
 unfold li
 rw[wN (by omega),h1,obs,show ah ((i:Int)+2)=((i+1 + 1:Nat):Int) by rw[w64 (by omega) (by omega)];omega,g1,obs,h2,g2]
 simp only[hI,obs]
 cases (b.1==1)<;>cases f<;>cases (c.1==1)<;>cases isT c [60]<;>cases isT c [116,104,105,115]<;>cases isT c [110,117,108,108]<;>rfl
theorem noT {s} (u:List UInt8):isT (1,s) u=false:=rfl
theorem abX {ps o} (h:OW ps o):isT (oK ps o) [118,111,105,100]=false/\isT (oK ps o) [105,110,116]=false:=by
 unfold oK
 by_cases h3:o.aa=3
 ·rw[if_pos h3];exact⟨rfl,rfl⟩
 ·obtain⟨ht,-,k⟩:=Uv h h3
  rw[if_neg h3,ht]
  rcases k with k | k | k | k | k<;>(rw[k];decide)
theorem NK {ps} (hp:PN ps) {t} (h:WT ps t) {l} (hll:l.length<=20000) {i u v r f} (hat:At l i (tyK ps t++u::v :: r)) (hf:t.aa=2->Fol f u v):
  jM l (i:Int) ps f=some { fL:=[],fT:=t,fV:=nF,aq:=((i+(tyK ps t).length:Nat):Int),fF:=aK }:=by
 by_cases h0:t.aa=0
 ·have he:=aaK h (.inl h0)
  have ht:tyK ps t=[(3,[118,111,105,100])]:=by unfold tyK tyP;rw[if_pos h0];rfl
  rw[ht] at hat ⊢
  obtain⟨k,h1,h2,h3,hlt⟩:=kS hat
  unfold jM
  rw[h1,obs,oo h2 h3,obs,if_pos (by decide),wN (by omega),he,B8,h0];rfl
 by_cases h1':t.aa=1
 ·have he:=aaK h (.inr h1')
  have ht:tyK ps t=[(3,[105,110,116])]:=by unfold tyK tyP;rw[if_neg h0,if_pos h1'];rfl
  rw[ht] at hat ⊢
  obtain⟨k,h1,h2,h3,hlt⟩:=kS hat
  unfold jM
  rw[h1,obs,oo h2 h3,obs,if_neg (by decide),oo h2 h3,obs,if_pos (by decide),wN (by omega),he,B8,h1'];rfl
 obtain⟨k2,hn,hN,ho,hw,hz⟩:=VR h h0 h1'
 obtain⟨f1,f2,f3⟩:=hf k2
 have ht:=Se (ps:=ps) h0 h1'
 -- where the class's name stands
 have hcls:∃ j:Nat,At l j ((1,t.aM)::(tlK ps ((own t).drop 1)++u::v :: r))/\j+1 + (tlK ps ((own t).drop 1)).length=i+(tyK ps t).length/\(t.ae.a0.aa=7->j=i)/\(t.ae.a0.aa≠7->j=i+1/\At l i (oK ps t.ae.a0::(1,t.aM)::(tlK ps ((own t).drop 1)++u::v :: r))):=by
  by_cases h7:t.ae.a0.aa=7
  ·rw[if_pos h7,nil_append] at ht
   rw[ht] at hat ⊢
   exact⟨i,hat,by simp only[length_cons];omega,fun _=>rfl,fun e=>absurd h7 e⟩
  ·rw[if_neg h7,cons_append,nil_append] at ht
   rw[ht] at hat ⊢
   exact⟨i+1,cI hat,by simp only[length_cons];omega,fun e=>absurd e h7,fun _=>⟨rfl,hat⟩⟩
 obtain⟨j,hj,hlen,hj7,hjo⟩:=hcls
 -- what stands behind the class's name
 have hb:∃ b c r',tlK ps ((own t).drop 1)++u::v :: r=b::c :: r'/\((own t).drop 1=[]->b=u/\c=v)/\((own t).drop 1≠[]->b=(4,[60])):=by
  cases hd:(own t).drop 1 with
  | nil=>exact⟨u,v,r,rfl,fun _=>⟨rfl,rfl⟩,fun e=>absurd rfl e⟩
  | cons o os=>
   have:∃ c r',otk ps (o::os)++[(4,[62])]++u::v :: r=c::r':=by
    cases otk ps (o::os) with
    | nil=>exact⟨_,_,rfl⟩
    | cons c q=>exact⟨_,_,rfl⟩
   obtain⟨c,r',e⟩:=this
   exact⟨(4,[60]),c,r',by rw[tlK,cons_append,e],fun e=>absurd e (by simp),fun _=>rfl⟩
 obtain⟨b,c,r',hbe,hb1,hb2⟩:=hb
 have hT0:∀ o0:aF,o0=t.ae.a0->(⟨2,[],0,⟨o0,av,av,av⟩⟩:cd)={ aa:=2,aM:=[],fN:=0,ae:=⟨t.ae.a0,av,av,av⟩ }:=fun o0 e=>by rw[e]
 have hstart:i < l.length:=by
  obtain⟨-,-,-,-,q⟩:=kS hj
  by_cases h7:t.ae.a0.aa=7
  ·rw[hj7 h7] at q;exact q
  ·have:=(hjo h7).1;omega
 unfold jM
 have hrest:∃ y3,dl l (i:Int)=some y3/\dJ y3 [118,111,105,100]=some false/\dJ y3 [105,110,116]=some false/\
   ((t.ae.a0.aa≠7/\t.ae.a0.aa≠3/\iv y3=some t.ae.a0/\t.ae.a0.aa≠0)\/(t.ae.a0.aa=3/\iv y3=some ⟨0,0⟩/\y3.aa=1/\li l (i:Int) f=some true/\jG y3 ps=some t.ae.a0)\/(t.ae.a0=⟨7,0⟩/\iv y3=some ⟨0,0⟩/\y3.aa=1/\li l (i:Int) f=some false)):=by
  by_cases h7:t.ae.a0.aa=7
  ·have e7:t.ae.a0=⟨7,0⟩:=ho.resolve_right fun e=>e.2 h7
   have hji:=hj7 h7
   rw[hji] at hj
   obtain⟨k,h1,h2,h3,hlt⟩:=kS hj
   have hI:=oo h2 h3
   rw[hbe] at hj
   refine⟨k,h1,by rw[hI,noT],by rw[hI,noT],.inr (.inr ⟨e7,by rw[DP h2 h3];rfl,h2,?_⟩)⟩
   rw[Po (by omega) (cI hj)]
   by_cases hd:(own t).drop 1=[]
   ·obtain⟨rfl,rfl⟩:=hb1 hd
    by_cases hu:b.1=1
    ·obtain⟨rfl,g1,g2,g3,g4⟩:=f2 hu
     rw[g2,g3,g4];simp[g1]
    ·simp[hu]
   ·rw[hb2 hd];rfl
  ·have how:=ho.resolve_left fun e=>h7 (by rw[e])
   obtain⟨rfl,hi⟩:=hjo h7
   obtain⟨k,h1,h2,h3,hlt⟩:=kS hi
   have hI:=oo h2 h3
   have hnot:=abX how
   refine⟨k,h1,by rw[hI,hnot.1],by rw[hI,hnot.2],?_⟩
   rcases SQ hp how h2 h3 with⟨k3,k1,kw,kn⟩ | ⟨k3,k1,kw,k0⟩
   ·refine .inr (.inl ⟨k3,kw,k1,?_,kn⟩)
    rw[hbe] at hi
    have hi2:=cI hi
    rw[Po (b:=(1,t.aM)) (c:=b) (by omega) hi2]
    by_cases hd:(own t).drop 1=[]
    ·obtain⟨rfl,rfl⟩:=hb1 hd
     cases f with
     | false=>rfl
     | true=>rcases f3 rfl with g | g | g<;>simp[g]
    ·rw[hb2 hd];cases f<;>rfl
   ·exact .inl ⟨h7,k3,kw,k0⟩
 obtain⟨y3,e1,e2,e3,e4⟩:=hrest
 rw[e1,obs,e2,obs,if_neg (by decide),e3,obs,if_neg (by decide)]
 refine(congrArg (fun c=>Ctl.go c _) (a₂:= .next ((j:Int),(⟨2,[],0,⟨t.ae.a0,av,av,av⟩⟩:cd))) ?_).trans ?_
 ·rcases e4 with⟨q7,q3,qw,q0⟩ | ⟨q3,qw,q1,qa,qn⟩ | ⟨q7,qw,q1,qa⟩
  ·rw[qw]
   simp only[eZ]
   rw[if_pos (by simpa using q0),(hjo q7).1,wN (by omega)]
  ·rw[qw]
   simp only[eZ]
   rw[if_neg (by decide),if_pos (by simpa using q1),qa,obs]
   simp only[eZ]
   rw[if_pos trivial,qn]
   simp only
   rw[if_neg (by simp[q3]),(hjo (by omega)).1,wN (by omega)]
  ·rw[qw]
   simp only[eZ]
   rw[if_neg (by decide),if_pos (by simpa using q1),qa,obs]
   simp only[eZ]
   rw[if_neg (by decide),hj7 (by rw[q7]),q7]
 ·obtain⟨k,h1,h2,h3,hlt⟩:=kS hj
  have hj2:=cI hj
  have hj3:=hj2
  rw[hbe] at hj3
  obtain⟨q,g1,g2,g3,-⟩:=kS hj3
  simp only[Ctl.go]
  rw[h1,obs,if_neg (by rw[h2];show ¬ ((1:Int) != 1)=true;decide),wN (by omega),g1,obs,oo g2 g3,obs]
  obtain⟨kd,cl,N,⟨o0,o1,o2,o3⟩⟩:=t
  simp only at k2 hn hN hlen h3 hw hz
  subst k2
  have hN4:N=0\/N=1\/N=2\/N=3:=by omega
  rcases hN4 with rfl | rfl | rfl | rfl
  ·have hown:own { aa:=2,aM:=cl,fN:=0,ae:=⟨o0,o1,o2,o3⟩ }=[o0]:=rfl
   rw[hown] at hlen hz hb1
   have z1:=hz o1 (by show o1∈[o1,o2,o3];simp)
   have z2:=hz o2 (by show o2∈[o1,o2,o3];simp)
   have z3:=hz o3 (by show o3∈[o1,o2,o3];simp)
   subst z1 z2 z3
   rw[(hb1 rfl).1,f1,if_pos (by decide),h3,<- hlen];rfl
  ·have hown:own { aa:=2,aM:=cl,fN:=1,ae:=⟨o0,o1,o2,o3⟩ }=[o0,o1]:=rfl
   rw[hown] at hlen hz hb2 hw hj2
   have z2:=hz o2 (by show o2∈[o2,o3];simp)
   have z3:=hz o3 (by show o3∈[o2,o3];simp)
   subst z2 z3
   have hO:=yr hp hll (o:=o1) (os:=[]) (i:=j+1) (r:=u::v :: r) (by simp) hw (by simpa [tlK] using hj2)
   rw[hb2 (by simp),if_neg (by decide),hO,obs]
   simp only
   rw[if_neg (by decide),h3,<- hlen,show j+1 + 1+(otk ps [o1]).length+1=j+1 + (tlK ps (List.drop 1 [o0,o1])).length by simp[tlK];omega]
   rfl
  ·have hown:own { aa:=2,aM:=cl,fN:=2,ae:=⟨o0,o1,o2,o3⟩ }=[o0,o1,o2]:=rfl
   rw[hown] at hlen hz hb2 hw hj2
   have z3:=hz o3 (by show o3∈[o3];simp)
   subst z3
   have hO:=yr hp hll (o:=o1) (os:=[o2]) (i:=j+1) (r:=u::v :: r) (by simp) hw (by simpa [tlK] using hj2)
   rw[hb2 (by simp),if_neg (by decide),hO,obs]
   simp only
   rw[if_neg (by decide),h3,<- hlen,show j+1 + 1+(otk ps [o1,o2]).length+1=j+1 + (tlK ps (List.drop 1 [o0,o1,o2])).length by simp[tlK];omega]
   rfl
  ·have hown:own { aa:=2,aM:=cl,fN:=3,ae:=⟨o0,o1,o2,o3⟩ }=[o0,o1,o2,o3]:=rfl
   rw[hown] at hlen hz hb2 hw hj2
   have hO:=yr hp hll (o:=o1) (os:=[o2,o3]) (i:=j+1) (r:=u::v :: r) (by simp) hw (by simpa [tlK] using hj2)
   rw[hb2 (by simp),if_neg (by decide),hO,obs]
   simp only
   rw[if_neg (by decide),h3,<- hlen,show j+1 + 1+(otk ps [o1,o2,o3]).length+1=j+1 + (tlK ps (List.drop 1 [o0,o1,o2,o3])).length by simp[tlK];omega]
   rfl
def yP (y:List UInt8):KT:=if y=[116,104,105,115] then(3,y) else(1,y)
end Go.Proofs.YtjimbkljclfflaaGreatDoor
