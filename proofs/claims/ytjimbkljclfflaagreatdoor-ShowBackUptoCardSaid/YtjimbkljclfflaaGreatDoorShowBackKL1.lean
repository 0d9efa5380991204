/- A part of the proof that the law ShowBack gives true for every input. -/
import Derived.Test.YtjimbkljclfflaaGreatDoorShowBackA2
import Derived.Test.YtjimbkljclfflaaGreatDoorShowBackA3
import Derived.Test.YtjimbkljclfflaaGreatDoorShowBackT
import Derived.Test.YtjimbkljclfflaaGreatDoorShowBackA5
import Derived.Test.YtjimbkljclfflaaGreatDoorShowBackA4
import Derived.Test.YtjimbkljclfflaaGreatDoorShowBackD
/- The plain law. -/
namespace Go.Proofs.YtjimbkljclfflaaGreatDoor
open List
open Go.RowKit Go.Abs
def Tot {α:Type} (o:Option α):Prop:=∃ r,o=some r
theorem db {α:Type} (x:α):Tot (some x):=⟨x,rfl⟩
theorem gu {α β:Type} {a:Option α} {f:α->Option β} (h:Tot a) (h2:∀ x,a=some x->Tot (f x)):Tot (Option.bind a f):=by
 obtain⟨x,rfl⟩:=h
 exact h2 x rfl
theorem mC {α:Type} {b:Bool} {x y:Option α} (h1:b=true->Tot x) (h2:b=false->Tot y):Tot (if b=true then x else y):=by
 cases b with
 | true=>exact h1 rfl
 | false=>exact h2 rfl
theorem Cc {R S α:Type} {r:Ctl R S} {f:R->Option α} {g:S->Option α} (h1:∀ v,Tot (f v)) (h2:∀ s,Tot (g s)):Tot (Ctl.elim r f g):=by
 cases r with
 | stop v=>exact h1 v
 | next s=>exact h2 s
theorem wJ {ρ:Type} (F:Nat->Int->Option ρ) (len:Nat) (h1:∀ (n k:Nat),k < len->Tot (F n ((k+1:Nat):Int))->Tot (F (n+1) (k:Int))) (h2:∀ (n k:Nat),¬ k < len->Tot (F (n+1) (k:Int))):
  ∀ (n k:Nat),n+k=len+1->k<=len->Tot (F n (k:Int))
 | 0,k,h,hk=>by omega
 | n+1,k,h,hk=>by
  by_cases hlt:k < len
  ·exact h1 n k hlt (wJ F len h1 h2 n (k+1) (by omega) (by omega))
  ·exact h2 n k hlt
theorem wC {σ ρ:Type} (F:Nat->σ -> Int->Option ρ) (len:Nat) (h1:∀ (n k:Nat) (s:σ),k < len->(∀ s',Tot (F n s' ((k+1:Nat):Int)))->Tot (F (n+1) s (k:Int))) (h2:∀ (n k:Nat) (s:σ),¬ k < len->Tot (F (n+1) s (k:Int))):
  ∀ (n k:Nat) (s:σ),n+k=len+1->k<=len->Tot (F n s (k:Int))
 | 0,k,s,h,hk=>by omega
 | n+1,k,s,h,hk=>by
  by_cases hlt:k < len
  ·exact h1 n k s hlt (fun s'=>wC F len h1 h2 n (k+1) s' (by omega) (by omega))
  ·exact h2 n k s hlt
theorem gq (m:Nat):(((m:Int):Int) - (0)).toNat+1=m+1:=by omega
theorem Sr {α:Type} {u:α->Nat} {l:List α} {y:α}:y∈l->u y<=cg u l:=by
 induction l with
 | nil=>intro h;simp at h
 | cons x l ih=>
  intro h
  simp only[cg]
  rcases List.mem_cons.1 h with rfl | h
  ·omega
  ·have:=ih h;omega
theorem afz (x:br):x.af.length < na x/\xM x.aQ < na x/\1+cg yR x.ac+cg yR x.bC+cg mE x.au < na x:=by unfold na;omega
theorem afp (x:be):x.af.length < mF x/\cg (fun s=>length s+1) x.ac < mF x/\x.cb.length < mF x/\cg kV x.bl < mF x/\cg yR x.bn+cg na x.ak < mF x:=by unfold mF;omega
theorem N9 : ∀ l:List ai,dL l=cg bL l
 | []=>by simp only[dL,cg]
 | x::l=>by simp only[dL,cg,N9 l]
theorem Pd : ∀ l:List ah,cC l=cg cc l
 | []=>by simp only[cC,cg]
 | x::l=>by simp only[cC,cg,Pd l]
theorem acv (e:ai):bL e=1+cg bL e.az:=by rw[<- N9];cases e;simp only[bL]
theorem acm (e:ah):cc e=1+bL e.fE+cg bL e.bN+cg cc e.au+cg cc e.aZ:=by rw[<- Pd,<- Pd,<- N9];cases e;simp only[cc]
theorem mS5 : ∀ (n:Nat) (e:ah),cc e<=n->2 * cc e<=mE e
 | 0,e,h=>by have:=acm e;omega
 | n+1,e,h=>by
  have h1:∀ l:List ah,cg cc l<=n->2 * cg cc l<=cg mE l:=by
   intro l
   induction l with
   | nil=>intro _;simp[cg]
   | cons x l ih=>
    intro h
    simp only[cg] at h ⊢
    have:=mS5 n x (by omega)
    have:=ih (by omega)
    omega
  have hE:∀ (k:Nat) (e:ai),bL e<=k->2 * bL e<=nQ e:=by
   intro k
   induction k with
   | zero=>intro e h;have:=acv e;omega
   | succ k ihk=>
    intro e h
    have hL:∀ l:List ai,cg bL l<=k->2 * cg bL l<=cg nQ l:=by
     intro l
     induction l with
     | nil=>intro _;simp[cg]
     | cons x l ih=>
      intro h
      simp only[cg] at h ⊢
      have:=ihk x (by omega)
      have:=ih (by omega)
      omega
    have h2:=acv e
    have h3:=hL e.az (by omega)
    rw[Ni,h2];omega
  have hLE:∀ l:List ai,2 * cg bL l<=cg nQ l:=by
   intro l
   induction l with
   | nil=>simp[cg]
   | cons x l ih=>simp only[cg];have:=hE _ x (Nat.le_refl _);omega
  have h2:=acm e
  have h3:=h1 e.au (by omega)
  have h4:=h1 e.aZ (by omega)
  have h5:=hE _ e.fE (Nat.le_refl _)
  have h6:=hLE e.bN
  rw[Nf,h2];omega
theorem adQ {l e}:e∈l->bL e<=dL l:=by
 induction l with
 | nil=>intro h;simp at h
 | cons x l ih=>
  intro h
  simp only[dL]
  rcases List.mem_cons.1 h with rfl | h
  ·omega
  ·have:=ih h;omega
theorem qq {l e}:e∈l->cc e<=cC l:=by
 induction l with
 | nil=>intro h;simp at h
 | cons x l ih=>
  intro h
  simp only[cC]
  rcases List.mem_cons.1 h with rfl | h
  ·omega
  ·have:=ih h;omega
theorem QJ (e:ai):bL e=1+dL e.az:=by cases e;simp only[bL]
theorem lI (e:ah):cc e=1+bL e.fE+dL e.bN+cC e.au+cC e.aZ:=by cases e;simp only[cc]
theorem aeZ {e} (h:goodGExpr e):e.az.length<=maxLen/\∀ y∈e.az,goodGExpr y:=by cases h;exact⟨by assumption,by assumption⟩
theorem acn {e} (h:goodGStmt e):goodGExpr e.fE/\kj (fun y=>goodGExpr y) e.bN/\(e.au.length<=maxLen/\∀ y∈e.au,goodGStmt y)/\(e.aZ.length<=maxLen/\∀ y∈e.aZ,goodGStmt y):=by
 cases h
 exact⟨by assumption,by assumption,⟨by assumption,by assumption⟩,⟨by assumption,by assumption⟩⟩
theorem J8 : ∀ (n:Nat) (e:ai) (d:Int),goodGExpr e->bL e < n->Tot (jZ n e d)
 | 0,e,d,_,h=>by omega
 | n+1,e,d,hg,hm=>by
  obtain⟨hl,hk⟩:=aeZ hg
  simp only[maxLen] at hl
  simp only[jZ,gq]
  refine gu (mC (fun _=>db _) (fun _=>db _)) fun x _=>mC (fun _=>db _) fun _=> ?_
  refine gu ?_ fun lr _=>Cc (fun v=>db _) (fun _=>db _)
  refine wJ (nk e d (jZ n)) e.az.length (fun m k hlt ih=> ?_) (fun m k hlt=> ?_) _ 0 (by omega) (by omega)
  ·simp only[nk]
   rw[if_pos (by simpa using hlt),cU hlt,cn hlt (by omega)]
   simp only[obs]
   have hmem:=getElem_mem hlt
   have h1:=adQ hmem
   rw[QJ] at hm
   refine gu (J8 n _ _ (hk _ hmem) (by omega)) fun y _=>mC (fun _=>db _) fun _=>ih
  ·simp only[nk]
   rw[if_neg (by simpa using hlt)]
   exact db _
theorem Jj : ∀ (n:Nat) (e:ah) (d:Int),goodGStmt e->cc e < n->Tot (jC n e d)
 | 0,e,d,_,h=>by omega
 | n+1,e,d,hg,hm=>by
  obtain⟨hE,⟨hal,ha⟩,⟨hbl,hb⟩,⟨hll,hl⟩⟩:=acn hg
  simp only[maxLen] at hal hbl hll
  rw[lI] at hm
  simp only[jC,gq]
  refine gu ?_ fun x _=>mC (fun _=>db _) fun _=> ?_
  ·exact mC (fun _=>db _) fun _=>mC (fun _=>db _) fun _=>mC (fun _=>db _) fun _=>mC (fun _=>db _) fun _=>gu (J8 _ _ _ hE (by omega)) fun _ _=>db _
  refine gu ?_ fun lr _=>Cc (fun v=>db _) fun _=>gu ?_ fun lr _=>Cc (fun v=>db _) fun _=>gu ?_ fun lr _=>Cc (fun v=>db _) fun _=>db _
  ·refine wJ (nw e) e.bN.length (fun m k hlt ih=> ?_) (fun m k hlt=> ?_) _ 0 (by omega) (by omega)
   ·simp only[nw]
    rw[if_pos (by simpa using hlt),cU hlt,cn hlt (by omega)]
    simp only[obs]
    exact gu (J8 _ _ _ (ha _ (getElem_mem hlt)) (by omega)) fun y _=>mC (fun _=>db _) fun _=>ih
   ·simp only[nw]
    rw[if_neg (by simpa using hlt)]
    exact db _
  ·refine wJ (nt e d (jC n)) e.au.length (fun m k hlt ih=> ?_) (fun m k hlt=> ?_) _ 0 (by omega) (by omega)
   ·simp only[nt]
    rw[if_pos (by simpa using hlt),cU hlt,cn hlt (by omega)]
    simp only[obs]
    have h1:=qq (getElem_mem hlt)
    exact gu (Jj n _ _ (hb _ (getElem_mem hlt)) (by omega)) fun y _=>mC (fun _=>db _) fun _=>ih
   ·simp only[nt]
    rw[if_neg (by simpa using hlt)]
    exact db _
  ·refine wJ (nq e d (jC n)) e.aZ.length (fun m k hlt ih=> ?_) (fun m k hlt=> ?_) _ 0 (by omega) (by omega)
   ·simp only[nq]
    rw[if_pos (by simpa using hlt),cU hlt,cn hlt (by omega)]
    simp only[obs]
    have h1:=qq (getElem_mem hlt)
    exact gu (Jj n _ _ (hl _ (getElem_mem hlt)) (by omega)) fun y _=>mC (fun _=>db _) fun _=>ih
   ·simp only[nq]
    rw[if_neg (by simpa using hlt)]
    exact db _
theorem JA : ∀ (n:Nat) (e:ah),goodGStmt e->cc e < n->Tot (fq n e)
 | 0,e,_,h=>by omega
 | n+1,e,hg,hm=>by
  obtain⟨hE,⟨hal,ha⟩,⟨hbl,hb⟩,⟨hll,hl⟩⟩:=acn hg
  simp only[maxLen] at hbl hll
  rw[lI] at hm
  simp only[fq,gq]
  refine gu ?_ fun x _=>gu ?_ fun _ _=>db _
  ·refine wC (jO e (fq n)) e.au.length (fun m k s hlt ih=> ?_) (fun m k s hlt=> ?_) _ 0 _ (by omega) (by omega)
   ·simp only[jO]
    rw[if_pos (by simpa using hlt),cU hlt,cn hlt (by omega)]
    simp only[obs]
    have h1:=qq (getElem_mem hlt)
    exact gu (JA n _ (hb _ (getElem_mem hlt)) (by omega)) fun y _=>ih _
   ·simp only[jO]
    rw[if_neg (by simpa using hlt)]
    exact db _
  ·refine wC (jT e (fq n)) e.aZ.length (fun m k s hlt ih=> ?_) (fun m k s hlt=> ?_) _ 0 _ (by omega) (by omega)
   ·simp only[jT]
    rw[if_pos (by simpa using hlt),cU hlt,cn hlt (by omega)]
    simp only[obs]
    have h1:=qq (getElem_mem hlt)
    exact gu (JA n _ (hl _ (getElem_mem hlt)) (by omega)) fun y _=>ih _
   ·simp only[jT]
    rw[if_neg (by simpa using hlt)]
    exact db _
theorem RJ {m} (h:tv m):Tot (pK m):=by
 have hp:m.ac.length<=maxLen:=h.2.2.2.1.1
 have hl:m.bC.length<=maxLen:=h.2.2.2.2.1.1
 simp only[maxLen] at hp hl
 simp only[pK,gq]
 refine gu ?_ fun x _=>gu ?_ fun _ _=>db _
 ·refine wC (jY m) m.ac.length (fun n k s hlt ih=> ?_) (fun n k s hlt=> ?_) _ 0 _ (by omega) (by omega)
  ·simp only[jY]
   rw[if_pos (by simpa using hlt),cU hlt,cn hlt (by omega)]
   simp only[obs]
   exact gu (mC (fun _=>db _) fun _=>db _) fun y _=>ih _
  ·simp only[jY]
   rw[if_neg (by simpa using hlt)]
   exact db _
 ·refine wC (jX m) m.bC.length (fun n k s hlt ih=> ?_) (fun n k s hlt=> ?_) _ 0 _ (by omega) (by omega)
  ·simp only[jX]
   rw[if_pos (by simpa using hlt),cU hlt,cn hlt (by omega)]
   simp only[obs]
   exact gu (mC (fun _=>db _) fun _=>db _) fun y _=>ih _
  ·simp only[jX]
   rw[if_neg (by simpa using hlt)]
   exact db _
def ZR {S:Type} (o:Option (Ctl Bool S)):Prop:=o=some (.stop true)\/∃ v,o=some (.next v)
theorem DW {α S:Type} {a:Option α} {f:α->Option (Ctl Bool S)} (h:Tot a) (h2:∀ x,a=some x->ZR (f x)):ZR (Option.bind a f):=by
 obtain⟨x,rfl⟩:=h
 exact h2 x rfl
theorem ZD {S:Type} {b:Bool} {y:Option (Ctl Bool S)} (h2:b=false->ZR y):ZR (if b=true then some (.stop true) else y):=by
 cases b with
 | true=>exact .inl rfl
 | false=>exact h2 rfl
theorem Ku {m} (hg:kj (fun y=>goodGStmt y) m.au):∀ (n k:Nat) (x:Int),n+k=m.au.length+1->k<=m.au.length->ZR (oj m n x (k:Int))
 | 0,k,x,h,hk=>by omega
 | n+1,k,x,h,hk=>by
  obtain⟨hl,hb⟩:=hg
  simp only[maxLen] at hl
  simp only[oj]
  by_cases hlt:k < m.au.length
  ·have hmem:=hb _ (getElem_mem hlt)
   rw[if_pos (by simpa using hlt),cU hlt,cn hlt (by omega)]
   refine DW (mC (fun _=>db _) fun _=>gu (db _) fun y hy=> ?_) fun b _=>ZD fun _=> ?_
   ·cases hy
    exact gu (Jj _ _ _ hmem (by omega)) fun _ _=>db _
   ·refine DW (db _) fun y hy=> ?_
    cases hy
    exact DW (JA _ _ hmem (by omega)) fun z _=>Ku ⟨by simp only[maxLen];omega,hb⟩ n (k+1) _ (by omega) (by omega)
  ·rw[if_neg (by simpa using hlt)]
   exact .inr ⟨_,rfl⟩
def N3 (c:be):Prop:=c.ac.length<=20/\c.bl.length<=20/\c.bn.length<=40/\c.ak.length<=40/\∀ m∈c.ak,m.ac.length<=40/\m.bC.length<=40/\m.au.length<=500
theorem Et {c} (hg:kj (fun y=>tv y) c.ak):∀ (n k:Nat) (x:Int),n+k=c.ak.length+1->k<=c.ak.length->
  mj c n x (k:Int)=some (.stop true)\/((∃ v,mj c n x (k:Int)=some (.next v))/\∀ m∈c.ak.drop k,m.ac.length<=40/\m.bC.length<=40/\m.au.length<=500)
 | 0,k,x,h,hk=>by omega
 | n+1,k,x,h,hk=>by
  obtain⟨hl,hb⟩:=hg
  simp only[maxLen] at hl
  simp only[mj,gq]
  by_cases hlt:k < c.ak.length
  ·have hmem:=hb _ (getElem_mem hlt)
   rw[if_pos (by simpa using hlt),cU hlt,cn hlt (by omega)]
   simp only[obs]
   by_cases h1:(decide ((c.ak[k].ac.length:Int) > 40))=true
   ·rw[if_pos h1];exact .inl rfl
   rw[if_neg h1]
   by_cases h2:(decide ((c.ak[k].bC.length:Int) > 40))=true
   ·rw[if_pos h2];exact .inl rfl
   rw[if_neg h2]
   by_cases h3:(decide ((c.ak[k].au.length:Int) > 500))=true
   ·rw[if_pos h3];exact .inl rfl
   rw[if_neg h3]
   obtain⟨u,hu⟩:=RJ hmem
   rw[hu]
   simp only[obs]
   by_cases h4:(decide (u > 8))=true
   ·rw[if_pos h4];exact .inl rfl
   rw[if_neg h4]
   rcases Ku (m:=c.ak[k]) hmem.2.2.2.2.2.1 (c.ak[k].au.length+1) 0 x (by omega) (by omega) with h5 | ⟨v,h5⟩
   ·rw[show (0:Int)=((0:Nat):Int) from rfl,h5];exact .inl rfl
   ·rw[show (0:Int)=((0:Nat):Int) from rfl,h5]
    simp only[obs,Ctl.elim]
    rcases Et (c:=c) ⟨by simp only[maxLen];omega,hb⟩ n (k+1) v (by omega) (by omega) with h7 | ⟨h7,h8⟩
    ·exact .inl h7
    ·refine .inr ⟨h7,fun m hm=> ?_⟩
     rw[drop_eq_getElem_cons hlt] at hm
     rcases List.mem_cons.1 hm with rfl | hm
     ·simp at h1 h2 h3;omega
     ·exact h8 m hm
  ·rw[if_neg (by simpa using hlt),drop_eq_nil_of_le (by omega)]
   exact .inr ⟨⟨_,rfl⟩,fun c hc=>by simp at hc⟩
theorem EC {p} (hg:kj (fun y=>vk y) p):∀ (n k:Nat) (x:Int),n+k=p.length+1->k<=p.length->
  mn p n x (k:Int)=some (.stop true)\/((∃ v,mn p n x (k:Int)=some (.next v))/\∀ c∈p.drop k,p.length<=30/\N3 c)
 | 0,k,x,h,hk=>by omega
 | n+1,k,x,h,hk=>by
  obtain⟨hl,hb⟩:=hg
  simp only[maxLen] at hl
  simp only[mn,gq]
  by_cases hlt:k < p.length
  ·have hmem:=hb _ (getElem_mem hlt)
   rw[if_pos (by simpa using hlt),cU hlt,cn hlt (by omega)]
   simp only[obs]
   by_cases h1:(decide ((p.length:Int) > 30))=true
   ·rw[if_pos h1];exact .inl rfl
   rw[if_neg h1]
   by_cases h2:(decide ((p[k].ac.length:Int) > 20))=true
   ·rw[if_pos h2];exact .inl rfl
   rw[if_neg h2]
   by_cases h3:(decide ((p[k].bl.length:Int) > 20))=true
   ·rw[if_pos h3];exact .inl rfl
   rw[if_neg h3]
   by_cases h4:(decide ((p[k].bn.length:Int) > 40))=true
   ·rw[if_pos h4];exact .inl rfl
   rw[if_neg h4]
   simp only[obs]
   by_cases h5:(decide ((p[k].ak.length:Int) > 40))=true
   ·rw[if_pos h5];exact .inl rfl
   rw[if_neg h5]
   rcases Et (c:=p[k]) hmem.2.2.2.2.2.1 (p[k].ak.length+1) 0 x (by omega) (by omega) with h6 | ⟨⟨v,h6⟩,hm⟩
   ·rw[show (0:Int)=((0:Nat):Int) from rfl,h6];exact .inl rfl
   ·rw[show (0:Int)=((0:Nat):Int) from rfl,h6]
    simp only[obs,Ctl.elim]
    rcases EC (p:=p) ⟨by simp only[maxLen];omega,hb⟩ n (k+1) v (by omega) (by omega) with h7 | ⟨h7,h8⟩
    ·exact .inl h7
    ·refine .inr ⟨h7,fun c hc=> ?_⟩
     rw[drop_eq_getElem_cons hlt] at hc
     rcases List.mem_cons.1 hc with rfl | hc
     ·rw[drop_zero] at hm
      simp at h1 h2 h3 h4 h5
      exact⟨by omega,by omega,by omega,by omega,by omega,hm⟩
     ·exact h8 c hc
  ·rw[if_neg (by simpa using hlt),drop_eq_nil_of_le (by omega)]
   exact .inr ⟨⟨_,rfl⟩,fun c hc=>by simp at hc⟩
theorem WQ {p} (hg:kj (fun y=>vk y) p):∃ b,tk p=some b/\(b=false->p.length<=30/\∀ c∈p,N3 c):=by
 simp only[tk,gq]
 rcases EC hg (p.length+1) 0 0 (by omega) (by omega) with h | ⟨⟨v,h⟩,h2⟩
 ·rw[show (0:Int)=((0:Nat):Int) from rfl] at h ⊢
  rw[h];exact⟨true,rfl,fun hb=>by cases hb⟩
 ·rw[show (0:Int)=((0:Nat):Int) from rfl] at h ⊢
  rw[h]
  refine⟨_,rfl,fun _=> ?_⟩
  simp only[drop_zero] at h2
  refine⟨?_,fun c hc=>(h2 c hc).2⟩
  cases p with
  | nil=>simp
  | cons c p=>exact(h2 c (by simp)).1
theorem UN {A B} {x v:Int}:(A++x::B).set A.length v=A++v::B:=by
 rw[set_append_right _ _ (Nat.le_refl _)];simp
theorem aci : ∀ (n:Nat) (M A B:List Int),M.length < 2 * n->(A++(M++B)).length<=1000000->gH n (A++(M++B)) (A.length:Int) ((A.length:Int)+(M.length:Int) - 1)=some (A++(M.reverse++B))
 | 0,M,A,B,h,_=>by omega
 | n+1,M,A,B,h,hl=>by
  rw[gH]
  by_cases h2:2<=M.length
  ·obtain⟨x,M',y,rfl⟩:∃ x M' y,M=x::(M'++[y]):=by
    cases M with
    | nil=>simp at h2
    | cons x T=>
     have hT:T≠[]:=by intro e;subst e;simp at h2
     exact⟨x,T.dropLast,T.getLast hT,by rw[dropLast_concat_getLast]⟩
   simp only[length_append,length_cons,length_nil] at h hl
   have e0:A++(x::(M'++[y])++B)=A++x::(M'++(y::B)):=by simp
   have ej:((A.length:Int)+((x::(M'++[y])).length:Int) - 1)=((A++x::M').length:Int):=by simp;omega
   have e1:A++x::(M'++(y::B))=(A++x::M')++y::B:=by simp
   have ix:idx (A++x::(M'++(y::B))) (A.length:Int)=some x:=by rw[C6];simp
   have iy:idx (A++x::(M'++(y::B))) ((A++x::M').length:Int)=some y:=by rw[e1,C6,getElem?_append_right (Nat.le_refl _)];simp
   have s1:(A++x::(M'++(y::B))).set A.length y=A++y::(M'++(y::B)):=UN
   have i2:idx (A++y::(M'++(y::B))) ((A++x::M').length:Int)=some y:=by
    rw[show A++y::(M'++(y::B))=(A++y::M')++y::B by simp,show (A++x::M').length=(A++y::M').length by simp,C6,getElem?_append_right (Nat.le_refl _)];simp
   have s2:(A++y::(M'++(y::B))).set (A++x::M').length x=(A++[y])++(M'++(x::B)):=by
    rw[show A++y::(M'++(y::B))=(A++y::M')++y::B by simp,show (A++x::M').length=(A++y::M').length by simp,UN];simp
   rw[e0,ej,if_pos (by simp;omega),iy,obs,ix,obs,obs]
   simp only[Int.toNat_natCast]
   rw[s1,i2,obs,s2,w64 (by omega) (by omega),w64 (by simp;omega) (by simp;omega)]
   have ih:=aci n M' (A++[y]) (x::B) (by omega) (by simp;omega)
   rw[show ((A.length:Int)+1)=(((A++[y]).length:Nat):Int) by simp,show (((A++x::M').length:Nat):Int) - 1=(((A++[y]).length:Nat):Int)+(M'.length:Int) - 1 by simp;omega,ih]
   simp
  ·rw[if_neg (by simp;omega)]
   match M,h2 with
   | [],_=>rfl
   | [_],_=>rfl
   | _::_ :: _,h2=>simp at h2
theorem JP {l} (h:l.length<=100000):iU l=some l.reverse:=by
 unfold iU
 have:=aci (l.length+1) l [] [] (by omega) (by simp;omega)
 simp only[nil_append,append_nil,length_nil] at this
 rw[w64 (by omega) (by omega),show (l.length:Int) - 1=((0:Nat):Int)+(l.length:Int) - 1 by omega,show (0:Int)=((0:Nat):Int) from rfl,this,obs]
theorem ada {n:Int} (h1:0<=n) (h2:n < 18446744073709551616):lK n=n:=by
 show IntKind.u64.wrap n=n
 unfold IntKind.wrap
 simp only[IntKind.bits,IntKind.signed]
 first | omega | (simp;omega) | skip
theorem wu8 {n:Int} (h1:0<=n) (h2:n < 256):Ak n=n:=by
 show IntKind.u8.wrap n=n
 unfold IntKind.wrap
 simp only[IntKind.bits,IntKind.signed]
 first | omega | (simp;omega) | skip
def rst : Nat->Nat->List Int
 | 0,_=>[]
 | f+1,m=>if 10<=m then((48+m / 10 % 10:Nat):Int)::rst f (m / 10) else []
theorem adY (m:Nat):Int.tdiv (m:Int) 10=((m / 10:Nat):Int):=by rw[Int.tdiv_eq_ediv_of_nonneg (by omega)];omega
theorem XD (m:Nat):Int.tmod (m:Int) 10=((m % 10:Nat):Int):=by rw[Int.tmod_eq_emod_of_nonneg (by omega)];omega
theorem acs {k}:Ak (lK (48+((k % 10:Nat):Int)))=((48+k % 10:Nat):Int):=by
 have:k % 10 < 10:=Nat.mod_lt _ (by omega)
 rw[ada (by omega) (by omega),wu8 (by omega) (by omega)];omega
theorem EG (a b:List Int):qP (a++b)=qP a++qP b:=by simp[qP]
theorem QL : ∀ (f m:Nat) (acc:List Int),m < 10 ^ (f+1)->m < 18446744073709551616->acc.length+f<=1000->oM (f+1) (m:Int) acc=some (acc++rst (f+1) m)
 | f,m,acc,h,hm,ha=>by
  rw[oM]
  by_cases h0:10<=m
  ·have hd:m / 10 < 10 ^ f:=Nat.div_lt_of_lt_mul (by rw[Nat.pow_succ,Nat.mul_comm] at h;exact h)
   cases f with
   | zero=>simp at hd;omega
   | succ f=>
    rw[if_pos (by simp;omega),adY,ada (n:=((m / 10:Nat):Int)) (by omega) (by omega),XD,acs,gz (by simp;omega),obs,QL f (m / 10) _ hd (by omega) (by simp;omega)]
    rw[show rst (f+1 + 1) m=((48+m / 10 % 10:Nat):Int)::rst (f+1) (m / 10) by rw[rst,if_pos h0]]
    simp
  ·rw[if_neg (by simp;omega),rst,if_neg h0];simp
theorem OY : ∀ (f m:Nat),(rst f m).length<=f
 | 0,m=>by simp[rst]
 | f+1,m=>by
  rw[rst];split
  ·have:=OY f (m / 10);simp;omega
  ·simp
def wY (a:Int):List UInt8:=(if a < 0 then [45] else [])++(qP (rst 21 a.natAbs).reverse++qP [((48+a.natAbs % 10:Nat):Int)])
theorem Lh {a:Int} (h1: -9223372036854775808<=a) (h2:a<=9223372036854775807):qv a=some (wY a):=by
 have hu:(if(decide (a < 0))=true then some (lK (0 - (lK a))) else some (lK a):Option Int)=some (a.natAbs:Int):=by
  by_cases h0:a < 0
  ·rw[if_pos (by simpa using h0)]
   congr 1
   have:lK a=a+18446744073709551616:=by
    show IntKind.u64.wrap a=_
    unfold IntKind.wrap
    simp only[IntKind.bits,IntKind.signed]
    first | omega | (simp;omega) | skip
   rw[this]
   show IntKind.u64.wrap _=_
   unfold IntKind.wrap
   simp only[IntKind.bits,IntKind.signed]
   first | omega | (simp;omega) | skip
  ·rw[if_neg (by simpa using h0),ada (by omega) (by omega)]
   congr 1;omega
 have hm:a.natAbs<=9223372036854775808:=by omega
 have hl:=OY 21 a.natAbs
 unfold qv wY
 rw[hu,obs,XD,acs,gz (by simp),obs,QL 20 a.natAbs _ (by omega) (by omega) (by simp),obs]
 by_cases h0:a < 0
 ·rw[if_pos (by simpa using h0),gz (by simp;omega),obs,obs,JP (by simp;omega),obs,if_pos h0]
  simp[qP]
 ·rw[if_neg (by simpa using h0),obs,JP (by simp;omega),obs,if_neg h0]
  simp[qP]
theorem Ac (m:Nat):(((m:Int):Int) - (0)).toNat+1=m+1:=by omega
theorem WB (b:UInt8):jk (b.toNat:Int)=jL (b.toNat:Int):=by
 have:∀ k:Fin 256,jk (k.val:Int)=jL (k.val:Int):=by decide +kernel
 exact this ⟨b.toNat,b.toNat_lt⟩
def isD (b:UInt8):Bool:=decide (48<=b.toNat/\b.toNat<=57)
theorem wW (b:UInt8):uO (b.toNat:Int)=some (isD b)/\lg (b.toNat:Int)=some (isD b):=by
 have:∀ k:Fin 256,uO (k.val:Int)=some (decide (48<=k.val/\k.val<=57))/\lg (k.val:Int)=some (decide (48<=k.val/\k.val<=57)):=by decide +kernel
 exact this ⟨b.toNat,b.toNat_lt⟩
def BW : List UInt8->Nat->Option Nat
 | [],n=>some n
 | b::l,n=>if isD b=true then BW l (10 * n+(b.toNat - 48)) else none
def afC : Option Nat->Ctl (Int×Bool) Int
 | some n=> .next (n:Int)
 | none=> .stop (0,false)
theorem YK {s} (hs:s.length<=9):∀ (n k m:Nat),n+k=s.length+1->k<=s.length->m < 10 ^ k->nc s n (m:Int) (k:Int)=some (afC (BW (s.drop k) m))
 | 0,k,m,h,hk,_=>by omega
 | n+1,k,m,h,hk,hm=>by
  rw[nc]
  by_cases hlt:k < s.length
  ·have hp:10 ^ k<=10 ^ 8:=Nat.pow_le_pow_right (by omega) (by omega)
   rw[if_pos (by simpa using hlt),cU hlt,obs,obs,(wW s[k]).2,obs,drop_eq_getElem_cons hlt]
   simp only[BW]
   by_cases hd:isD s[k]=true
   ·have hr:=of_decide_eq_true hd
    rw[if_neg (by simp[hd]),if_pos hd,wu8 (by omega) (by omega),w64 (n:=10 * (m:Int)) (by omega) (by omega),w64 (n:=(s[k].toNat:Int) - 48) (by omega) (by omega),w64 (by omega) (by omega),cn hlt (by omega)]
    have:=YK hs n (k+1) (10 * m+(s[k].toNat - 48)) (by omega) (by omega) (by rw[Nat.pow_succ];omega)
    rw[<- this];congr 1;omega
   ·rw[if_pos (by simpa using hd),if_neg hd];rfl
  ·rw[if_neg (by simpa using hlt),drop_eq_nil_of_le (by omega)];rfl
theorem QX : ∀ (f m:Nat),m < 10 ^ (f+1)->rst f m=rst (f+1) m
 | 0,m,h=>by rw[rst,rst,if_neg (by simp at h;omega)]
 | f+1,m,h=>by
  rw[rst,rst]
  by_cases h0:10<=m
  ·rw[if_pos h0,if_pos h0,QX f (m / 10) (Nat.div_lt_of_lt_mul (by rw[Nat.pow_succ,Nat.mul_comm] at h;exact h))]
  ·rw[if_neg h0,if_neg h0]
def D (n:Nat):List Int:=(rst 21 n).reverse++[((48+n % 10:Nat):Int)]
theorem CF {d} (h:d < 10):D d=[((48+d:Nat):Int)]:=by
 unfold D;rw[rst,if_neg (by omega),Nat.mod_eq_of_lt h];rfl
theorem TH {k d} (hk:1<=k) (hd:d < 10) (hk2:k < 10 ^ 21):D (10 * k+d)=D k++[((48+d:Nat):Int)]:=by
 have e1:(10 * k+d) / 10=k:=by omega
 have e2:(10 * k+d) % 10=d:=by omega
 unfold D
 rw[show rst 21 (10 * k+d)=((48+k % 10:Nat):Int)::rst 20 k by rw[rst,if_pos (by omega),e1],e2,QX 20 k hk2,reverse_cons]
theorem adG : ∀ (n:Nat),0 < n->n < 10 ^ 21->∃ (x:Nat) (t:List Int),D n=(x:Int)::t/\48 < x/\x<=57:=by
 intro n
 induction n using Nat.strongRecOn with
 | _ n ih=>
  intro h0 h1
  by_cases h5:n < 10
  ·exact⟨48+n,[],CF h5,by omega,by omega⟩
  ·obtain⟨x,t,h2,h3,h4⟩:=ih (n / 10) (by omega) (by omega) (by omega)
   have:=TH (k:=n / 10) (d:=n % 10) (by omega) (by omega) (by omega)
   rw[show 10 * (n / 10)+n % 10=n by omega,h2] at this
   exact⟨x,t++[((48+n % 10:Nat):Int)],by rw[this];rfl,h3,h4⟩
theorem ZY (n:Nat):wY (n:Int)=qP (D n):=by
 unfold wY D
 rw[if_neg (by omega),EG,Int.natAbs_natCast];rfl
def mz (s:List UInt8):Int×Bool:=if s.length=0\/9 < s.length then(0,false) else if s.head? =some 48/\1 < s.length then(0,false) else match BW s 0 with | some r=>((r:Int),true) | none=>(0,false)
theorem yk (s:List UInt8):ph s=some (mz s):=by
 unfold ph mz
 by_cases h0:s.length=0
 ·rw[length_eq_zero_iff] at h0;subst h0;rfl
 by_cases h9:9 < s.length
 ·rw[if_neg (by simp;omega),if_pos (by simp;omega),obs,if_pos rfl,if_pos (.inr h9)]
 ·match s,h0 with
  | b::t,h0=>
   have hg:(Option.bind (idx (b::t) 0) fun(y3:UInt8)=>if((y3.toNat:Int)==48)=true then some (decide (((b::t).length:Int) > 1)) else some false)=some (decide ((b::t).head? =some 48/\1 < (b::t).length)):=by
    show (if((b.toNat:Int)==48)=true then some (decide (((b::t).length:Int) > 1)) else some false)=_
    by_cases h1:b=48
    ·subst h1
     rw[if_pos (by decide)]
     congr 1
     rw[Bool.eq_iff_iff];simp;omega
    ·rw[if_neg (by
      simp only[beq_iff_eq];intro e
      exact h1 (UInt8.toNat_inj.1 (show b.toNat=(48:UInt8).toNat by have:(48:UInt8).toNat=48:=rfl;omega)))]
     simp[h1]
   rw[if_neg (by simp;omega),if_neg (by simp at h9 ⊢;omega),hg,obs,if_neg (show ¬ ((b::t).length=0\/9 < (b::t).length) from fun h=>h.elim h0 h9)]
   by_cases hc:(b::t).head? =some 48/\1 < (b::t).length
   ·rw[if_pos (by simpa using hc),if_pos hc]
   ·rw[if_neg (by simpa using hc),if_neg hc,Ac,show (0:Int)=((0:Nat):Int) from rfl,YK (by omega) _ 0 0 (by omega) (by omega) (by simp),obs,drop_zero]
    cases BW (b::t) 0<;>rfl
theorem Qq : ∀ (l:List UInt8) (b:UInt8) (n:Nat),isD b=true->BW (l++[b]) n=(BW l n).map fun r=>10 * r+(b.toNat - 48)
 | [],b,n,h=>by simp[BW,h]
 | c::l,b,n,h=>by
  simp only[cons_append,BW]
  by_cases hc:isD c=true
  ·rw[if_pos hc,if_pos hc];exact Qq l b _ h
  ·rw[if_neg hc,if_neg hc];rfl
theorem Zk {d} (h:d < 10):isD (UInt8.ofNat (48+d))=true/\(UInt8.ofNat (48+d)).toNat - 48=d:=by
 have e:(UInt8.ofNat (48+d)).toNat=48+d:=by rw[UInt8.toNat_ofNat'];omega
 refine⟨?_,by rw[e];omega⟩
 unfold isD
 rw[e]
 simp;omega
theorem Rz (d:Nat):qP [((48+d:Nat):Int)]=[UInt8.ofNat (48+d)]:=rfl
theorem adI : ∀ (n:Nat),n < 10 ^ 20->BW (qP (D n)) 0=some n:=by
 intro n
 induction n using Nat.strongRecOn with
 | _ n ih=>
  intro hn
  by_cases h:n < 10
  ·rw[CF h,Rz]
   obtain⟨h1,h2⟩:=Zk h
   simp only[BW];rw[if_pos h1,h2];simp
  ·have e:n=10 * (n / 10)+n % 10:=by omega
   have hd:n % 10 < 10:=by omega
   rw[e,TH (by omega) hd (by omega),EG,Rz]
   obtain⟨h1,h2⟩:=Zk hd
   rw[Qq _ _ _ h1,h2,ih (n / 10) (by omega) (by omega)]
   rfl
theorem acw : ∀ (k n:Nat),n < 10 ^ (k+1)->k<=19->(D n).length<=k+1
 | 0,n,h,_=>by rw[CF (by simpa using h)];simp
 | k+1,n,h,hk=>by
  by_cases h0:n < 10
  ·rw[CF h0];simp
  ·have e:n=10 * (n / 10)+n % 10:=by omega
   have hlt:n / 10 < 10 ^ (k+1):=by
    rw[Nat.pow_succ] at h
    omega
   have h1:n / 10 < 10 ^ 21:=Nat.lt_of_lt_of_le hlt (Nat.pow_le_pow_right (by omega) (by omega))
   rw[e,TH (by omega) (by omega) h1,length_append]
   have:=acw k (n / 10) hlt (by omega)
   simp;omega
theorem YA (l:List Int):(qP l).length=l.length:=by simp[qP]
theorem N4 {n:Nat} (h:n < 1000000000):mz (wY (n:Int))=((n:Int),true):=by
 rw[ZY]
 have hl:=acw 8 n (by omega) (by omega)
 have hp:0 < (D n).length:=by unfold D;simp
 unfold mz
 rw[YA,if_neg (by omega)]
 have hh:¬ ((qP (D n)).head? =some 48/\1 < (D n).length):=by
  rintro ⟨h1,h2⟩
  by_cases h0:n=0
  ·subst h0;rw[CF (by omega)] at h2;simp at h2
  ·obtain⟨x,t,e1,e2,e3⟩:=adG n (by omega) (by omega)
   rw[e1] at h1
   simp only[qP,map_cons,head?_cons,Option.some.injEq,Int.toNat_natCast] at h1
   have:=congrArg UInt8.toNat h1
   simp at this
   omega
 rw[if_neg hh,adI n (by omega)]
def yo (s:List UInt8):Int:=match glob_0.findIdx? (fun y=>y==s) with | some i=>((i:Nat):Int)+1 | none=>0
theorem RF (s:List UInt8):0<=yo s/\yo s<=23:=by
 unfold yo
 split
 ·rename_i i h
  have:=(List.findIdx?_eq_some_iff_getElem.1 h).1
  have e:glob_0.length=23:=rfl
  omega
 ·omega
theorem Qd (s:List UInt8):wx s=some (yo s):=by
 unfold wx GJ fK
 rw[obs,CO (dU glob_0 (fun z3=>wO z3 s)) (b:=fun y=>y==s) (by decide) (fun n x=>by simp only[dU,wO,obs]),obs,ry,obs]
 have h:=RF s
 unfold yo at *
 cases hf:glob_0.findIdx? (fun y=>y==s) with
 | none=>rfl
 | some i=>rw[hf] at h;simp only at h ⊢;rw[w64 (by omega) (by omega)]
theorem MZ {s l} (hl:l.length<=1000):∀ (n k:Nat),n+k=l.length+1->k<=l.length->nA s l n (k:Int)=some (match(l.drop k).findIdx? (fun y=>y==s) with | some i=> .stop (((k+i:Nat):Int)+1) | none=> .next ())
 | 0,k,h,hk=>by omega
 | n+1,k,h,hk=>by
  simp only[nA]
  by_cases hlt:k < l.length
  ·rw[if_pos (by simpa using hlt),cU hlt,drop_eq_getElem_cons hlt,obs,findIdx?_cons,cn hlt (by omega)]
   cases hb:l[k]==s with
   | true=>simp
   | false=>
    rw[if_neg (by simp),MZ hl n (k+1) (by omega) (by omega)]
    cases (l.drop (k+1)).findIdx? (fun y=>y==s) with
    | none=>simp
    | some i=>simp;omega
  ·rw[if_neg (by simpa using hlt),drop_eq_nil_of_le (by omega)]
   rfl
theorem AJ (s:List UInt8):sd s=some (yo s):=by
 unfold sd vE
 rw[obs]
 have h:=MZ (s:=s) (l:=glob_0) (by decide) 24 0 (by decide) (by decide)
 have e:(show List (List UInt8) from glob_0).length=23:=rfl
 show Option.bind (nA s glob_0 24 ((0:Nat):Int)) _=_
 rw[h,obs,drop_zero]
 unfold yo
 cases glob_0.findIdx? (fun y=>y==s) with
 | none=>rfl
 | some i=>simp[Ctl.elim]
def isL (b:UInt8):Bool:=(jk (b.toNat:Int)).getD false
theorem RL (a:Int):jk a=some ((jk a).getD false):=by unfold jk;split<;>rfl
theorem Uj (b:UInt8):jk (b.toNat:Int)=some (isL b):=RL _
theorem Ii (b:UInt8):jL (b.toNat:Int)=some (isL b):=by rw[<- WB];exact Uj b
def isC (b:UInt8):Bool:=isL b||isD b
def dw (s:List UInt8):Bool:=match s with
 | []=>false
 | b::t=>decide (t.length < 20)&&(isL b&&((b::t).all isC&&yo (b::t)==0))
theorem Xf {s:List UInt8} {k:Nat} (h:k < s.length):idx (bh s) (k:Int)=some (s[k].toNat:Int):=by
 have hb:k < (bh s).length:=by simp[bh];exact h
 rw[cU hb];simp[bh]
theorem Wh {s} (hs:s.length<=1000):∀ (n k:Nat),n+k=s.length+1->k<=s.length->re s n (k:Int)=some (if(s.drop k).all isC=true then .next () else .stop false)
 | 0,k,h,hk=>by omega
 | n+1,k,h,hk=>by
  have hb:(bh s).length=s.length:=by simp[bh]
  simp only[re,hb]
  by_cases hlt:k < s.length
  ·rw[if_pos (by simpa using hlt),Xf hlt,obs,Uj,obs,(wW s[k]).1,drop_eq_getElem_cons hlt,cn hlt (by omega),Wh hs n (k+1) (by omega) (by omega)]
   simp only[all_cons,isC]
   rcases Bool.eq_false_or_eq_true (isL s[k]) with h1 | h1<;>rcases Bool.eq_false_or_eq_true (isD s[k]) with h2 | h2<;>simp[obs,h1,h2]
  ·rw[if_neg (by simpa using hlt),drop_eq_nil_of_le (by omega)];rfl
theorem VL {s} (hs:s.length<=1000):∀ (n k:Nat),n+k=s.length+1->k<=s.length->pD s n (k:Int)=some (if(s.drop k).all isC=true then .next () else .stop false)
 | 0,k,h,hk=>by omega
 | n+1,k,h,hk=>by
  simp only[pD]
  by_cases hlt:k < s.length
  ·rw[if_pos (by simpa using hlt),cU hlt,obs,Ii,obs,obs,(wW s[k]).2,drop_eq_getElem_cons hlt,cn hlt (by omega),VL hs n (k+1) (by omega) (by omega)]
   simp only[all_cons,isC]
   rcases Bool.eq_false_or_eq_true (isL s[k]) with h1 | h1<;>rcases Bool.eq_false_or_eq_true (isD s[k]) with h2 | h2<;>simp[obs,h1,h2]
  ·rw[if_neg (by simpa using hlt),drop_eq_nil_of_le (by omega)];rfl
theorem kX (s:List UInt8):jz s=some (dw s):=by
 unfold jz dw
 match s with
 | []=>rfl
 | b::t=>
  have hi:idx (b::t) 0=some b:=rfl
  have hb:(bh (b::t)).length=(b::t).length:=by simp[bh]
  by_cases h0:t.length < 20
  ·have e0:((b::t)==([]:List UInt8))=false:=rfl
   have e1:decide (((b::t).length:Int) > 20)=false:=by simp;omega
   rw[e0,e1,hi,if_neg (by simp),if_neg (by simp),obs,Uj,obs,obs]
   cases hL:isL b with
   | false=>simp[hL]
   | true=>
    rw[if_neg (by simp),gz (by simp;omega),obs,hb,Ac,show (0:Int)=((0:Nat):Int) from rfl,Wh (by simp;omega) _ 0 (by omega) (by omega),obs,drop_zero]
    cases hA:(b::t).all isC with
    | false=>rw[if_neg (by simp)];simp[Ctl.elim,hL,hA]
    | true=>rw[if_pos rfl];simp only[Ctl.elim,Qd,obs];simp[h0,hL,hA]
  ·have e0:((b::t)==([]:List UInt8))=false:=rfl
   have e1:decide (((b::t).length:Int) > 20)=true:=by simp;omega
   rw[e0,e1]
   simp[h0]
theorem jS (s:List UInt8):eN s=some (dw s):=by
 unfold eN dw
 match s with
 | []=>rfl
 | b::t=>
  have hi:idx (b::t) 0=some b:=rfl
  have e0:decide (((b::t).length:Int) < 1)=false:=by simp;omega
  by_cases h0:t.length < 20
  ·have e1:decide (((b::t).length:Int) > 20)=false:=by simp;omega
   rw[e0,e1,hi,if_neg (by simp),if_neg (by simp),obs,Ii,obs,AJ,obs]
   have hn:=RF (b::t)
   cases hL:isL b with
   | false=>simp[hL]
   | true=>
    by_cases hf:yo (b::t)=0
    ·rw[hf,if_neg (by simp),obs,if_neg (by simp),Ac,show (0:Int)=((0:Nat):Int) from rfl,VL (by simp;omega) _ 0 (by omega) (by omega),obs,drop_zero]
     cases hA:(b::t).all isC with
     | false=>rw[if_neg (by simp)];simp[Ctl.elim,hL,hA]
     | true=>rw[if_pos rfl];simp[Ctl.elim,h0,hL,hA,hf]
    ·rw[if_neg (by simp),obs,if_pos (by simp;omega)]
     simp[hf,hL]
  ·have e1:decide (((b::t).length:Int) > 20)=true:=by simp;omega
   rw[e0,e1]
   simp[h0]
def Dw (n:Int):Nat:=if n<=0 then 0 else if 3<=n then 3 else n.toNat
theorem Vm (n:Int):Dw n<=3:=by unfold Dw;split;omega;split;omega;omega
theorem aap (n:Int):(if(if 3 < n then 3 else n) > 0 then(if 3 < n then 3 else n) else 0)=((Dw n:Nat):Int):=by
 unfold Dw
 by_cases h:n<=0
 ·rw[if_neg (show ¬ 3 < n by omega),if_neg (show ¬ n > 0 by omega),if_pos h];rfl
 ·by_cases h3:3<=n
  ·by_cases h4:3 < n
   ·simp only[if_pos h4,if_neg h,if_pos h3];omega
   ·simp only[if_neg h4,if_neg h,if_pos h3];rw[if_pos (by omega)];omega
  ·simp only[if_neg (show ¬ 3 < n by omega),if_neg h,if_neg h3];rw[if_pos (by omega)];omega
def own (t:bZ):List ay:=if t.aa=2 then t.am.l.take (Dw t.fN+1) else []
theorem Eh {α:Type} (x:A4 α):x.l.length=4:=rfl
theorem abo {t} (h:t.aa=2):(own t).length=Dw t.fN+1:=by
 unfold own;rw[if_pos h,length_take,Eh];have:=Vm t.fN;omega
theorem Tb (t:bZ):(own t).length<=4:=by
 unfold own;split
 ·rw[length_take,Eh];omega
 ·simp
theorem Ey (t:bZ):wL t=some (t.am.l.take (Dw t.fN+1)):=by
 unfold wL
 have:=Vm t.fN
 rw[aap,w64 (by omega) (by omega),show ((Dw t.fN:Nat):Int)+1=((Dw t.fN+1:Nat):Int) by omega]
 unfold jK
 rw[if_pos ⟨by omega,by omega,by rw[Eh];omega⟩]
 simp
theorem S5 (a b:ay):jx a b=decide (a=b):=by
 rw[Bool.eq_iff_iff];cases a;cases b;simp[jx]
def kq (o:ay) (m:Int):Bool:=if o.aa=3 then decide (0 < o.fN)&&decide (o.fN<=m) else if o.aa=7 then decide (0<=o.fN) else decide (o.fN=0)&&(decide (o.aa=1)||(decide (o.aa=2)||(decide (o.aa=4)||(decide (o.aa=5)||decide (o.aa=6)))))
theorem vw (o:ay) (m:Int):nZ o m=some (kq o m):=by
 unfold nZ kq
 by_cases h3:o.aa=3
 ·by_cases hn:o.fN > 0<;>simp[h3,hn,Ctl.go]
 by_cases h7:o.aa=7
 ·simp[h7,Ctl.go]
 by_cases h1:o.aa=1
 ·simp[h1,Ctl.go];rfl
 by_cases h2:o.aa=2
 ·simp[h2,Ctl.go];rfl
 by_cases h4:o.aa=4
 ·simp[h4,Ctl.go,nU];rfl
 by_cases h5:o.aa=5
 ·simp[h5,Ctl.go,nU];rfl
 by_cases h6:o.aa=6
 ·simp[h6,Ctl.go,nU];rfl
 simp[h3,h7,h1,h2,h4,h5,h6,Ctl.go,nU]
theorem zn (o:ay) (m:Int):oi o m=some (kq o m):=by
 unfold oi kq
 by_cases h3:o.aa=3
 ·by_cases hn:o.fN >= 1
  ·simp[h3,hn];omega
  ·simp[h3,hn];omega
 by_cases h7:o.aa=7
 ·simp[h7]
 by_cases h0:o.fN=0
 ·by_cases h1:o.aa=1
  ·simp[h1,h0]
  by_cases h2:o.aa=2
  ·simp[h2,h0]
  by_cases h4:o.aa=4
  ·simp[h4,h0]
  by_cases h5:o.aa=5
  ·simp[h5,h0]
  simp[h3,h7,h1,h2,h4,h5,h0];rfl
 ·simp[h3,h7,h0]
def yD (t:bZ):bZ:={ aa:=t.aa,bu:=[],fN:=0,am:=⟨aq,aq,aq,aq⟩ }
def uh (t:bZ) (m:Int):Bool:=if t.aa=0\/t.aa=1 then jp t (yD t) else if t.aa=2 then
 dw t.bu&&(decide (0<=t.fN)&&(decide (t.fN<=3)&&((own t).all (fun o=>kq o m)&&(((own t).drop 1).all (fun o=> !decide (o.aa=6))&&(t.am.l.drop (own t).length).all (fun o=>jx o ⟨0,0⟩))))) else false
theorem aew {l} (m:Int) (hl:l.length<=1000):nf m l ((((l.length:Int):Int) - (0)).toNat+1) 0=some (if l.all (fun o=>kq o m)=true then .next () else .stop false):=by
 rw[XQ (nf m l) (by omega) (b:=fun o=> !kq o m) (r:=false) (fun n x=>by
  simp only[nf,vw,obs])]
 rw[any_eq_not_all_not]
 simp only[Bool.not_not]
 cases l.all (fun o=>kq o m)<;>rfl
theorem afq {l} (hl:l.length<=1000):nj l ((((l.length:Int):Int) - (0)).toNat+1) 0=some (if l.all (fun o=> !decide (o.aa=6))=true then .next () else .stop false):=by
 rw[XQ (nj l) (by omega) (b:=fun o=>decide (o.aa=6)) (r:=false) (fun n x=>by
  simp only[nj,beq_iff_eq,decide_eq_true_eq])]
 rw[any_eq_not_all_not]
 cases l.all (fun o=> !decide (o.aa=6))<;>rfl
theorem aeA {l} (hl:l.length<=1000):nu l ((((l.length:Int):Int) - (0)).toNat+1) 0=some (if l.all (fun o=>jx o ⟨0,0⟩)=true then .next () else .stop false):=by
 rw[XQ (nu l) (by omega) (b:=fun o=> !jx o ⟨0,0⟩) (r:=false) (fun n x=>by
  simp only[nu])]
 rw[any_eq_not_all_not]
 simp only[Bool.not_not]
 cases l.all (fun o=>jx o ⟨0,0⟩)<;>rfl
theorem wQ {α:Type} {l:List α} {k:Nat} (h:k<=l.length):jK l (k:Int) (l.length:Int)=some (l.drop k):=by
 unfold jK
 rw[if_pos ⟨by omega,by omega,by omega⟩]
 simp
theorem wq (t:bZ) (m:Int):oy t m=some (uh t m):=by
 unfold oy uh
 by_cases h0:t.aa=0
 ·simp[h0,yD]
 by_cases h1:t.aa=1
 ·simp[h1,yD]
 have e1:(t.aa==0)=false:=by simpa using h0
 have e2:(t.aa==1)=false:=by simpa using h1
 rw[if_neg (show ¬ (t.aa=0\/t.aa=1) by simp[h0,h1])]
 simp only[e1,e2,Bool.false_eq_true,if_false,obs]
 by_cases h2:t.aa=2
 ·have e3:(t.aa==2)=true:=by simpa using h2
  rw[if_pos h2]
  simp only[e3,if_true,kX,obs]
  cases hn:dw t.bu with
  | false=>rfl
  | true=>
   by_cases hN:t.fN < 0
   ·have e4:decide (0<=t.fN)=false:=by simp;omega
    simp[hN,e4]
   by_cases hN3:t.fN > 3
   ·have e4:decide (t.fN<=3)=false:=by simp;omega
    simp[hN,hN3,e4]
   have hle:=Tb t
   have hol:=abo h2
   have hown:t.am.l.take (Dw t.fN+1)=own t:=by unfold own;rw[if_pos h2]
   have e4:decide (0<=t.fN)=true:=by simp;omega
   have e5:decide (t.fN<=3)=true:=by simp;omega
   rw[e4,e5,decide_eq_false hN,decide_eq_false hN3,Ey,hown]
   simp only[Bool.not_true,Bool.false_eq_true,if_false,obs,aew m (show (own t).length<=1000 by omega)]
   cases ha:(own t).all (fun o=>kq o m) with
   | false=>rfl
   | true=>
    simp only[if_true,Ctl.elim]
    have c1:=wQ (l:=own t) (k:=1) (by omega)
    rw[show ((1:Nat):Int)=1 from rfl] at c1
    rw[c1,obs,afq (by simp;omega),obs]
    cases hb:((own t).drop 1).all (fun o=> !decide (o.aa=6)) with
    | false=>rfl
    | true=>
     simp only[if_true]
     have c2:=wQ (l:=t.am.l) (k:=(own t).length) (by rw[Eh];omega)
     rw[c2,obs,aeA (by simp[Eh];omega),obs]
     cases (t.am.l.drop (own t).length).all (fun o=>jx o ⟨0,0⟩)<;>rfl
 ·have e3:(t.aa==2)=false:=by simpa using h2
  rw[if_neg h2]
  simp only[e3,Bool.false_eq_true,if_false]
def r5B (t:bZ) (m:Int) (k:Nat):Bool:=match t.am.l[k]? with
 | some o=>if decide ((k:Int) > t.fN)=true then !jx o ⟨0,0⟩ else(!kq o m||(decide (0 < k)&&decide (o.aa=6)))
 | none=>false
theorem Lq {t} {m:Int}:kc t m (((4:Int) - (0)).toNat+1) 0=some (if(List.range 4).any (r5B t m)=true then .stop false else .next ()):=by
 refine afB (len:=4) (fun n x=>kc t m n x) (by omega) (b:=r5B t m) (r:=false) (fun n k hk=> ?_) (fun n=>by simp only[kc];rfl)
 simp only[kc]
 have hlt:k < t.am.l.length:=by rw[Eh];exact hk
 rw[if_pos (by simp;omega),cU hlt,obs,w64 (by omega) (by omega),show ((k:Int)+1)=((k+1:Nat):Int) by omega]
 unfold r5B
 rw[getElem?_eq_getElem hlt]
 simp only[zn,obs]
 by_cases hg:(k:Int) > t.fN
 ·have e:¬ (k:Int)<=t.fN:=by omega
  simp only[decide_eq_true hg,decide_eq_false e,if_true,Bool.false_eq_true,if_false]
  cases jx t.am.l[k] ⟨0,0⟩<;>rfl
 ·have e:(k:Int)<=t.fN:=by omega
  simp only[decide_eq_false hg,decide_eq_true e,if_true,Bool.false_eq_true,if_false]
  cases kq t.am.l[k] m with
  | false=>rfl
  | true=>
   by_cases h0:0 < k
   ·have e2:(k:Int) > 0:=by omega
    simp only[decide_eq_true h0,decide_eq_true e2,Bool.not_true,Bool.false_eq_true,if_false,if_true,obs,Bool.false_or,Bool.true_and,beq_iff_eq,decide_eq_true_eq]
   ·have e2:¬ (k:Int) > 0:=by omega
    simp only[decide_eq_false h0,decide_eq_false e2,Bool.not_true,Bool.false_eq_true,if_false,obs,Bool.false_or,Bool.false_and]
theorem zj (t:bZ) (m:Int):qK t m=some (uh t m):=by
 unfold qK uh
 by_cases h0:t.aa=0
 ·simp[h0,yD]
 by_cases h1:t.aa=1
 ·simp[h1,yD]
 have e1:(t.aa==0)=false:=by simpa using h0
 have e2:(t.aa==1)=false:=by simpa using h1
 rw[if_neg (show ¬ (t.aa=0\/t.aa=1) by simp[h0,h1])]
 simp only[e1,e2,Bool.false_eq_true,if_false,obs]
 by_cases h2:t.aa=2
 ·have e3:(t.aa != 2)=false:=by simp[h2]
  rw[if_pos h2]
  simp only[e3,Bool.false_eq_true,if_false,jS,obs]
  cases hn:dw t.bu with
  | false=>rfl
  | true=>
   by_cases hN:t.fN < 0
   ·have e4:decide (0<=t.fN)=false:=by simp;omega
    simp[hN,e4]
   by_cases hN3:t.fN > 3
   ·have e4:decide (t.fN<=3)=false:=by simp;omega
    simp[hN,hN3,e4]
   have e4:decide (0<=t.fN)=true:=by simp;omega
   have e5:decide (t.fN<=3)=true:=by simp;omega
   rw[e4,e5,decide_eq_false hN,decide_eq_false hN3]
   simp only[Bool.not_true,Bool.false_eq_true,if_false,obs,Lq]
   have key:(List.range 4).any (r5B t m)= !((own t).all (fun o=>kq o m)&&(((own t).drop 1).all (fun o=> !decide (o.aa=6))&&(t.am.l.drop (own t).length).all (fun o=>jx o ⟨0,0⟩))):=by
    obtain⟨kd,cl,N,⟨o0,o1,o2,o3⟩⟩:=t
    have hN4:N=0\/N=1\/N=2\/N=3:=by simp only at hN hN3;omega
    simp only at h2
    subst h2
    rcases hN4 with rfl | rfl | rfl | rfl
    all_goals
     simp only[own,Dw,A4.l,List.range,List.range.loop,any_cons,any_nil,r5B]
     simp
     try ac_rfl
   rw[key]
   cases ((own t).all (fun o=>kq o m)&&(((own t).drop 1).all (fun o=> !decide (o.aa=6))&&(t.am.l.drop (own t).length).all (fun o=>jx o ⟨0,0⟩)))<;>rfl
 ·have e3:(t.aa != 2)=true:=by simpa using h2
  simp only[e3,if_true,obs]
  rw[if_neg h2]
def Ax (k:Int):List UInt8:=if k=1 then [114,101,112] else if k=2 then [112,101,101,114] else if k=4 then [119,111,114,108,100] else if k=5 then [97,110,121] else if k=6 then [117,110,105,113,117,101] else [63]
def gh (o:ay) (ps:List (List UInt8)):List UInt8:=if kq o (ps.length:Int)=true then(if o.aa=3 then(ps[(o.fN - 1).toNat]?).getD [] else Ax o.aa) else []
theorem xI {o} {m:Int} (h:kq o m=true):(o.aa=3/\0 < o.fN/\o.fN<=m)\/(o.aa=7/\0<=o.fN)\/(o.fN=0/\(o.aa=1\/o.aa=2\/o.aa=4\/o.aa=5\/o.aa=6)):=by
 unfold kq at h
 split at h
 ·rename_i h3;simp at h;exact .inl ⟨h3,h.1,h.2⟩
 ·split at h
  ·rename_i h7;simp at h;exact .inr (.inl ⟨h7,h⟩)
  ·simp at h;exact .inr (.inr h)
theorem AX (o:ay) (ps:List (List UInt8)) (hp:ps.length<=1000):si o ps=some (gh o ps):=by
 unfold si gh
 rw[vw,obs]
 cases hr:kq o (ps.length:Int) with
 | false=>simp
 | true=>
  rcases xI hr with⟨h3,h1,h2⟩ | ⟨h7,_⟩ | ⟨_,h1 | h1 | h1 | h1 | h1⟩
  ·have e:ae (o.fN - 1)=(((o.fN - 1).toNat:Nat):Int):=by rw[w64 (by omega) (by omega)];omega
   have hlt:(o.fN - 1).toNat < ps.length:=by omega
   generalize (o.fN - 1).toNat=j at *
   simp only[h3,e,cU hlt,obs,getElem?_eq_getElem hlt]
   simp
  ·simp[h7,Ax]
  ·simp[h1,Ax]
  ·simp[h1,Ax]
  ·simp[h1,Ax]
  ·simp[h1,Ax]
  ·simp[h1,Ax]
def AZ : List (List UInt8)->List UInt8
 | []=>[]
 | x::r=>[60]++(x++((r.map ([44,32]++·)).flatten++[62]))
def wU (t:bZ) (ps:List (List UInt8)):List UInt8:=if uh t (ps.length:Int)=true then(if t.aa=0 then [118,111,105,100] else if t.aa=1 then [105,110,116] else
 (if t.am.a0.aa=7 then [] else gh t.am.a0 ps++[32])++(t.bu++AZ (((own t).drop 1).map (gh · ps)))) else []
theorem ow {n:Int} (h0:0<=n) (h:n<=100000000000):dr n 1=some ():=gz (by omega)
theorem Sf {ps} (hp:ps.length<=1000) {l} (hl:l.length<=1000):oZ ps l ((((l.length:Int):Int) - (0)).toNat+1) [] 0=some (l.map (gh · ps)):=by
 rw[aeC (fun n s x=>oZ ps l n s x) (by omega) (f:=fun s y=>Option.bind (dr ((s.length:Int)+([gh y ps].length:Int)) 16) fun _=>some (s++[gh y ps])) (fin:=fun s=>some s) (fun n s x=>by
  simp only[oZ]
  by_cases hc:decide (x < (l.length:Int))=true
  ·rw[if_pos hc,if_pos hc]
   cases idx l x with
   | none=>simp only[Option.bind_none]
   | some y=>simp only[obs,AX y ps hp,Option.bind_assoc]
  ·rw[if_neg hc,if_neg hc])]
 rw[JO _ (gh · ps) 1000 (fun s y hs=>by rw[gz (by simp only[length_cons,length_nil];omega),obs]) l [] (by simp;omega),obs]
 rfl
theorem Ox {t} {m:Int} (h:uh t m=true) (h0:t.aa≠0) (h1:t.aa≠1):t.aa=2/\dw t.bu=true/\0<=t.fN/\t.fN<=3/\(∀ o∈own t,kq o m=true)/\(∀ o∈(own t).drop 1,o.aa≠6)/\∀ o∈t.am.l.drop (own t).length,o=⟨0,0⟩:=by
 unfold uh at h
 rw[if_neg (by simp[h0,h1])] at h
 split at h
 ·rename_i h2
  simp only[Bool.and_eq_true,decide_eq_true_eq,all_eq_true,Bool.not_eq_true',decide_eq_false_iff_not] at h
  obtain⟨a,b,c,d,e,f⟩:=h
  exact⟨h2,a,b,c,d,e,fun o ho=>by have:=f o ho;rw[S5] at this;simpa using this⟩
 ·cases h
theorem ju {s} (h:dw s=true):s.length<=20:=by
 unfold dw at h
 match s with
 | []=>simp
 | b::t=>simp at h;simp;omega
theorem Om {t ps} (hp:ps.length<=1000) (hM:∀ o,(gh o ps).length<=10000000000):pb t ps=some (wU t ps):=by
 unfold pb wU
 rw[wq,obs]
 cases hr:uh t (ps.length:Int) with
 | false=>rfl
 | true=>
  by_cases h0:t.aa=0
  ·simp[h0]
  by_cases h1:t.aa=1
  ·simp[h1]
  obtain⟨h2,hn,hN0,hN3,_⟩:=Ox hr h0 h1
  have hcl:=ju hn
  have hown:t.am.l.take (Dw t.fN+1)=own t:=by unfold own;rw[if_pos h2]
  have hle:=Tb t
  rw[if_neg (by simp),if_neg (by simp[h2]),Ey,obs,hown,Sf hp (by omega),obs,if_pos rfl,if_neg h0,if_neg h1]
  obtain⟨kd,cl,N,⟨o0,o1,o2,o3⟩⟩:=t
  simp only at h2 hcl hN0 hN3 ⊢
  subst h2
  have m0:=hM o0;have m1:=hM o1;have m2:=hM o2;have m3:=hM o3
  have hN4:N=0\/N=1\/N=2\/N=3:=by omega
  rcases hN4 with rfl | rfl | rfl | rfl
  ·have ho:own { aa:=2,bu:=cl,fN:=0,am:=⟨o0,o1,o2,o3⟩ }=[o0]:=rfl
   rw[ho]
   simp only[map_cons,map_nil,drop_succ_cons,drop_zero,drop_nil,AZ,length_cons,length_nil]
   generalize gh o0 ps=t0 at *
   rw[if_neg (by decide),obs]
   by_cases h7:o0.aa=7
   ·simp[h7]
   ·have hi:idx [t0] 0=some t0:=rfl
    rw[if_neg (by simpa using h7),if_neg h7,hi,obs,ow (by omega) (by simp;omega),obs,ow (by omega) (by simp;omega),obs]
    simp
  ·have ho:own { aa:=2,bu:=cl,fN:=1,am:=⟨o0,o1,o2,o3⟩ }=[o0,o1]:=rfl
   rw[ho]
   simp only[map_cons,map_nil,drop_succ_cons,drop_zero,drop_nil,AZ,length_cons,length_nil]
   generalize gh o0 ps=t0 at *
   generalize gh o1 ps=t1 at *
   have hc:jK [t0,t1] 1 ((0+1 + 1:Nat):Int)=some [t1]:=rfl
   have hj:Lib.join [t1] [44,32]=t1:=by simp[Lib.join,intercalate]
   rw[if_pos (by decide),hc,obs]
   unfold strings_Join Ez
   rw[hj,if_pos ⟨by simp,by omega⟩,obs,ow (by omega) (by simp;omega),obs,ow (by omega) (by simp;omega),obs,ow (by omega) (by simp;omega),obs,obs]
   by_cases h7:o0.aa=7
   ·simp[h7]
   ·have hi:idx [t0,t1] 0=some t0:=rfl
    rw[if_neg (by simpa using h7),if_neg h7,hi,obs,ow (by omega) (by simp;omega),obs,ow (by omega) (by simp;omega),obs]
    simp
  ·have ho:own { aa:=2,bu:=cl,fN:=2,am:=⟨o0,o1,o2,o3⟩ }=[o0,o1,o2]:=rfl
   rw[ho]
   simp only[map_cons,map_nil,drop_succ_cons,drop_zero,drop_nil,AZ,length_cons,length_nil]
   generalize gh o0 ps=t0 at *
   generalize gh o1 ps=t1 at *
   generalize gh o2 ps=t2 at *
   have hc:jK [t0,t1,t2] 1 ((0+1 + 1+1:Nat):Int)=some [t1,t2]:=rfl
   have hj:Lib.join [t1,t2] [44,32]=t1++([44,32]++t2):=by simp[Lib.join,intercalate]
   rw[if_pos (by decide),hc,obs]
   unfold strings_Join Ez
   rw[hj,if_pos ⟨by simp,by simp;omega⟩,obs,ow (by omega) (by simp;omega),obs,ow (by omega) (by simp;omega),obs,ow (by omega) (by simp;omega),obs,obs]
   by_cases h7:o0.aa=7
   ·simp[h7]
   ·have hi:idx [t0,t1,t2] 0=some t0:=rfl
    rw[if_neg (by simpa using h7),if_neg h7,hi,obs,ow (by omega) (by simp;omega),obs,ow (by omega) (by simp;omega),obs]
    simp
  ·have ho:own { aa:=2,bu:=cl,fN:=3,am:=⟨o0,o1,o2,o3⟩ }=[o0,o1,o2,o3]:=rfl
   rw[ho]
   simp only[map_cons,map_nil,drop_succ_cons,drop_zero,drop_nil,AZ,length_cons,length_nil]
   generalize gh o0 ps=t0 at *
   generalize gh o1 ps=t1 at *
   generalize gh o2 ps=t2 at *
   generalize gh o3 ps=t3 at *
   have hc:jK [t0,t1,t2,t3] 1 ((0+1 + 1+1 + 1:Nat):Int)=some [t1,t2,t3]:=rfl
   have hj:Lib.join [t1,t2,t3] [44,32]=t1++([44,32]++(t2++([44,32]++t3))):=by simp[Lib.join,intercalate]
   rw[if_pos (by decide),hc,obs]
   unfold strings_Join Ez
   rw[hj,if_pos ⟨by simp,by simp;omega⟩,obs,ow (by omega) (by simp;omega),obs,ow (by omega) (by simp;omega),obs,ow (by omega) (by simp;omega),obs,obs]
   by_cases h7:o0.aa=7
   ·simp[h7]
   ·have hi:idx [t0,t1,t2,t3] 0=some t0:=rfl
    rw[if_neg (by simpa using h7),if_neg h7,hi,obs,ow (by omega) (by simp;omega),obs,ow (by omega) (by simp;omega),obs]
    simp
theorem sD (e:ai):bL e=1+dL e.az:=by cases e;simp only[bL]
theorem PM : ∀ {l:List ai} {x:ai},x∈l->bL x<=dL l
 | y::l,x,h=>by
  simp only[dL]
  rcases List.mem_cons.1 h with rfl | h
  ·omega
  ·have:=PM h;omega
theorem Qk : ∀ l:List ai,l.length<=dL l
 | []=>by simp
 | x::l=>by
  have:=Qk l
  have:=sD x
  simp only[dL,length_cons];omega
theorem we {e x} (h:x∈e.az):bL x < bL e:=by
 have:=PM h
 have:=sD e
 omega
theorem Kr (e:ai):e.az.length < bL e:=by
 have:=Qk e.az
 have:=sD e
 omega
theorem ui {α:Type} {l:List α} {x:Int} {y:α} (h:idx l x=some y):y∈l:=by
 unfold idx at h
 split at h
 ·exact mem_of_getElem? h
 ·cases h
def rZ (k:Int):Int:=if 1<=k/\k<=5 then 0 else if k=12\/k=13 then 1 else if(6<=k/\k<=11)\/k=14 then 2 else -1
theorem Na {k:Int} (h:1<=k/\k<=14):k=1\/k=2\/k=3\/k=4\/k=5\/k=6\/k=7\/k=8\/k=9\/k=10\/k=11\/k=12\/k=13\/k=14:=by omega
theorem PY (k:Int):ww k=some (rZ k):=by
 by_cases h:1<=k/\k<=14
 ·rcases Na h with rfl | rfl | rfl | rfl | rfl | rfl | rfl | rfl | rfl | rfl | rfl | rfl | rfl | rfl<;>rfl
 ·have hn:∀ j:Int,1<=j->j<=14->(k==j)=false:=fun j h1 h2=>by simp;omega
  unfold ww rZ
  simp only[hn 1 (by omega) (by omega),hn 2 (by omega) (by omega),hn 3 (by omega) (by omega),hn 4 (by omega) (by omega),hn 5 (by omega) (by omega),hn 6 (by omega) (by omega),hn 7 (by omega) (by omega),hn 8 (by omega) (by omega),hn 9 (by omega) (by omega),hn 10 (by omega) (by omega),hn 11 (by omega) (by omega),hn 12 (by omega) (by omega),hn 13 (by omega) (by omega),hn 14 (by omega) (by omega),obs,Bool.false_eq_true,if_false]
  rw[if_neg (by omega),if_neg (by omega),if_neg (by omega)]
def mZ (k:Int) (x:ai):Bool:=if k=13 then decide (x.aa=2)||decide (x.aa=3) else if k=14 then decide (x.aa=2)||(decide (x.aa=3)||decide (x.aa=4)) else true
def RN (e:ai):Bool:=decide ((e.az.length:Int)=rZ e.aa)&&((decide (e.aa=1)||decide (e.cj=0))&&((decide (e.aa=2)||e.af==[])&&((!decide (e.aa=1)||(decide (e.cj >= 0)&&decide (e.cj<=999999999)))&&(!decide (e.aa=2)||dw e.af))))
def Bu (e:ai):Bool:=RN e&&e.az.all (mZ e.aa)
theorem CB {l} (hl:l.length<=1000000) {q b} (hq:∀ y,q y=some (b y)):cw l q=some (l.any b):=by
 unfold cw gl
 rw[CO (dv l q) (b:=b) (by omega) (fun n x=>by rw[dv];simp only[hq,obs]),obs,ry,obs,vH]
theorem Wc (x c:ai):qY x c=some (if x.aa=2 then false else if x.aa=3 then false else if x.aa=4 then decide (c.aa=13) else true):=by
 unfold qY
 by_cases h2:x.aa=2
 ·simp[h2]
 ·by_cases h3:x.aa=3
  ·simp[h3]
  ·by_cases h4:x.aa=4
   ·by_cases h5:c.aa=13<;>simp[h4,h5]
   ·simp[h2,h3,h4]
theorem Aq {e} (hl:e.az.length<=1000000):uV e=some (Bu e):=by
 unfold uV Bu RN
 rw[PY,obs]
 by_cases h0:(e.az.length:Int)=rZ e.aa
 ·by_cases h1:e.aa=1
  ·have k1:e.az.all (mZ e.aa)=true:=by simp[mZ,h1]
   rw[k1]
   by_cases hn:(e.af==[])=true
   ·by_cases g:e.cj >= 0<;>by_cases g':e.cj<=999999999<;>simp_all [obs]<;>(split<;>simp_all<;>omega)
   ·simp_all [obs]
  ·by_cases h2:e.aa=2
   ·have k1:e.az.all (mZ e.aa)=true:=by simp[mZ,h2]
    rw[k1,kX]
    by_cases hm:e.cj=0<;>simp_all [obs]
   ·by_cases hm:e.cj=0
    ·by_cases hn:(e.af==[])=true
     ·have hn':e.af=[]:=by simpa using hn
      by_cases h3:e.aa=13
      ·rw[CB hl (fun y=>Wc y e)]
       simp only[h0,h3,hm,hn',obs]
       simp
       rw[Bool.eq_iff_iff]
       simp[mZ]
      ·by_cases h4:e.aa=14
       ·rw[CB hl (fun y=>Wc y e)]
        simp only[h0,h4,hm,hn',obs]
        simp
        rw[Bool.eq_iff_iff]
        simp[mZ]
       ·have k1:e.az.all (mZ e.aa)=true:=by simp[mZ,h3,h4]
        rw[k1]
        simp[h0,h1,h2,hm,hn',h3,h4,obs]
     ·simp_all [obs]
    ·simp_all [obs]
 ·simp[h0,obs]
def fS (e:ai):Bool:=(JK e).all Bu
theorem MI : ∀ l:List ai,(sb l).all Bu=l.all fS
 | []=>rfl
 | x::l=>by simp only[sb,all_append,all_cons,MI l,fS]
theorem Vn (e:ai):fS e=(Bu e&&e.az.all fS):=by
 obtain⟨k,n,nm,l⟩:=e
 show (JK ⟨k,n,nm,l⟩).all Bu=_
 rw[JK,all_cons,MI]
mutual
def dE : ai->Nat
 | ⟨_,_,_,l⟩=>1+dEL l
def dEL : List ai->Nat
 | []=>0
 | x::l=>max (dE x) (dEL l)
end
theorem Ju (e:ai):dE e=1+dEL e.az:=by cases e;simp only[dE]
theorem Uk : ∀ (l:List ai) (m:Nat),dEL l<=m↔∀ x∈l,dE x<=m
 | [],m=>by simp[dEL]
 | x::l,m=>by
  have:=Uk l m
  simp only[dEL,mem_cons,forall_eq_or_imp,<- this]
  omega
theorem acH : ∀ (m:Nat) (e:ai),bL e<=m->dE e<=bL e
 | 0,e,h=>by have:=sD e;omega
 | m+1,e,h=>by
  have h1:=sD e
  rw[Ju,h1]
  have:dEL e.az<=dL e.az:=(Uk _ _).2 fun x hx=>by
   have h2:=PM hx
   have:=acH m x (by omega)
   omega
  omega
theorem CT {l} (hl:l.length<=1000000) {q b} (hq:∀ y∈l,q y=some (b y)):cw l q=some (l.any b):=by
 unfold cw gl
 rw[CO (dv l q) (b:=b) (by omega) (fun n x=>by
  rw[dv]
  cases h:idx l x with
  | none=>rfl
  | some y=>simp only[hq y (ui h),obs]),obs,ry,obs,vH]
theorem Cu : ∀ (m n:Nat) (e:ai),2 * m+2<=n->m<=1000->bL e<=1000000->lZ n e (m:Int)=some (decide (dE e<=m))
 | 0,n+1,e,_,_,_=>by
  have:=Ju e
  rw[lZ,if_pos (by simp)]
  simp;omega
 | m+1,n+2,e,hn,hm,he=>by
  have hk:=Kr e
  rw[lZ,if_neg (by simp;omega),CT (b:=fun y=> !decide (dE y<=m)) (by omega) (fun y hy=>by
   have:=we hy
   rw[oh,show ae (((m+1:Nat):Int) - 1)=(m:Int) by rw[w64 (by omega) (by omega)];omega,Cu m n y (by omega) (by omega) (by omega),obs]),obs]
  congr 1
  rw[Bool.eq_iff_iff]
  have h1:=Uk e.az m
  have h2:=Ju e
  simp
  rw[h2]
  constructor
  ·intro h
   have:=h1.2 h
   omega
  ·intro h
   exact h1.1 (by omega)
theorem LM {k:Int} (h:1<=k/\k<=14):xG k=some (rZ k):=by
 rcases Na h with rfl | rfl | rfl | rfl | rfl | rfl | rfl | rfl | rfl | rfl | rfl | rfl | rfl | rfl<;>rfl
theorem J5 : ∀ l:List ai,(∀ x∈l,x.az.length<=1000000)->DQ pJ l ()=some (if l.all Bu=true then .next () else .stop ())
 | [],_=>rfl
 | x::l,h=>by
  by_cases hp:Bu x=true
  ·have hx:(x::l).all Bu=l.all Bu:=by rw[all_cons,hp,Bool.true_and]
   simp only[DQ,pJ,Aq (h x (by simp)),obs,hx,hp,Bool.not_true,Bool.false_eq_true,if_false,Ctl.elim]
   exact J5 l (fun y hy=>h y (by simp[hy]))
  ·have hx:(x::l).all Bu=false:=by rw[all_cons,Bool.eq_false_iff.2 hp,Bool.false_and]
   simp only[DQ,pJ,Aq (h x (by simp)),obs,hx,Bool.eq_false_iff.2 hp,Bool.not_false,if_true,Ctl.elim,Bool.false_eq_true,if_false]
mutual
theorem UQ : ∀ e:ai,∀ x∈JK e,x.az.length < bL e
 | ⟨k,n,nm,l⟩,x,hx=>by
  simp only[JK,mem_cons] at hx
  have h1:=Qk l
  rcases hx with rfl | hx
  ·simp only[bL];omega
  ·have:=QO l x hx
   simp only[bL];omega
theorem QO : ∀ l:List ai,∀ x∈sb l,x.az.length < dL l
 | [],x,hx=>by simp[sb] at hx
 | y::l,x,hx=>by
  simp only[sb,mem_append] at hx
  simp only[dL]
  rcases hx with hx | hx
  ·have:=UQ y x hx;omega
  ·have:=QO l x hx;omega
end
def fU (e:ai):Bool:=decide (dE e<=20)&&fS e
theorem wm {e} (he:bL e<=1000000):qm e=some (fU e):=by
 unfold qm fU Dm
 rw[show (20:Int)=((20:Nat):Int) from rfl,Cu 20 _ e (by decide) (by omega) he,obs]
 by_cases hd:dE e<=20
 ·rw[decide_eq_true hd,if_neg (by simp),obs]
  unfold Ib
  rw[if_pos he,obs,J5 _ (fun x hx=>by have:=UQ e x hx;omega),obs]
  unfold fS
  by_cases ha:(JK e).all Bu=true
  ·rw[if_pos ha,ha];rfl
  ·rw[if_neg ha,Bool.eq_false_iff.2 ha];rfl
 ·rw[decide_eq_false hd,if_pos (by simp)];simp
theorem adk {e} (he:e.az.length<=1000000) {rec} (hr:∀ y∈e.az,rec y=some (fS y)):
  ni e rec ((((e.az.length:Int):Int) - (0)).toNat+1) 0=some (if e.az.any (fun y=> !(fS y&&mZ e.aa y))=true then .stop false else .next ()):=by
 refine XQ (ni e rec) (by omega) fun n x=> ?_
 rw[ni]
 cases h:idx e.az x with
 | none=>rfl
 | some y=>
  simp only[obs,hr y (ui h)]
  congr 1
  cases hf:fS y with
  | false=>simp[obs]
  | true=>
   by_cases h0:e.aa=13
   ·by_cases a:y.aa=2
    ·simp[h0,a,mZ,obs]
    ·by_cases b:y.aa=3
     ·simp[h0,b,mZ,obs]
     ·simp[h0,a,b,mZ,obs]
   ·by_cases h1:e.aa=14
    ·by_cases a:y.aa=2
     ·simp[h1,a,mZ,obs]
     ·by_cases b:y.aa=3
      ·simp[h1,b,mZ,obs]
      ·by_cases c:y.aa=4
       ·simp[h1,c,mZ,obs]
       ·simp[h1,a,b,c,mZ,obs]
    ·simp[h0,h1,mZ,obs]
theorem Rl (k:Int):∀ l:List ai,l.any (fun y=> !(fS y&&mZ k y))= !(l.all (mZ k)&&l.all fS)
 | []=>rfl
 | x::l=>by
  rw[any_cons,all_cons,all_cons,Rl k l]
  cases fS x<;>cases mZ k x<;>cases l.all (mZ k)<;>cases l.all fS<;>rfl
theorem AA : ∀ (n:Nat) (e:ai),bL e<=1000000->bL e < n->li n e=some (fS e)
 | n+1,e,he,hn=>by
  have hk:=Kr e
  have hfl:=adk (e:=e) (by omega) (rec:=li n) (fun y hy=>AA n y (by have:=we hy;omega) (by have:=we hy;omega))
  rw[li,hfl,Vn,Bu]
  rw[Rl]
  generalize e.az.all (mZ e.aa)=A
  generalize e.az.all fS=B
  unfold RN
  by_cases hr:1<=e.aa/\e.aa<=14
  ·rw[if_neg (by simp;omega),if_neg (by simp;omega),LM hr,obs]
   by_cases h0:(e.az.length:Int)=rZ e.aa
   ·by_cases h1:e.aa=1
    ·by_cases hn:e.af=[]
     ·by_cases g:e.cj < 0
      ·cases A<;>cases B<;>simp[h0,h1,hn,g,obs]<;>omega
      ·by_cases g':e.cj > 999999999
       ·cases A<;>cases B<;>simp[h0,h1,hn,g,g',obs]<;>omega
       ·cases A<;>cases B<;>simp[h0,h1,hn,g,g',obs,Ctl.elim]<;>omega
     ·cases A<;>cases B<;>simp[h0,h1,hn,obs]
    ·by_cases h2:e.aa=2
     ·by_cases hm:e.cj=0
      ·cases hN:dw e.af<;>cases A<;>cases B<;>simp[h0,h2,hm,hN,jS,obs,Ctl.elim]
      ·cases A<;>cases B<;>simp[h0,h2,hm,obs]
     ·by_cases hm:e.cj=0
      ·by_cases hn:e.af=[]
       ·cases A<;>cases B<;>simp[h0,h1,h2,hm,hn,obs,Ctl.elim]
       ·cases A<;>cases B<;>simp[h0,h1,h2,hm,hn,obs]
      ·cases A<;>cases B<;>simp[h0,h1,h2,hm,obs]
   ·simp[h0,obs]
  ·have hk1:(e.az.length:Int)≠rZ e.aa:=by unfold rZ;rw[if_neg (by omega),if_neg (by omega),if_neg (by omega)];omega
   by_cases h1:e.aa < 1
   ·simp[h1,hk1,obs]
   ·simp[h1,show e.aa > 14 by omega,hk1,obs]
theorem YJ {e} (he:e.az.length<=1000000) {rec} (hr:∀ y∈e.az,rec y=some (dE y:Int)):
  ∀ (n k:Nat) (m:Nat),n+k=e.az.length+1->k<=e.az.length->ny e rec n (m:Int) (k:Int)=some ((max m (dEL (e.az.drop k)):Nat):Int)
 | 0,k,m,h,hk=>by omega
 | n+1,k,m,h,hk=>by
  rw[ny]
  by_cases hlt:k < e.az.length
  ·rw[if_pos (by simpa using hlt),cU hlt,obs,hr _ (getElem_mem hlt),obs,cn hlt (by omega),drop_eq_getElem_cons hlt,dEL,
    show (if(dE e.az[k]:Int) > (m:Int) then(dE e.az[k]:Int) else(m:Int))=((max m (dE e.az[k]):Nat):Int) by split<;>omega,YJ he hr n (k+1) _ (by omega) (by omega)]
   congr 2;omega
  ·rw[if_neg (by simpa using hlt),drop_eq_nil_of_le (by omega),dEL]
   congr 2;omega
theorem wb : ∀ (n:Nat) (e:ai),bL e<=1000000->bL e < n->ik n e=some (dE e:Int)
 | n+1,e,he,hn=>by
  have hk:=Kr e
  have hd:=acH _ e (Nat.le_refl _)
  have h1:=Ju e
  have hl:ny e (ik n) ((((e.az.length:Int):Int) - (0)).toNat+1) 0 0=some ((max 0 (dEL (e.az.drop 0)):Nat):Int):=YJ (e:=e) (by omega) (rec:=ik n) (fun y hy=>wb n y (by have:=we hy;omega) (by have:=we hy;omega)) ((((e.az.length:Int):Int) - (0)).toNat+1) 0 0 (by omega) (by omega)
  rw[ik,hl,obs,drop_zero,w64 (by omega) (by omega)]
  congr 1;omega
theorem yG {e} (he:bL e<=1000000):qx e=some (fU e):=by
 unfold qx fU
 rw[AA _ e he (by omega),obs]
 cases fS e with
 | false=>simp
 | true=>rw[if_pos rfl,wb _ e he (by omega),obs,Bool.and_true];simp;omega
theorem UA {l} (hl:l.length<=1000000) {q b} (hq:∀ y∈l,q y=some (b y)):eD l q=some (l.any b):=by
 unfold eD im
 rw[CO (eF l q) (b:=b) (by omega) (fun n x=>by
  rw[eF]
  cases h:idx l x with
  | none=>rfl
  | some y=>simp only[hq y (ui h),obs]),obs,ry,obs,vH]
theorem Zi {l} (hl:l.length<=1000000) {q b} (hq:∀ y∈l,q y=some (b y)):fG l q=some (l.any b):=by
 unfold fG jc
 rw[CO (fy l q) (b:=b) (by omega) (fun n x=>by
  rw[fy]
  cases h:idx l x with
  | none=>rfl
  | some y=>simp only[hq y (ui h),obs]),obs,ry,obs,vH]
theorem S9 {l} (hl:l.length<=1000000) {q b} (hq:∀ y∈l,q y=some (b y)):eA l q=some (l.any b):=by
 unfold eA ir
 rw[CO (eH l q) (b:=b) (by omega) (fun n x=>by
  rw[eH]
  cases h:idx l x with
  | none=>rfl
  | some y=>simp only[hq y (ui h),obs]),obs,ry,obs,vH]
theorem Sc {l} (hl:l.length<=1000000) {q b} (hq:∀ y∈l,q y=some (b y)):dT l q=some (l.any b):=by
 unfold dT ig
 rw[CO (et l q) (b:=b) (by omega) (fun n x=>by
  rw[et]
  cases h:idx l x with
  | none=>rfl
  | some y=>simp only[hq y (ui h),obs]),obs,ry,obs,vH]
theorem MO {l} (hl:l.length<=1000000) {q b} (hq:∀ y∈l,q y=some (b y)):ea l q=some (l.any b):=by
 unfold ea iM
 rw[CO (fc l q) (b:=b) (by omega) (fun n x=>by
  rw[fc]
  cases h:idx l x with
  | none=>rfl
  | some y=>simp only[hq y (ui h),obs]),obs,ry,obs,vH]
theorem ZO {l} (hl:l.length<=1000000) {q b} (hq:∀ y∈l,q y=some (b y)):ew l q=some (l.any b):=by
 unfold ew fK
 rw[CO (dU l q) (b:=b) (by omega) (fun n x=>by
  rw[dU]
  cases h:idx l x with
  | none=>rfl
  | some y=>simp only[hq y (ui h),obs]),obs,ry,obs,vH]
theorem xC {α:Type} (l:List α) (b:α->Bool):(!l.any fun y=> !b y)=l.all b:=by
 induction l with
 | nil=>rfl
 | cons x l ih=>simp only[any_cons,all_cons,Bool.not_or,Bool.not_not,ih]
theorem EH {α:Type} {l:List α} {b c:α->Bool} (h:∀ y∈l,b y=c y):l.all b=l.all c:=by
 induction l with
 | nil=>rfl
 | cons x l ih=>rw[all_cons,all_cons,h x (by simp),ih fun y hy=>h y (by simp[hy])]
theorem rE {α:Type} {l:List α} (L:Nat->Int->Option (Ctl Bool Unit)) {f:α->Option Bool} {b:α->Bool} (hl:l.length<=1000000) (hq:∀ y∈l,f y=some (b y))
  (hL:∀ (n:Nat) (x:Int),L (n+1) x=if decide (x < (l.length:Int))=true then Option.bind (idx l x) fun y=>Option.bind (f y) fun c=>if(!c)=true then some (.stop false) else L n (ae (x+1)) else some (.next ())):
  L ((((l.length:Int):Int) - (0)).toNat+1) 0=some (if l.all b=true then .next () else .stop false):=by
 rw[XQ L (b:=fun y=> !b y) (r:=false) (by omega) (fun n x=>by
  rw[hL]
  cases h:idx l x with
  | none=>rfl
  | some y=>simp only[hq y (ui h),obs])]
 rw[<- xC]
 cases l.any fun y=> !b y<;>rfl
theorem ii {α:Type} {c:Bool} {x y:α}:(if c=true then some x else some y)=some (if c=true then x else y):=by cases c<;>rfl
theorem acl {R S:Type} {c:Bool} {a b:Ctl (Option R) S} {f:S->Option R}:Ctl.go (if c=true then a else b) f=if c=true then Ctl.go a f else Ctl.go b f:=by cases c<;>rfl
theorem afd {R S:Type} {s:S} {f:S->Option R}:Ctl.go (.next s) f=f s:=rfl
theorem aeD {R S:Type} {o:Option R} {f:S->Option R}:Ctl.go (.stop o) f=o:=rfl
theorem gob {α R S:Type} {a:α} {f:α->Ctl (Option R) S}:nU (some a) f=f a:=rfl
theorem Bc {R S T:Type} {s:S} {f:R->Option T} {g:S->Option T}:Ctl.elim (.next s) f g=g s:=rfl
theorem C9 {R S T:Type} {r:R} {f:R->Option T} {g:S->Option T}:Ctl.elim (.stop r) f g=f r:=rfl
theorem CR {R S T:Type} {c:Bool} {a b:Ctl R S} {f:R->Option T} {g:S->Option T}:Ctl.elim (if c=true then a else b) f g=if c=true then Ctl.elim a f g else Ctl.elim b f g:=by cases c<;>rfl
def wv (e:ai):Bool:=decide (e.aa=0)&&(decide (e.cj=0)&&(e.af==[]&&decide (e.az.length=0)))
theorem adf (n:Nat):((n:Int)==0)=decide (n=0):=by rw[Bool.eq_iff_iff];simp
theorem afw (n:Nat):decide ((n:Int) > 0)= !decide (n=0):=by rw[Bool.eq_iff_iff];simp;omega
theorem PK (e:ai):uC e=some (wv e):=by
 unfold uC
 rw[qH]
 unfold iO wv
 by_cases h:e.az.length=0
 ·have h1:((e.az.length:Int) != ((([]:List ai).length:Nat):Int))=false:=by rw[h];rfl
  have h2:e.az=[]:=eq_nil_of_length_eq_zero h
  simp only[h1,Bool.false_eq_true,if_false,h2]
  cases hk:decide (e.aa=0)<;>cases hn:decide (e.cj=0)<;>cases hs:(e.af==[])<;>simp_all [gQ,Bc]
 ·have h1:((e.az.length:Int) != ((([]:List ai).length:Nat):Int))=true:=by simp;intro e2;exact h (by simp[e2])
  simp only[h1,if_true,obs]
  cases hk:decide (e.aa=0)<;>cases hn:decide (e.cj=0)<;>cases hs:(e.af==[])<;>simp_all
theorem Gq (n:Nat) (e:ai):gU (n+1) e cA=some (wv e):=by
 rw[gU]
 unfold wv
 by_cases h:e.az.length=0
 ·have h1:((e.az.length:Int) != ((([]:List ai).length:Nat):Int))=false:=by rw[h];rfl
  have h2:e.az=[]:=eq_nil_of_length_eq_zero h
  simp only[h1,h2]
  cases hk:decide (e.aa=0)<;>cases hn:decide (e.cj=0)<;>cases hs:(e.af==[])<;>simp_all [lz,obs,Bc]
 ·have h1:((e.az.length:Int) != ((([]:List ai).length:Nat):Int))=true:=by simp;intro e2;exact h (by simp[e2])
  simp only[h1]
  cases hk:decide (e.aa=0)<;>cases hn:decide (e.cj=0)<;>cases hs:(e.af==[])<;>simp_all [obs]
def zT : bZ:={ aa:=0,bu:=[],fN:=0,am:=⟨aq,aq,aq,aq⟩ }
def xS (s:ah):Bool:=if s.aa=1\/s.aa=2\/s.aa=5\/s.aa=6\/s.aa=7 then dw s.fX else if s.aa=4 then s.fX==[]||dw s.fX else s.fX==[]
def yS (s:ah):Bool:=if s.aa=2\/s.aa=3\/s.aa=4 then dw s.fY||s.fY==[116,104,105,115] else if s.aa=7\/s.aa=8 then dw s.fY else s.fY==[]
def nS (s:ah):Bool:=if s.aa=2\/s.aa=3\/s.aa=4 then dw s.af else s.af==[]
def tS (m:Int) (s:ah):Bool:=if s.aa=5\/s.aa=6 then decide (s.av.aa=2)&&uh s.av m else jp s.av zT
def eS8 (s:ah):Bool:=if s.aa=1\/s.aa=3\/s.aa=9\/s.aa=10 then fU s.fE else if s.aa=6 then fU s.fE&&(decide (s.fE.aa=2)||(decide (s.fE.aa=3)||decide (s.fE.aa=4))) else if s.aa=11 then wv s.fE||fU s.fE else wv s.fE
def aS (s:ah):Bool:=if s.aa=4 then decide (s.bN.length<=5)&&s.bN.all fU else decide (s.bN.length=0)
def bS (s:ah):Bool:=(decide (s.aa=9)||(decide (s.aa=10)||decide (s.au.length=0)))&&(decide (s.aa=9)||decide (s.aZ.length=0))
def Ca (m:Int) (s:ah):Bool:=decide (1<=s.aa/\s.aa<=11)&&(xS s&&(yS s&&(nS s&&(tS m s&&(eS8 s&&(aS s&&bS s))))))
theorem Cj {k:Int} (h:1<=k/\k<=11):k=1\/k=2\/k=3\/k=4\/k=5\/k=6\/k=7\/k=8\/k=9\/k=10\/k=11:=by omega
theorem aaj {s} {h:Int} (hk:1<=s.aa/\s.aa<=11) (hh:rk s.aa=some h):uH s h=some (xS s&&(yS s&&nS s)):=by
 unfold uH xS yS nS
 rcases Cj hk with e | e | e | e | e | e | e | e | e | e | e
 all_goals
  rw[e] at hh
  obtain rfl:=Option.some.inj hh
  simp only[e,kX,obs,gob,ii,acl,afd,aeD]
  generalize dw s.fX=A
  generalize dw s.fY=B
  generalize dw s.af=C
  generalize (s.fX==[])=D
  generalize (s.fY==[])=E
  generalize (s.af==[])=F
  generalize (s.fY==[116,104,105,115])=H
  clear hh hk e
  revert A B C D E F H
  decide +kernel
theorem ieq (a b:Int):(a==b)=decide (a=b):=by rw[Bool.eq_iff_iff];simp
theorem ine (a b:Int):(a != b)= !decide (a=b):=by rw[Bool.eq_iff_iff];simp
theorem afx (n:Nat):decide ((n:Int)=0)=decide (n=0):=by rw[Bool.eq_iff_iff];simp
theorem ile (n:Nat):decide ((n:Int)<=5)=decide (n<=5):=by rw[Bool.eq_iff_iff];simp;omega
theorem JS {e} (h:wv e=true):fU e=false:=by
 unfold wv at h
 unfold fU
 rw[Vn]
 unfold Bu RN
 simp only[Bool.and_eq_true,decide_eq_true_eq] at h
 have h2:decide ((((0:Nat):Int))=rZ 0)=false:=by decide
 rw[h.1,h.2.2.2,h2]
 simp
theorem abE {s} {h m:Int} (hk:1<=s.aa/\s.aa<=11) (hh:rk s.aa=some h) (he:bL s.fE<=1000000) (hl:s.bN.length<=1000000) (ha:∀ y∈s.bN,bL y<=1000000):wy s h m=some (tS m s&&(eS8 s&&aS s)):=by
 have hc:cw s.bN (fun z=>ti z)=some (s.bN.any fun y=> !fU y):=CT hl (fun y hy=>by
  unfold ti
  rw[wm (ha y hy)];rfl)
 unfold wy tS eS8 aS
 rcases Cj hk with e | e | e | e | e | e | e | e | e | e | e
 all_goals
  rw[e] at hh
  obtain rfl:=Option.some.inj hh
  simp only[e,hc,wq,wm he,PK,xC,zT,ieq,ine,afx,ile,obs,gob,ii,acl,afd,aeD]
  have hn:= @JS s.fE
  revert hn
  generalize jp s.av _=A
  generalize uh s.av m=B
  generalize fU s.fE=C
  generalize wv s.fE=D
  generalize s.bN.all _=E
  generalize decide (s.bN.length=0)=F
  generalize decide (s.bN.length<=5)=H
  generalize decide (s.av.aa=2)=I
  generalize decide (s.fE.aa=2)=J
  generalize decide (s.fE.aa=3)=K
  generalize decide (s.fE.aa=4)=L
  clear hc hh hk e he hl ha
  revert A B C D E F H I J K L
  decide +kernel
def sR : Nat->Int->ah->Bool
 | 0,_,_=>false
 | n+1,m,s=>Ca m s&&(s.au.all (sR n m)&&s.aZ.all (sR n m))
theorem acd {k:Int} (h:¬ (1<=k/\k<=11)):rk k=some 0:=by
 unfold rk
 simp only[ieq]
 repeat' split
 all_goals first | rfl | (simp only[decide_eq_true_eq] at *;omega)
theorem aeb {k:Int} (h:1<=k/\k<=11):∃ r,rk k=some r/\(r==0)=false:=by
 rcases Cj h with e | e | e | e | e | e | e | e | e | e | e
 all_goals exact⟨_,by rw[e];rfl,by decide⟩
theorem aaH {s} {h:Int} (hk:1<=s.aa/\s.aa<=11) (hh:rk s.aa=some h):
  (if((yC .i64 h 128)==0)=true then(if(decide ((s.au.length:Int) > 0))=true then some true else if((yC .i64 h 256)==0)=true then some (decide ((s.aZ.length:Int) > 0)) else some false)
   else(if((yC .i64 h 256)==0)=true then some (decide ((s.aZ.length:Int) > 0)) else some false):Option Bool)=some (!bS s):=by
 unfold bS
 rcases Cj hk with e | e | e | e | e | e | e | e | e | e | e
 all_goals
  rw[e] at hh
  obtain rfl:=Option.some.inj hh
  simp only[e,afw,ii]
  generalize decide (s.au.length=0)=A
  generalize decide (s.aZ.length=0)=B
  clear hh hk e
  revert A B
  decide +kernel
theorem VH {m:Int} {s} (h:¬ (1<=s.aa/\s.aa<=11)):Ca m s=false:=by unfold Ca;rw[decide_eq_false h];rfl
theorem wA {s y} (h:y∈s.au):cc y+2<=cc s:=by
 have h1:=lI s
 have h2:=qq h
 have h3:=QJ s.fE
 omega
theorem xh {s y} (h:y∈s.aZ):cc y+2<=cc s:=by
 have h1:=lI s
 have h2:=qq h
 have h3:=QJ s.fE
 omega
theorem uo : ∀ l:List ah,l.length<=cC l
 | []=>by simp
 | x::l=>by
  have:=uo l
  have h1:=lI x
  simp only[length_cons,cC];omega
theorem nW (s:ah):bL s.fE<=cc s/\s.bN.length<=cc s/\s.au.length<=cc s/\s.aZ.length<=cc s/\∀ y∈s.bN,bL y<=cc s:=by
 have h1:=lI s
 have h2:=Qk s.bN
 have h3:=uo s.au
 have h4:=uo s.aZ
 refine⟨by omega,by omega,by omega,by omega,fun y hy=> ?_⟩
 have:=PM hy
 omega
theorem vO (m:Int):∀ (f n:Nat) (s:ah),cc s+1<=f->n<=1000->cc s<=1000000->lG f s m (n:Int)=some (sR n m s)
 | 0,n,s,h,_,_=>by omega
 | 1,n,s,h,_,_=>by have h1:=lI s;have h3:=QJ s.fE;omega
 | f+2,n,s,hf,hn,hs=>by
  obtain⟨p1,p2,p3,p4,p5⟩:=nW s
  rw[lG]
  by_cases hk:1<=s.aa/\s.aa<=11
  ·obtain⟨h,hh,h0⟩:=aeb hk
   rw[hh]
   simp only[obs]
   cases n with
   | zero=>
    rw[if_pos (by simp)]
    simp only[obs,if_true,sR]
   | succ n=>
    have hB:∀ y∈s.au,il (f+1) y m ((n+1:Nat):Int)=some (!sR n m y):=fun y hy=>by
     have:=wA hy
     rw[il,show ae (((n+1:Nat):Int) - 1)=(n:Int) by rw[w64 (by omega) (by omega)];omega,vO m f n y (by omega) (by omega) (by omega)]
     rfl
    have hE:∀ y∈s.aZ,il (f+1) y m ((n+1:Nat):Int)=some (!sR n m y):=fun y hy=>by
     have:=xh hy
     rw[il,show ae (((n+1:Nat):Int) - 1)=(n:Int) by rw[w64 (by omega) (by omega)];omega,vO m f n y (by omega) (by omega) (by omega)]
     rfl
    rw[if_neg (by simp;omega),h0]
    simp only[Bool.false_eq_true,if_false]
    rw[aaj hk hh,abE hk hh (by omega) (by omega) (fun y hy=>by have:=p5 y hy;omega),aaH hk hh,MO (by omega) hB,MO (by omega) hE]
    simp only[obs,ii,xC,sR,Ca]
    rw[decide_eq_true hk]
    generalize xS s=A
    generalize yS s=B
    generalize nS s=C
    generalize tS m s=D
    generalize eS8 s=E
    generalize aS s=F
    generalize bS s=H
    generalize s.au.all (sR n m)=I
    generalize s.aZ.all (sR n m)=J
    clear hB hE hh h0 hk hf hn hs p1 p2 p3 p4 p5
    revert A B C D E F H I J
    decide +kernel
  ·rw[acd hk]
   simp only[obs]
   have hx:(if((n:Int)==0)=true then some true else some true:Option Bool)=some true:=by split<;>rfl
   cases n with
   | zero=>rw[if_pos (by simp)];simp only[obs,if_true,sR]
   | succ n=>
    rw[if_neg (by simp;omega),if_pos (by decide)]
    simp only[obs,if_true,sR,VH hk,Bool.false_and]
theorem AK {s} (m:Int) (hs:cc s<=1000000):oz s m=some (sR 20 m s):=by
 unfold oz
 rw[show (20:Int)=((20:Nat):Int) from rfl,vO m _ 20 s (by omega) (by omega) hs]
 rfl
theorem w3 {a b c:Nat} (ha:a<=1000000) (hb:b<=1000000) (hc:c<=1000000):decide (ae ((ae ((a:Int)+(b:Int)))+(c:Int))=0)=(decide (a=0)&&(decide (b=0)&&decide (c=0))):=by
 rw[w64 (n:=(a:Int)+(b:Int)) (by omega) (by omega),w64 (by omega) (by omega),Bool.eq_iff_iff]
 simp;omega
theorem aai : jp dY dY=true:=by decide
theorem afh {s} (hl:s.bN.length<=1000000) (ha:∀ y∈s.bN,bL y<=1000000):mq s ((((s.bN.length:Int):Int) - (0)).toNat+1) 0=some (if s.bN.all fU=true then .next () else .stop false):=
 rE (mq s) hl (fun y hy=>yG (ha y hy)) (fun n x=>by rw[mq])
theorem acK : wv cA=true:=by decide
theorem Zu {s:ah} {m:Int} (hk:1<=s.aa/\s.aa<=11) (hs:cc s<=1000000):
  ((oY s).bind fun y3=>if(!y3)=true then some true else(sW s m).bind fun y6=>if(!y6)=true then some true else(tb s).bind fun y9=>some (!y9))=some (!Ca m s):=by
 obtain⟨p1,p2,p3,p4,p5⟩:=nW s
 have hA:=afh (s:=s) (by omega) (fun y hy=>by have:=p5 y hy;omega)
 have hn:= @JS s.fE
 have w1:=w3 (a:=s.bN.length) (b:=s.au.length) (c:=s.aZ.length) (by omega) (by omega) (by omega)
 have w2:=w3 (a:=0) (b:=s.au.length) (c:=s.aZ.length) (by omega) (by omega) (by omega)
 have w4:=w3 (a:=s.bN.length) (b:=0) (c:=s.aZ.length) (by omega) (by omega) (by omega)
 have w5:=w3 (a:=s.bN.length) (b:=0) (c:=0) (by omega) (by omega) (by omega)
 have l5:decide ((s.bN.length:Int) > 5)= !decide (s.bN.length<=5):=by rw[Bool.eq_iff_iff];simp;omega
 have z5:s.bN.length=0->s.bN.all fU=true/\s.bN.length<=5:=fun h=>⟨by rw[eq_nil_of_length_eq_zero h];rfl,by omega⟩
 have z6:decide (s.bN.length=0)=true->s.bN.all fU=true/\decide (s.bN.length<=5)=true:=fun h=>by
  have:=z5 (of_decide_eq_true h)
  exact⟨this.1,decide_eq_true this.2⟩
 unfold oY sW tb Ca xS yS nS tS eS8 aS bS
 rw[decide_eq_true hk]
 rcases Cj hk with e | e | e | e | e | e | e | e | e | e | e
 all_goals
  simp only[qM,e,ieq,ine,jS,zj,yG (show bL s.fE<=1000000 by omega),hA,l5,obs,ii,CR,Bc,C9,Int.reduceEq,decide_true,decide_false,Bool.false_eq_true,if_true,if_false]
  simp only[Gq,obs,ii]
  try simp only[length_nil]
  simp only[w1,w2,w4,w5]
  try simp only[acK]
  clear w1 w2 w4 w5 l5 z5 hA p1 p2 p3 p4 p5 hs hk e
  revert hn z6
  unfold zT
  generalize jp s.av _=A
  generalize uh s.av m=B
  generalize fU s.fE=C
  generalize wv s.fE=D
  generalize s.bN.all _=E
  generalize decide (s.bN.length=0)=F
  generalize decide (s.bN.length<=5)=H
  generalize decide (s.av.aa=2)=I
  generalize decide (s.fE.aa=2)=J
  generalize decide (s.fE.aa=3)=K
  generalize decide (s.fE.aa=4)=L
  generalize dw s.fX=M
  generalize dw s.fY=N
  generalize dw s.af=O
  generalize (s.fX==[])=Q
  generalize (s.fY==[])=R
  generalize (s.af==[])=S
  generalize (s.fY==[116,104,105,115])=T
  generalize decide (s.au.length=0)=U
  generalize decide (s.aZ.length=0)=V
  simp only[ge_iff_le,Int.reduceLE,decide_true,decide_false,beq_self_eq_true,aai,Bool.not_true,Bool.not_false,Bool.false_eq_true,if_true,if_false,ite_self,or_false,false_or,or_true,true_or,Bool.true_and,Bool.false_or,Bool.true_or]
  decide +kernel +revert
mutual
def fmS (m:Int):ah->Bool
 | ⟨k,x,y,nm,t,e,ar,bo,el,at'⟩=>Ca m ⟨k,x,y,nm,t,e,ar,bo,el,at'⟩&&(fmL m bo&&fmL m el)
def fmL (m:Int):List ah->Bool
 | []=>true
 | s::l=>fmS m s&&fmL m l
end
theorem OT (m:Int):∀ l:List ah,fmL m l=l.all (fmS m)
 | []=>rfl
 | s::l=>by rw[fmL,all_cons,OT m l]
theorem Li (m:Int) (s:ah):fmS m s=(Ca m s&&(s.au.all (fmS m)&&s.aZ.all (fmS m))):=by
 rw[<- OT,<- OT];cases s;rw[fmS]
mutual
def dSt : ah->Nat
 | ⟨_,_,_,_,_,_,_,bo,el,_⟩=>1+max (ul bo) (ul el)
def ul : List ah->Nat
 | []=>0
 | s::l=>max (dSt s) (ul l)
end
theorem Bl (s:ah):dSt s=1+max (ul s.au) (ul s.aZ):=by cases s;rw[dSt]
theorem qh : ∀ (l:List ah) (m:Nat),ul l<=m↔∀ x∈l,dSt x<=m
 | [],m=>by simp[ul]
 | x::l,m=>by
  have:=qh l m
  simp only[ul,mem_cons,forall_eq_or_imp,<- this]
  omega
mutual
def nSt : ah->Nat
 | ⟨_,_,_,_,_,_,_,bo,el,_⟩=>1+(gV bo+gV el)
def gV : List ah->Nat
 | []=>0
 | s::l=>nSt s+gV l
end
theorem Ks (s:ah):nSt s=1+(gV s.au+gV s.aZ):=by cases s;rw[nSt]
theorem Yj : ∀ (f:Nat) (s:ah),cc s<=f->dSt s<=cc s
 | 0,s,h=>by have:=lI s;omega
 | f+1,s,h=>by
  have h1:=lI s
  have h2:=Bl s
  have h3:=(qh s.au (cc s - 1)).2 fun x hx=>by have:=wA hx;have:=Yj f x (by omega);omega
  have h4:=(qh s.aZ (cc s - 1)).2 fun x hx=>by have:=xh hx;have:=Yj f x (by omega);omega
  omega
theorem Pk : ∀ (l:List ah),(∀ x∈l,nSt x<=cc x)->gV l<=cC l
 | [],_=>by simp[gV,cC]
 | x::l,h=>by
  have:=Pk l fun y hy=>h y (by simp[hy])
  have:=h x (by simp)
  simp only[gV,cC];omega
theorem Vl : ∀ (f:Nat) (s:ah),cc s<=f->nSt s<=cc s
 | 0,s,h=>by have:=lI s;omega
 | f+1,s,h=>by
  have h1:=lI s
  have h2:=Ks s
  have h3:=Pk s.au fun x hx=>Vl f x (by have:=wA hx;omega)
  have h4:=Pk s.aZ fun x hx=>Vl f x (by have:=xh hx;omega)
  omega
theorem WR (s:ah):Tot (qM s):=by
 unfold qM
 repeat' first | exact db _ | refine gu ?_ fun _ _=> ?_ | refine mC (fun _=> ?_) fun _=> ?_
theorem YN {s} (hk:¬ (1<=s.aa/\s.aa<=11)):oY s=some false:=by
 obtain⟨b,hb⟩:=WR s
 unfold oY
 rw[hb,obs]
 by_cases h1:s.aa >= 1
 ·rw[decide_eq_true h1,decide_eq_false (show ¬ s.aa<=11 by omega),if_pos rfl,if_neg (by decide)]
 ·rw[decide_eq_false h1,if_neg (by decide)]
theorem vM (m:Int):∀ (f:Nat) (s:ah),cc s+1<=f->cc s<=1000000->gx f s m=some (fmS m s)
 | 0,s,h,_=>by omega
 | f+1,s,hf,hs=>by
  obtain⟨p1,p2,p3,p4,p5⟩:=nW s
  have hB:nJ s m (gx f) ((((s.au.length:Int):Int) - (0)).toNat+1) 0=some (if s.au.all (fmS m)=true then .next () else .stop false):=
   rE (nJ s m (gx f)) (f:=fun y=>gx f y m) (by omega) (fun y hy=>vM m f y (by have:=wA hy;omega) (by have:=wA hy;omega)) (fun n x=>by rw[nJ])
  have hE:nv s m (gx f) ((((s.aZ.length:Int):Int) - (0)).toNat+1) 0=some (if s.aZ.all (fmS m)=true then .next () else .stop false):=
   rE (nv s m (gx f)) (f:=fun y=>gx f y m) (by omega) (fun y hy=>vM m f y (by have:=xh hy;omega) (by have:=xh hy;omega)) (fun n x=>by rw[nv])
  rw[gx,Li]
  by_cases hk:1<=s.aa/\s.aa<=11
  ·rw[Zu hk hs,hB,hE]
   simp only[obs,CR,Bc,C9,ii]
   generalize Ca m s=A
   generalize s.au.all _=B
   generalize s.aZ.all _=C
   clear hB hE hf hs hk p1 p2 p3 p4 p5
   revert A B C
   decide
  ·have ho:oY s=some false:=YN hk
   rw[ho,VH hk]
   simp[obs]
theorem Sh {s rec} (hl:s.au.length<=1000000) (hr:∀ y∈s.au,rec y=some (dSt y:Int)):
  ∀ (n k m:Nat),n+k=s.au.length+1->k<=s.au.length->pY s rec n (m:Int) (k:Int)=some ((max m (ul (s.au.drop k)):Nat):Int)
 | 0,k,m,h,hk=>by omega
 | n+1,k,m,h,hk=>by
  rw[pY]
  by_cases hlt:k < s.au.length
  ·rw[if_pos (by simpa using hlt),cU hlt,obs,hr _ (getElem_mem hlt),obs,cn hlt (by omega),drop_eq_getElem_cons hlt,ul,
    show (if(dSt s.au[k]:Int) > (m:Int) then(dSt s.au[k]:Int) else(m:Int))=((max m (dSt s.au[k]):Nat):Int) by split<;>omega,Sh hl hr n (k+1) _ (by omega) (by omega)]
   congr 2;omega
  ·rw[if_neg (by simpa using hlt),drop_eq_nil_of_le (by omega),ul]
   congr 2;omega
theorem Rj {s rec} (hl:s.aZ.length<=1000000) (hr:∀ y∈s.aZ,rec y=some (dSt y:Int)):
  ∀ (n k m:Nat),n+k=s.aZ.length+1->k<=s.aZ.length->pU s rec n (m:Int) (k:Int)=some ((max m (ul (s.aZ.drop k)):Nat):Int)
 | 0,k,m,h,hk=>by omega
 | n+1,k,m,h,hk=>by
  rw[pU]
  by_cases hlt:k < s.aZ.length
  ·rw[if_pos (by simpa using hlt),cU hlt,obs,hr _ (getElem_mem hlt),obs,cn hlt (by omega),drop_eq_getElem_cons hlt,ul,
    show (if(dSt s.aZ[k]:Int) > (m:Int) then(dSt s.aZ[k]:Int) else(m:Int))=((max m (dSt s.aZ[k]):Nat):Int) by split<;>omega,Rj hl hr n (k+1) _ (by omega) (by omega)]
   congr 2;omega
  ·rw[if_neg (by simpa using hlt),drop_eq_nil_of_le (by omega),ul]
   congr 2;omega
theorem wo : ∀ (f:Nat) (s:ah),cc s+1<=f->cc s<=1000000->jA f s=some (dSt s:Int)
 | 0,s,h,_=>by omega
 | f+1,s,hf,hs=>by
  obtain⟨p1,p2,p3,p4,p5⟩:=nW s
  have hd:=Yj _ s (Nat.le_refl _)
  have h1:=Bl s
  have a1:=Sh (s:=s) (rec:=jA f) (by omega) (fun y hy=>wo f y (by have:=wA hy;omega) (by have:=wA hy;omega)) (s.au.length+1) 0 0 (by omega) (by omega)
  have a2:=Rj (s:=s) (rec:=jA f) (by omega) (fun y hy=>wo f y (by have:=xh hy;omega) (by have:=xh hy;omega)) (s.aZ.length+1) 0 (max 0 (ul s.au)) (by omega) (by omega)
  rw[drop_zero,show ((0:Nat):Int)=0 from rfl] at a1 a2
  rw[jA]
  simp only[gq]
  rw[a1,obs,a2,obs,w64 (by omega) (by omega)]
  congr 1;omega
theorem Dq (m:Int):∀ (n f:Nat) (s:ah),cc s<=f->sR n m s=(fmS m s&&decide (dSt s<=n))
 | 0,f,s,_=>by
  have:=Bl s
  rw[sR,decide_eq_false (by omega),Bool.and_false]
 | n+1,0,s,h=>by have:=lI s;omega
 | n+1,f+1,s,h=>by
  rw[sR,Li,EH fun y hy=>Dq m n f y (by have:=wA hy;omega),EH (l:=s.aZ) fun y hy=>Dq m n f y (by have:=xh hy;omega)]
  have h1:=Bl s
  have h2:=qh s.au n
  have h3:=qh s.aZ n
  have all_and:∀ (l:List ah),(l.all fun y=>fmS m y&&decide (dSt y<=n))=(l.all (fmS m)&&decide (ul l<=n)):=fun l=>by
   have:=qh l n
   rw[Bool.eq_iff_iff]
   simp only[all_eq_true,Bool.and_eq_true,decide_eq_true_eq,this]
   exact⟨fun h=>⟨fun x hx=>(h x hx).1,fun x hx=>(h x hx).2⟩,fun h x hx=>⟨h.1 x hx,h.2 x hx⟩⟩
  rw[all_and,all_and]
  have h4:decide (dSt s<=n+1)=(decide (ul s.au<=n)&&decide (ul s.aZ<=n)):=by
   rw[Bool.eq_iff_iff];simp;omega
  rw[h4]
  generalize Ca m s=A
  generalize s.au.all _=B
  generalize s.aZ.all _=C
  generalize decide (ul s.au<=n)=D
  generalize decide (ul s.aZ<=n)=E
  revert A B C D E
  decide
theorem IB {s} (m:Int) (hs:cc s<=1000000):qz s m=some (sR 20 m s):=by
 unfold qz
 rw[vM m _ s (by omega) hs,wo _ s (by omega) hs,Dq m 20 _ s (Nat.le_refl _)]
 simp only[obs]
 cases fmS m s with
 | false=>simp
 | true=>rw[if_pos rfl,Bool.true_and];simp;omega
theorem Rr {s rec} (hl:s.au.length<=1000000) (hr:∀ y∈s.au,rec y=some (nSt y:Int)):
  ∀ (n k m:Nat),n+k=s.au.length+1->k<=s.au.length->m+gV (s.au.drop k)<=10000000->jO s rec n (m:Int) (k:Int)=some ((m+gV (s.au.drop k):Nat):Int)
 | 0,k,m,h,hk,_=>by omega
 | n+1,k,m,h,hk,hm=>by
  rw[jO]
  by_cases hlt:k < s.au.length
  ·rw[drop_eq_getElem_cons hlt,gV] at hm ⊢
   rw[if_pos (by simpa using hlt),cU hlt,obs,hr _ (getElem_mem hlt),obs,cn hlt (by omega),w64 (by omega) (by omega),show (m:Int)+(nSt s.au[k]:Int)=((m+nSt s.au[k]:Nat):Int) by omega,Rr hl hr n (k+1) _ (by omega) (by omega) (by omega)]
   congr 2;omega
  ·rw[if_neg (by simpa using hlt),drop_eq_nil_of_le (by omega),gV,Nat.add_zero]
theorem Sq {s rec} (hl:s.aZ.length<=1000000) (hr:∀ y∈s.aZ,rec y=some (nSt y:Int)):
  ∀ (n k m:Nat),n+k=s.aZ.length+1->k<=s.aZ.length->m+gV (s.aZ.drop k)<=10000000->jT s rec n (m:Int) (k:Int)=some ((m+gV (s.aZ.drop k):Nat):Int)
 | 0,k,m,h,hk,_=>by omega
 | n+1,k,m,h,hk,hm=>by
  rw[jT]
  by_cases hlt:k < s.aZ.length
  ·rw[drop_eq_getElem_cons hlt,gV] at hm ⊢
   rw[if_pos (by simpa using hlt),cU hlt,obs,hr _ (getElem_mem hlt),obs,cn hlt (by omega),w64 (by omega) (by omega),show (m:Int)+(nSt s.aZ[k]:Int)=((m+nSt s.aZ[k]:Nat):Int) by omega,Sq hl hr n (k+1) _ (by omega) (by omega) (by omega)]
   congr 2;omega
  ·rw[if_neg (by simpa using hlt),drop_eq_nil_of_le (by omega),gV,Nat.add_zero]
theorem sB : ∀ (f:Nat) (s:ah),cc s+1<=f->cc s<=1000000->fq f s=some (nSt s:Int)
 | 0,s,h,_=>by omega
 | f+1,s,hf,hs=>by
  obtain⟨p1,p2,p3,p4,p5⟩:=nW s
  have hd:=Vl _ s (Nat.le_refl _)
  have h1:=Ks s
  have a1:=Rr (s:=s) (rec:=fq f) (by omega) (fun y hy=>sB f y (by have:=wA hy;omega) (by have:=wA hy;omega)) (s.au.length+1) 0 1 (by omega) (by omega) (by rw[drop_zero];omega)
  have a2:=Sq (s:=s) (rec:=fq f) (by omega) (fun y hy=>sB f y (by have:=xh hy;omega) (by have:=xh hy;omega)) (s.aZ.length+1) 0 (1+gV s.au) (by omega) (by omega) (by rw[drop_zero];omega)
  rw[drop_zero,show ((0:Nat):Int)=0 from rfl] at a1 a2
  rw[fq]
  simp only[gq]
  rw[show (1:Int)=((1:Nat):Int) from rfl,a1,obs,a2,obs]
  congr 2;omega
def wrS (t:bZ) (m:Int):Bool:=uh t m&&((t.am.l.drop 1).all (fun o=> !decide (o.aa=7))&&(!decide (t.am.a0.aa=7)||decide (t.am.a0.fN=0)))
theorem Xc {α:Type} (l:List α) (b:α->Bool):(l.all fun y=> !b y)= !l.any b:=by
 induction l with
 | nil=>rfl
 | cons x l ih=>simp only[any_cons,all_cons,Bool.not_or,ih]
theorem ub (t:bZ) (m:Int):mN t m=some (wrS t m):=by
 have hc:jK t.am.l 1 (t.am.l.length:Int)=some (t.am.l.drop 1):=wQ (l:=t.am.l) (k:=1) (by show 1<=4;omega)
 unfold mN wrS
 rw[hc,obs,S9 (b:=fun o=>decide (o.aa=7)) (by rw[length_drop];show 4 - 1<=1000000;omega) (fun y _=>by rw[qV,ieq]),Xc]
 simp only[obs,wq,ieq,ine,ii]
 generalize List.any _ _=A
 generalize uh t m=B
 generalize decide (t.am.a0.aa=7)=C
 generalize decide (t.am.a0.fN=0)=D
 revert A B C D
 decide
theorem sn (t:bZ) (m:Int):lv t m=some (wrS t m):=by
 have hd:(t.am.l.drop 1)=[t.am.a1,t.am.a2,t.am.a3]:=rfl
 unfold lv wrS
 rw[hd]
 simp only[obs,zj,ieq,ine,ii,all_cons,all_nil]
 generalize uh t m=B
 generalize decide (t.am.a0.aa=7)=C
 generalize decide (t.am.a0.fN=0)=D
 generalize decide (t.am.a1.aa=7)=E
 generalize decide (t.am.a2.aa=7)=F
 generalize decide (t.am.a3.aa=7)=H
 revert B C D E F H
 decide
def J3 (m:Int) (v:cN):Bool:= !decide (v.av.aa=0)&&(dw v.af&&wrS v.av m)
def oT (l:List cN) (most:Nat) (m:Int):Bool:=decide (l.length<=most)&&l.all (J3 m)
theorem xL {l} (hl:l.length<=1000000) (most:Nat) (m:Int):np l (most:Int) m=some (oT l most m):=by
 have hd:decide ((l.length:Int)<=(most:Int))=decide (l.length<=most):=by rw[Bool.eq_iff_iff];simp
 unfold np oT
 rw[Zi (b:=fun v=> !J3 m v) hl (fun y _=>by
  unfold vG J3
  simp only[kX,ub,obs,ieq,ii]
  generalize decide (y.av.aa=0)=A
  generalize dw y.af=B
  generalize wrS y.av m=C
  revert A B C
  decide),hd]
 simp only[obs,xC,ii]
 generalize decide (l.length<=most)=A
 generalize l.all (J3 m)=B
 revert A B
 decide
theorem wg {l} (hl:l.length<=1000000) (most:Nat) (m:Int):jB l (most:Int) m=some (oT l most m):=by
 have hd:decide ((l.length:Int)<=(most:Int))=decide (l.length<=most):=by rw[Bool.eq_iff_iff];simp
 have hL:nB l m ((((l.length:Int):Int) - (0)).toNat+1) 0=some (if l.all (J3 m)=true then .next () else .stop false):=
  rE (nB l m) (f:=fun y=>some (J3 m y)) hl (fun _ _=>rfl) (fun n x=>by
   rw[nB]
   cases h:idx l x with
   | none=>rfl
   | some y=>
    simp only[jS,sn,obs,ieq,ii,J3]
    generalize decide (y.av.aa=0)=A
    generalize dw y.af=B
    generalize wrS y.av m=C
    cases A<;>cases B<;>cases C<;>rfl)
 unfold jB oT
 rw[hL,hd]
 simp only[obs,CR,Bc,C9,ii]
 generalize decide (l.length<=most)=A
 generalize l.all (J3 m)=B
 revert A B
 decide
mutual
def opS (m:Int):ah->Bool
 | ⟨_,_,_,_,t,_,_,bo,el,_⟩=>(!decide (t.aa=2)||wrS t m)&&(opL m bo&&opL m el)
def opL (m:Int):List ah->Bool
 | []=>true
 | s::l=>opS m s&&opL m l
end
theorem Af (m:Int):∀ l:List ah,opL m l=l.all (opS m)
 | []=>rfl
 | s::l=>by rw[opL,all_cons,Af m l]
theorem S7 (m:Int) (s:ah):opS m s=((!decide (s.av.aa=2)||wrS s.av m)&&(opL m s.au&&opL m s.aZ)):=by cases s;rw[opS]
theorem Wk (s:ah):cC s.au+2<=cc s/\cC s.aZ+2<=cc s:=by
 have h1:=lI s
 have h3:=QJ s.fE
 omega
theorem vU (m:Int):∀ (f:Nat) (l:List ah),cC l+1<=f->cC l<=1000000->fW f l m=some (opL m l)
 | 0,l,h,_=>by omega
 | f+1,l,hf,hs=>by
  have hl:=uo l
  have hL:nI l m (fW f) ((((l.length:Int):Int) - (0)).toNat+1) 0=some (if l.all (opS m)=true then .next () else .stop false):=
   rE (nI l m (fW f)) (f:=fun y=>if(y.av.aa==2)=true then(some (wrS y.av m)).bind fun a=>if(!a)=true then some false else(fW f y.au m).bind fun b=>if(!b)=true then some false else(fW f y.aZ m)
     else(fW f y.au m).bind fun b=>if(!b)=true then some false else(fW f y.aZ m)) (by omega) (fun y hy=>by
    have h1:=qq hy
    have h2:=Wk y
    rw[vU m f y.au (by omega) (by omega),vU m f y.aZ (by omega) (by omega),S7]
    simp only[obs,ieq,ii]
    generalize decide (y.av.aa=2)=A
    generalize wrS y.av m=B
    generalize opL m y.au=C
    generalize opL m y.aZ=D
    revert A B C D
    decide) (fun n x=>by
   rw[nI]
   cases h:idx l x with
   | none=>rfl
   | some y=>
    simp only[sn,obs]
    cases fW f y.au m with
    | none=>cases (y.av.aa==2)<;>cases wrS y.av m<;>rfl
    | some b=>cases fW f y.aZ m with
     | none=>cases (y.av.aa==2)<;>cases wrS y.av m<;>cases b<;>rfl
     | some c=>cases (y.av.aa==2)<;>cases wrS y.av m<;>cases b<;>cases c<;>rfl)
  rw[fW,hL,Af]
  simp only[obs,CR,Bc,C9,ii]
  generalize l.all (opS m)=A
  revert A
  decide
def bdL (m:Int) (l:List ah):Bool:=l.all (sR 20 m)&&opL m l
theorem Iu (m:Int):∀ (n:Nat) (s:ah),sR n m s=true->sR (n+1) m s=true
 | 0,s,h=>by simp[sR] at h
 | n+1,s,h=>by
  rw[sR] at h ⊢
  simp only[Bool.and_eq_true,all_eq_true] at h ⊢
  exact⟨h.1,fun y hy=>Iu m n y (h.2.1 y hy),fun y hy=>Iu m n y (h.2.2 y hy)⟩
theorem aaA {m:Int} {s} (h:sR 20 m s=true):s.au.all (sR 20 m)=true/\s.aZ.all (sR 20 m)=true:=by
 rw[show (20:Nat)=19+1 from rfl,sR] at h
 simp only[Bool.and_eq_true,all_eq_true] at h ⊢
 exact⟨fun y hy=>Iu m 19 y (h.2.1 y hy),fun y hy=>Iu m 19 y (h.2.2 y hy)⟩
theorem xp (m:Int):∀ (f:Nat) (l:List ah),cC l+1<=f->cC l<=1000000->gZ f l m=some (bdL m l)
 | 0,l,h,_=>by omega
 | f+1,l,hf,hs=>by
  have hl:=uo l
  have hL:pa l m (gZ f) ((((l.length:Int):Int) - (0)).toNat+1) 0=some (if l.all (fun s=>sR 20 m s&&opS m s)=true then .next () else .stop false):=
   rE (pa l m (gZ f)) (f:=fun y=>(oz y m).bind fun a=>if(!a)=true then some false else if(y.av.aa==2)=true then(some (wrS y.av m)).bind fun a=>if(!a)=true then some false else(gZ f y.au m).bind fun b=>if(!b)=true then some false else(gZ f y.aZ m)
     else(gZ f y.au m).bind fun b=>if(!b)=true then some false else(gZ f y.aZ m)) (by omega) (fun y hy=>by
    have h1:=qq hy
    have h2:=Wk y
    have h3:= @aaA m y
    rw[AK m (by omega),xp m f y.au (by omega) (by omega),xp m f y.aZ (by omega) (by omega),S7]
    simp only[obs,ieq,ii,bdL]
    revert h3
    generalize sR 20 m y=X
    generalize y.au.all (sR 20 m)=Y
    generalize y.aZ.all (sR 20 m)=Z
    generalize decide (y.av.aa=2)=A
    generalize wrS y.av m=B
    generalize opL m y.au=C
    generalize opL m y.aZ=D
    clear h1 h2 hl hf hs hy
    revert X Y Z A B C D
    decide +kernel) (fun n x=>by
   rw[pa]
   cases h:idx l x with
   | none=>rfl
   | some y=>
    simp only[ub,obs]
    cases oz y m with
    | none=>rfl
    | some r=>cases gZ f y.au m with
     | none=>cases r<;>cases (y.av.aa==2)<;>cases wrS y.av m<;>rfl
     | some b=>cases gZ f y.aZ m with
      | none=>cases r<;>cases (y.av.aa==2)<;>cases wrS y.av m<;>cases b<;>rfl
      | some c=>cases r<;>cases (y.av.aa==2)<;>cases wrS y.av m<;>cases b<;>cases c<;>rfl)
  have all_and:∀ (l:List ah),(l.all fun y=>sR 20 m y&&opS m y)=(l.all (sR 20 m)&&l.all (opS m)):=fun l=>by
   rw[Bool.eq_iff_iff]
   simp only[all_eq_true,Bool.and_eq_true]
   exact⟨fun h=>⟨fun x hx=>(h x hx).1,fun x hx=>(h x hx).2⟩,fun h x hx=>⟨h.1 x hx,h.2 x hx⟩⟩
  rw[gZ,hL,bdL,Af,all_and]
  simp only[obs,CR,Bc,C9,ii]
  generalize l.all (opS m)=A
  generalize l.all (sR 20 m)=B
  revert A B
  decide
def DI (m:Int) (x:br):Bool:=dw x.af&&(wrS x.aQ m&&(oT x.ac 5 m&&(oT x.bC 12 m&&bdL m x.au)))
structure BM (x:br):Prop where
 p:x.ac.length<=1000
 l:x.bC.length<=1000
 b:cC x.au<=1000000
theorem Ki {x} (h:BM x) (m:Int):tz x m=some (DI m x):=by
 have h1:np x.ac 5 m=some (oT x.ac 5 m):=xL (by have:=h.p;omega) 5 m
 have h2:np x.bC 12 m=some (oT x.bC 12 m):=xL (by have:=h.l;omega) 12 m
 unfold tz DI
 rw[kX,ub,h1,h2,xp m _ _ (Nat.le_refl _) h.b]
 simp only[obs,ii]
 generalize dw x.af=A
 generalize wrS x.aQ m=B
 generalize oT x.ac 5 m=C
 generalize oT x.bC 12 m=D
 generalize bdL m x.au=E
 revert A B C D E
 decide
theorem Gu {x} (h:BM x) (m:Int):pm x m=some (DI m x):=by
 have h1:jB x.ac 5 m=some (oT x.ac 5 m):=wg (by have:=h.p;omega) 5 m
 have h2:jB x.bC 12 m=some (oT x.bC 12 m):=wg (by have:=h.l;omega) 12 m
 have hb:=h.b
 have hl:=uo x.au
 have hL:kF x m ((((x.au.length:Int):Int) - (0)).toNat+1) 0=some (if x.au.all (sR 20 m)=true then .next () else .stop false):=
  rE (kF x m) (f:=fun y=>qz y m) (by omega) (fun y hy=>IB m (by have:=qq hy;omega)) (fun n z=>by rw[kF])
 unfold pm DI bdL
 rw[hL,jS,sn,h1,h2,vU m _ _ (Nat.le_refl _) hb]
 simp only[obs,CR,Bc,C9,ii]
 generalize dw x.af=A
 generalize wrS x.aQ m=B
 generalize oT x.ac 5 m=C
 generalize oT x.bC 12 m=D
 generalize x.au.all (sR 20 m)=E
 generalize opL m x.au=F
 clear hL h1 h2 hb hl h
 revert A B C D E F
 decide
def Lm (n:Int) (o:ay):Bool:=(decide (o.aa=2)||(decide (o.aa=3)||decide (o.aa=4)))&&kq o n
def hdS (c:be):Bool:=dw c.af&&(decide (c.ac.length<=3)&&(decide (c.bl.length<=3)&&(c.ac.all dw&&(if(c.cb==[])=true then decide (c.bl.length=0) else c.bl.all (Lm (c.ac.length:Int))&&dw c.cb))))
def clS (c:be):Bool:=hdS c&&(oT c.bn 12 (c.ac.length:Int)&&(decide (c.ak.length<=12)&&c.ak.all (DI (c.ac.length:Int))))
structure BC (c:be):Prop where
 p:c.ac.length<=1000
 a:c.bl.length<=1000
 f:c.bn.length<=1000
 m:c.ak.length<=1000
 ms:∀ x∈c.ak,BM x
theorem le3 (n:Nat):decide ((n:Int)<=3)=decide (n<=3):=by rw[Bool.eq_iff_iff];simp;omega
theorem gt3 (n:Nat):decide ((n:Int) > 3)= !decide (n<=3):=by rw[Bool.eq_iff_iff];simp;omega
theorem aek (n:Nat):decide ((n:Int)<=12)=decide (n<=12):=by rw[Bool.eq_iff_iff];simp;omega
theorem OH {c} (h:BC c):xi c=some (hdS c):=by
 have hp:=h.p
 have ha:=h.a
 have h1:ew c.ac (fun z=>sF z)=some (c.ac.any fun s=> !dw s):=ZO (by omega) (fun y _=>by rw[sF,kX];rfl)
 have h2:pw c ((((c.bl.length:Int):Int) - (0)).toNat+1) 0=some (if c.bl.all (Lm (c.ac.length:Int))=true then .next () else .stop false):=
  rE (pw c) (f:=fun y=>some (Lm (c.ac.length:Int) y)) (by omega) (fun _ _=>rfl) (fun n x=>by
   rw[pw]
   cases h:idx c.bl x with
   | none=>rfl
   | some y=>
    simp only[vw,obs,ieq,ii,Lm]
    generalize decide (y.aa=2)=A
    generalize decide (y.aa=3)=B
    generalize decide (y.aa=4)=C
    generalize kq y _=D
    cases A<;>cases B<;>cases C<;>cases D<;>rfl)
 unfold xi hdS
 rw[kX,kX,h1,h2,<- xC c.ac dw]
 simp only[obs,CR,Bc,C9,ii,gt3,adf]
 generalize dw c.af=A
 generalize dw c.cb=B
 generalize decide (c.ac.length<=3)=C
 generalize decide (c.bl.length<=3)=D
 generalize decide (c.bl.length=0)=E
 generalize (c.cb==[])=F
 generalize c.bl.all _=G
 generalize List.any c.ac _=H
 clear h1 h2 hp ha h
 revert A B C D E F G H
 decide +kernel
theorem TV : dw []=false:=by decide
theorem Lu {c} (h:BC c):vr c=some (clS c):=by
 have hf:np c.bn 12 (c.ac.length:Int)=some (oT c.bn 12 (c.ac.length:Int)):=xL (by have:=h.f;omega) 12 _
 have hm:dT c.ak (fun z=>rL z (c.ac.length:Int))=some (c.ak.any fun x=> !DI (c.ac.length:Int) x):=Sc (by have:=h.m;omega) (fun y hy=>by rw[rL,Ki (h.ms y hy)];rfl)
 unfold vr clS
 rw[OH h,hf,hm,aek,<- xC c.ak (DI (c.ac.length:Int))]
 simp only[obs,ii]
 generalize hdS c=A
 generalize oT _ _ _=B
 generalize decide (c.ak.length<=12)=C
 generalize List.any c.ak _=D
 clear hf hm h
 revert A B C D
 decide
theorem Jm {c} (h:BC c):sE c=some (clS c):=by
 have hp:=h.p
 have ha:=h.a
 have hm:=h.m
 have hf:jB c.bn 12 (c.ac.length:Int)=some (oT c.bn 12 (c.ac.length:Int)):=wg (by have:=h.f;omega) 12 _
 have h1:mo c ((((c.ac.length:Int):Int) - (0)).toNat+1) 0=some (if c.ac.all dw=true then .next () else .stop false):=
  rE (mo c) (f:=fun y=>eN y) (by omega) (fun y _=>jS y) (fun n x=>by rw[mo])
 have h2:mf c ((((c.bl.length:Int):Int) - (0)).toNat+1) 0=some (if c.bl.all (Lm (c.ac.length:Int))=true then .next () else .stop false):=
  rE (mf c) (f:=fun y=>some (Lm (c.ac.length:Int) y)) (by omega) (fun _ _=>rfl) (fun n x=>by
   rw[mf]
   cases h:idx c.bl x with
   | none=>rfl
   | some y=>
    simp only[zn,obs,ine,ii,Lm]
    generalize decide (y.aa=2)=A
    generalize decide (y.aa=3)=B
    generalize decide (y.aa=4)=C
    generalize kq y _=D
    cases A<;>cases B<;>cases C<;>cases D<;>rfl)
 have h3:mi c ((((c.ak.length:Int):Int) - (0)).toNat+1) 0=some (if c.ak.all (DI (c.ac.length:Int))=true then .next () else .stop false):=
  rE (mi c) (f:=fun y=>pm y (c.ac.length:Int)) (by omega) (fun y hy=>Gu (h.ms y hy) _) (fun n x=>by rw[mi])
 have f1:(c.cb==[])=true->dw c.cb=false:=fun e=>by rw[eq_of_beq e];exact TV
 have f2:decide (c.bl.length=0)=true->c.bl.all (Lm (c.ac.length:Int))=true/\decide (c.bl.length<=3)=true:=fun e=>by
  have e1:=of_decide_eq_true e
  exact⟨by rw[eq_nil_of_length_eq_zero e1];rfl,decide_eq_true (by omega)⟩
 unfold sE clS hdS
 rw[h1,h2,h3,jS,jS,hf]
 simp only[obs,CR,Bc,C9,ii,le3,aek,adf]
 revert f1 f2
 generalize dw c.af=A
 generalize dw c.cb=B
 generalize decide (c.ac.length<=3)=C
 generalize decide (c.bl.length<=3)=D
 generalize decide (c.bl.length=0)=E
 generalize (c.cb==[])=F
 generalize c.bl.all _=G
 generalize c.ac.all _=H
 generalize oT _ _ _=I
 generalize decide (c.ak.length<=12)=J
 generalize c.ak.all _=K
 clear h1 h2 h3 hf hm hp ha h
 revert A B C D E F G H I J K
 decide +kernel
def stC (c:be):Nat:=cg (fun x=>gV x.au) c.ak
def Kp (c r:aE) (n:Nat):Prop:=r.jl=c.jl+(n:Int)/\r.bn=c.bn/\r.lf=c.lf
theorem DL (t:bZ) (c:aE):∃ r,eO [t] c=some r/\Kp c r 0:=by
 unfold eO
 have hidx:idx [t] 0=some t:=by rw[show (0:Int)=((0:Nat):Int) from rfl,C6];rfl
 have e1:((((([t]:List bZ).length:Nat):Int) - 0:Int).toNat+1)=1+1:=rfl
 have w1:ae (0+1)=1:=by decide
 rw[e1]
 simp only[iL,hidx,obs,ieq,ii,w1]
 rw[if_pos (by simp),if_neg (by simp)]
 simp only[obs]
 refine⟨_,rfl,?_⟩
 generalize (if decide (t.aa=2)=true then decide (t.am.a0.aa=7) else false)=b
 cases b
 ·exact⟨by simp,rfl,rfl⟩
 ·exact⟨by simp,rfl,rfl⟩
theorem QQ {l} (hl:l.length<=1000000):∀ (n k:Nat) (c:aE),n+k=l.length+1->k<=l.length->∃ r,gJ l n c (k:Int)=some r/\Kp c r 0
 | 0,k,c,h,hk=>by omega
 | n+1,k,c,h,hk=>by
  rw[gJ]
  by_cases hlt:k < l.length
  ·obtain⟨r,h1,h2⟩:=DL l[k].av c
   obtain⟨r2,h3,h4⟩:=QQ hl n (k+1) r (by omega) (by omega)
   rw[if_pos (by simpa using hlt),cU hlt,obs,h1,obs,cn hlt (by omega)]
   exact⟨r2,h3,by have:=h2.1;have:=h4.1;omega,h4.2.1.trans h2.2.1,h4.2.2.trans h2.2.2⟩
  ·rw[if_neg (by simpa using hlt)]
   exact⟨c,rfl,by simp,rfl,rfl⟩
theorem PB {l} (hl:l.length<=1000000) (c:aE):∃ r,fw l c=some ((l.length:Int),r)/\Kp c r 0:=by
 obtain⟨r,h1,h2⟩:=QQ hl (l.length+1) 0 c (by omega) (by omega)
 unfold fw
 rw[show ((0:Nat):Int)=0 from rfl] at h1
 rw[gq,h1]
 exact⟨r,rfl,h2⟩
theorem NC : ∀ (f:Nat) (l:List ah) (d:Int) (c:aE) (a:Nat),cC l+1<=f->c.jl=(a:Int)->a+gV l<=10000000->cC l<=1000000->∃ r,du f l d c=some r/\Kp c r (gV l)
 | 0,l,d,c,a,h,_,_,_=>by omega
 | f+1,l,d,c,a,hf,hc,ha,hm=>by
  have hl:=uo l
  have loop:∀ (n k:Nat) (c:aE) (a:Nat),n+k=l.length+1->k<=l.length->c.jl=(a:Int)->a+gV (l.drop k)<=10000000->∃ r,gF l d (du f) n c (k:Int)=some r/\Kp c r (gV (l.drop k)):=by
   intro n
   induction n with
   | zero=>intro k c a h hk;omega
   | succ n ih=>
    intro k c a h hk hc ha
    rw[gF]
    by_cases hlt:k < l.length
    ·have h1:=qq (getElem_mem hlt)
     have h2:=Wk l[k]
     have h3:=Ks l[k]
     rw[drop_eq_getElem_cons hlt,gV] at ha ⊢
     have hw:ae (c.jl+1)=((a+1:Nat):Int):=by rw[hc,w64 (by omega) (by omega)];omega
     obtain⟨r1,k1,k2⟩:=DL l[k].av ({ c with jl:=ae (c.jl+1) }:aE)
     have e1:=k2.1
     simp only[hw] at e1
     obtain⟨r2,k3,k4⟩:=NC f l[k].au (ae (d+1)) r1 (a+1) (by omega) (by omega) (by omega) (by omega)
     have e2:=k4.1
     obtain⟨r3,k5,k6⟩:=NC f l[k].aZ (ae (d+1)) r2 (a+1 + gV l[k].au) (by omega) (by omega) (by omega) (by omega)
     have e3:=k6.1
     obtain⟨r4,k7,k8⟩:=ih (k+1) r3 (a+nSt l[k]) (by omega) (by omega) (by omega) (by omega)
     have e4:=k8.1
     rw[if_pos (by simpa using hlt),cU hlt,obs,k1,obs,k3,obs,k5,obs,cn hlt (by omega),k7]
     exact⟨r4,rfl,by omega,((k8.2.1.trans k6.2.1).trans k4.2.1).trans k2.2.1,((k8.2.2.trans k6.2.2).trans k4.2.2).trans k2.2.2⟩
    ·rw[if_neg (by simpa using hlt),drop_eq_nil_of_le (by omega),gV]
     exact⟨c,rfl,by simp,rfl,rfl⟩
  rw[du,ii,obs]
  generalize hc2:(if decide ((l.length:Int) > 0)=true then({ c with yj:=(if d > c.yj then d else c.yj) }:aE) else c)=c2
  have k0:c2.jl=c.jl/\c2.bn=c.bn/\c2.lf=c.lf:=by rw[<- hc2];split<;>exact⟨rfl,rfl,rfl⟩
  obtain⟨r,h1,h2⟩:=loop (l.length+1) 0 c2 a (by omega) (by omega) (by omega) (by simpa using ha)
  rw[show ((0:Nat):Int)=0 from rfl] at h1
  rw[gq,h1]
  rw[drop_zero] at h2
  exact⟨r,rfl,by have:=h2.1;omega,h2.2.1.trans k0.2.1,h2.2.2.trans k0.2.2⟩
theorem acy {y} (h:BC y):∀ (n k:Nat) (c:aE) (a:Nat),n+k=y.ak.length+1->k<=y.ak.length->c.jl=(a:Int)->a+cg (fun x=>gV x.au) (y.ak.drop k)<=10000000->
  ∃ r,uJ y n c (k:Int)=some r/\r.jl=c.jl+((cg (fun x=>gV x.au) (y.ak.drop k):Nat):Int)
 | 0,k,c,a,h1,hk,_,_=>by omega
 | n+1,k,c,a,h1,hk,hc,ha=>by
  have hm:=h.m
  rw[uJ]
  by_cases hlt:k < y.ak.length
  ·have hb:=h.ms _ (getElem_mem hlt)
   rw[drop_eq_getElem_cons hlt,cg] at ha ⊢
   obtain⟨r1,k1,k2⟩:=DL y.ak[k].aQ c
   obtain⟨r2,k3,k4⟩:=PB (l:=y.ak[k].ac) (by have:=hb.p;omega) r1
   obtain⟨r3,k5,k6⟩:=PB (l:=y.ak[k].bC) (by have:=hb.l;omega) r2
   have q2:=k2.1
   have q4:=k4.1
   have q6:=k6.1
   have v4:r2.lf=r1.lf:=k4.2.2
   have v6:r3.lf=r1.lf:=k6.2.2.trans k4.2.2
   obtain⟨r4,k7,k8⟩:=NC (cC y.ak[k].au+1) y.ak[k].au 1 ({ r3 with lf:=ae (r1.lf+(ae ((y.ak[k].ac.length:Int)+(y.ak[k].bC.length:Int)))) }:aE) a (Nat.le_refl _) (by simp only;omega) (by omega) hb.b
   have q8:=k8.1
   simp only at q8
   obtain⟨r5,k9,k10⟩:=acy h n (k+1) r4 (a+gV y.ak[k].au) (by omega) (by omega) (by omega) (by omega)
   rw[if_pos (by simpa using hlt),cU hlt,obs,k1,obs,k3,obs]
   simp only[v4,IM,obs]
   rw[k5,obs]
   simp only[v6,IM,obs]
   rw[k7,obs,cn hlt (by omega),k9]
   exact⟨r5,rfl,by omega⟩
  ·rw[if_neg (by simpa using hlt),drop_eq_nil_of_le (by omega)]
   exact⟨c,rfl,by simp[cg]⟩
structure BP (p:List be):Prop where
 n:p.length<=1000
 c:∀ x∈p,BC x
 s:cg stC p<=1000000
theorem acu {p} (hn:p.length<=1000) (hB:∀ x∈p,BC x):∀ (n k:Nat) (c:aE) (a:Nat),n+k=p.length+1->k<=p.length->c.jl=(a:Int)->a+cg stC (p.drop k)<=10000000->
  ∃ r,uY p n c (k:Int)=some r/\r.jl=c.jl+((cg stC (p.drop k):Nat):Int)
 | 0,k,c,a,h1,hk,_,_=>by omega
 | n+1,k,c,a,h1,hk,hc,ha=>by
  rw[uY]
  by_cases hlt:k < p.length
  ·have hb:=hB _ (getElem_mem hlt)
   have hm:=hb.m
   rw[drop_eq_getElem_cons hlt,cg] at ha ⊢
   obtain⟨r1,k1,k2⟩:=PB (l:=p[k].bn) (by have:=hb.f;omega) c
   have q2:=k2.1
   have v2:r1.bn=c.bn:=k2.2.1
   obtain⟨r2,k3,k4⟩:=acy hb (p[k].ak.length+1) 0 ({ ({ r1 with bn:=ae (c.bn+(p[k].bn.length:Int)) }:aE) with ak:=ae ((({ r1 with bn:=ae (c.bn+(p[k].bn.length:Int)) }:aE).ak)+(p[k].ak.length:Int)) }:aE) a (by omega) (by omega) (by simp only;omega) (by rw[drop_zero];have:stC p[k]=cg (fun x=>gV x.au) p[k].ak:=rfl;omega)
   rw[drop_zero] at k4
   simp only at k4
   have hst:stC p[k]=cg (fun x=>gV x.au) p[k].ak:=rfl
   obtain⟨r3,k5,k6⟩:=acu hn hB n (k+1) r2 (a+stC p[k]) (by omega) (by omega) (by omega) (by omega)
   rw[if_pos (by simpa using hlt),cU hlt,obs,k1,obs]
   simp only[v2,IM,obs,gq]
   rw[show ((0:Nat):Int)=0 from rfl] at k3
   rw[k3,obs,cn hlt (by omega),k5]
   exact⟨r3,rfl,by omega⟩
  ·rw[if_neg (by simpa using hlt),drop_eq_nil_of_le (by omega)]
   exact⟨c,rfl,by simp[cg]⟩
theorem Uw {p} (h:BP p):∃ r,CD p=some r/\r.jl=((cg stC p:Nat):Int):=by
 obtain⟨r,h1,h2⟩:=acu h.n h.c (p.length+1) 0 (⟨(p.length:Int),0,0,0,0,0,0⟩:aE) 0 (by omega) (by omega) rfl (by rw[drop_zero];have:=h.s;omega)
 unfold CD
 rw[show ((0:Nat):Int)=0 from rfl] at h1
 rw[gq,h1,obs]
 rw[drop_zero] at h2
 exact⟨r,rfl,by rw[h2];simp⟩
def rS (p:List be):Bool:=decide (p.length<=20)&&(p.all clS&&decide (cg stC p<=400))
theorem Mq {p} (h:BP p):uW p=some (rS p):=by
 have hn:=h.n
 obtain⟨r,h1,h2⟩:=Uw h
 have h3:decide (r.jl<=400)=decide (cg stC p<=400):=by rw[h2,Bool.eq_iff_iff];simp;omega
 have h4:decide ((p.length:Int)<=20)=decide (p.length<=20):=by rw[Bool.eq_iff_iff];simp;omega
 unfold uW rS
 rw[UA (b:=fun c=> !clS c) (by omega) (fun y hy=>by rw[uu,Lu (h.c y hy)];rfl),h1,h4]
 simp only[obs,ii,h3,xC]
 generalize decide (p.length<=20)=A
 generalize p.all clS=B
 generalize decide (cg stC p<=400)=C
 clear h1 h2 h3 h4 hn h
 revert A B C
 decide
theorem XG {c} (h:BC c) {j} (hj:j < c.ak.length):∀ (n k a:Nat),n+k=c.ak[j].au.length+1->k<=c.ak[j].au.length->a+gV (c.ak[j].au.drop k)<=10000000->nV c (j:Int) n (a:Int) (k:Int)=some ((a+gV (c.ak[j].au.drop k):Nat):Int)
 | 0,k,a,h1,hk,_=>by omega
 | n+1,k,a,h1,hk,ha=>by
  have hb:=(h.ms _ (getElem_mem hj)).b
  have hl:=uo c.ak[j].au
  rw[nV,cU hj,obs]
  by_cases hlt:k < c.ak[j].au.length
  ·have h2:=qq (getElem_mem hlt)
   rw[drop_eq_getElem_cons hlt,gV] at ha ⊢
   rw[if_pos (by simpa using hlt),obs,cU hlt,obs,sB _ _ (Nat.le_refl _) (by omega),obs,cn hlt (by omega),w64 (by omega) (by omega),show (a:Int)+(nSt c.ak[j].au[k]:Int)=((a+nSt c.ak[j].au[k]:Nat):Int) by omega,XG h hj n (k+1) _ (by omega) (by omega) (by omega)]
   congr 2;omega
  ·rw[if_neg (by simpa using hlt),drop_eq_nil_of_le (by omega),gV,Nat.add_zero]
theorem XF {c} (h:BC c):∀ (n k a:Nat),n+k=c.ak.length+1->k<=c.ak.length->a+cg (fun x=>gV x.au) (c.ak.drop k)<=10000000->oe c n (a:Int) (k:Int)=some ((a+cg (fun x=>gV x.au) (c.ak.drop k):Nat):Int)
 | 0,k,a,h1,hk,_=>by omega
 | n+1,k,a,h1,hk,ha=>by
  have hm:=h.m
  rw[oe]
  by_cases hlt:k < c.ak.length
  ·rw[drop_eq_getElem_cons hlt,cg] at ha ⊢
   have h2:=XG h hlt (c.ak[k].au.length+1) 0 a (by omega) (by omega) (by rw[drop_zero];omega)
   rw[drop_zero,show ((0:Nat):Int)=0 from rfl] at h2
   rw[if_pos (by simpa using hlt),cU hlt,obs,Option.getD_some,gq,h2,obs,cn hlt (by omega),XF h n (k+1) _ (by omega) (by omega) (by omega)]
   congr 2;omega
  ·rw[if_neg (by simpa using hlt),drop_eq_nil_of_le (by omega)]
   simp[cg]
theorem rr {c} (h:BC c) (hs:stC c<=1000000):jU c=some ((stC c:Nat):Int):=by
 have h1:=XF h (c.ak.length+1) 0 0 (by omega) (by omega) (by rw[drop_zero];have:stC c=cg (fun x=>gV x.au) c.ak:=rfl;omega)
 unfold jU
 rw[show ((0:Nat):Int)=0 from rfl] at h1
 rw[gq,h1,obs,drop_zero,Nat.zero_add]
 rfl
theorem NJ {α:Type} (f:α->Nat):∀ {l:List α} {x:α},x∈l->f x<=cg f l
 | y::l,x,h=>by
  rcases List.mem_cons.1 h with rfl | h
  ·simp only[cg];omega
  ·have:=NJ f h
   simp only[cg];omega
theorem SC {p} (hn:p.length<=1000) (hB:∀ x∈p,BC x) (hs:∀ x∈p,stC x<=1000000):∀ (n k a:Nat),n+k=p.length+1->k<=p.length->a+cg stC (p.drop k)<=10000000->
  oq p n (a:Int) (k:Int)=some (if(decide (p.length<=20)||decide (p.drop k=[]))&&(p.drop k).all clS=true then .next ((a+cg stC (p.drop k):Nat):Int) else .stop false)
 | 0,k,a,h1,hk,_=>by omega
 | n+1,k,a,h1,hk,ha=>by
  rw[oq]
  by_cases hlt:k < p.length
  ·have hd:=drop_eq_getElem_cons hlt
   rw[if_pos (by simpa using hlt),cU hlt]
   by_cases h0:p.length<=20
   ·rw[if_neg (by simp;omega),obs,Jm (hB _ (getElem_mem hlt)),decide_eq_true h0]
    simp only[obs]
    rw[hd,all_cons]
    cases hc:clS p[k] with
    | false=>simp
    | true=>
     rw[hd,cg] at ha
     rw[if_neg (by simp),rr (hB _ (getElem_mem hlt)) (hs _ (getElem_mem hlt)),obs,cn hlt (by omega),w64 (by omega) (by omega),show (a:Int)+(stC p[k]:Int)=((a+stC p[k]:Nat):Int) by omega,SC hn hB hs n (k+1) _ (by omega) (by omega) (by omega),decide_eq_true h0,cg,Nat.add_assoc]
     simp
   ·rw[if_pos (by simp;omega)]
    simp only[obs,if_true]
    rw[decide_eq_false h0,decide_eq_false (show ¬ p.drop k=[] by rw[hd];exact cons_ne_nil _ _)]
    simp only[Bool.or_self,Bool.false_and,Bool.false_eq_true,if_false]
  ·have hd:p.drop k=[]:=drop_eq_nil_of_le (by omega)
   rw[if_neg (by simpa using hlt),hd]
   simp[cg]
theorem JX {p} (h:BP p):tq p=some (rS p):=by
 have hs:=h.s
 have h1:=SC h.n h.c (fun x hx=>by have:=NJ stC hx;omega) (p.length+1) 0 0 (by omega) (by omega) (by rw[drop_zero];omega)
 unfold tq rS
 rw[show ((0:Nat):Int)=0 from rfl] at h1
 rw[gq,h1,drop_zero,Nat.zero_add]
 simp only[obs,CR,Bc,C9,ii]
 have h3:decide (((cg stC p:Nat):Int)<=400)=decide (cg stC p<=400):=by rw[Bool.eq_iff_iff];simp;omega
 have h4:decide (p=[])=true->decide (p.length<=20)=true:=fun e=>by rw[of_decide_eq_true e];rfl
 rw[h3]
 revert h4
 generalize decide (p.length<=20)=A
 generalize p.all clS=B
 generalize decide (cg stC p<=400)=C
 generalize decide (p=[])=D
 clear h1 h3 hs h
 revert A B C D
 decide
theorem en {n:Int} {α:Type} {f:Unit->Option α} (h:n<=100000000000000):Option.bind (dr n 1) f=f ():=by rw[gz (by omega)];rfl
theorem pT {α:Type} (a b:List α):(((a++b).length:Nat):Int)=(a.length:Int)+(b.length:Int):=by rw[length_append];omega
theorem jq {α:Type} (x:α) (b:List α):(((x::b).length:Nat):Int)=(b.length:Int)+1:=by simp
theorem jm {α:Type}:((([]:List α).length:Nat):Int)=0:=rfl
def lvS (k:Int):Int:=if k=6\/k=7 then 2 else if k=8 then 3 else if k=9\/k=10 then 1 else if k=11 then 0 else 4
def sgS (k:Int):List UInt8:=if k=6 then [43] else if k=7 then [45] else if k=8 then [42] else if k=9 then [60] else if k=10 then [61,61] else [38,38]
def Iz (b:Bool) (s:List UInt8):List UInt8:=if b=true then [40]++(s++[41]) else s
def tV (t:List (Int->List UInt8)) (i:Nat) (m:Int):List UInt8:=match t[i]? with | some f=>f m | none=>[]
def eTs (k n:Int) (nm:List UInt8) (a b:Int->List UInt8):List UInt8:=
 if k=1 then wY n else if k=2 then nm else if k=3 then [116,104,105,115] else if k=4 then [110,117,108,108] else if k=5 then [105,110,112,117,116]
 else if k=12 then [33]++a 4 else if k=13 then [110,105,108,40]++(a 4++[41]) else if k=14 then [115,97,109,101,40]++(a 4++([44,32]++(b 4++[41])))
 else a (if lvS k=1 then 2 else lvS k)++([32]++(sgS k++([32]++b (lvS k+1))))
mutual
def eT : ai->Int->List UInt8
 | ⟨k,n,nm,l⟩,m=>Iz (decide (lvS k < m)) (eTs k n nm (tV (eTL l) 0) (tV (eTL l) 1))
def eTL : List ai->List (Int->List UInt8)
 | []=>[]
 | e::l=>eT e::eTL l
end
theorem CY (e:ai) (m:Int):eT e m=Iz (decide (lvS e.aa < m)) (eTs e.aa e.cj e.af (tV (eTL e.az) 0) (tV (eTL e.az) 1)):=by cases e;rw[eT]
theorem xr {e x} (h:fS e=true) (hx:x∈e.az):fS x=true:=by
 rw[Vn,Bool.and_eq_true,all_eq_true] at h
 exact h.2 x hx
theorem oJ {e} (h:fS e=true):(1<=e.aa/\e.aa<=14)/\(e.az.length:Int)=rZ e.aa/\(e.aa=1->0<=e.cj/\e.cj<=999999999)/\(e.aa=2->dw e.af=true)/\
  (e.aa=13->∀ x∈e.az,x.aa=2\/x.aa=3)/\(e.aa=14->∀ x∈e.az,x.aa=2\/x.aa=3\/x.aa=4)/\(e.aa≠1->e.cj=0)/\(e.aa≠2->e.af=[]):=by
 rw[Vn,Bool.and_eq_true] at h
 have h1:=h.1
 unfold Bu RN at h1
 simp only[Bool.and_eq_true,Bool.or_eq_true,decide_eq_true_eq,Bool.not_eq_true',decide_eq_false_iff_not,all_eq_true,beq_iff_eq] at h1
 obtain⟨⟨a,b,c,d,f⟩,g⟩:=h1
 have hk:1<=e.aa/\e.aa<=14:=by
  unfold rZ at a
  split at a
  ·omega
  ·split at a
   ·omega
   ·split at a<;>omega
 refine⟨hk,a,fun h1=> ?_,fun h2=> ?_,fun h3 x hx=> ?_,fun h4 x hx=> ?_,fun h5=> ?_,fun h6=> ?_⟩
 ·rcases d with d | d
  ·exact absurd h1 d
  ·exact⟨by omega,by omega⟩
 ·rcases f with f | f
  ·exact absurd h2 f
  ·exact f
 ·have:=g x hx
  unfold mZ at this
  rw[if_pos h3] at this
  simpa using this
 ·have:=g x hx
  unfold mZ at this
  rw[if_neg (by omega),if_pos h4] at this
  simpa using this
 ·rcases b with b | b
  ·exact absurd b h5
  ·exact b
 ·rcases c with c | c
  ·exact absurd c h6
  ·exact c
theorem QV (l:List Int):(qP l).length=l.length:=by simp[qP]
theorem XC (a:Int):(wY a).length<=23:=by
 unfold wY
 have h1:=OY 21 a.natAbs
 rw[length_append,length_append,QV,QV,length_reverse]
 have:(if a < 0 then [45] else([]:List UInt8)).length<=1:=by split<;>simp
 simp only[length_cons,length_nil]
 omega
theorem YE (b:Bool) (s:List UInt8):(Iz b s).length<=s.length+2:=by
 unfold Iz;split<;>simp
theorem VF (k:Int):(sgS k).length<=2:=by
 unfold sgS
 repeat (first | split | (simp only[length_cons,length_nil];omega))
theorem SB {e:ai} (h:(e.az.length:Int)=rZ e.aa) (hk:e.aa=12\/e.aa=13):∃ x,e.az=[x]:=by
 have:e.az.length=1:=by
  have h1:rZ e.aa=1:=by rcases hk with hk | hk<;>(rw[hk];rfl)
  omega
 exact List.length_eq_one_iff.1 this
theorem Sk {e:ai} (h:(e.az.length:Int)=rZ e.aa) (hk:(6<=e.aa/\e.aa<=11)\/e.aa=14):∃ x y,e.az=[x,y]:=by
 have:e.az.length=2:=by
  unfold rZ at h
  rw[if_neg (by omega),if_neg (by omega),if_pos hk] at h
  omega
 match e.az,this with
 | [x,y],_=>exact⟨x,y,rfl⟩
theorem acj (x:ai) (m:Int):tV (eTL [x]) 0 m=eT x m:=rfl
theorem TU (x y:ai) (m:Int):tV (eTL [x,y]) 0 m=eT x m:=rfl
theorem Px (x y:ai) (m:Int):tV (eTL [x,y]) 1 m=eT y m:=rfl
theorem Nu (x:ai):x∈[x]:=by simp
theorem J7 (x y:ai):x∈[x,y]:=by simp
theorem DU (x y:ai):y∈[x,y]:=by simp
theorem m_1 {e x} (h:e.az=[x]):bL e=1+bL x:=by rw[sD,h];simp[dL]
theorem m_2 {e x y} (h:e.az=[x,y]):bL e=1+bL x+bL y:=by rw[sD,h];simp[dL];omega
theorem Oi {k n:Int} {nm a b A B} (hk:k=2->nm.length<=20) (ha:∀ m,(a m).length<=A) (hb:∀ m,(b m).length<=B):(eTs k n nm a b).length+20<=A+B + 60:=by
 have h1:=XC n
 have h2:=ha 4
 have h3:=hb 4
 have h4:=VF k
 have h5:=ha (if lvS k=1 then 2 else lvS k)
 have h6:=hb (lvS k+1)
 unfold eTs
 generalize (if lvS k=1 then 2 else lvS k)=q at *
 split
 ·omega
 ·split
  ·rename_i h;have:=hk h;omega
  ·repeat (first | split | (simp only[length_append,length_cons,length_nil];omega))
theorem Ek : ∀ (f:Nat) (e:ai) (m:Int),bL e<=f->fS e=true->(eT e m).length<=60 * bL e
 | 0,e,m,h,_=>by have:=sD e;omega
 | f+1,e,m,h,he=>by
  obtain⟨hk,hl,h1,h2,-⟩:=oJ he
  have hm:=sD e
  rw[CY]
  have hp:=YE (decide (lvS e.aa < m)) (eTs e.aa e.cj e.af (tV (eTL e.az) 0) (tV (eTL e.az) 1))
  have hn:e.aa=2->e.af.length<=20:=fun k=>ju (h2 k)
  by_cases hk2:(6<=e.aa/\e.aa<=11)\/e.aa=14
  ·obtain⟨x,y,hxy⟩:=Sk hl hk2
   have m2:=m_2 hxy
   have hx:=fun m=>Ek f x m (by omega) (xr he (by rw[hxy];exact J7 x y))
   have hy:=fun m=>Ek f y m (by omega) (xr he (by rw[hxy];exact DU x y))
   have:=Oi (k:=e.aa) (n:=e.cj) (nm:=e.af) (a:=tV (eTL e.az) 0) (b:=tV (eTL e.az) 1) hn (by rw[hxy];exact hx) (by rw[hxy];exact hy)
   omega
  ·by_cases hk1:e.aa=12\/e.aa=13
   ·obtain⟨x,hx0⟩:=SB hl hk1
    have m1:=m_1 hx0
    have hx:=fun m=>Ek f x m (by omega) (xr he (by rw[hx0];exact Nu x))
    have:=Oi (k:=e.aa) (n:=e.cj) (nm:=e.af) (a:=tV (eTL e.az) 0) (b:=tV (eTL e.az) 1) (B:=0) hn (by rw[hx0];exact hx) (by rw[hx0];exact fun m=>Nat.le_refl _)
    omega
   ·have h0:e.az=[]:=by
     have:e.az.length=0:=by
      unfold rZ at hl
      rw[if_pos (by omega)] at hl
      omega
     exact eq_nil_of_length_eq_zero this
    have:=Oi (k:=e.aa) (n:=e.cj) (nm:=e.af) (a:=tV (eTL e.az) 0) (b:=tV (eTL e.az) 1) (A:=0) (B:=0) hn (by rw[h0];exact fun m=>Nat.le_refl _) (by rw[h0];exact fun m=>Nat.le_refl _)
    omega
theorem afE {n:Int} (h:0<=n/\n<=999999999):qv n=some (wY n):=Lh (by omega) (by omega)
theorem acF (x:ai):idx [x] 0=some x:=rfl
theorem Yv (x y:ai):idx [x,y] 0=some x:=rfl
theorem aak (x y:ai):idx [x,y] 1=some y:=rfl
theorem YT {c s} (h:s.length<=10000000000000):(if c=true then Option.bind (dr ((([40]:List UInt8).length:Int)+(s.length:Int)) 1) fun(_:Unit)=>Option.bind (dr ((([40]++s).length:Int)+(([41]:List UInt8).length:Int)) 1) fun(_:Unit)=>some (([40]++s)++[41]) else some s)=some (Iz c s):=by
 cases c with
 | false=>rfl
 | true=>
  rw[if_pos rfl,en (by simp only[jq,jm];omega),en (by simp only[pT,jq,jm];omega)]
  simp[Iz]
theorem uX {k:Int} (h:6<=k/\k<=11):k=6\/k=7\/k=8\/k=9\/k=10\/k=11:=by omega
theorem Dz {k:Int} (h:6<=k/\k<=11):lvS k < 4/\0<=lvS k/\idx [[43],[45],[42],[60],[61,61],([38,38]:List UInt8)] (ae (k - 6))=some (sgS k):=by
 rcases uX h with rfl | rfl | rfl | rfl | rfl | rfl<;>exact⟨by decide,by decide,rfl⟩
theorem Ow {k n:Int} {nm a b} (h:6<=k/\k<=11):eTs k n nm a b=a (if lvS k=1 then 2 else lvS k)++([32]++(sgS k++([32]++b (lvS k+1)))):=by
 unfold eTs
 rw[if_neg (by omega),if_neg (by omega),if_neg (by omega),if_neg (by omega),if_neg (by omega),if_neg (by omega),if_neg (by omega),if_neg (by omega)]
theorem afv {a b:Int} (h:a≠b):(a==b)=false:=by simp[h]
def lvP (k:Int):Int:=if lvS k=4 then 5 else lvS k+1
theorem acI {k:Int} (h:1<=k/\k<=14) {m:Int} (hm:m<=4):decide (lvP k < m+1)=decide (lvS k < m):=by
 have h4:lvS k<=4:=by rcases Na h with rfl | rfl | rfl | rfl | rfl | rfl | rfl | rfl | rfl | rfl | rfl | rfl | rfl | rfl<;>decide
 unfold lvP
 rw[Bool.eq_iff_iff,decide_eq_true_eq,decide_eq_true_eq]
 split<;>omega
theorem Yq {k:Int} (h:1<=k/\k<=14):decide (lvP k < 0)=false/\decide (lvS k < 0)=false:=by
 rcases Na h with rfl | rfl | rfl | rfl | rfl | rfl | rfl | rfl | rfl | rfl | rfl | rfl | rfl | rfl<;>decide
theorem aas {e} (h:6<=e.aa/\e.aa<=11):∃ i,io Ec (fun(z44:Gbind_expr)=>sJ z44 e)=some i/\idx Ec i=some ⟨sgS e.aa,lvS e.aa+1,e.aa⟩:=by
 rw[show (fun(z44:Gbind_expr)=>sJ z44 e)=fun z=>some (z.fkind==e.aa) from rfl]
 generalize e.aa=k at *
 rcases uX h with rfl | rfl | rfl | rfl | rfl | rfl<;>exact⟨_,rfl,rfl⟩
theorem aeN {a b c} (h:a.length+b.length+c.length<=10000000000000):strings_Join [a,b,c] [32]=some (a++([32]++(b++([32]++c)))):=by
 have hj:Lib.join [a,b,c] [32]=a++([32]++(b++([32]++c))):=by simp[Lib.join,intercalate]
 unfold strings_Join Ez
 rw[hj,if_pos ⟨by simp,by simp only[length_append,length_cons,length_nil];omega⟩]
theorem BH {e} {m M:Int} {f} (ht:pc f e=some (eTs e.aa e.cj e.af (tV (eTL e.az) 0) (tV (eTL e.az) 1),lvP e.aa)) (hc:decide (lvP e.aa < M)=decide (lvS e.aa < m)) (hl:bL e<=1000000) (he:fS e=true):lh (f+1) e M=some (eT e m):=by
 have hb:(eTs e.aa e.cj e.af (tV (eTL e.az) 0) (tV (eTL e.az) 1)).length<=10000000000000:=by
  have h1:=Ek _ e 0 (Nat.le_refl _) he
  rw[CY,(Yq (oJ he).1).2] at h1
  have:Iz false (eTs e.aa e.cj e.af (tV (eTL e.az) 0) (tV (eTL e.az) 1))=eTs e.aa e.cj e.af (tV (eTL e.az) 0) (tV (eTL e.az) 1):=rfl
  rw[this] at h1
  omega
 rw[lh,ht,obs,CY,<- hc]
 exact YT hb
theorem C7 : ∀ (n:Nat) (e:ai) (f:Nat),bL e<=n->2 * bL e<=f->bL e<=1000000->fS e=true->pc f e=some (eTs e.aa e.cj e.af (tV (eTL e.az) 0) (tV (eTL e.az) 1),lvP e.aa)
 | 0,e,f,h,_,_,_=>by have:=sD e;omega
 | n+1,e,0,h,hf,_,_=>by have:=sD e;omega
 | n+1,e,1,h,hf,_,_=>by have:=sD e;omega
 | n+1,e,f+2,h,hf,hm,he=>by
  obtain⟨hk,hl,h1,h2,h0,h3,-⟩:=oJ he
  have hK:∀ x∈e.az,(∀ m,m<=4->lh (f+1) x (m+1)=some (eT x m))/\(x.aa=2\/x.aa=3\/x.aa=4->lh (f+1) x 0=some (eT x 4))/\∀ m,(eT x m).length<=60000000:=fun x hx=>by
   have:=we hx
   have hfx:=xr he hx
   have ht:=C7 n x f (by omega) (by omega) (by omega) hfx
   refine⟨fun m hm4=>BH ht (acI (oJ hfx).1 hm4) (by omega) hfx,fun hat=>BH ht ?_ (by omega) hfx,fun m=>by have:=Ek _ x m (Nat.le_refl _) hfx;omega⟩
   rw[(Yq (oJ hfx).1).1]
   rcases hat with k | k | k<;>rw[k]<;>rfl
  rw[pc]
  by_cases hbin:6<=e.aa/\e.aa<=11
  ·obtain⟨x,y,hx⟩:=Sk hl (.inl hbin)
   have hw:=hK x (by rw[hx];exact J7 x y)
   have hv:=hK y (by rw[hx];exact DU x y)
   obtain⟨hlt,hge,-⟩:=Dz hbin
   obtain⟨i,hi1,hi2⟩:=aas hbin
   have hs:=VF e.aa
   have hb:=hw.2.2 (if lvS e.aa=1 then 2 else lvS e.aa)
   have hc:=hv.2.2 (lvS e.aa+1)
   have hw1:ae (lvS e.aa+1 + 1)=lvS e.aa+1 + 1:=w64 (by omega) (by omega)
   have hlv:lvP e.aa=lvS e.aa+1:=by unfold lvP;rw[if_neg (by omega)]
   have hleft:((if(e.aa==9)=true then some true else some (e.aa==10):Option Bool).bind fun x0=>if x0=true then some (ae (lvS e.aa+1 + 1)) else some (lvS e.aa+1))=some ((if lvS e.aa=1 then 2 else lvS e.aa)+1):=by
    generalize e.aa=k at *
    rcases uX hbin with rfl | rfl | rfl | rfl | rfl | rfl<;>rfl
   have q0:∀ j:Int,j < 6\/11 < j->(e.aa==j)=false:=fun j hj=>afv (by omega)
   rw[q0 1 (by omega),q0 2 (by omega),q0 3 (by omega),q0 4 (by omega),q0 5 (by omega),q0 12 (by omega),q0 13 (by omega),q0 14 (by omega)]
   simp only[Bool.false_eq_true,if_false]
   rw[hi1,obs,hi2,obs]
   simp only
   rw[hleft,obs,hx,Yv,obs,hw.1 _ (by split<;>omega),obs,aak,obs,hw1,hv.1 _ (by omega),obs,aeN (by omega),obs,Ow hbin,TU,Px,hlv]
  ·by_cases k:e.aa=1
   ·rw[k,afE (h1 k)];rfl
   ·by_cases k2:e.aa=2
    ·rw[k2];rfl
    ·by_cases k3:e.aa=3
     ·rw[k3];rfl
     ·by_cases k4:e.aa=4
      ·rw[k4];rfl
      ·by_cases k5:e.aa=5
       ·rw[k5];rfl
       ·by_cases k12:e.aa=12
        ·obtain⟨x,hx⟩:=SB hl (.inl k12)
         have hw:=hK x (by rw[hx];exact Nu x)
         have hb:=hw.2.2 4
         have hw4:=hw.1 4 (by omega)
         rw[show (4:Int)+1=5 from rfl] at hw4
         rw[k12,hx]
         simp only[acF,hw4,Int.reduceBEq,obs,Bool.false_eq_true,if_false,if_true]
         rw[en (by simp only[jq,jm];omega)]
         rfl
        ·by_cases k13:e.aa=13
         ·obtain⟨x,hx⟩:=SB hl (.inr k13)
          have hw:=hK x (by rw[hx];exact Nu x)
          have hb:=hw.2.2 4
          have hw4:=hw.2.1 (by rcases h0 k13 x (by rw[hx];exact Nu x) with h | h<;>simp[h])
          rw[k13,hx]
          simp only[acF,hw4,Int.reduceBEq,obs,Bool.false_eq_true,if_false,if_true]
          rw[en (by simp only[jq,jm];omega),en (by simp only[pT,jq,jm];omega),append_assoc]
          rfl
         ·have k14:e.aa=14:=by omega
          obtain⟨x,y,hx⟩:=Sk hl (.inr k14)
          have hw:=hK x (by rw[hx];exact J7 x y)
          have hv:=hK y (by rw[hx];exact DU x y)
          have hb:=hw.2.2 4
          have hc:=hv.2.2 4
          have hw4:=hw.2.1 (h3 k14 x (by rw[hx];exact J7 x y))
          have hv4:=hv.2.1 (h3 k14 y (by rw[hx];exact DU x y))
          rw[k14,hx]
          simp only[Yv,aak,hw4,hv4,Int.reduceBEq,obs,Bool.false_eq_true,if_false,if_true]
          rw[en (by simp only[jq,jm];omega),en (by simp only[pT,jq,jm];omega),en (by simp only[pT,jq,jm];omega),en (by simp only[pT,jq,jm];omega)]
          simp only[append_assoc]
          rfl
def eX (e:ai):List UInt8:=if fU e=true then eT e 0 else []
theorem iz {e} (h:fU e=true):fS e=true:=by
 unfold fU at h
 simp only[Bool.and_eq_true] at h
 first | exact h.1 | exact h.2
theorem xy {e} (he:bL e<=1000000):se e=some (eX e):=by
 unfold se eX
 rw[wm he,obs]
 cases h:fU e with
 | false=>rfl
 | true=>
  have hf:=iz h
  have h0:=Yq (oJ hf).1
  rw[if_neg (by decide),BH (m:=0) (C7 _ e _ (Nat.le_refl _) (by omega) he hf) (by rw[h0.1,h0.2]) he hf]
  rfl
theorem O6 (e:ai):(eX e).length<=60 * bL e:=by
 unfold eX
 split
 ·rename_i h;exact Ek _ e 0 (Nat.le_refl _) (iz h)
 ·simp
theorem lH (a b:List UInt8):bh (a++b)=bh a++bh b:=by simp[bh]
theorem cR (a:List UInt8):(bh a).length=a.length:=by simp[bh]
def gr {α β:Type} (g:Nat->α -> List β):Nat->List α->List β
 | _,[]=>[]
 | k,y::t=>g k y++gr g (k+1) t
theorem Sm {α β:Type} {L:Nat->List β->Int->Option (List β)} {l:List α} {g:Nat->α -> List β} {M:Nat}
  (hL:∀ (n k:Nat) (x:List β) (h:k < l.length),x.length+(g k l[k]).length<=M->L (n+1) x (k:Int)=L n (x++g k l[k]) ((k+1:Nat):Int)) (hE:∀ (n:Nat) (x:List β),L (n+1) x (l.length:Int)=some x):
  ∀ (n k:Nat) (x:List β),n+k=l.length+1->k<=l.length->x.length+(gr g k (l.drop k)).length<=M->L n x (k:Int)=some (x++gr g k (l.drop k))
 | 0,k,x,h,hk,_=>by omega
 | n+1,k,x,h,hk,hm=>by
  by_cases hlt:k < l.length
  ·rw[drop_eq_getElem_cons hlt,gr,length_append] at hm
   rw[hL n k x hlt (by omega),Sm hL hE n (k+1) _ (by omega) (by omega) (by rw[length_append];omega),drop_eq_getElem_cons hlt,gr,append_assoc]
  ·have:k=l.length:=by omega
   subst this
   rw[hE,drop_length,gr,append_nil]
theorem zi {α β:Type} (L:Nat->List β->Int->Option (List β)) {l} (g:Nat->α -> List β) (M:Nat) {x}
  (hL:∀ (n k:Nat) (x:List β) (h:k < l.length),x.length+(g k l[k]).length<=M->L (n+1) x (k:Int)=L n (x++g k l[k]) ((k+1:Nat):Int)) (hE:∀ (n:Nat) (x:List β),L (n+1) x (l.length:Int)=some x) (hm:x.length+(gr g 0 l).length<=M):
  L ((((l.length:Int):Int) - (0)).toNat+1) x 0=some (x++gr g 0 l):=by
 have:=Sm hL hE (l.length+1) 0 x (by omega) (by omega) (by rw[drop_zero];exact hm)
 rw[drop_zero,show ((0:Nat):Int)=0 from rfl] at this
 rw[gq,this]
theorem rl {α β:Type} (g:α->List β):∀ (l:List α) (k:Nat),gr (fun _ y=>g y) k l=(l.map g).flatten
 | [],_=>rfl
 | y::t,k=>by rw[gr,rl g t,map_cons,flatten_cons]
theorem BA {α β:Type} (g:α->β):∀ (l:List α) (k:Nat),gr (fun _ y=>[g y]) k l=l.map g
 | [],_=>rfl
 | y::t,k=>by rw[gr,BA g t,map_cons];rfl
theorem rK {α:Type} (g:Nat->α -> List UInt8):∀ (l:List α) (k:Nat),gr (fun k y=>bh (g k y)) k l=bh (gr g k l)
 | [],_=>rfl
 | y::t,k=>by rw[gr,gr,rK g t,lH]
def cm : List (List UInt8)->List UInt8
 | []=>[]
 | x::r=>x++(r.map ([44,32]++·)).flatten
theorem Wm {l} (hl:l.length<=1000000) (h:(cm l).length<=100000000000000):strings_Join l [44,32]=some (cm l):=by
 have hj:Lib.join l [44,32]=cm l:=by
  cases l with
  | nil=>rfl
  | cons x r=>rw[Lib.join_cons,cm,Lib.joinTail]
 unfold strings_Join Ez
 rw[hj,if_pos ⟨by omega,by omega⟩]
theorem PD {α:Type} (g:α->List UInt8):∀ l:List α,((l.map g).flatten).length=cg (fun y=>(g y).length) l
 | []=>rfl
 | y::t=>by rw[map_cons,flatten_cons,length_append,PD g t,cg]
theorem YV (l:List (List UInt8)):(cm l).length<=cg (fun x=>x.length+2) l:=by
 cases l with
 | nil=>simp[cm]
 | cons x r=>
  have h:=PD ([44,32]++·) r
  have e:cg (fun y:List UInt8=>([44,32]++y).length) r=cg (fun x=>x.length+2) r:=rfl
  rw[cm,length_append,h,e,cg];omega
theorem Dv {α:Type} {f c}:∀ {l:List α},(∀ y∈l,f y<=c)->cg f l<=l.length * c
 | [],_=>by simp[cg]
 | y::t,h=>by
  have h1:=h y (by simp)
  have h2:=Dv (l:=t) fun z hz=>h z (by simp[hz])
  simp only[cg,length_cons,Nat.succ_mul];omega
theorem JZ {α β:Type} (f:β->Nat) (g:α->β):∀ l:List α,cg f (l.map g)=cg (fun y=>f (g y)) l
 | []=>rfl
 | y::t=>by rw[map_cons,cg,JZ f g t,cg]
structure PS (ps:List (List UInt8)):Prop where
 n:ps.length<=1000
 l:∀ p∈ps,p.length<=20
theorem yJ {ps} (h:PS ps) (o:ay):(gh o ps).length<=20:=by
 unfold gh
 split
 ·split
  ·cases hh:ps[(o.fN - 1).toNat]? with
   | none=>simp
   | some p=>exact h.l p (mem_of_getElem? hh)
  ·unfold Ax
   repeat (first | (split) | (simp only[length_cons,length_nil];omega))
 ·simp
theorem Xm {ps} (h:PS ps) (o:ay):(gh o ps).length<=10000000000:=by have:=yJ h o;omega
theorem Xi : ∀ (l:List (List UInt8)),(∀ x∈l,x.length<=20)->(AZ l).length<=22 * l.length+3
 | [],_=>by simp[AZ]
 | x::r,h=>by
  have h1:=h x (by simp)
  have h2:=PD ([44,32]++·) r
  have h3:=Dv (f:=fun y:List UInt8=>([44,32]++y).length) (c:=22) (l:=r) fun y hy=>by have:=h y (by simp[hy]);simp;omega
  simp only[AZ,length_append,length_cons,length_nil,h2]
  simp only[length_append,length_cons,length_nil] at h3
  omega
theorem wB {ps} (h:PS ps) (t:bZ):(wU t ps).length<=200:=by
 unfold wU
 split
 ·rename_i hr
  split
  ·simp
  ·rename_i h0
   split
   ·simp
   ·rename_i h1
    have hc:=ju (Ox hr h0 h1).2.1
    have h2:=yJ h t.am.a0
    have h3:=Xi (((own t).drop 1).map (gh · ps)) fun x hx=>by
     obtain⟨o,_,rfl⟩:=List.mem_map.1 hx
     exact yJ h o
    have h4:=Tb t
    rw[length_map,length_drop] at h3
    have h5:(if t.am.a0.aa=7 then [] else gh t.am.a0 ps++[32]).length<=21:=by
     split
     ·simp
     ·simp;omega
    rw[length_append,length_append]
    omega
 ·simp
theorem Jo {ps} (h:PS ps) (t:bZ):pb t ps=some (wU t ps):=Om h.n (Xm h)
def uR (d:Nat):List UInt8:=replicate d 9
def Qi (l:List ai):List UInt8:=cm (l.map eX)
def plS (ps:List (List UInt8)) (k:Int) (y nm:List UInt8) (t:bZ) (e:ai) (ar:List ai):List UInt8:=
 if k=1 then eX e else if k=2 then y++([46]++nm) else if k=3 then y++([46]++(nm++([32,61,32]++eX e)))
 else if k=4 then y++([46]++(nm++([40]++(Qi ar++[41])))) else if k=5 then [110,101,119,32]++wU t ps
 else if k=6 then [99,97,115,116,32]++(wU t ps++([32]++eX e)) else if k=7 then [109,111,118,101,32]++y else if k=8 then [100,101,108,101,116,101,32]++y
 else if eX e=[] then [114,101,116,117,114,110] else [114,101,116,117,114,110,32]++eX e
def xxS (x:List UInt8):List UInt8:=if x=[] then [] else x++[32,61,32]
def hdW (k:Int):List UInt8:=if k=10 then [119,104,105,108,101,32,40] else [105,102,32,40]
mutual
def stT (ps:List (List UInt8)):ah->Nat->List UInt8
 | ⟨k,x,y,nm,t,e,ar,bo,el,_⟩,d=>
  if k=9\/k=10 then uR d++(hdW k++(eX e++([41,32,123,10]++(xU ps bo (d+1)++((if el.length=0 then [] else uR d++([125,32,101,108,115,101,32,123,10]++xU ps el (d+1)))++(uR d++[125,10]))))))
  else uR d++(xxS x++(plS ps k y nm t e ar++[59,10]))
def xU (ps:List (List UInt8)):List ah->Nat->List UInt8
 | [],_=>[]
 | s::l,d=>stT ps s d++xU ps l d
end
theorem Dh (ps:List (List UInt8)) (d:Nat):∀ l:List ah,xU ps l d=(l.map fun s=>stT ps s d).flatten
 | []=>rfl
 | s::l=>by rw[xU,map_cons,flatten_cons,Dh ps d l]
theorem Uh {ps s} (h:s.aa=9\/s.aa=10) (d:Nat):stT ps s d=uR d++(hdW s.aa++(eX s.fE++([41,32,123,10]++(xU ps s.au (d+1)++((if s.aZ.length=0 then [] else uR d++([125,32,101,108,115,101,32,123,10]++xU ps s.aZ (d+1)))++(uR d++[125,10])))))):=by
 cases s;rw[stT,if_pos h]
theorem SQ {ps s} (h:¬ (s.aa=9\/s.aa=10)) (d:Nat):stT ps s d=uR d++(xxS s.fX++(plS ps s.aa s.fY s.af s.av s.fE s.bN++[59,10])):=by
 cases s;rw[stT,if_neg h]
structure LN (s:ah):Prop where
 k:1<=s.aa/\s.aa<=11
 x:s.fX.length<=20
 y:s.fY.length<=20
 n:s.af.length<=20
 a:s.bN.length<=5
 r:s.aa=9\/s.aa=10\/(s.au.length=0/\s.aZ.length=0)
 z:s.aa=11->s.fX=[]
theorem aau {m:Int} {s} (h:Ca m s=true):LN s:=by
 unfold Ca at h
 simp only[Bool.and_eq_true,decide_eq_true_eq] at h
 obtain⟨hk,hx,hy,hn,-,-,ha,hb⟩:=h
 have nl:∀ l:List UInt8,(l==[])=true->l.length<=20:=fun l h=>by rw[(by simpa using h:l=[])];simp
 refine⟨hk,?_,?_,?_,?_,?_,fun h0=> ?_⟩
 ·unfold xS at hx
  split at hx
  ·exact ju hx
  ·split at hx
   ·rcases Bool.or_eq_true_iff.1 hx with h | h
    ·exact nl _ h
    ·exact ju h
   ·exact nl _ hx
 ·unfold yS at hy
  split at hy
  ·rcases Bool.or_eq_true_iff.1 hy with h | h
   ·exact ju h
   ·rw[(by simpa using h:s.fY=[116,104,105,115])];simp
  ·split at hy
   ·exact ju hy
   ·exact nl _ hy
 ·unfold nS at hn
  split at hn
  ·exact ju hn
  ·exact nl _ hn
 ·unfold aS at ha
  split at ha
  ·simp only[Bool.and_eq_true,decide_eq_true_eq] at ha;exact ha.1
  ·have:=of_decide_eq_true ha;omega
 ·unfold bS at hb
  simp only[Bool.and_eq_true,Bool.or_eq_true,decide_eq_true_eq] at hb
  omega
 ·unfold xS at hx
  rw[if_neg (by omega),if_neg (by omega)] at hx
  simpa using hx
theorem Jv (d:Nat):(uR d).length=d:=by simp[uR]
theorem Sy : ∀ l:List ai,cg (fun x=>(eX x).length+2) l<=62 * dL l
 | []=>by simp[cg]
 | e::l=>by
  have h1:=Sy l
  have h2:=O6 e
  have h3:=sD e
  simp only[cg,dL];omega
theorem Rp (l:List ai):(Qi l).length<=62 * dL l:=by
 have h1:=YV (l.map eX)
 rw[JZ] at h1
 have h2:=Sy l
 unfold Qi;omega
theorem abl (x:List UInt8):(xxS x).length<=x.length+3:=by
 unfold xxS;split
 ·simp
 ·simp
theorem VQ (k:Int):(hdW k).length<=7:=by unfold hdW;split<;>simp
theorem UW {ps} (hp:PS ps) {s} (h:LN s):(plS ps s.aa s.fY s.af s.av s.fE s.bN).length<=300+60 * bL s.fE+62 * dL s.bN:=by
 have h1:=h.y
 have h2:=h.n
 have h3:=O6 s.fE
 have h4:=Rp s.bN
 have h5:=wB hp s.av
 unfold plS
 repeat (first | omega | (simp only[length_append,length_cons,length_nil];omega) | split)
theorem IV {ps d}:∀ l:List ah,(∀ x∈l,(stT ps x d).length<=1000 * cc x)->(xU ps l d).length<=1000 * cC l
 | [],_=>by simp[xU]
 | x::l,h=>by
  have h1:=h x (by simp)
  have h2:=IV l fun y hy=>h y (by simp[hy])
  rw[xU,length_append,cC];omega
theorem OE {ps} (hp:PS ps) {m:Int}:∀ (f:Nat) (s:ah) (d:Nat),cc s<=f->fmS m s=true->d+dSt s<=100->(stT ps s d).length<=1000 * cc s
 | 0,s,d,h,_,_=>by have:=lI s;omega
 | f+1,s,d,h,hs,hd=>by
  have h1:=lI s
  have h2:=Bl s
  rw[Li] at hs
  simp only[Bool.and_eq_true,all_eq_true] at hs
  have ln:=aau hs.1
  have t:=Jv d
  have e1:=O6 s.fE
  by_cases hk:s.aa=9\/s.aa=10
  ·have b1:=IV (ps:=ps) (d:=d+1) s.au fun x hx=>OE hp f x (d+1) (by have:=wA hx;omega) (hs.2.1 x hx) (by have:=(qh s.au (ul s.au)).1 (Nat.le_refl _) x hx;omega)
   have b2:=IV (ps:=ps) (d:=d+1) s.aZ fun x hx=>OE hp f x (d+1) (by have:=xh hx;omega) (hs.2.2 x hx) (by have:=(qh s.aZ (ul s.aZ)).1 (Nat.le_refl _) x hx;omega)
   have w:=VQ s.aa
   rw[Uh hk]
   simp only[length_append,length_cons,length_nil]
   have:(if s.aZ.length=0 then [] else uR d++([125,32,101,108,115,101,32,123,10]++xU ps s.aZ (d+1))).length<=d+9 + 1000 * cC s.aZ:=by
    split
    ·simp
    ·simp only[length_append,length_cons,length_nil];omega
   omega
  ·have p:=UW hp ln
   have x:=abl s.fX
   have lx:=ln.x
   rw[SQ hk]
   simp only[length_append,length_cons,length_nil]
   omega
theorem Nw : ∀ (f m:Nat),∀ z∈rst f m,∃ k:Nat,k < 10/\z=((48+k:Nat):Int)
 | 0,m,z,h=>by simp[rst] at h
 | f+1,m,z,h=>by
  unfold rst at h
  split at h
  ·rcases List.mem_cons.1 h with rfl | h
   ·exact⟨m / 10 % 10,by omega,rfl⟩
   ·exact Nw f (m / 10) z h
  ·simp at h
theorem Rb {k} (h:k < 10):UInt8.ofNat (48+k)≠10/\UInt8.ofNat (48+k)≠32/\UInt8.ofNat (48+k)≠9:=by
 have:k=0\/k=1\/k=2\/k=3\/k=4\/k=5\/k=6\/k=7\/k=8\/k=9:=by omega
 rcases this with rfl | rfl | rfl | rfl | rfl | rfl | rfl | rfl | rfl | rfl<;>decide
theorem Uf (a:Int):∀ b∈wY a,b≠10/\b≠32/\b≠9:=by
 intro b hb
 unfold wY at hb
 rcases List.mem_append.1 hb with hb | hb
 ·split at hb
  ·rw[mem_singleton] at hb;subst hb;decide
  ·simp at hb
 ·unfold qP at hb
  rcases List.mem_append.1 hb with hb | hb
  ·obtain⟨z,hz,rfl⟩:=List.mem_map.1 hb
   obtain⟨k,hk,rfl⟩:=Nw _ _ z (List.mem_reverse.1 hz)
   rw[Int.toNat_natCast];exact Rb hk
  ·obtain⟨z,hz,rfl⟩:=List.mem_map.1 hb
   rw[mem_singleton] at hz
   subst hz
   rw[Int.toNat_natCast];exact Rb (by omega)
def En (s:List UInt8):Prop:=∃ p c,s=p++[c]/\c≠32
theorem vv (a:List UInt8) {b} (h:En b):En (a++b):=by
 obtain⟨p,c,rfl,hc⟩:=h
 exact⟨a++p,c,by simp,hc⟩
theorem Zt {s} (h:s≠[]) (hb:∀ b∈s,b≠32):En s:=
 ⟨s.dropLast,s.getLast h,(dropLast_concat_getLast h).symm,hb _ (getLast_mem h)⟩
theorem aaI (a:Int):wY a≠[]:=by
 unfold wY qP
 simp
theorem abW {s} (h:dw s=true):En s:=by
 cases s with
 | nil=>cases h
 | cons b t=>
  refine Zt (by simp) fun c hc he=> ?_
  simp only[dw,Bool.and_eq_true,all_eq_true] at h
  have:=h.2.2.1 c hc
  rw[he] at this
  exact absurd this (by decide)
theorem abB (b:Bool) {s} (h:En s):En (Iz b s):=by
 unfold Iz
 split
 ·exact⟨[40]++s,41,by simp,by decide⟩
 ·exact h
theorem ZE : ∀ (f:Nat) (e:ai) (m:Int),bL e<=f->fS e=true->En (eT e m)
 | 0,e,m,h,_=>by have:=sD e;omega
 | f+1,e,m,h,he=>by
  obtain⟨hk,hl,h1,h2,-⟩:=oJ he
  have hK:∀ x∈e.az,∀ m,En (eT x m):=fun x hx m=>ZE f x m (by have:=we hx;omega) (xr he hx)
  rw[CY]
  refine abB _ ?_
  by_cases hbin:6<=e.aa/\e.aa<=11
  ·obtain⟨x,y,hx⟩:=Sk hl (.inl hbin)
   rw[Ow hbin,hx,Px]
   exact vv _ (vv _ (vv _ (vv _ (hK y (by rw[hx];exact DU x y) _))))
  ·unfold eTs
   by_cases k:e.aa=1
   ·rw[if_pos k];exact Zt (aaI _) fun b hb=>(Uf _ b hb).2.1
   rw[if_neg k]
   by_cases k:e.aa=2
   ·rw[if_pos k];exact abW (h2 k)
   rw[if_neg k]
   by_cases k:e.aa=3
   ·rw[if_pos k];exact⟨[116,104,105],115,rfl,by decide⟩
   rw[if_neg k]
   by_cases k:e.aa=4
   ·rw[if_pos k];exact⟨[110,117,108],108,rfl,by decide⟩
   rw[if_neg k]
   by_cases k:e.aa=5
   ·rw[if_pos k];exact⟨[105,110,112,117],116,rfl,by decide⟩
   rw[if_neg k]
   by_cases k:e.aa=12
   ·obtain⟨x,hx⟩:=SB hl (.inl k)
    rw[if_pos k,hx,acj];exact vv _ (hK x (by rw[hx];exact Nu x) _)
   rw[if_neg k]
   have e41:En [41]:=⟨[],41,rfl,by decide⟩
   by_cases k:e.aa=13
   ·rw[if_pos k];exact vv _ (vv _ e41)
   rw[if_neg k,if_pos (by omega)]
   exact vv _ (vv _ (vv _ (vv _ e41)))
theorem aeI {e} (h:eX e≠[]):En (eX e):=by
 unfold eX at h ⊢
 split at h
 ·rename_i hr
  rw[if_pos hr];exact ZE _ e 0 (Nat.le_refl _) (iz hr)
 ·exact absurd rfl h
theorem VT {p c} (h:p.length<=10000000000000):ki (p++[c]) [32]=some (if c=32 then p else p++[c]):=by
 have hl:(((p++[c]).length:Nat):Int)=(p.length:Int)+1:=by rw[pT,jq,jm];omega
 have hw:ae ((((p++[c]).length:Nat):Int) - ((([32]:List UInt8).length:Nat):Int))=((p.length:Nat):Int):=by rw[hl,jq,jm,w64 (by omega) (by omega)];omega
 have hd:jK (p++[c]) (p.length:Int) (((p++[c]).length:Nat):Int)=some [c]:=by
  rw[wQ (by rw[length_append];omega),drop_left]
 have ht:jK (p++[c]) 0 (p.length:Int)=some p:=by
  unfold jK
  rw[if_pos ⟨by omega,by omega,by rw[hl];omega⟩]
  simp
 unfold ki fQ gj
 rw[if_pos (by rw[hl,jq,jm];simp;omega),hw,hd,ht]
 simp only[obs]
 by_cases hc:c=32
 ·rw[if_pos (by simp[hc]),if_pos hc,obs]
 ·rw[if_neg (by simp[hc]),if_neg hc,obs]
theorem abQ {s} (hl:s.bN.length<=5) (ha:∀ y∈s.bN,bL y<=1000000):dX s ((((s.bN.length:Int):Int) - (0)).toNat+1) [] 0=some (s.bN.map eX):=by
 have:=zi (dX s) (l:=s.bN) (fun _ y=>[eX y]) 1000 (x:=[]) (fun n k x h hx=>by
  rw[dX,if_pos (by simpa using h),cU h,obs,xy (ha _ (getElem_mem h)),obs,gz (by simp only[jq,jm,length_cons,length_nil] at hx ⊢;omega),obs,cn h (by omega)]) (fun n x=>by
  rw[dX,if_neg (by simp)]) (by rw[BA,length_map];simp;omega)
 rw[this,BA,nil_append]
theorem Zy {s} (h:cc s<=1000000):(Qi s.bN).length<=62000000:=by
 have:=Rp s.bN
 have:=lI s
 omega
theorem ady {s} (h:cc s<=1000000):(eX s.fE).length<=60000000:=by
 have:=O6 s.fE
 have:=lI s
 omega
theorem Xy {ps} (hp:PS ps) {s} (hs:LN s) (hm:cc s<=1000000) (hk:¬ (s.aa=9\/s.aa=10)) (b:List Int):ef s ps b=some (plS ps s.aa s.fY s.af s.av s.fE s.bN):=by
 obtain⟨p1,p2,p3,p4,p5⟩:=nW s
 have lx:=hs.x
 have ly:=hs.y
 have ln:=hs.n
 have la:=Zy hm
 have le:=ady hm
 have lt:=wB hp s.av
 have hj:strings_Join (s.bN.map eX) [44,32]=some (Qi s.bN):=Wm (by rw[length_map];have:=hs.a;omega) (by unfold Qi at la;omega)
 unfold ef plS
 rw[xy (by omega),obs,Jo hp,abQ hs.a (fun y hy=>by have:=p5 y hy;omega)]
 simp only[hj,obs,ieq]
 have hE:= @aeI s.fE
 generalize eX s.fE=E at *
 generalize Qi s.bN=A at *
 generalize wU s.av ps=T at *
 by_cases k:s.aa=2
 ·rw[if_pos (by simpa using k),if_neg (by omega),if_pos k,en (by simp only[jq,jm];omega),en (by simp only[pT,jq,jm];omega),append_assoc]
 rw[if_neg (by simpa using k)]
 by_cases k3:s.aa=3
 ·rw[if_pos (by simpa using k3),if_neg (by omega),if_neg k,if_pos k3,en (by simp only[jq,jm];omega),en (by simp only[pT,jq,jm];omega),en (by simp only[pT,jq,jm];omega),en (by simp only[pT,jq,jm];omega)]
  simp only[append_assoc]
 rw[if_neg (by simpa using k3)]
 by_cases k4:s.aa=4
 ·rw[if_pos (by simpa using k4),if_neg (by omega),if_neg k,if_neg k3,if_pos k4,en (by simp only[jq,jm];omega),en (by simp only[pT,jq,jm];omega),en (by simp only[pT,jq,jm];omega),en (by simp only[pT,jq,jm];omega),en (by simp only[pT,jq,jm];omega)]
  simp only[append_assoc]
 rw[if_neg (by simpa using k4)]
 by_cases k5:s.aa=5
 ·rw[if_pos (by simpa using k5),if_neg (by omega),if_neg k,if_neg k3,if_neg k4,if_pos k5,en (by simp only[jq,jm];omega)]
 rw[if_neg (by simpa using k5)]
 by_cases k6:s.aa=6
 ·rw[if_pos (by simpa using k6),if_neg (by omega),if_neg k,if_neg k3,if_neg k4,if_neg k5,if_pos k6,en (by simp only[jq,jm];omega),en (by simp only[pT,jq,jm];omega),en (by simp only[pT,jq,jm];omega)]
  simp only[append_assoc]
 rw[if_neg (by simpa using k6)]
 by_cases k7:s.aa=7
 ·rw[if_pos (by simpa using k7),if_neg (by omega),if_neg k,if_neg k3,if_neg k4,if_neg k5,if_neg k6,if_pos k7,en (by simp only[jq,jm];omega)]
 rw[if_neg (by simpa using k7)]
 by_cases k8:s.aa=8
 ·rw[if_pos (by simpa using k8),if_neg (by omega),if_neg k,if_neg k3,if_neg k4,if_neg k5,if_neg k6,if_neg k7,if_pos k8,en (by simp only[jq,jm];omega)]
 rw[if_neg (by simpa using k8)]
 by_cases k11:s.aa=11
 ·rw[if_pos (by simpa using k11),if_neg (by omega),if_neg k,if_neg k3,if_neg k4,if_neg k5,if_neg k6,if_neg k7,if_neg k8,en (by simp only[jq,jm];omega)]
  by_cases hE0:E=[]
  ·subst hE0
   rw[if_pos rfl,append_nil,show ([114,101,116,117,114,110,32]:List UInt8)=[114,101,116,117,114,110]++[32] from rfl,VT (by simp only[length_cons,length_nil];omega),obs,if_pos rfl]
  ·obtain⟨p,c,e,hc⟩:=hE hE0
   subst e
   rw[if_neg hE0,<- append_assoc,VT (by simp only[length_append,length_cons,length_nil] at *;omega),obs,if_neg hc]
 rw[if_neg (by simpa using k11),if_pos (by have:=hs.k;omega)]
theorem VO : ∀ d:Nat,Lib.repeatL [9] d=uR d
 | 0=>rfl
 | d+1=>by
  show [9]++Lib.repeatL [9] d=_
  rw[VO d];rfl
theorem Ah {ps:List (List UInt8)} {d:Nat} {l:List (List UInt8)} {b:List Int} (hd:d<=1000) (hl:l.length<=1000) (hb:b.length+(uR d++(l.flatten++[10])).length<=100000000000000):dh (d:Int) l ps b=some (b++bh (uR d++(l.flatten++[10]))):=by
 have ht:=Jv d
 have hr:strings_Repeat [9] (d:Int)=some (uR d):=by
  unfold strings_Repeat abn
  rw[Int.toNat_natCast,VO,if_pos ⟨by omega,by omega,by simp only[length_cons,length_nil];omega⟩]
 simp only[length_append,length_cons,length_nil] at hb
 have e1:gr (fun _ y=>bh y) 0 l=bh l.flatten:=by
  rw[rK (fun _ y=>y),rl (fun y=>y)]
  simp
 have:=zi (fj l) (l:=l) (fun _ y=>bh y) 100000000000000 (x:=b++bh (uR d)) (fun n k x h hx=>by
  rw[fj,if_pos (by simpa using h),cU h,obs,en (by rw[cR] at hx;omega),cn h (by omega)]) (fun n x=>by
  rw[fj,if_neg (by simp)]) (by rw[e1,cR,length_append,cR];omega)
 unfold dh
 rw[hr,obs,en (by omega),this,obs,e1,en (by simp only[length_append,cR];omega)]
 simp only[lH,append_assoc]
 rfl
theorem Ze {R S:Type} {c:Ctl (Option R) S} {f:S->Option R} {o:Option R} (h:c= .stop o):Ctl.go c f=o:=by rw[h];rfl
theorem DC {ps} (hp:PS ps) {m:Int}:∀ (f:Nat) (s:ah) (d:Nat) (b:List Int),cc s+1<=f->cc s<=1000000->fmS m s=true->d+dSt s<=100->b.length+(stT ps s d).length<=90000000000000->cy f s (d:Int) ps b=some (b++bh (stT ps s d))
 | 0,s,d,b,h,_,_,_,_=>by omega
 | f+1,s,d,b,h,hm,hs,hd,hb=>by
  have h1:=lI s
  have h2:=Bl s
  obtain⟨p1,p2,p3,p4,p5⟩:=nW s
  rw[Li] at hs
  simp only[Bool.and_eq_true,all_eq_true] at hs
  have ln:=aau hs.1
  have ht:=Jv d
  rw[cy]
  by_cases hk:s.aa=9\/s.aa=10
  ·have hh:(if(s.aa==10)=true then(Ctl.next [119,104,105,108,101,32,40]:Ctl (Option (List Int)) (List UInt8)) else if(s.aa==9)=true then .next [105,102,32,40] else if(!(s.fX==[]))=true then nU (ef s ps b) fun(y4:(List UInt8))=>nU (dh (d:Int) [s.fX,[32,61,32],y4,[59]] ps b) fun(y6:(List Int))=> .stop (some y6) else nU (ef s ps b) fun(y8:(List UInt8))=>nU (dh (d:Int) [y8,[59]] ps b) fun(y0:(List Int))=> .stop (some y0))= .next (hdW s.aa):=by
    rcases hk with k | k<;>rw[k]<;>rfl
   rw[Uh hk] at hb ⊢
   have hw:=VQ s.aa
   simp only[length_append,length_cons,length_nil] at hb
   have hd1:ae ((d:Int)+1)=((d+1:Nat):Int):=by rw[w64 (by omega) (by omega)];omega
   have kB:∀ (x:List Int) (y:ah),y∈s.au->x.length+(stT ps y (d+1)).length<=90000000000000->cy f y ((d+1:Nat):Int) ps x=some (x++bh (stT ps y (d+1))):=fun x y hy hx=>
    DC hp f y (d+1) x (by have:=wA hy;omega) (by have:=wA hy;omega) (hs.2.1 y hy) (by have:=(qh s.au (ul s.au)).1 (Nat.le_refl _) y hy;omega) hx
   have kE:∀ (x:List Int) (y:ah),y∈s.aZ->x.length+(stT ps y (d+1)).length<=90000000000000->cy f y ((d+1:Nat):Int) ps x=some (x++bh (stT ps y (d+1))):=fun x y hy hx=>
    DC hp f y (d+1) x (by have:=xh hy;omega) (by have:=xh hy;omega) (hs.2.2 y hy) (by have:=(qh s.aZ (ul s.aZ)).1 (Nat.le_refl _) y hy;omega) hx
   have gB:gr (fun _ y=>bh (stT ps y (d+1))) 0 s.au=bh (xU ps s.au (d+1)):=by rw[rK (fun _ y=>stT ps y (d+1)),rl (fun y=>stT ps y (d+1)),Dh]
   have gE:gr (fun _ y=>bh (stT ps y (d+1))) 0 s.aZ=bh (xU ps s.aZ (d+1)):=by rw[rK (fun _ y=>stT ps y (d+1)),rl (fun y=>stT ps y (d+1)),Dh]
   have lB:=fun(x:List Int) (hx:x.length+(xU ps s.au (d+1)).length<=90000000000000)=>zi (fk s (d:Int) ps (cy f)) (l:=s.au) (fun _ y=>bh (stT ps y (d+1))) 90000000000000 (x:=x) (fun n k x h hx=>by
    rw[fk,if_pos (by simpa using h),cU h,obs,hd1,kB x _ (getElem_mem h) (by rw[cR] at hx;exact hx),obs,cn h (by omega)]) (fun n x=>by
    rw[fk,if_neg (by simp)]) (by rw[gB,cR];exact hx)
   have lE:=fun(x:List Int) (hx:x.length+(xU ps s.aZ (d+1)).length<=90000000000000)=>zi (fh s (d:Int) ps (cy f)) (l:=s.aZ) (fun _ y=>bh (stT ps y (d+1))) 90000000000000 (x:=x) (fun n k x h hx=>by
    rw[fh,if_pos (by simpa using h),cU h,obs,hd1,kE x _ (getElem_mem h) (by rw[cR] at hx;exact hx),obs,cn h (by omega)]) (fun n x=>by
    rw[fh,if_neg (by simp)]) (by rw[gE,cR];exact hx)
   rw[gB] at lB
   rw[gE] at lE
   rw[hh]
   simp only[Ctl.go]
   rw[xy (by omega),obs,Ah (by omega) (by simp) (by simp only[flatten_cons,flatten_nil,length_append,length_cons,length_nil];omega),obs,lB _ (by simp only[flatten_cons,flatten_nil,length_append,length_cons,length_nil,cR];omega),obs]
   by_cases he:s.aZ.length=0
   ·have he0:s.aZ=[]:=eq_nil_of_length_eq_zero he
    have hz:xU ps s.aZ (d+1)=[]:=by rw[he0,xU]
    rw[hz] at lE
    rw[if_neg (by simp[he]),obs,lE _ (by simp only[flatten_cons,flatten_nil,length_append,length_cons,length_nil,cR];omega),obs,Ah (by omega) (by simp) (by simp only[flatten_cons,flatten_nil,length_append,length_cons,length_nil,cR];omega),obs,if_pos he]
    refine congrArg some ?_
    rw[show ∀ X Y Z W:List UInt8,(((b++bh X)++bh Y)++bh Z)++bh W=b++bh (X++(Y++(Z++W))) from fun X Y Z W=>by simp only[lH,append_assoc]]
    refine congrArg (fun t=>b++bh t) ?_
    simp only[append_assoc,flatten_cons,flatten_nil,append_nil,cons_append,nil_append]
   ·rw[if_neg he] at hb ⊢
    simp only[length_append,length_cons,length_nil] at hb
    rw[if_pos (by simp;omega),Ah (by omega) (by simp) (by simp only[flatten_cons,flatten_nil,length_append,length_cons,length_nil,cR];omega),obs,obs,lE _ (by simp only[flatten_cons,flatten_nil,length_append,length_cons,length_nil,cR];omega),obs,Ah (by omega) (by simp) (by simp only[flatten_cons,flatten_nil,length_append,length_cons,length_nil,cR];omega),obs]
    refine congrArg some ?_
    rw[show ∀ X Y V Z W:List UInt8,((((b++bh X)++bh Y)++bh V)++bh Z)++bh W=b++bh (X++(Y++(V++(Z++W)))) from fun X Y V Z W=>by simp only[lH,append_assoc]]
    refine congrArg (fun t=>b++bh t) ?_
    simp only[append_assoc,flatten_cons,flatten_nil,append_nil,cons_append,nil_append]
  ·have k9:(s.aa==9)=false:=by simp;omega
   have k10:(s.aa==10)=false:=by simp;omega
   rw[SQ hk] at hb ⊢
   have lx:=ln.x
   have lp:=UW hp ln
   rw[k9,k10,if_neg (by decide),if_neg (by decide),Xy hp ln hm hk]
   by_cases hx:s.fX=[]
   ·have hx0:xxS s.fX=[]:=by unfold xxS;rw[if_pos hx]
    rw[hx0] at hb ⊢
    simp only[length_append,length_cons,length_nil] at hb
    rw[if_neg (by simp[hx])]
    refine Ze ?_
    simp only[nU]
    rw[Ah (by omega) (by simp) (by simp only[flatten_cons,flatten_nil,length_append,length_cons,length_nil,cR];omega)]
    simp only[append_assoc,flatten_cons,flatten_nil,append_nil,cons_append,nil_append]
   ·have hx0:xxS s.fX=s.fX++[32,61,32]:=by unfold xxS;rw[if_neg hx]
    rw[hx0] at hb ⊢
    simp only[length_append,length_cons,length_nil] at hb
    rw[if_pos (by simp[hx])]
    refine Ze ?_
    simp only[nU]
    rw[Ah (by omega) (by simp) (by simp only[flatten_cons,flatten_nil,length_append,length_cons,length_nil,cR];omega)]
    simp only[append_assoc,flatten_cons,flatten_nil,append_nil,cons_append,nil_append]
theorem acG {m:Int} {s} (h:sR 20 m s=true):fmS m s=true/\dSt s<=20:=by
 rw[Dq m 20 _ s (Nat.le_refl _),Bool.and_eq_true,decide_eq_true_eq] at h
 exact h
def stX (ps:List (List UInt8)) (s:ah):List UInt8:=if sR 20 (ps.length:Int) s=true then stT ps s 2 else []
theorem Wr {ps} (hp:PS ps) (s:ah):(stX ps s).length<=1000 * cc s:=by
 unfold stX
 split
 ·rename_i h
  have:=acG h
  exact OE hp _ s 2 (Nat.le_refl _) this.1 (by omega)
 ·simp
theorem NI {ps} (hp:PS ps) {s} (hm:cc s<=1000000):xf s ps 2=some (stX ps s):=by
 have hl:=Wr hp s
 unfold xf stX at *
 rw[AK _ hm,obs]
 cases h:sR 20 (ps.length:Int) s with
 | false=>rfl
 | true=>
  rw[h,if_pos rfl] at hl
  have:=acG h
  rw[if_neg (by decide),show ((if(if 20 < (2:Int) then 20 else 2) > (0:Int) then(if 20 < (2:Int) then 20 else 2) else 0):Int)=((2:Nat):Int) from by decide,DC hp _ s 2 [] (Nat.le_refl _) hm this.1 (by omega) (by simp only[length_nil];omega),obs,nil_append,IW,obs]
  rfl
def vaT (ps:List (List UInt8)) (v:cN):List UInt8:=wU v.av ps++([32]++v.af)
def Gv (l:List (List UInt8)):List UInt8:=if l.length=0 then [] else [60]++(cm l++[62])
def fiT (c:be):List UInt8:=[99,108,97,115,115,32]++(c.af++(Gv c.ac++((if c.cb=[] then [] else [32,101,120,116,101,110,100,115,32]++(c.cb++Gv (c.bl.map (gh · c.ac))))++[32,123])))
def hmT (ps:List (List UInt8)) (x:br):List UInt8:=wU x.aQ ps++([32]++(x.af++([40]++(cm (x.ac.map (vaT ps))++[41]))))
def hdT (ps:List (List UInt8)) (x:br):List UInt8:=(if x.fm=true then [112,117,114,101,32] else [])++hmT ps x
def loT (ps:List (List UInt8)) (v:cN):List UInt8:=[9,9]++(vaT ps v++[59,10])
def feT (ps:List (List UInt8)) (v:cN):List UInt8:=[9]++(vaT ps v++[59,10])
def meT (ps:List (List UInt8)) (x:br):List UInt8:=[9]++(hdT ps x++([32,123,10]++((x.bC.map (loT ps)).flatten++((x.au.map (stX ps)).flatten++[9,125,10]))))
def clT (c:be):List UInt8:=fiT c++([10]++((c.bn.map (feT c.ac)).flatten++((c.ak.map (meT c.ac)).flatten++[125,10])))
structure RM (x:br):Prop where
 nm:x.af.length<=20
 pl:x.ac.length<=5
 pn:∀ v∈x.ac,v.af.length<=20
 ll:x.bC.length<=12
 ln:∀ v∈x.bC,v.af.length<=20
 b:cC x.au<=1000000
structure RC (c:be):Prop where
 ps:PS c.ac
 nm:c.af.length<=20
 su:c.cb.length<=20
 sa:c.cb=[]->c.bl=[]
 al:c.bl.length<=3
 pl:c.ac.length<=3
 fl:c.bn.length<=12
 fn:∀ v∈c.bn,v.af.length<=20
 ml:c.ak.length<=12
 ms:∀ x∈c.ak,RM x
theorem Kf {l most} {m:Int} (h:oT l most m=true):l.length<=most/\∀ v∈l,v.af.length<=20:=by
 unfold oT at h
 rw[Bool.and_eq_true,decide_eq_true_eq,all_eq_true] at h
 refine⟨h.1,fun v hv=> ?_⟩
 have:=h.2 v hv
 unfold J3 at this
 simp only[Bool.and_eq_true] at this
 exact ju this.2.1
theorem adN {x} {m:Int} (hb:BM x) (h:DI m x=true):RM x:=by
 unfold DI at h
 simp only[Bool.and_eq_true] at h
 have h3:=Kf h.2.2.1
 have h4:=Kf h.2.2.2.1
 exact⟨ju h.1,h3.1,h3.2,h4.1,h4.2,hb.b⟩
theorem acO {c} (hb:BC c) (h:clS c=true):RC c:=by
 unfold clS hdS at h
 simp only[Bool.and_eq_true,decide_eq_true_eq,all_eq_true] at h
 obtain⟨⟨h1,h2,h3,h4,h5⟩,h6,h7,h8⟩:=h
 have hf:=Kf h6
 have hsu:c.cb.length<=20/\(c.cb=[]->c.bl=[]):=by
  by_cases hs:c.cb=[]
  ·rw[if_pos (by simp[hs])] at h5
   exact⟨by rw[hs];simp,fun _=>eq_nil_of_length_eq_zero (of_decide_eq_true h5)⟩
  ·rw[if_neg (by simp[hs]),Bool.and_eq_true] at h5
   exact⟨ju h5.2,fun e=>absurd e hs⟩
 exact⟨⟨hb.p,fun p hp=>ju (h4 p hp)⟩,ju h1,hsu.1,hsu.2,h3,h2,hf.1,hf.2,h7,fun x hx=>adN (hb.ms x hx) (h8 x hx)⟩
theorem GV {ps} (hp:PS ps) {v} (h:v.af.length<=20):(vaT ps v).length<=221:=by
 have:=wB hp v.av
 unfold vaT
 simp only[length_append,length_cons,length_nil];omega
theorem Jx {l n c} (hl:l.length<=n) (h:∀ x∈l,x.length+2<=c):(cm l).length<=n * c:=by
 have h1:=YV l
 have h2:=Dv h
 have h3:l.length * c<=n * c:=Nat.mul_le_mul_right c hl
 omega
theorem VU {ps:List (List UInt8)} (hp:PS ps) {l:List cN} {n:Nat} (hl:l.length<=n) (h:∀ v∈l,v.af.length<=20):(cm (l.map (vaT ps))).length<=n * 300:=
 Jx (by rw[length_map];exact hl) fun x hx=>by
  obtain⟨v,hv,rfl⟩:=List.mem_map.1 hx
  have:=GV hp (h v hv);omega
theorem Bq {α:Type} {g:α->List UInt8} {l:List α} {n c:Nat} (hl:l.length<=n) (h:∀ x∈l,(g x).length<=c):(l.map g).flatten.length<=n * c:=by
 rw[PD]
 have h2:=Dv h
 have h3:l.length * c<=n * c:=Nat.mul_le_mul_right c hl
 omega
theorem CA (l:List (List UInt8)):(Gv l).length<=(cm l).length+2:=by
 unfold Gv;split
 ·simp
 ·simp
theorem VK {c} (h:RC c):(fiT c).length<=400:=by
 have h1:=CA c.ac
 have h2:=CA (c.bl.map (gh · c.ac))
 have h3:=Jx (c:=22) h.pl fun x hx=>by have:=h.ps.l x hx;omega
 have h4:=Jx (l:=c.bl.map (gh · c.ac)) (n:=3) (c:=22) (by rw[length_map];exact h.al) fun x hx=>by
  obtain⟨v,hv,rfl⟩:=List.mem_map.1 hx
  have:=yJ h.ps v;omega
 have h5:=h.nm
 have h6:=h.su
 have h7:(if c.cb=[] then [] else [32,101,120,116,101,110,100,115,32]++(c.cb++Gv (c.bl.map (gh · c.ac)))).length<=100:=by
  split
  ·simp
  ·simp only[length_append,length_cons,length_nil];omega
 unfold fiT
 simp only[length_append,length_cons,length_nil]
 omega
theorem aaN {ps} (hp:PS ps) {x} (h:RM x):(hmT ps x).length<=1800:=by
 have h1:=VU hp h.pl h.pn
 have h2:=wB hp x.aQ
 have h3:=h.nm
 unfold hmT
 simp only[length_append,length_cons,length_nil];omega
theorem VN {ps} (hp:PS ps) {x} (h:RM x):(hdT ps x).length<=1805:=by
 have h1:=aaN hp h
 unfold hdT
 split<;>simp only[length_append,length_cons,length_nil]<;>omega
theorem NB {ps} (hp:PS ps):∀ l:List ah,(l.map (stX ps)).flatten.length<=1000 * cC l
 | []=>by simp
 | s::l=>by
  have h1:=NB hp l
  have h2:=Wr hp s
  rw[map_cons,flatten_cons,length_append,cC];omega
theorem GY {ps} (hp:PS ps) {v} (h:v.af.length<=20):(loT ps v).length<=300/\(feT ps v).length<=300:=by
 have:=GV hp h
 unfold loT feT
 simp only[length_append,length_cons,length_nil];omega
theorem Vv {ps} (hp:PS ps) {x} (h:RM x):(meT ps x).length<=1000010000:=by
 have h1:=VN hp h
 have h2:=Bq h.ll fun v hv=>(GY hp (h.ln v hv)).1
 have h3:=NB hp x.au
 have h4:=h.b
 unfold meT
 simp only[length_append,length_cons,length_nil];omega
theorem aaQ {c} (h:RC c):(clT c).length<=12000200000:=by
 have h1:=VK h
 have h2:=Bq h.fl fun v hv=>(GY h.ps (h.fn v hv)).2
 have h3:=Bq (g:=meT c.ac) h.ml fun x hx=>Vv h.ps (h.ms x hx)
 unfold clT
 simp only[length_append,length_cons,length_nil];omega
theorem PA {o e l a} (hl:l.length<=1000) (hc:(cm l).length<=1000000) (ho:o.length<=10) (he:e.length<=10):pq o l e a=some (if l.length=0/\a=false then [] else o++(cm l++e)):=by
 unfold pq
 rw[Wm (by omega) (by omega),adf]
 by_cases h0:l.length=0
 ·rw[if_pos (by simpa using h0),obs]
  cases a with
  | false=>rw[if_pos (by rfl),if_pos ⟨h0,rfl⟩]
  | true=>
   rw[if_neg (by decide),obs,en (by omega),en (by simp only[pT];omega),if_neg (by simp),append_assoc]
 ·rw[if_neg (by simpa using h0),obs,if_neg (by decide),obs,en (by omega),en (by simp only[pT];omega),if_neg (by simp[h0]),append_assoc]
theorem aab {c} (h:RC c):uN c=some (fiT c):=by
 have h5:=h.nm
 have h6:=h.su
 have h3:=Jx (c:=22) h.pl fun x hx=>by have:=h.ps.l x hx;omega
 have h4:=Jx (l:=c.bl.map (gh · c.ac)) (n:=3) (c:=22) (by rw[length_map];exact h.al) fun x hx=>by
  obtain⟨v,hv,rfl⟩:=List.mem_map.1 hx
  have:=yJ h.ps v;omega
 have hpl:=h.pl
 have hal:=h.al
 have l1:pq [60] c.ac [62] false=some (Gv c.ac):=by
  rw[PA (by omega) (by omega) (by simp) (by simp)]
  unfold Gv
  by_cases h0:c.ac.length=0<;>simp[h0]
 have l2:pq [60] (c.bl.map (gh · c.ac)) [62] false=some (Gv (c.bl.map (gh · c.ac))):=by
  rw[PA (by rw[length_map];omega) (by omega) (by simp) (by simp)]
  unfold Gv
  by_cases h0:(c.bl.map (gh · c.ac)).length=0<;>simp[h0]
 have hL:lj c ((((c.bl.length:Int):Int) - (0)).toNat+1) [] 0=some (c.bl.map (gh · c.ac)):=by
  have:=zi (lj c) (l:=c.bl) (fun _ y=>[gh y c.ac]) 1000 (x:=[]) (fun n k x h' hx=>by
   rw[lj,if_pos (by simpa using h'),cU h',obs,AX _ _ h.ps.n,obs,gz (by simp only[jq,jm,length_cons,length_nil] at hx ⊢;omega),obs,cn h' (by omega)]) (fun n x=>by
   rw[lj,if_neg (by simp)]) (by rw[BA,length_map];simp;omega)
  rw[this,BA,nil_append]
 have g1:=CA c.ac
 have g2:=CA (c.bl.map (gh · c.ac))
 unfold uN fiT
 rw[l1,hL,en (by simp only[jq,jm];omega),obs,en (by simp only[pT,jq,jm];omega)]
 by_cases hs:c.cb=[]
 ·rw[if_pos (by simp[hs]),if_pos hs,en (by simp only[pT,jq,jm];omega)]
  simp only[append_assoc,nil_append]
 ·rw[if_neg (by simp[hs]),if_neg hs,obs,en (by simp only[pT,jq,jm];omega),en (by simp only[pT,jq,jm];omega),l2,obs,en (by simp only[pT,jq,jm];omega),en (by simp only[pT,jq,jm];omega)]
  simp only[append_assoc]
theorem zy {ps} (hp:PS ps) {v} (h:v.af.length<=20):lq v ps=some (vaT ps v):=by
 have:=wB hp v.av
 unfold lq vaT
 rw[Jo hp,obs,en (by simp only[jq,jm];omega),en (by simp only[pT,jq,jm];omega),append_assoc]
theorem adF {ps} (hp:PS ps) {x} (h:RM x):mG x ps ((((x.ac.length:Int):Int) - (0)).toNat+1) [] 0=some (x.ac.map (vaT ps)):=by
 have hl:=h.pl
 have h1:=zi (mG x ps) (l:=x.ac) (fun _ y=>[vaT ps y]) 1000 (x:=[]) (fun n k z h' hx=>by
  rw[mG,if_pos (by simpa using h'),cU h',obs,zy hp (h.pn _ (getElem_mem h')),obs,gz (by simp only[jq,jm,length_cons,length_nil] at hx ⊢;omega),obs,cn h' (by omega)]) (fun n z=>by
  rw[mG,if_neg (by simp)]) (by rw[BA,length_map];simp;omega)
 rw[h1,BA,nil_append]
theorem abN {ps} (hp:PS ps) {x} (h:RM x):wI x ps=some (hdT ps x):=by
 have h1:=VU hp h.pl h.pn
 have h2:=wB hp x.aQ
 have h3:=h.nm
 have h4:=h.pl
 unfold wI hdT hmT
 rw[adF hp h,obs,Jo hp,obs,PA (by rw[length_map];omega) (by omega) (by simp) (by simp),if_neg (by simp),obs]
 generalize cm (x.ac.map (vaT ps))=C at *
 generalize wU x.aQ ps=T at *
 rw[en (by simp only[jq,jm];omega),en (by simp only[pT,jq,jm];omega),en (by simp only[pT,jq,jm];omega)]
 cases x.fm with
 | false=>
  rw[if_neg (by decide),if_neg (by decide)]
  simp only[append_assoc,nil_append]
 | true=>
  rw[if_pos rfl,if_pos rfl,en (by simp only[pT,jq,jm];omega)]
  simp only[append_assoc]
theorem uz {y b} (hb:b.length+y.length<=90000000000000):jb [y] b=some (b++bh (y++[10])):=by
 have e:((((([y]:List (List UInt8)).length:Nat):Int) - 0:Int).toNat+1)=1+1:=rfl
 have hi:idx [y] 0=some y:=rfl
 have w1:ae (0+1)=1:=by decide
 unfold jb
 rw[e,mW,if_pos (by simp),hi,obs,en (by omega),en (by rw[pT,cR,jq,jm];omega),w1,mW,if_neg (by simp),obs,lH,append_assoc]
theorem Uy {c} (h:RC c) (hb:∀ x∈c.ak,∀ s∈x.au,cc s<=1000000) {b} (hl:b.length<=1000000000000):rN c b=some (b++bh (clT c)):=by
 have hp:=h.ps
 have hfi:=VK h
 have hfl:=h.fl
 have hml:=h.ml
 have n1:=Bq (g:=feT c.ac) h.fl fun v hv=>(GY h.ps (h.fn v hv)).2
 have n2:=Bq (g:=meT c.ac) h.ml fun x hx=>Vv h.ps (h.ms x hx)
 have e1:gr (fun _ y=>bh (feT c.ac y)) 0 c.bn=bh (c.bn.map (feT c.ac)).flatten:=by rw[rK (fun _ y=>feT c.ac y),rl (fun y=>feT c.ac y)]
 have e2:gr (fun _ y=>bh (meT c.ac y)) 0 c.ak=bh (c.ak.map (meT c.ac)).flatten:=by rw[rK (fun _ y=>meT c.ac y),rl (fun y=>meT c.ac y)]
 have L1:=fun(x:List Int) (hx:x.length<=2000000000000)=>zi (kx c) (l:=c.bn) (fun _ y=>bh (feT c.ac y)) 3000000000000 (x:=x) (fun n k z h' hz=>by
  have hv:=GV hp (h.fn _ (getElem_mem h'))
  rw[kx,if_pos (by simpa using h'),cU h',obs,zy hp (h.fn _ (getElem_mem h')),obs,en (by simp only[jq,jm];omega),en (by simp only[pT,jq,jm];omega),uz (by simp only[length_append,length_cons,length_nil];omega),obs,cn h' (by omega)]
  simp only[feT,append_assoc,cons_append,nil_append]) (fun n z=>by
  rw[kx,if_neg (by simp)]) (by rw[e1,cR];omega)
 have L2:=fun(x:List Int) (hx:x.length<=2000000000000)=>zi (jD c) (l:=c.ak) (fun _ y=>bh (meT c.ac y)) 3000000000000 (x:=x) (fun n k z h' hz=>by
  have hm:=h.ms _ (getElem_mem h')
  have hbo:=hb _ (getElem_mem h')
  have hi:=cU h'
  generalize c.ak[k]=x at *
  have hh:=VN hp hm
  have hll:=hm.ll
  have hbl:=uo x.au
  have hbb:=hm.b
  have m1:=Bq (g:=loT c.ac) hm.ll fun v hv=>(GY h.ps (hm.ln v hv)).1
  have m2:=NB hp x.au
  have f1:gr (fun _ y=>bh (loT c.ac y)) 0 x.bC=bh (x.bC.map (loT c.ac)).flatten:=by rw[rK (fun _ y=>loT c.ac y),rl (fun y=>loT c.ac y)]
  have f2:gr (fun _ y=>bh (stX c.ac y)) 0 x.au=bh (x.au.map (stX c.ac)).flatten:=by rw[rK (fun _ y=>stX c.ac y),rl (fun y=>stX c.ac y)]
  have L3:=fun(q:List Int) (hx:q.length<=4000000000000)=>zi (kC c x) (l:=x.bC) (fun _ y=>bh (loT c.ac y)) 5000000000000 (x:=q) (fun n k z h' hz=>by
   have hv:=GV hp (hm.ln _ (getElem_mem h'))
   rw[kC,if_pos (by simpa using h'),cU h',obs,zy hp (hm.ln _ (getElem_mem h')),obs,en (by simp only[jq,jm];omega),en (by simp only[pT,jq,jm];omega),uz (by simp only[length_append,length_cons,length_nil];omega),obs,cn h' (by omega)]
   simp only[loT,append_assoc,cons_append,nil_append]) (fun n z=>by
   rw[kC,if_neg (by simp)]) (by rw[f1,cR];omega)
  have L4:=fun(q:List Int) (hx:q.length<=5000000000000)=>zi (kv c x) (l:=x.au) (fun _ y=>bh (stX c.ac y)) 6000000000000 (x:=q) (fun n k z h' hz=>by
   rw[kv,if_pos (by simpa using h'),cU h',obs,NI hp (hbo _ (getElem_mem h')),obs,en (by rw[cR] at hz;omega),cn h' (by omega)]) (fun n z=>by
   rw[kv,if_neg (by simp)]) (by rw[f2,cR];omega)
  rw[f1] at L3
  rw[f2] at L4
  rw[cR] at hz
  rw[jD,if_pos (by simpa using h'),hi,obs,abN hp hm,obs,en (by simp only[jq,jm];omega),en (by simp only[pT,jq,jm];omega),uz (by simp only[length_append,length_cons,length_nil];omega),obs,
   L3 _ (by simp only[length_append,length_cons,length_nil,cR];omega),obs,L4 _ (by simp only[length_append,length_cons,length_nil,cR];omega),obs,uz (by simp only[length_append,length_cons,length_nil,cR];omega),obs,cn h' (by omega)]
  refine congrArg (fun t=>jD c n t _) ?_
  rw[show ∀ X Y V Z:List UInt8,(((z++bh X)++bh Y)++bh V)++bh Z=z++bh (X++(Y++(V++Z))) from fun X Y V Z=>by simp only[lH,append_assoc]]
  refine congrArg (fun t=>z++bh t) ?_
  simp only[meT,append_assoc,cons_append,nil_append]) (fun n z=>by
  rw[jD,if_neg (by simp)]) (by rw[e2,cR];omega)
 rw[e1] at L1
 rw[e2] at L2
 unfold rN
 rw[aab h,obs,uz (by omega),obs,L1 _ (by simp only[length_append,length_cons,length_nil,cR];omega),obs,L2 _ (by simp only[length_append,length_cons,length_nil,cR];omega),obs,uz (by simp only[length_append,length_cons,length_nil,cR];omega),obs]
 refine congrArg some ?_
 rw[show ∀ X Y V Z:List UInt8,(((b++bh X)++bh Y)++bh V)++bh Z=b++bh (X++(Y++(V++Z))) from fun X Y V Z=>by simp only[lH,append_assoc]]
 refine congrArg (fun t=>b++bh t) ?_
 simp only[clT,append_assoc,cons_append,nil_append]
structure RP (p:List be):Prop where
 n:p.length<=20
 c:∀ x∈p,RC x
 b:∀ c∈p,∀ x∈c.ak,∀ s∈x.au,cc s<=1000000
theorem aaw {p} (h:RP p):(p.map clT).flatten.length<=20 * 12000200000:=Bq h.n fun c hc=>aaQ (h.c c hc)
theorem abz {p} (h:RP p):mO p ((((p.length:Int):Int) - (0)).toNat+1) [] 0=some (bh (p.map clT).flatten):=by
 have hl:=aaw h
 have hn:=h.n
 have e1:gr (fun _ y=>bh (clT y)) 0 p=bh (p.map clT).flatten:=by rw[rK (fun _ y=>clT y),rl (fun y=>clT y)]
 have:=zi (mO p) (l:=p) (fun _ y=>bh (clT y)) 1000000000000 (x:=[]) (fun n k z h' hz=>by
  rw[mO,if_pos (by simpa using h'),cU h',obs,Uy (h.c _ (getElem_mem h')) (h.b _ (getElem_mem h')) (by omega),obs,cn h' (by omega)]) (fun n z=>by
  rw[mO,if_neg (by simp)]) (by rw[e1,cR];simp only[length_nil];omega)
 rw[this,e1,nil_append]
theorem aeB {p} (hb:BP p) (h:rS p=true):RP p:=by
 unfold rS at h
 simp only[Bool.and_eq_true,decide_eq_true_eq,all_eq_true] at h
 exact⟨h.1,fun c hc=>acO (hb.c c hc) (h.2.1 c hc),fun c hc x hx s hs=>by have:=((hb.c c hc).ms x hx).b;have:=qq hs;omega⟩
def prX (p:List be):List UInt8:=if rS p=true then(p.map clT).flatten else []
theorem PQ {p} (hb:BP p):uy p=some (prX p):=by
 unfold uy prX
 rw[Mq hb,obs]
 cases h:rS p with
 | false=>rfl
 | true=>rw[if_neg (by decide),if_pos rfl,abz (aeB hb h),obs,IW,obs]
theorem mS2 (s:ah):2 * cc s<=mE s:=mS5 _ s (Nat.le_refl _)
theorem aer : ∀ l:List ah,2 * cC l<=cg mE l
 | []=>by simp[cC,cg]
 | s::l=>by
  have:=aer l
  have:=mS2 s
  simp only[cC,cg];omega
theorem afa (x:br):2 * cC x.au<=na x:=by
 have:=aer x.au
 have:=afz x
 omega
theorem nM (x:br):gV x.au<=cC x.au:=Pk _ fun s _=>Vl _ s (Nat.le_refl _)
theorem afn (c:be):2 * stC c<=mF c:=by
 have h1:∀ l:List br,2 * cg (fun x:br=>gV x.au) l<=cg na l:=fun l=>by
  induction l with
  | nil=>simp[cg]
  | cons x l ih=>
   have:=nM x
   have:=afa x
   simp only[cg];omega
 have h2:=h1 c.ak
 have h3:=afp c
 have h4:stC c=cg (fun x=>gV x.au) c.ak:=rfl
 omega
theorem Wn : ∀ p:List be,2 * cg stC p<=cg mF p
 | []=>by simp[cg]
 | c::p=>by
  have:=Wn p
  have:=afn c
  simp only[cg];omega
theorem aeU {c} (h:N3 c) (hu:mF c<=1048576):BC c:=by
 obtain⟨h1,h2,h3,h4,h5⟩:=h
 refine⟨by omega,by omega,by omega,by omega,fun x hx=> ?_⟩
 have:=h5 x hx
 have hm:=afa x
 have h6:=Sr (u:=na) hx
 have h7:=afp c
 exact⟨by omega,by omega,by omega⟩
theorem aeV {p} (hn:p.length<=30) (h:∀ c∈p,N3 c) (hu:cg mF p<=1048576):BP p:=by
 have:=Wn p
 refine⟨by omega,fun c hc=>aeU (h c hc) ?_,by omega⟩
 have:=Sr (u:=mF) hc
 omega
theorem IR : ox=some true:=by decide +kernel
abbrev KT := Int×List UInt8
def kt (t:aK):KT:=(t.aa,t.bV)
def blk (b:UInt8):Bool:=b==9||(b==10||(b==13||b==32))
theorem Xr (b:UInt8):sN (b.toNat:Int)=some (blk b):=by
 have:∀ k:Fin 256,sN (k.val:Int)=some (blk (UInt8.ofNat k.val)):=by decide +kernel
 have h:=this ⟨b.toNat,b.toNat_lt⟩
 simpa using h
theorem Po {α:Type} {l:List α} {k:Nat} (h:k<=l.length):jK l 0 (k:Int)=some (l.take k):=by
 unfold jK
 rw[if_pos ⟨by omega,by omega,by omega⟩]
 simp
def Be (p:UInt8->Bool) (l:List UInt8):Nat:=(l.takeWhile p).length
theorem uD {p b l}:Be p (b::l)=if p b=true then Be p l+1 else 0:=by
 unfold Be
 rw[takeWhile_cons]
 split<;>simp
theorem GZ (p:UInt8->Bool) (l:List UInt8):Be p l<=l.length:=(takeWhile_sublist p).length_le
theorem DM (p:UInt8->Bool):∀ l:List UInt8,l.take (Be p l)=l.takeWhile p
 | []=>rfl
 | b::l=>by
  rw[uD,takeWhile_cons]
  split
  ·rw[take_succ_cons,DM p l]
  ·rfl
theorem Zb {s} (hs:s.length<=20000):∀ (n k:Nat),s.length+1<=n+k->k<=s.length->rP s n (k:Int)=some ((k+Be isC (s.drop k):Nat):Int)
 | 0,k,h,hk=>by omega
 | n+1,k,h,hk=>by
  rw[rP]
  by_cases hlt:k < s.length
  ·rw[if_pos (by simpa using hlt),cU hlt,obs,Ii,obs,obs,(wW s[k]).2,drop_eq_getElem_cons hlt,uD,isC]
   cases hL:isL s[k]<;>cases hD:isD s[k]<;>simp only[obs,Bool.false_eq_true,if_false,if_true,Bool.or_self,Bool.or_false,Bool.or_true]
   ·rfl
   all_goals
    rw[cn hlt (by omega),Zb hs n (k+1) (by omega) (by omega)]
    congr 2;omega
  ·rw[if_neg (by simpa using hlt),obs,if_neg (by decide),drop_eq_nil_of_le (by omega)];rfl
theorem YP {s} (hs:s.length<=20000):∀ (n k:Nat),s.length+1<=n+k->k<=s.length->rc s n (k:Int)=some ((k+Be isD (s.drop k):Nat):Int)
 | 0,k,h,hk=>by omega
 | n+1,k,h,hk=>by
  rw[rc]
  by_cases hlt:k < s.length
  ·rw[if_pos (by simpa using hlt),cU hlt,obs,(wW s[k]).2,obs,drop_eq_getElem_cons hlt,uD]
   cases hD:isD s[k]<;>simp only[obs,Bool.false_eq_true,if_false,if_true]
   ·rfl
   ·rw[cn hlt (by omega),YP hs n (k+1) (by omega) (by omega)]
    congr 2;omega
  ·rw[if_neg (by simpa using hlt),obs,if_neg (by decide),drop_eq_nil_of_le (by omega)];rfl
abbrev sgB : List UInt8:=[123,125,40,41,60,62,44,59,46,61,43,45,42,33]
def CC (s:List UInt8):List UInt8:=if s.take 2=[61,61]\/s.take 2=[38,38] then s.take 2 else match s with
 | []=>[]
 | b::_=>if sgB.contains b=true then [b] else []
theorem TQ {b t}:∀ (n k:Nat),15<=n+k->k<=14->pG (b::t) n (k:Int)=some (if(sgB.drop k).contains b=true then .stop [b] else .next ())
 | 0,k,h,hk=>by omega
 | n+1,k,h,hk=>by
  rw[pG]
  by_cases hlt:k < sgB.length
  ·have hlt':k < 14:=hlt
   rw[if_pos (by simp;omega),show (!((b::t)==([]:List UInt8)))=true from rfl,obs,if_pos rfl,show ([123,125,40,41,60,62,44,59,46,61,43,45,42,33]:List UInt8)=sgB from rfl,cU hlt,obs,show idx (b::t) 0=some b from rfl,obs,drop_eq_getElem_cons hlt,contains_cons]
   by_cases hb:sgB[k]=b
   ·rw[if_pos (by simp[hb]),show jK (b::t) 0 1=some ((b::t).take 1) from Po (k:=1) (by simp),obs]
    simp[hb]
   ·have h1:((sgB[k].toNat:Int)==(b.toNat:Int))=false:=by
     simp only[beq_eq_false_iff_ne,ne_eq]
     intro e
     exact hb (UInt8.toNat_inj.1 (by omega))
    have h2:(b==sgB[k])=false:=by simp only[beq_eq_false_iff_ne,ne_eq];exact fun e=>hb e.symm
    rw[h1,if_neg (by decide),cn (m:=14) hlt' (by omega),TQ n (k+1) (by omega) (by omega),h2,Bool.false_or]
  ·have hk14:k=14:=by have:¬ k < 14:=hlt;omega
   subst hk14
   rw[if_neg (by simp),obs,if_neg (by decide)];rfl
theorem abk {s} (hs:s.length<=20000):sc s=some (CC s):=by
 unfold sc CC
 match s with
 | []=>rfl
 | [b]=>
  rw[if_neg (by simp),obs,if_neg (by decide),if_neg (by simp),show (0:Int)=((0:Nat):Int) from rfl,TQ _ 0 (by simp) (by omega),obs,drop_zero]
  cases hc:sgB.contains b with
  | false=>simp only[Bool.false_eq_true,if_false,Ctl.elim,hc]
  | true=>simp only[if_true,Ctl.elim,hc]
 | b::c :: t=>
  have h2:jK (b::c :: t) 0 2=some [b,c]:=Po (k:=2) (by simp)
  rw[if_pos (by simp;omega),h2]
  simp only[obs]
  rw[show (b::c :: t).take 2=[b,c] from rfl]
  by_cases h1:[b,c]=[61,61]
  ·rw[if_pos (by simpa using h1),obs,if_pos rfl,if_pos (.inl h1)]
  ·rw[if_neg (by simpa using h1),obs]
   by_cases h3:[b,c]=[38,38]
   ·rw[if_pos (by simpa using h3),if_pos (.inr h3)]
   ·rw[if_neg (by simpa using h3),if_neg (by simp only[not_or];exact⟨h1,h3⟩),show (0:Int)=((0:Nat):Int) from rfl,TQ _ 0 (by simp) (by omega),obs,drop_zero]
    cases hc:sgB.contains b with
    | false=>simp only[Bool.false_eq_true,if_false,Ctl.elim,hc]
    | true=>simp only[if_true,Ctl.elim,hc]
def Sv (s:List UInt8):KT:=match s with
 | []=>(0,[])
 | b::t=>if isL b=true then(if yo ((b::t).takeWhile isC) > 0 then 3 else 1,(b::t).takeWhile isC) else if isD b=true then(2,(b::t).takeWhile isD) else if CC (b::t)=[] then(0,[]) else(4,CC (b::t))
theorem aea {s} (h0:s≠[]) (hs:s.length<=20000):wE s=some ⟨(Sv s).1,(Sv s).2,0⟩:=by
 match s,h0 with
 | b::t,_=>
  have h1:=Zb hs ((b::t).length+64) 0 (by omega) (by omega)
  have h2:=YP hs ((b::t).length+64) 0 (by omega) (by omega)
  rw[drop_zero,Nat.zero_add,show ((0:Nat):Int)=0 from rfl] at h1 h2
  unfold wE Sv
  rw[show idx (b::t) 0=some b from rfl,obs,Ii,obs,obs,(wW b).2,obs,h1,h2,abk hs]
  simp only[obs]
  rw[Po (GZ _ _),Po (GZ _ _),DM,DM]
  simp only[obs,AJ]
  cases isL b with
  | true=>
   simp only[if_true]
   by_cases hf:yo ((b::t).takeWhile isC) > 0
   ·rw[if_pos (by simpa using hf),if_pos hf]
   ·rw[if_neg (by simpa using hf),if_neg hf]
  | false=>
   cases isD b with
   | true=>simp
   | false=>
    simp only[Bool.false_eq_true,if_false]
    by_cases he:CC (b::t)=[]
    ·rw[if_neg (by simp[he]),if_pos he]
    ·rw[if_pos (by simpa using he),if_neg he]
def tx (ps:List KT):List UInt8:=(ps.map (·.2)).flatten
def tks (ps:List KT):List KT:=ps.filter fun p=> !decide (p.1=0)
theorem mp (a b:List KT):tx (a++b)=tx a++tx b:=by unfold tx;simp
theorem dy (p:KT) (b:List KT):tx (p::b)=p.2++tx b:=by unfold tx;simp
theorem ed (a b:List KT):tks (a++b)=tks a++tks b:=by unfold tks;simp
abbrev sgL : List (List UInt8):=[[123],[125],[40],[41],[60],[62],[44],[59],[46],[61],[43],[45],[42],[33],[61,61],[38,38]]
def vld (p:KT):Bool:=if p.1=0 then !decide (p.2=[])&&p.2.all blk else if p.1=1 then dw p.2 else if p.1=2 then(mz p.2).2 else if p.1=3 then decide (p.2∈glob_0) else decide (p.1=4)&&decide (p.2∈sgL)
def jn (p:KT) (r:List KT):Bool:=if p.1=1\/p.1=2\/p.1=3 then(match r with | []=>true | q::_=>decide (q.1=0)||decide (q.1=4)) else if p.2=[61] then(match r with | []=>false | q::_=>decide (q.1=0)) else true
def ok : List KT->Bool
 | []=>true
 | p::r=>vld p&&(jn p r&&ok r)
def sp (q:KT):Bool:=vld q&&((decide (q.1=0)||decide (q.1=4))&& !decide (q.2=[61]))
theorem UC {q b} (hb:ok b=true) (hq:sp q=true):∀ a:List KT,ok a=true->ok (a++q::b)=true
 | [],_=>by
  unfold sp at hq
  simp only[Bool.and_eq_true,Bool.or_eq_true,decide_eq_true_eq,Bool.not_eq_true',decide_eq_false_iff_not] at hq
  have hj:jn q b=true:=by
   unfold jn
   rw[if_neg (by omega),if_neg hq.2.2]
  simp only[nil_append,ok,Bool.and_eq_true]
  exact⟨hq.1,hj,hb⟩
 | p::r,h=>by
  simp only[ok,Bool.and_eq_true] at h
  simp only[cons_append,ok,Bool.and_eq_true]
  refine⟨h.1,?_,UC hb hq r h.2.2⟩
  have h1:=h.2.1
  unfold sp at hq
  simp only[Bool.and_eq_true,Bool.or_eq_true,decide_eq_true_eq] at hq
  match r with
  | []=>
   unfold jn at h1 ⊢
   by_cases hp:p.1=1\/p.1=2\/p.1=3
   ·rw[if_pos hp] at h1 ⊢
    simpa using hq.2.1
   ·rw[if_neg hp] at h1 ⊢
    by_cases he:p.2=[61]
    ·rw[if_pos he] at h1;cases h1
    ·rw[if_neg he]
  | q'::r'=>exact h1
theorem eh {q b} (hq:sp q=true) (hb:ok b=true):ok (q::b)=true:=UC hb hq [] rfl
theorem Yr : ∀ w∈glob_0,w≠[]/\w.all isL=true/\yo w > 0:=by decide +kernel
theorem acX {l:List UInt8} (h:l.all isL=true):l.all isC=true:=by
 rw[all_eq_true] at h ⊢
 exact fun b hb=>by unfold isC;rw[h b hb];rfl
theorem UO : ∀ (s:List UInt8) (n:Nat) (r:Nat),BW s n=some r->s.all isD=true
 | [],_,_,_=>rfl
 | b::s,n,r,h=>by
  unfold BW at h
  split at h
  ·rename_i hb
   rw[all_cons,hb,UO s _ r h];rfl
  ·cases h
theorem Yz {s} (h:(mz s).2=true):s≠[]/\s.all isD=true:=by
 unfold mz at h
 split at h
 ·cases h
 ·rename_i h0
  refine⟨fun e=>h0 (.inl (by rw[e];rfl)),?_⟩
  split at h
  ·cases h
  ·cases hn:BW s 0 with
   | none=>rw[hn] at h;cases h
   | some r=>exact UO s 0 r hn
theorem P6 {p}:∀ {s t:List UInt8},s.all p=true->(∀ b∈t.head?,p b=false)->(s++t).takeWhile p=s
 | [],[],_,_=>rfl
 | [],c::t,_,h=>by rw[nil_append,takeWhile_cons,h c (by simp),if_neg (by decide)]
 | b::s,t,hs,h=>by
  rw[all_cons,Bool.and_eq_true] at hs
  rw[cons_append,takeWhile_cons,if_pos hs.1,P6 hs.2 h]
theorem afA {b} (h:isD b=true):isL b=false:=by
 have:∀ k:Fin 256,isD (UInt8.ofNat k.val)=true->isL (UInt8.ofNat k.val)=false:=by decide +kernel
 have h2:=this ⟨b.toNat,b.toNat_lt⟩
 simp only[UInt8.ofNat_toNat] at h2
 exact h2 h
theorem aeK {b} (h:blk b=true):isC b=false/\b≠47/\b≠61:=by
 have:∀ k:Fin 256,blk (UInt8.ofNat k.val)=true->isC (UInt8.ofNat k.val)=false/\UInt8.ofNat k.val≠47/\UInt8.ofNat k.val≠61:=by decide +kernel
 have h2:=this ⟨b.toNat,b.toNat_lt⟩
 simp only[UInt8.ofNat_toNat] at h2
 exact h2 h
theorem OJ {b} (h:isC b=true):blk b=false/\b≠47:=by
 have:∀ k:Fin 256,isC (UInt8.ofNat k.val)=true->blk (UInt8.ofNat k.val)=false/\UInt8.ofNat k.val≠47:=by decide +kernel
 have h2:=this ⟨b.toNat,b.toNat_lt⟩
 simp only[UInt8.ofNat_toNat] at h2
 exact h2 h
end Go.Proofs.YtjimbkljclfflaaGreatDoor
