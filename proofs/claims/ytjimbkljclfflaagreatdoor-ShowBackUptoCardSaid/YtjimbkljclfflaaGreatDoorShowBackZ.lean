/- The law ShowBack returns true for every input, and leaves its arguments as they were; no condition beyond those of the statement itself. -/
import Derived.Test.YtjimbkljclfflaaGreatDoorShowBackL1
import Derived.Test.YtjimbkljclfflaaGreatDoorShowBackW
import Derived.Test.YtjimbkljclfflaaGreatDoorShowBackD
import Derived.Test.YtjimbkljclfflaaGreatDoorChecked
import Derived.Test.YtjimbkljclfflaaGreatDoorCards
import Derived.Test.YtjimbkljclfflaaGreatDoorTie
import Derived.SevenTiedAt
import Derived.Lay
import Derived.MakeChecks
namespace Go.Proofs.YtjimbkljclfflaaGreatDoor
open List
open Go.ChangeShapes Go.WideShapes Go.ChangeAt Go.RowKit Go.Abs
set_option maxRecDepth 100000 in
set_option maxHeartbeats 4000000 in
theorem Jh (W:World) (h:laidMetH Tryz.prog Rows.showBackUptoRow.laid W):GlobOk eg W (fun _=>False):=(Fj (U2 (T:=180) (name := "demesne/word.words") (by kernel_rfl) (by kernel_rfl) (MR (ds:=[(.lit (.string [99,108,97,115,115])),(.lit (.string [101,120,116,101,110,100,115])),(.lit (.string [114,101,112])),(.lit (.string [112,101,101,114])),(.lit (.string [119,111,114,108,100])),(.lit (.string [97,110,121])),(.lit (.string [117,110,105,113,117,101])),(.lit (.string [112,117,114,101])),(.lit (.string [118,111,105,100])),(.lit (.string [105,110,116])),(.lit (.string [105,102])),(.lit (.string [101,108,115,101])),(.lit (.string [119,104,105,108,101])),(.lit (.string [114,101,116,117,114,110])),(.lit (.string [110,101,119])),(.lit (.string [109,111,118,101])),(.lit (.string [100,101,108,101,116,101])),(.lit (.string [116,104,105,115])),(.lit (.string [110,117,108,108])),(.lit (.string [105,110,112,117,116])),(.lit (.string [110,105,108])),(.lit (.string [115,97,109,101])),(.lit (.string [99,97,115,116]))]) (E:=9) (n:=23) (sz:=1) (rs:=[[.str [99,108,97,115,115]],[.str [101,120,116,101,110,100,115]],[.str [114,101,112]],[.str [112,101,101,114]],[.str [119,111,114,108,100]],[.str [97,110,121]],[.str [117,110,105,113,117,101]],[.str [112,117,114,101]],[.str [118,111,105,100]],[.str [105,110,116]],[.str [105,102]],[.str [101,108,115,101]],[.str [119,104,105,108,101]],[.str [114,101,116,117,114,110]],[.str [110,101,119]],[.str [109,111,118,101]],[.str [100,101,108,101,116,101]],[.str [116,104,105,115]],[.str [110,117,108,108]],[.str [105,110,112,117,116]],[.str [110,105,108]],[.str [115,97,109,101]],[.str [99,97,115,116]]]) (by kernel_rfl) rfl (by decide) ⟨(fx (by kernel_rfl) _),(fx (by kernel_rfl) _),(fx (by kernel_rfl) _),(fx (by kernel_rfl) _),(fx (by kernel_rfl) _),(fx (by kernel_rfl) _),(fx (by kernel_rfl) _),(fx (by kernel_rfl) _),(fx (by kernel_rfl) _),(fx (by kernel_rfl) _),(fx (by kernel_rfl) _),(fx (by kernel_rfl) _),(fx (by kernel_rfl) _),(fx (by kernel_rfl) _),(fx (by kernel_rfl) _),(fx (by kernel_rfl) _),(fx (by kernel_rfl) _),(fx (by kernel_rfl) _),(fx (by kernel_rfl) _),(fx (by kernel_rfl) _),(fx (by kernel_rfl) _),(fx (by kernel_rfl) _),(fx (by kernel_rfl) _),trivial⟩) (SG (by kernel_rfl) h ("demesne/word.words",Rows.laid_demesne_word_words) (.head _)) (by decide)) (Fj (U2 (T:=213) (name := "demesne/expr.binds") (by kernel_rfl) (by kernel_rfl) (MR (ds:=[(.agg [(.lit (.string [38,38])),(.lit (.int .i64 1)),(.lit (.int .i64 11))]),(.agg [(.lit (.string [60])),(.lit (.int .i64 2)),(.lit (.int .i64 9))]),(.agg [(.lit (.string [61,61])),(.lit (.int .i64 2)),(.lit (.int .i64 10))]),(.agg [(.lit (.string [43])),(.lit (.int .i64 3)),(.lit (.int .i64 6))]),(.agg [(.lit (.string [45])),(.lit (.int .i64 3)),(.lit (.int .i64 7))]),(.agg [(.lit (.string [42])),(.lit (.int .i64 4)),(.lit (.int .i64 8))])]) (E:=212) (n:=6) (sz:=3) (rs:=[[.str [38,38],.int .i64 1,.int .i64 11],[.str [60],.int .i64 2,.int .i64 9],[.str [61,61],.int .i64 2,.int .i64 10],[.str [43],.int .i64 3,.int .i64 6],[.str [45],.int .i64 3,.int .i64 7],[.str [42],.int .i64 4,.int .i64 8]]) (by kernel_rfl) rfl (by decide) ⟨(sk (ds:=[(.lit (.string [38,38])),(.lit (.int .i64 1)),(.lit (.int .i64 11))]) (l:=[(9,0,1),(3,1,1),(3,2,1)]) (n:=3) (rs:=[[.str [38,38]],[.int .i64 1],[.int .i64 11]]) (by kernel_rfl) rfl ⟨rfl,rfl,(fx (by kernel_rfl) _),rfl,rfl,(qi (by kernel_rfl) _),rfl,rfl,(qi (by kernel_rfl) _),trivial⟩),(sk (ds:=[(.lit (.string [60])),(.lit (.int .i64 2)),(.lit (.int .i64 9))]) (l:=[(9,0,1),(3,1,1),(3,2,1)]) (n:=3) (rs:=[[.str [60]],[.int .i64 2],[.int .i64 9]]) (by kernel_rfl) rfl ⟨rfl,rfl,(fx (by kernel_rfl) _),rfl,rfl,(qi (by kernel_rfl) _),rfl,rfl,(qi (by kernel_rfl) _),trivial⟩),(sk (ds:=[(.lit (.string [61,61])),(.lit (.int .i64 2)),(.lit (.int .i64 10))]) (l:=[(9,0,1),(3,1,1),(3,2,1)]) (n:=3) (rs:=[[.str [61,61]],[.int .i64 2],[.int .i64 10]]) (by kernel_rfl) rfl ⟨rfl,rfl,(fx (by kernel_rfl) _),rfl,rfl,(qi (by kernel_rfl) _),rfl,rfl,(qi (by kernel_rfl) _),trivial⟩),(sk (ds:=[(.lit (.string [43])),(.lit (.int .i64 3)),(.lit (.int .i64 6))]) (l:=[(9,0,1),(3,1,1),(3,2,1)]) (n:=3) (rs:=[[.str [43]],[.int .i64 3],[.int .i64 6]]) (by kernel_rfl) rfl ⟨rfl,rfl,(fx (by kernel_rfl) _),rfl,rfl,(qi (by kernel_rfl) _),rfl,rfl,(qi (by kernel_rfl) _),trivial⟩),(sk (ds:=[(.lit (.string [45])),(.lit (.int .i64 3)),(.lit (.int .i64 7))]) (l:=[(9,0,1),(3,1,1),(3,2,1)]) (n:=3) (rs:=[[.str [45]],[.int .i64 3],[.int .i64 7]]) (by kernel_rfl) rfl ⟨rfl,rfl,(fx (by kernel_rfl) _),rfl,rfl,(qi (by kernel_rfl) _),rfl,rfl,(qi (by kernel_rfl) _),trivial⟩),(sk (ds:=[(.lit (.string [42])),(.lit (.int .i64 4)),(.lit (.int .i64 8))]) (l:=[(9,0,1),(3,1,1),(3,2,1)]) (n:=3) (rs:=[[.str [42]],[.int .i64 4],[.int .i64 8]]) (by kernel_rfl) rfl ⟨rfl,rfl,(fx (by kernel_rfl) _),rfl,rfl,(qi (by kernel_rfl) _),rfl,rfl,(qi (by kernel_rfl) _),trivial⟩),trivial⟩) (SG (by kernel_rfl) h ("demesne/expr.binds",Rows.laid_demesne_expr_binds) (.tail _ (.head _))) (by decide)) TZ))
theorem Pr (os:Os) (args:Array Value):laidMetH Tryz.prog Rows.showBackUptoRow.laid ((World.doorLaid Tryz.prog 25 os).forCall (fun _ _=>0) ⟨#[],args,[]⟩).memory:=
  laidMetH_of_parts3 (fuel:=24) (laidMet_of_run' 24 (by kernel_rfl) (by kernel_rfl)) (by kernel_rfl) (by kernel_rfl)
def WW (H:Type):Bk H:={ bk:=Rows.uptoBulk,al:=Rows.uptoBulkAll,str:=fun s=>by simp[Rows.uptoBulk],one:=fun d=>by(cases d<;>first | (simp[Rows.uptoBulk];done) | (rename_i l;cases l<;>simp[Rows.uptoBulk])),sl:=fun e s=>by(simp only[Rows.uptoBulk];omega),ag:=fun l=>by simp[Rows.uptoBulk],nil:=by simp[Rows.uptoBulkAll],cons:=fun _ _=>by simp[Rows.uptoBulkAll] }
set_option maxRecDepth 100000 in
theorem Gj (os:Os) (started:os.Started) (H:Type) (enc:TypeId×Value->H) (F:Stop.Interp):
    ReturnsInHanded {} Tryz.checked os 3 .any ((Rows.OpenSpec.upto Rows.showBackSpec).preRow enc Tryz.prog Tryz.f3 Rows.showBackUptoRow.domain false Rows.showBackUptoRow.laid) (((Rows.OpenSpec.upto Rows.showBackSpec).at F).post enc Tryz.prog Tryz.f3 false true false false):=by
  have hx:∃ places,DataW.whole enc Tryz.prog ((World.doorLaid Tryz.prog 25 os).forCall (fun _ _=>0) ⟨#[],#[.slice none 0 0],[]⟩).memory Tryz.f3.params.toList Rows.showBackSpec.vars false (#[.slice none 0 0]:Array Value).toList 8=some ([.nil],[],places):=⟨[],by kernel_rfl⟩
  obtain⟨places,hx⟩:=hx
  refine LZ (G:=eg) (s:=Rows.showBackSpec) (s2:=Rows.OpenSpec.upto Rows.showBackSpec) (k:=Rows.uptoSmall) rfl (B:=4) (L:=Rows.showBackUptoRow.laid) ZK started (by kernel_rfl) Tryz.func3 (witness_row_at (enc:=enc) (C:=Tryz.checked) false (World.doorLaid Tryz.prog 25 os) #[.slice none 0 0] rfl (by kernel_rfl) (by kernel_rfl) (by kernel_rfl) (OpenSpec.preRow_of_cond 8 hx (by kernel_rfl) (fun k hk=>by cases hk;kernel_rfl) (by kernel_rfl) (Pr os _))) NZ (by kernel_rfl) rfl rfl (by kernel_rfl) (by kernel_rfl) (fun ds h=> ?_) (fun _ _ _ _ h=>h) (fun W h=>Jh W h) ?_
  · match ds,h with
    | [_],_=>rfl
  · intro W base args ds ps hval hA0 hkk
    have hA:DataW.TrodAll enc Tryz.prog W 0 (fun _=>true) true [22] args.toList ds ps:=hA0
    have hval:∀ (j:Nat) t v,(#[22]:Array TypeId)[j]? =some t->args[j]? =some v->Value.okWide Tryz.prog W .any base t v:=hval
    obtain⟨v0,l0,d0,e0,p0,q0,ea0,rfl,rfl,h0,hA⟩:=trodAll_cons hA
    obtain⟨rfl,_,_⟩:=trodAll_nil hA
    subst_vars
    obtain⟨a0,g0,b0,r0⟩:=Zg (K:=WW H) (abG) h0
    have k0:=hval 0 22 v0 rfl (by rw[<- Array.getElem?_toList,ea0];rfl)
    have hb:Rows.uptoBulkAll [d0]<=1048576:=of_decide_eq_true hkk
    simp only[Rows.uptoBulkAll] at hb
    have b0:(cg mF a0+1)<=Rows.uptoBulk d0:=b0
    exact⟨_,Tj (xs:=[.vs 7 (map aH a0)]) (by rw[ea0];exact⟨abq r0 k0 (by kernel_rfl),trivial⟩),Du (Am g0 (by omega))⟩
theorem Bg : Rows.ShowBackUptoSaid:=
  OpenClaim.holds_of_cond 3 Tryz.f3 rfl rfl rfl rfl rfl rfl rfl ⟨rfl,rfl,rfl,rfl,rfl⟩ rfl rfl rfl rfl rfl (by kernel_rfl) Tryz.func3 (by kernel_rfl)
    (of_decide_eq_true (by kernel_rfl)) (by unfold Func.isWrapper;rw[if_neg (by decide +kernel)];exact⟨rfl,rfl⟩)
    (fun os started H enc _ F=>by rw[OpenClaim.pre_eq_preRow];exact Gj os started H enc F)
theorem showBack_holds : Rows.ShowBackUptoCardSaid:=
  Claim7.holds_tied_plain_at .later [] [.widerDeep,.widerDeep] true (true, "3b7559ab911d57923ccd8cb62ef95bc39c9d8bf73efa2c01a69fcbfd391dba69") false Bg (fun _ h=>by cases h) (by kernel_rfl) (fun _ h=>by cases h) showBackUpto_row_tie rfl ⟨rfl,rfl⟩ (by kernel_rfl) rfl
    (fun f fn hf hfn=>by
      obtain rfl:f=3:=Option.some.inj ((show Tryz.prog.funcNamed "demesne/demesnelaw11.ShowBack" = some 3 by kernel_rfl).symm.trans hf) |>.symm
      obtain rfl:fn=Tryz.f3:=(Option.some.inj (Tryz.func3.symm.trans hfn)).symm
      exact⟨by kernel_rfl,fun j t ht=>by
        have hm:t∈[22]:=by have:=Array.mem_of_getElem? (show (#[22]:Array TypeId)[j]? =some t from ht);simpa using this
        have hall:([22].all fun u=> !Tryz.prog.wantsStandIn u)=true:=by kernel_rfl
        exact(show Tryz.prog.wantsStandIn t=false by simpa using List.all_eq_true.1 hall t hm)⟩)
    (by kernel_rfl)
end Go.Proofs.YtjimbkljclfflaaGreatDoor
