/- The law ShowAgain returns true for every input, and leaves its arguments as they were; no condition beyond those of the statement itself. -/
import Derived.Test.YtjimbkljclfflaaGreatDoorShowAgainL1
import Derived.Test.YtjimbkljclfflaaGreatDoorShowAgainW
import Derived.Test.YtjimbkljclfflaaGreatDoorShowAgainD
import Derived.Test.YtjimbkljclfflaaGreatDoorChecked
import Derived.Test.YtjimbkljclfflaaGreatDoorCards
import Derived.Test.YtjimbkljclfflaaGreatDoorTie
import Derived.SevenTiedAt
import Derived.Lay
import Derived.MakeChecks
namespace Go.Proofs.YtjimbkljclfflaaGreatDoor
open Go.ChangeShapes Go.WideShapes Go.ChangeAt Go.RowKit Go.Abs
set_option maxRecDepth 100000 in
set_option maxHeartbeats 4000000 in
theorem C4 (W:World) (h:laidMetH Tryz.prog Rows.showAgainRow.laid W):GlobOk dY W (fun _=>False):=(CO (Sj (T:=180) (name := "demesne/word.words") (by kernel_rfl) (by kernel_rfl) (Ju (ds:=[(.lit (.string [99,108,97,115,115])),(.lit (.string [101,120,116,101,110,100,115])),(.lit (.string [114,101,112])),(.lit (.string [112,101,101,114])),(.lit (.string [119,111,114,108,100])),(.lit (.string [97,110,121])),(.lit (.string [117,110,105,113,117,101])),(.lit (.string [112,117,114,101])),(.lit (.string [118,111,105,100])),(.lit (.string [105,110,116])),(.lit (.string [105,102])),(.lit (.string [101,108,115,101])),(.lit (.string [119,104,105,108,101])),(.lit (.string [114,101,116,117,114,110])),(.lit (.string [110,101,119])),(.lit (.string [109,111,118,101])),(.lit (.string [100,101,108,101,116,101])),(.lit (.string [116,104,105,115])),(.lit (.string [110,117,108,108])),(.lit (.string [105,110,112,117,116])),(.lit (.string [110,105,108])),(.lit (.string [115,97,109,101])),(.lit (.string [99,97,115,116]))]) (E:=9) (n:=23) (sz:=1) (rs:=[[.str [99,108,97,115,115]],[.str [101,120,116,101,110,100,115]],[.str [114,101,112]],[.str [112,101,101,114]],[.str [119,111,114,108,100]],[.str [97,110,121]],[.str [117,110,105,113,117,101]],[.str [112,117,114,101]],[.str [118,111,105,100]],[.str [105,110,116]],[.str [105,102]],[.str [101,108,115,101]],[.str [119,104,105,108,101]],[.str [114,101,116,117,114,110]],[.str [110,101,119]],[.str [109,111,118,101]],[.str [100,101,108,101,116,101]],[.str [116,104,105,115]],[.str [110,117,108,108]],[.str [105,110,112,117,116]],[.str [110,105,108]],[.str [115,97,109,101]],[.str [99,97,115,116]]]) (by kernel_rfl) rfl (by decide) ⟨(gj (by kernel_rfl) _),(gj (by kernel_rfl) _),(gj (by kernel_rfl) _),(gj (by kernel_rfl) _),(gj (by kernel_rfl) _),(gj (by kernel_rfl) _),(gj (by kernel_rfl) _),(gj (by kernel_rfl) _),(gj (by kernel_rfl) _),(gj (by kernel_rfl) _),(gj (by kernel_rfl) _),(gj (by kernel_rfl) _),(gj (by kernel_rfl) _),(gj (by kernel_rfl) _),(gj (by kernel_rfl) _),(gj (by kernel_rfl) _),(gj (by kernel_rfl) _),(gj (by kernel_rfl) _),(gj (by kernel_rfl) _),(gj (by kernel_rfl) _),(gj (by kernel_rfl) _),(gj (by kernel_rfl) _),(gj (by kernel_rfl) _),trivial⟩) (Pz (by kernel_rfl) h ("demesne/word.words",Rows.laid_demesne_word_words) (.head _)) (by decide)) (CO (Sj (T:=213) (name := "demesne/expr.binds") (by kernel_rfl) (by kernel_rfl) (Ju (ds:=[(.agg [(.lit (.string [38,38])),(.lit (.int .i64 1)),(.lit (.int .i64 11))]),(.agg [(.lit (.string [60])),(.lit (.int .i64 2)),(.lit (.int .i64 9))]),(.agg [(.lit (.string [61,61])),(.lit (.int .i64 2)),(.lit (.int .i64 10))]),(.agg [(.lit (.string [43])),(.lit (.int .i64 3)),(.lit (.int .i64 6))]),(.agg [(.lit (.string [45])),(.lit (.int .i64 3)),(.lit (.int .i64 7))]),(.agg [(.lit (.string [42])),(.lit (.int .i64 4)),(.lit (.int .i64 8))])]) (E:=212) (n:=6) (sz:=3) (rs:=[[.str [38,38],.int .i64 1,.int .i64 11],[.str [60],.int .i64 2,.int .i64 9],[.str [61,61],.int .i64 2,.int .i64 10],[.str [43],.int .i64 3,.int .i64 6],[.str [45],.int .i64 3,.int .i64 7],[.str [42],.int .i64 4,.int .i64 8]]) (by kernel_rfl) rfl (by decide) ⟨(rj (ds:=[(.lit (.string [38,38])),(.lit (.int .i64 1)),(.lit (.int .i64 11))]) (l:=[(9,0,1),(3,1,1),(3,2,1)]) (n:=3) (rs:=[[.str [38,38]],[.int .i64 1],[.int .i64 11]]) (by kernel_rfl) rfl ⟨rfl,rfl,(gj (by kernel_rfl) _),rfl,rfl,(py (by kernel_rfl) _),rfl,rfl,(py (by kernel_rfl) _),trivial⟩),(rj (ds:=[(.lit (.string [60])),(.lit (.int .i64 2)),(.lit (.int .i64 9))]) (l:=[(9,0,1),(3,1,1),(3,2,1)]) (n:=3) (rs:=[[.str [60]],[.int .i64 2],[.int .i64 9]]) (by kernel_rfl) rfl ⟨rfl,rfl,(gj (by kernel_rfl) _),rfl,rfl,(py (by kernel_rfl) _),rfl,rfl,(py (by kernel_rfl) _),trivial⟩),(rj (ds:=[(.lit (.string [61,61])),(.lit (.int .i64 2)),(.lit (.int .i64 10))]) (l:=[(9,0,1),(3,1,1),(3,2,1)]) (n:=3) (rs:=[[.str [61,61]],[.int .i64 2],[.int .i64 10]]) (by kernel_rfl) rfl ⟨rfl,rfl,(gj (by kernel_rfl) _),rfl,rfl,(py (by kernel_rfl) _),rfl,rfl,(py (by kernel_rfl) _),trivial⟩),(rj (ds:=[(.lit (.string [43])),(.lit (.int .i64 3)),(.lit (.int .i64 6))]) (l:=[(9,0,1),(3,1,1),(3,2,1)]) (n:=3) (rs:=[[.str [43]],[.int .i64 3],[.int .i64 6]]) (by kernel_rfl) rfl ⟨rfl,rfl,(gj (by kernel_rfl) _),rfl,rfl,(py (by kernel_rfl) _),rfl,rfl,(py (by kernel_rfl) _),trivial⟩),(rj (ds:=[(.lit (.string [45])),(.lit (.int .i64 3)),(.lit (.int .i64 7))]) (l:=[(9,0,1),(3,1,1),(3,2,1)]) (n:=3) (rs:=[[.str [45]],[.int .i64 3],[.int .i64 7]]) (by kernel_rfl) rfl ⟨rfl,rfl,(gj (by kernel_rfl) _),rfl,rfl,(py (by kernel_rfl) _),rfl,rfl,(py (by kernel_rfl) _),trivial⟩),(rj (ds:=[(.lit (.string [42])),(.lit (.int .i64 4)),(.lit (.int .i64 8))]) (l:=[(9,0,1),(3,1,1),(3,2,1)]) (n:=3) (rs:=[[.str [42]],[.int .i64 4],[.int .i64 8]]) (by kernel_rfl) rfl ⟨rfl,rfl,(gj (by kernel_rfl) _),rfl,rfl,(py (by kernel_rfl) _),rfl,rfl,(py (by kernel_rfl) _),trivial⟩),trivial⟩) (Pz (by kernel_rfl) h ("demesne/expr.binds",Rows.laid_demesne_expr_binds) (.tail _ (.head _))) (by decide)) PR))
theorem Jj (os:Os) (args:Array Value):laidMetH Tryz.prog Rows.showAgainRow.laid ((World.doorLaid Tryz.prog 25 os).forCall (fun _ _=>0) ⟨#[],args,[]⟩).memory:=
  laidMetH_of_parts3 (fuel:=24) (laidMet_of_run' 24 (by kernel_rfl) (by kernel_rfl)) (by kernel_rfl) (by kernel_rfl)
set_option maxRecDepth 100000 in
theorem B9 (os:Os) (started:os.Started) (H:Type) (enc:TypeId×Value->H):
    ReturnsInHanded {} Tryz.checked os 4 .any (fun w args=>(Rows.showAgainSpec.pre enc Tryz.prog Tryz.f4 [] false w args/\laidMetH Tryz.prog Rows.showAgainRow.laid w)/\sizedMet enc Tryz.prog Tryz.f4 (OpenSpec.ofChange Rows.showAgainSpec) false w args) (Rows.showAgainSpec.post enc Tryz.prog Tryz.f4 false true false false):=by
  refine De (G:=dY) (B:=4) (L:=Rows.showAgainRow.laid) WZ started (by kernel_rfl) Tryz.func4 (ChangeSpec.witness_shaped (enc:=enc) (C:=Tryz.checked) (os:=os) (X:=fun w _=>laidMetH Tryz.prog Rows.showAgainRow.laid w) false (World.doorLaid Tryz.prog 25 os) #[.string ⟨#[]⟩] 24 rfl (World.shaped_of_RefB (by kernel_rfl) (by kernel_rfl)) (by kernel_rfl) (by kernel_rfl) (by kernel_rfl) (Jj os _)) Kr (by kernel_rfl) rfl (by kernel_rfl) (by kernel_rfl) (fun ds h=> ?_) (fun W h=>C4 W h) ?_
  · match ds,h with
    | [_],_=>rfl
  · intro W base args ds ps hval hA0
    have hA:DataW.TrodAll enc Tryz.prog W 0 (fun _=>true) true [9] args.toList ds ps:=hA0
    have hval:∀ (j:Nat) t v,(#[9]:Array TypeId)[j]? =some t->args[j]? =some v->Value.okWide Tryz.prog W .any base t v:=hval
    obtain⟨v0,l0,d0,e0,p0,q0,ea0,rfl,rfl,h0,hA⟩:=trodAll_cons hA
    obtain⟨rfl,_,_⟩:=trodAll_nil hA
    obtain⟨a0,g0,r0⟩:=ZN (acd) h0
    have k0:=hval 0 9 v0 rfl (by rw[<- Array.getElem?_toList,ea0];rfl)
    exact⟨_,Qu (xs:=[.str a0]) (by rw[ea0];exact⟨YT r0 k0 (by kernel_rfl),trivial⟩),zo (xr g0)⟩
theorem yz : Rows.ShowAgainSaid:=
  OpenClaim.holds_of_wide 4 Tryz.f4 rfl rfl rfl rfl rfl rfl rfl ⟨rfl,rfl,rfl,rfl,rfl⟩ rfl rfl rfl rfl rfl (by kernel_rfl) Tryz.func4 (by kernel_rfl)
    (of_decide_eq_true (by kernel_rfl)) (by unfold Func.isWrapper;rw[if_neg (by decide +kernel)];exact⟨rfl,rfl⟩)
    (fun os started H enc _=>B9 os started H enc)
theorem showAgain_holds : Rows.ShowAgainCardSaid:=
  Claim7.holds_tied_plain_at .later [] [.widerDeep,.widerDeep] true (true, "3b7559ab911d57923ccd8cb62ef95bc39c9d8bf73efa2c01a69fcbfd391dba69") false yz (fun _ h=>by cases h) (by kernel_rfl) (fun _ h=>by cases h) showAgain_row_tie rfl ⟨rfl,rfl⟩ (by kernel_rfl) rfl
    (fun f fn hf hfn=>by
      obtain rfl:f=4:=Option.some.inj ((show Tryz.prog.funcNamed "demesne/demesnelaw11.ShowAgain" = some 4 by kernel_rfl).symm.trans hf) |>.symm
      obtain rfl:fn=Tryz.f4:=(Option.some.inj (Tryz.func4.symm.trans hfn)).symm
      exact⟨by kernel_rfl,fun j t ht=>by
        have hm:t∈[9]:=by have:=Array.mem_of_getElem? (show (#[9]:Array TypeId)[j]? =some t from ht);simpa using this
        have hall:([9].all fun u=> !Tryz.prog.wantsStandIn u)=true:=by kernel_rfl
        exact(show Tryz.prog.wantsStandIn t=false by simpa using List.all_eq_true.1 hall t hm)⟩)
    (by kernel_rfl)
end Go.Proofs.YtjimbkljclfflaaGreatDoor
