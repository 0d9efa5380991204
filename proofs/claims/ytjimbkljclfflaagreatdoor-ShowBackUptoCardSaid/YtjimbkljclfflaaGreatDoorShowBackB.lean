/- A part of the proof that the law ShowBack gives true for every input. -/
import Derived.Test.YtjimbkljclfflaaGreatDoorShowBackA5
import Derived.Test.YtjimbkljclfflaaGreatDoorProg
/- The methods of strings.Builder. -/
namespace Go.Proofs.YtjimbkljclfflaaGreatDoor
open List
open Go.RowKit Go.Abs

section
open Go.Lib
set_option maxHeartbeats 2000000
set_option maxRecDepth 100000
theorem IC : (Tryz.prog.info? 60).map (·.size)=some 2:=by kernel_rfl
theorem Yt : liesAt Tryz.prog Tryz.prog.depth 60 (2 / Tryz.prog.cellsOf 60) 0 60 1=true:=by kernel_rfl
theorem Je : (Tryz.prog.info? 5).map (fun i=>(i.zero,i.size,i.bytes))=some (some (.int .u8 0),1,1):=by kernel_rfl
theorem AM : Tryz.prog.cellsOf 5=1:=by kernel_rfl
theorem ET (b:Nat) (w:World) (h0:w.cell? ⟨b,0,none⟩=some (.pointer (some ⟨b,0,none⟩))):
    Calls Tryz.prog 39 #[.pointer (some ⟨b,0,none⟩)] w fun e w'=>e= .returned (.tuple #[])/\w'=w:=by
  obtain⟨j,hj,_⟩:=Option.map_eq_some_iff.1 IC
  have mixed:Tryz.prog.follows .mixedOrders=true:=by kernel_rfl
  have t60:=Tryz.underlying60;have a60:=Tryz.isAgg60;have z60:=Tryz.sizeOf60;have v60:=Tryz.zeroValue60;have u0:=run_underlying Tryz.underlying60
  have t57:=Tryz.underlying57;have a57:=Tryz.isAgg57;have z57:=Tryz.sizeOf57;have v57:=Tryz.zeroValue57;have u1:=run_underlying Tryz.underlying57
  have t9:=Tryz.underlying9;have a9:=Tryz.isAgg9;have z9:=Tryz.sizeOf9;have v9:=Tryz.zeroValue9;have u9:=run_underlying Tryz.underlying9
  have t4:=Tryz.underlying4;have a4:=Tryz.isAgg4;have z4:=Tryz.sizeOf4;have v4:=Tryz.zeroValue4;have u4:=run_underlying Tryz.underlying4
  have t116:=Tryz.underlying116;have a116:=Tryz.isAgg116;have z116:=Tryz.sizeOf116;have v116:=Tryz.zeroValue116;have u2:=run_underlying Tryz.underlying116
  go_enter Tryz.func39,Tryz.ntmps39
  go_wp2
  rw[Lib.run_neq_ptr_same w _ Tryz.underlying57 hj]
  go_wp2
  go_end0
  exact⟨rfl,rfl⟩
theorem OQ (b:Nat) (w:World) (h0:w.cell? ⟨b,0,none⟩=some (.pointer none)) (hsh:w.shape? b=some (60,2)) (hfz:w.frozen? ⟨b,0,none⟩=false):
    Calls Tryz.prog 39 #[.pointer (some ⟨b,0,none⟩)] w fun e w'=>e= .returned (.tuple #[])/\w'=w.setCell ⟨b,0,none⟩ (.pointer (some ⟨b,0,none⟩)):=by
  obtain⟨j,hj,hjs⟩:=Option.map_eq_some_iff.1 IC
  have mixed:Tryz.prog.follows .mixedOrders=true:=by kernel_rfl
  have t60:=Tryz.underlying60;have a60:=Tryz.isAgg60;have z60:=Tryz.sizeOf60;have v60:=Tryz.zeroValue60;have u0:=run_underlying Tryz.underlying60
  have t57:=Tryz.underlying57;have a57:=Tryz.isAgg57;have z57:=Tryz.sizeOf57;have v57:=Tryz.zeroValue57;have u1:=run_underlying Tryz.underlying57
  have t9:=Tryz.underlying9;have a9:=Tryz.isAgg9;have z9:=Tryz.sizeOf9;have v9:=Tryz.zeroValue9;have u9:=run_underlying Tryz.underlying9
  have t4:=Tryz.underlying4;have a4:=Tryz.isAgg4;have z4:=Tryz.sizeOf4;have v4:=Tryz.zeroValue4;have u4:=run_underlying Tryz.underlying4
  have t116:=Tryz.underlying116;have a116:=Tryz.isAgg116;have z116:=Tryz.sizeOf116;have v116:=Tryz.zeroValue116;have u2:=run_underlying Tryz.underlying116
  go_enter Tryz.func39,Tryz.ntmps39
  go_wp2
  rw[Lib.run_to_unsafe w ⟨b,0,none⟩ Tryz.underlying57 Tryz.underlying116 hj (by rw[hjs];decide) hsh (Nat.zero_lt_succ 1)]
  simp only[Result.andThen]
  rw[Oper.upon_value]
  go_wp2
  rw[run_callFunc_extern Tryz.func75 (by kernel_rfl) (by kernel_rfl) (by kernel_rfl) (e:=Extern.AbiNoEscape.same) (by kernel_rfl)]
  rw[Lib.run_noEscape]
  simp only[Result.andThen]
  rw[Oper.upon_value]
  go_wp2
  rw[Lib.run_from_unsafe w ⟨b,0,none⟩ Tryz.underlying116 Tryz.underlying57 hj hsh Yt]
  simp only[Result.andThen]
  rw[Oper.upon_value]
  go_wp2
  go_end0
  exact⟨rfl,rfl⟩
theorem aec {b:Nat} {p v:Value} {w:World} (hbk:w.heap[b]? =some (.cells #[p,v] 60 (0,0))) (hp:p= .pointer none\/p= .pointer (some ⟨b,0,none⟩)):
    Calls Tryz.prog 39 #[.pointer (some ⟨b,0,none⟩)] w fun e w'=>e= .returned (.tuple #[])/\w'.heap[b]? =some (.cells #[.pointer (some ⟨b,0,none⟩),v] 60 (0,0))/\w.grownBy w' (some b):=by
  rcases hp with rfl | rfl
  · refine(OQ b w (by rw[Lib.cell_of_heap hbk];rfl) (by simp[World.shape?,hbk]) (by simp[World.frozen?,hbk])).mono ?_
    rintro e w' ⟨rfl,rfl⟩
    exact⟨rfl,Qz hbk,pC w b 0 _⟩
  · refine(ET b w (by rw[Lib.cell_of_heap hbk];rfl)).mono ?_
    rintro e w' ⟨rfl,rfl⟩
    exact⟨rfl,hbk,World.grownBy.refl _ _⟩
theorem adw {b n:Nat} {p v:Value} {xs:List Value} (s:ByteArray) {w:World} (hbk:w.heap[b]? =some (.cells #[p,v] 60 (0,0))) (hp:p= .pointer none\/p= .pointer (some ⟨b,0,none⟩)) (hown:ownsW w 5 1 v n xs) (hlen:n+s.size<=140737488355328):
    Calls Tryz.prog 21 #[.pointer (some ⟨b,0,none⟩),.string s] w fun e w'=>e= .returned (.tuple #[.int .i64 s.size,.nilIface])/\∃ v',w'.heap[b]? =some (.cells #[.pointer (some ⟨b,0,none⟩),v'] 60 (0,0))/\ownsW w' 5 1 v' (n+s.size) (xs++Lib.strCells s)/\
      (bU v'=bU v\/∃ g,bU v'=some g/\w.heap.size<=g)/\BldFr b v w w':=by
  obtain⟨i0,hi,hz0,hz1,hz2⟩:=info_parts Je
  have mixed:Tryz.prog.follows .mixedOrders=true:=by kernel_rfl
  have t60:=Tryz.underlying60;have a60:=Tryz.isAgg60;have z60:=Tryz.sizeOf60;have v60:=Tryz.zeroValue60;have u0:=run_underlying Tryz.underlying60
  have t57:=Tryz.underlying57;have a57:=Tryz.isAgg57;have z57:=Tryz.sizeOf57;have v57:=Tryz.zeroValue57;have u1:=run_underlying Tryz.underlying57
  have t58:=Tryz.underlying58;have a58:=Tryz.isAgg58;have z58:=Tryz.sizeOf58;have v58:=Tryz.zeroValue58;have u2:=run_underlying Tryz.underlying58
  have t3:=Tryz.underlying3;have a3:=Tryz.isAgg3;have z3:=Tryz.sizeOf3;have v3:=Tryz.zeroValue3;have u3:=run_underlying Tryz.underlying3
  have t9:=Tryz.underlying9;have a9:=Tryz.isAgg9;have z9:=Tryz.sizeOf9;have v9:=Tryz.zeroValue9;have u9:=run_underlying Tryz.underlying9
  have t4:=Tryz.underlying4;have a4:=Tryz.isAgg4;have z4:=Tryz.sizeOf4;have v4:=Tryz.zeroValue4;have u4:=run_underlying Tryz.underlying4
  have t116:=Tryz.underlying116;have a116:=Tryz.isAgg116;have z116:=Tryz.sizeOf116;have v116:=Tryz.zeroValue116;have u6:=run_underlying Tryz.underlying116
  have t5:=Tryz.underlying5;have a5:=Tryz.isAgg5;have z5:=Tryz.sizeOf5;have v5:=Tryz.zeroValue5;have u5:=run_underlying Tryz.underlying5
  have hlt0:b < w.heap.size:=(Array.getElem?_eq_some_iff.1 hbk).1
  have hneb:bU v≠some b:=sM hown hbk (by decide)
  have e52:∀ args w,(callFunc 39 args).run Tryz.prog w= .ok (.enter 39 args) w:=enters_of Tryz.func39 (by kernel_rfl) rfl
  go_enter Tryz.func21,Tryz.ntmps21
  go_wp2_with (go_at_fn 39;refine(aec hbk hp).mono ?_)
  rintro e w1 ⟨rfl,hb1,hg1⟩
  have hown1:ownsW w1 5 1 v n xs:=hown.kept hg1 fun g hg h=>hneb (by rw[hg];exact h)
  have c0:w1.cell? ⟨b,0,none⟩=some (.pointer (some ⟨b,0,none⟩)):=by rw[Lib.cell_of_heap hb1];rfl
  have c1:w1.cell? ⟨b,1,none⟩=some v:=by rw[Lib.cell_of_heap hb1];rfl
  go_wp2_with (at_builtin;refine ve rfl _ _ 58 9 rfl 5 i0 Tryz.underlying58 Tryz.underlying9 hi hz0 hz1 hz2 _ _ _ rfl hown1 s rfl hlen ?_)
  intro v' w2 hown' hgrow hblk
  have hlt:b < w1.heap.size:=by have:=hg1.size;omega
  have hb2:w2.heap[b]? =some (.cells #[.pointer (some ⟨b,0,none⟩),v] 60 (0,0)):=by
    rw[hgrow.block b hlt (fun e=>hneb e.symm)]
    exact hb1
  have d0:w2.cell? ⟨b,0,none⟩=some (.pointer (some ⟨b,0,none⟩)):=by rw[Lib.cell_of_heap hb2];rfl
  have d1:w2.cell? ⟨b,1,none⟩=some v:=by rw[Lib.cell_of_heap hb2];rfl
  have f1:w2.frozen? ⟨b,1,none⟩=false:=Lib.frozen_of_heap hb2 1
  have hne':bU v'≠some b:=sM hown' hb2 (by decide)
  obtain⟨ao,n',cap,rfl⟩:∃ ao n' cap,v'= .slice ao n' cap:=by
    rcases hown'.2 with⟨hv,_⟩ | ⟨g,cap,cur,hv,_⟩
    · exact⟨_,_,_,hv⟩
    · exact⟨_,_,_,hv⟩
  go_wp2
  go_ret2
  have hs3:=pC w2 b 1 (.slice ao n' cap)
  refine⟨rfl,_,Ug (j:=0) hb2,hown'.kept hs3 fun g hg h=>hne' (by rw[hg];exact h),?_,?_⟩
  · rcases hblk with h | h
    · exact .inl h
    · exact .inr ⟨_,h,hg1.size⟩
  · refine⟨(hs3.os.trans hgrow.os).trans hg1.os,(hs3.tape.trans hgrow.tape).trans hg1.tape,(hs3.output.trans hgrow.output).trans hg1.output,Nat.le_trans (Nat.le_trans hg1.size hgrow.size) hs3.size,fun k hk h1 h2=> ?_⟩
    have k1:k < w1.heap.size:=by have:=hg1.size;omega
    have k2:k < w2.heap.size:=by have:=hgrow.size;omega
    rw[hs3.block k k2 (by simpa using h1),hgrow.block k k1 (fun e=>h2 e.symm),hg1.block k hk (by simpa using h1)]
theorem adL {b:Nat} {p v:Value} (l:List UInt8) {w:World} (hbk:w.heap[b]? =some (.cells #[p,v] 60 (0,0))) (hown:ownsW w 5 1 v l.length (Lib.byteCells l)):
    Calls Tryz.prog 23 #[.pointer (some ⟨b,0,none⟩)] w fun e w'=>e= .returned (.string ⟨l.toArray⟩)/\BldFr b v w w':=by
  have hlt:b < w.heap.size:=(Array.getElem?_eq_some_iff.1 hbk).1
  have mixed:Tryz.prog.follows .mixedOrders=true:=by kernel_rfl
  have t60:=Tryz.underlying60;have a60:=Tryz.isAgg60;have z60:=Tryz.sizeOf60;have v60:=Tryz.zeroValue60;have u0:=run_underlying Tryz.underlying60
  have t57:=Tryz.underlying57;have a57:=Tryz.isAgg57;have z57:=Tryz.sizeOf57;have v57:=Tryz.zeroValue57;have u1:=run_underlying Tryz.underlying57
  have t58:=Tryz.underlying58;have a58:=Tryz.isAgg58;have z58:=Tryz.sizeOf58;have v58:=Tryz.zeroValue58;have u2:=run_underlying Tryz.underlying58
  have t92:=Tryz.underlying92;have a92:=Tryz.isAgg92;have z92:=Tryz.sizeOf92;have v92:=Tryz.zeroValue92;have u4:=run_underlying Tryz.underlying92
  have t3:=Tryz.underlying3;have a3:=Tryz.isAgg3;have z3:=Tryz.sizeOf3;have v3:=Tryz.zeroValue3;have u3:=run_underlying Tryz.underlying3
  have t9:=Tryz.underlying9;have a9:=Tryz.isAgg9;have z9:=Tryz.sizeOf9;have v9:=Tryz.zeroValue9;have u9:=run_underlying Tryz.underlying9
  have t5:=Tryz.underlying5;have a5:=Tryz.isAgg5;have z5:=Tryz.sizeOf5;have v5:=Tryz.zeroValue5;have u5:=run_underlying Tryz.underlying5
  have hUS0:∀ (W:World) (q:Option Addr),(Builtin.unsafeString_ #[92,3] 9 #[.pointer q,.int .i64 0]).run Tryz.prog W= .ok (.string .empty) W:=fun W q=>Lib.run_unsafeString_none W _ _ _ q
  by_cases h0:l=[]
  · subst h0
    rcases hown.2 with⟨rfl,_⟩ | ⟨g,cap,cur,rfl,_,hg,hnc,hcm,hcs,htake⟩
    · have c1:w.drew.cell? ⟨b,1,none⟩=some (.slice none 0 0):=by
        have:w.drew.heap[b]? =some (.cells #[p,.slice none 0 0] 60 (0,0)):=hbk
        rw[Lib.cell_of_heap this];rfl
      have hSD:(Builtin.unsafeSliceData_ #[58] 92 #[.slice none 0 0]).run Tryz.prog w.drew= .ok (.pointer none) w.drew:=rfl
      have hUS:=hUS0 w.drew none
      go_enter Tryz.func23,Tryz.ntmps23
      go_wp2
      go_region_o
      all_goals (go_wp2;go_ret;exact⟨rfl,⟨rfl,rfl,rfl,Nat.le_refl _,fun _ _ _ _=>rfl⟩⟩)
    · simp only[length_nil] at *
      by_cases hc0:cap=0
      · subst hc0
        have c1:w.drew.cell? ⟨b,1,none⟩=some (.slice (some ⟨g,0,none⟩) 0 0):=by
          have:w.drew.heap[b]? =some (.cells #[p,.slice (some ⟨g,0,none⟩) 0 0] 60 (0,0)):=hbk
          rw[Lib.cell_of_heap this];rfl
        have hSD:(Builtin.unsafeSliceData_ #[58] 92 #[.slice (some ⟨g,0,none⟩) 0 0]).run Tryz.prog w.drew= .ok (.pointer (some ⟨w.drew.heap.size,0,none⟩)) (w.drew.alloc (.view ⟨g,0,none⟩ 5)):=
          Lib.run_unsafeSliceData_zero w.drew _ _ 5 Tryz.underlying92 ⟨g,0,none⟩ 0 (5,cur.size) (by have hg':w.drew.heap[g]? =some (.cells cur 5 (0,0)):=hg;simp[World.shape?,hg'])
        have c2:(w.drew.alloc (.view ⟨g,0,none⟩ 5)).cell? ⟨b,1,none⟩=some (.slice (some ⟨g,0,none⟩) 0 0):=by
          have:(w.drew.alloc (.view ⟨g,0,none⟩ 5)).heap[b]? =_:=(Lib.alloc_old w.drew _ b hlt).trans hbk
          rw[Lib.cell_of_heap this];rfl
        have c3:(w.alloc (.view ⟨g,0,none⟩ 5)).drew.cell? ⟨b,1,none⟩=some (.slice (some ⟨g,0,none⟩) 0 0):=c2
        have c0:w.cell? ⟨b,1,none⟩=some (.slice (some ⟨g,0,none⟩) 0 0):=c1
        have hUS:=hUS0
        go_enter Tryz.func23,Tryz.ntmps23
        go_wp2
        go_region_o
        all_goals (go_wp2;go_ret;exact⟨rfl,by first | exact EF _ _ _ _ | exact bldFr_alloc' _ _ _ _⟩)
      · have c1:w.drew.cell? ⟨b,1,none⟩=some (.slice (some ⟨g,0,none⟩) 0 cap):=by
          have:w.drew.heap[b]? =some (.cells #[p,.slice (some ⟨g,0,none⟩) 0 cap] 60 (0,0)):=hbk
          rw[Lib.cell_of_heap this];rfl
        have hSD:(Builtin.unsafeSliceData_ #[58] 92 #[.slice (some ⟨g,0,none⟩) 0 cap]).run Tryz.prog w.drew= .ok (.pointer (some ⟨g,0,none⟩)) w.drew:=
          Lib.run_unsafeSliceData_row _ _ _ _ _ _ hc0
        have hUS:=hUS0 w.drew (some ⟨g,0,none⟩)
        clear hc0
        go_enter Tryz.func23,Tryz.ntmps23
        go_wp2
        go_region_o
        all_goals (go_wp2;go_ret;exact⟨rfl,⟨rfl,rfl,rfl,Nat.le_refl _,fun _ _ _ _=>rfl⟩⟩)
  · have hl0:l.length≠0:=by simpa using h0
    obtain⟨g,cap,cur,rfl,hg,hnc,hcm,hcs,htake⟩:∃ g cap cur,v= .slice (some ⟨g,0,none⟩) l.length cap/\w.heap[g]? =some (.cells cur 5 (0,0))/\l.length<=cap/\cap<=maxLen/\cap * 1<=cur.size/\cur.toList.take (l.length * 1)=Lib.byteCells l:=by
      rcases hown.2 with⟨_,hz⟩ | ⟨g,cap,cur,hv,_,r⟩
      · exact absurd hz hl0
      · exact⟨g,cap,cur,hv,r⟩
    have c1:w.drew.cell? ⟨b,1,none⟩=some (.slice (some ⟨g,0,none⟩) l.length cap):=by
      have:w.drew.heap[b]? =some (.cells #[p,.slice (some ⟨g,0,none⟩) l.length cap] 60 (0,0)):=hbk
      rw[Lib.cell_of_heap this];rfl
    have hSD:(Builtin.unsafeSliceData_ #[58] 92 #[.slice (some ⟨g,0,none⟩) l.length cap]).run Tryz.prog w.drew= .ok (.pointer (some ⟨g,0,none⟩)) w.drew:=
      Lib.run_unsafeSliceData_row _ _ _ _ _ _ (by omega)
    have hUS:(Builtin.unsafeString_ #[92,3] 9 #[.pointer (some ⟨g,0,none⟩),.int .i64 l.length]).run Tryz.prog w.drew= .ok (.string ⟨l.toArray⟩) (w.drew.freeze ⟨g,0,none⟩ l.length):=by
      refine Lib.run_unsafeString_row w.drew 92 3 9 5 Tryz.underlying92 AM g cur.size (by have hg':w.drew.heap[g]? =some (.cells cur 5 (0,0)):=hg;simp[World.shape?,hg']) l h0 (by omega) (by unfold maxLen at hcm;omega) ?_
      intro j x hx
      exact hown.cells (g:=g) rfl j (.int .u8 x.toNat) (by simp[Lib.byteCells,hx])
    go_enter Tryz.func23,Tryz.ntmps23
    go_wp2
    go_region_o
    all_goals (go_wp2;go_ret;exact⟨rfl,C5 _ _ _ rfl⟩)
theorem OI {G:List (Nat×List PV)} {x:List Int} {s:List UInt8} {u:Unit} (h:dr ((x.length:Int)+(s.length:Int)) 1=some u):FnW G Tryz.prog 21 [.lp 0 0,.pv (.str s)] [(0,some (.box 60 [.bp 0,.ls 1])),(1,some (.row 5 1 (x.map fun b=>[PV.int .u8 b])))] 2 [(0,0)]
    [.pv (.int .i64 (s.length:Int)),.pv .nili] [(0,some (.box 60 [.bp 0,.ls 1])),(1,some (.row 5 1 ((x++bh s).map fun b=>[PV.int .u8 b])))] 2:=by
  have hl:(bh s).length=s.length:=by simp[bh]
  have hr:=uA h
  have hc:Lib.strCells ⟨s.toArray⟩=(bh s).map (.int .u8):=by simp[Lib.strCells,bh]
  have hz:(⟨s.toArray⟩:ByteArray).size=s.length:=by simp[ByteArray.size]
  refine aaP (by decide) (.pv (.str s)) (.string ⟨s.toArray⟩) (fun w O θ v hv=> ?_) (bh s) _ (.tuple #[.int .i64 (s.length:Int),.nilIface]) (fun w O θ=> ?_) (fun b n p v xs w h1 h2 h3 h4=> ?_) (by rw[hl];omega)
  · cases hv with
    | pv _ _ hv=>exact JH hv
  · refine .tup _ _ rfl fun i c u hc hu=> ?_
    match i,hc,hu with
    | 0,hc,hu=>cases hc;cases hu;exact .pv _ _ (.int _ _)
    | 1,hc,hu=>cases hc;cases hu;exact .pv _ _ .nili
  · have:=adw ⟨s.toArray⟩ h1 h2 h3 (by rw[hz,<- hl];exact h4)
    rw[hz,hc] at this
    rw[hl]
    exact this
theorem abK {G:List (Nat×List PV)} {x:List Int} {s:List UInt8} (h:LF x=some s):FnW G Tryz.prog 23 [.lp 0 0] [(0,some (.box 60 [.bp 0,.ls 1])),(1,some (.row 5 1 (x.map fun b=>[PV.int .u8 b])))] 2 [] [.pv (.str s)] [] 0:=
  abP (fun b p v l w h1 h2=>adL l h1 h2) h
end

section
open Go.Lib
set_option maxHeartbeats 2000000
set_option maxRecDepth 100000
theorem PO : liesAt Tryz.prog Tryz.prog.depth 120 (3 / Tryz.prog.cellsOf 120) 0 60 1=true:=by kernel_rfl
theorem DB (b:Nat) (w:World) (h0:w.cell? ⟨b,0,none⟩=some (.pointer none)) (hsh:w.shape? b=some (120,3)) (hfz:w.frozen? ⟨b,0,none⟩=false):
    Calls Tryz.prog 39 #[.pointer (some ⟨b,0,none⟩)] w fun e w'=>e= .returned (.tuple #[])/\w'=w.setCell ⟨b,0,none⟩ (.pointer (some ⟨b,0,none⟩)):=by
  obtain⟨j,hj,hjs⟩:=Option.map_eq_some_iff.1 IC
  have mixed:Tryz.prog.follows .mixedOrders=true:=by kernel_rfl
  have t60:=Tryz.underlying60;have a60:=Tryz.isAgg60;have z60:=Tryz.sizeOf60;have v60:=Tryz.zeroValue60;have u0:=run_underlying Tryz.underlying60
  have t57:=Tryz.underlying57;have a57:=Tryz.isAgg57;have z57:=Tryz.sizeOf57;have v57:=Tryz.zeroValue57;have u1:=run_underlying Tryz.underlying57
  have t9:=Tryz.underlying9;have a9:=Tryz.isAgg9;have z9:=Tryz.sizeOf9;have v9:=Tryz.zeroValue9;have u9:=run_underlying Tryz.underlying9
  have t4:=Tryz.underlying4;have a4:=Tryz.isAgg4;have z4:=Tryz.sizeOf4;have v4:=Tryz.zeroValue4;have u4:=run_underlying Tryz.underlying4
  have t116:=Tryz.underlying116;have a116:=Tryz.isAgg116;have z116:=Tryz.sizeOf116;have v116:=Tryz.zeroValue116;have u2:=run_underlying Tryz.underlying116
  go_enter Tryz.func39,Tryz.ntmps39
  go_wp2
  rw[Lib.run_to_unsafe w ⟨b,0,none⟩ Tryz.underlying57 Tryz.underlying116 hj (by rw[hjs];decide) hsh (Nat.zero_lt_succ 2)]
  simp only[Result.andThen]
  rw[Oper.upon_value]
  go_wp2
  rw[run_callFunc_extern Tryz.func75 (by kernel_rfl) (by kernel_rfl) (by kernel_rfl) (e:=Extern.AbiNoEscape.same) (by kernel_rfl)]
  rw[Lib.run_noEscape]
  simp only[Result.andThen]
  rw[Oper.upon_value]
  go_wp2
  rw[Lib.run_from_unsafe w ⟨b,0,none⟩ Tryz.underlying116 Tryz.underlying57 hj hsh PO]
  simp only[Result.andThen]
  rw[Oper.upon_value]
  go_wp2
  go_end0
  exact⟨rfl,rfl⟩
theorem Ky {b:Nat} {p v xe:Value} {w:World} (hbk:w.heap[b]? =some (.cells #[p,v,xe] 120 (0,0))) (hp:p= .pointer none\/p= .pointer (some ⟨b,0,none⟩)):
    Calls Tryz.prog 39 #[.pointer (some ⟨b,0,none⟩)] w fun e w'=>e= .returned (.tuple #[])/\w'.heap[b]? =some (.cells #[.pointer (some ⟨b,0,none⟩),v,xe] 120 (0,0))/\w.grownBy w' (some b):=by
  rcases hp with rfl | rfl
  · refine(DB b w (by rw[Lib.cell_of_heap hbk];rfl) (by simp[World.shape?,hbk]) (by simp[World.frozen?,hbk])).mono ?_
    rintro e w' ⟨rfl,rfl⟩
    exact⟨rfl,PU hbk,pC w b 0 _⟩
  · refine(ET b w (by rw[Lib.cell_of_heap hbk];rfl)).mono ?_
    rintro e w' ⟨rfl,rfl⟩
    exact⟨rfl,hbk,World.grownBy.refl _ _⟩
theorem Uq {b n:Nat} {p v xe:Value} {xs:List Value} (s:ByteArray) {w:World} (hbk:w.heap[b]? =some (.cells #[p,v,xe] 120 (0,0))) (hp:p= .pointer none\/p= .pointer (some ⟨b,0,none⟩)) (hown:ownsW w 5 1 v n xs) (hlen:n+s.size<=140737488355328):
    Calls Tryz.prog 21 #[.pointer (some ⟨b,0,none⟩),.string s] w fun e w'=>e= .returned (.tuple #[.int .i64 s.size,.nilIface])/\∃ v',w'.heap[b]? =some (.cells #[.pointer (some ⟨b,0,none⟩),v',xe] 120 (0,0))/\ownsW w' 5 1 v' (n+s.size) (xs++Lib.strCells s)/\
      (bU v'=bU v\/∃ g,bU v'=some g/\w.heap.size<=g)/\BldFr b v w w':=by
  obtain⟨i0,hi,hz0,hz1,hz2⟩:=info_parts Je
  have mixed:Tryz.prog.follows .mixedOrders=true:=by kernel_rfl
  have t60:=Tryz.underlying60;have a60:=Tryz.isAgg60;have z60:=Tryz.sizeOf60;have v60:=Tryz.zeroValue60;have u0:=run_underlying Tryz.underlying60
  have t57:=Tryz.underlying57;have a57:=Tryz.isAgg57;have z57:=Tryz.sizeOf57;have v57:=Tryz.zeroValue57;have u1:=run_underlying Tryz.underlying57
  have t58:=Tryz.underlying58;have a58:=Tryz.isAgg58;have z58:=Tryz.sizeOf58;have v58:=Tryz.zeroValue58;have u2:=run_underlying Tryz.underlying58
  have t3:=Tryz.underlying3;have a3:=Tryz.isAgg3;have z3:=Tryz.sizeOf3;have v3:=Tryz.zeroValue3;have u3:=run_underlying Tryz.underlying3
  have t9:=Tryz.underlying9;have a9:=Tryz.isAgg9;have z9:=Tryz.sizeOf9;have v9:=Tryz.zeroValue9;have u9:=run_underlying Tryz.underlying9
  have t4:=Tryz.underlying4;have a4:=Tryz.isAgg4;have z4:=Tryz.sizeOf4;have v4:=Tryz.zeroValue4;have u4:=run_underlying Tryz.underlying4
  have t116:=Tryz.underlying116;have a116:=Tryz.isAgg116;have z116:=Tryz.sizeOf116;have v116:=Tryz.zeroValue116;have u6:=run_underlying Tryz.underlying116
  have t5:=Tryz.underlying5;have a5:=Tryz.isAgg5;have z5:=Tryz.sizeOf5;have v5:=Tryz.zeroValue5;have u5:=run_underlying Tryz.underlying5
  have hlt0:b < w.heap.size:=(Array.getElem?_eq_some_iff.1 hbk).1
  have hneb:bU v≠some b:=sM hown hbk (by decide)
  have e52:∀ args w,(callFunc 39 args).run Tryz.prog w= .ok (.enter 39 args) w:=enters_of Tryz.func39 (by kernel_rfl) rfl
  go_enter Tryz.func21,Tryz.ntmps21
  go_wp2_with (go_at_fn 39;refine(Ky hbk hp).mono ?_)
  rintro e w1 ⟨rfl,hb1,hg1⟩
  have hown1:ownsW w1 5 1 v n xs:=hown.kept hg1 fun g hg h=>hneb (by rw[hg];exact h)
  have c0:w1.cell? ⟨b,0,none⟩=some (.pointer (some ⟨b,0,none⟩)):=by rw[Lib.cell_of_heap hb1];rfl
  have c1:w1.cell? ⟨b,1,none⟩=some v:=by rw[Lib.cell_of_heap hb1];rfl
  go_wp2_with (at_builtin;refine ve rfl _ _ 58 9 rfl 5 i0 Tryz.underlying58 Tryz.underlying9 hi hz0 hz1 hz2 _ _ _ rfl hown1 s rfl hlen ?_)
  intro v' w2 hown' hgrow hblk
  have hlt:b < w1.heap.size:=by have:=hg1.size;omega
  have hb2:w2.heap[b]? =some (.cells #[.pointer (some ⟨b,0,none⟩),v,xe] 120 (0,0)):=by
    rw[hgrow.block b hlt (fun e=>hneb e.symm)]
    exact hb1
  have d0:w2.cell? ⟨b,0,none⟩=some (.pointer (some ⟨b,0,none⟩)):=by rw[Lib.cell_of_heap hb2];rfl
  have d1:w2.cell? ⟨b,1,none⟩=some v:=by rw[Lib.cell_of_heap hb2];rfl
  have f1:w2.frozen? ⟨b,1,none⟩=false:=Lib.frozen_of_heap hb2 1
  have hne':bU v'≠some b:=sM hown' hb2 (by decide)
  obtain⟨ao,n',cap,rfl⟩:∃ ao n' cap,v'= .slice ao n' cap:=by
    rcases hown'.2 with⟨hv,_⟩ | ⟨g,cap,cur,hv,_⟩
    · exact⟨_,_,_,hv⟩
    · exact⟨_,_,_,hv⟩
  go_wp2
  go_ret2
  have hs3:=pC w2 b 1 (.slice ao n' cap)
  refine⟨rfl,_,Fe hb2,hown'.kept hs3 fun g hg h=>hne' (by rw[hg];exact h),?_,?_⟩
  · rcases hblk with h | h
    · exact .inl h
    · exact .inr ⟨_,h,hg1.size⟩
  · refine⟨(hs3.os.trans hgrow.os).trans hg1.os,(hs3.tape.trans hgrow.tape).trans hg1.tape,(hs3.output.trans hgrow.output).trans hg1.output,Nat.le_trans (Nat.le_trans hg1.size hgrow.size) hs3.size,fun k hk h1 h2=> ?_⟩
    have k1:k < w1.heap.size:=by have:=hg1.size;omega
    have k2:k < w2.heap.size:=by have:=hgrow.size;omega
    rw[hs3.block k k2 (by simpa using h1),hgrow.block k k1 (fun e=>h2 e.symm),hg1.block k hk (by simpa using h1)]
theorem Tk {b n:Nat} {p v xe:Value} {xs:List Value} (c:Int) {w:World} (hbk:w.heap[b]? =some (.cells #[p,v,xe] 120 (0,0))) (hp:p= .pointer none\/p= .pointer (some ⟨b,0,none⟩)) (hown:ownsW w 5 1 v n xs) (hlen:n+1<=140737488355328):
    Calls Tryz.prog 136 #[.pointer (some ⟨b,0,none⟩),.int .u8 c] w fun e w'=>e= .returned .nilIface/\∃ v',w'.heap[b]? =some (.cells #[.pointer (some ⟨b,0,none⟩),v',xe] 120 (0,0))/\ownsW w' 5 1 v' (n+1) (xs++[.int .u8 c])/\
      (bU v'=bU v\/∃ g,bU v'=some g/\w.heap.size<=g)/\BldFr b v w w':=by
  obtain⟨i0,hi,hz0,hz1,hz2⟩:=info_parts Je
  have mixed:Tryz.prog.follows .mixedOrders=true:=by kernel_rfl
  have t60:=Tryz.underlying60;have a60:=Tryz.isAgg60;have z60:=Tryz.sizeOf60;have v60:=Tryz.zeroValue60;have u0:=run_underlying Tryz.underlying60
  have t57:=Tryz.underlying57;have a57:=Tryz.isAgg57;have z57:=Tryz.sizeOf57;have v57:=Tryz.zeroValue57;have u1:=run_underlying Tryz.underlying57
  have t58:=Tryz.underlying58;have a58:=Tryz.isAgg58;have z58:=Tryz.sizeOf58;have v58:=Tryz.zeroValue58;have u2:=run_underlying Tryz.underlying58
  have t3:=Tryz.underlying3;have a3:=Tryz.isAgg3;have z3:=Tryz.sizeOf3;have v3:=Tryz.zeroValue3;have u3:=run_underlying Tryz.underlying3
  have t9:=Tryz.underlying9;have a9:=Tryz.isAgg9;have z9:=Tryz.sizeOf9;have v9:=Tryz.zeroValue9;have u9:=run_underlying Tryz.underlying9
  have t4:=Tryz.underlying4;have a4:=Tryz.isAgg4;have z4:=Tryz.sizeOf4;have v4:=Tryz.zeroValue4;have u4:=run_underlying Tryz.underlying4
  have t116:=Tryz.underlying116;have a116:=Tryz.isAgg116;have z116:=Tryz.sizeOf116;have v116:=Tryz.zeroValue116;have u6:=run_underlying Tryz.underlying116
  have t5:=Tryz.underlying5;have a5:=Tryz.isAgg5;have z5:=Tryz.sizeOf5;have v5:=Tryz.zeroValue5;have u5:=run_underlying Tryz.underlying5
  have hlt0:b < w.heap.size:=(Array.getElem?_eq_some_iff.1 hbk).1
  have hneb:bU v≠some b:=sM hown hbk (by decide)
  have e52:∀ args w,(callFunc 39 args).run Tryz.prog w= .ok (.enter 39 args) w:=enters_of Tryz.func39 (by kernel_rfl) rfl
  go_enter Tryz.func136,Tryz.ntmps136
  go_wp2_with (go_at_fn 39;refine(Ky hbk hp).mono ?_)
  rintro e w1 ⟨rfl,hb1,hg1⟩
  have hown1:ownsW w1 5 1 v n xs:=hown.kept hg1 fun g hg h=>hneb (by rw[hg];exact h)
  have c0:w1.cell? ⟨b,0,none⟩=some (.pointer (some ⟨b,0,none⟩)):=by rw[Lib.cell_of_heap hb1];rfl
  have c1:w1.cell? ⟨b,1,none⟩=some v:=by rw[Lib.cell_of_heap hb1];rfl
  have hlt:b < w1.heap.size:=by have:=hg1.size;omega
  have hga:∀ o,w1.grownBy (w1.alloc o) none:=fun o=>⟨rfl,rfl,rfl,by simp,fun k hk _=>Lib.alloc_old w1 o k hk⟩
  go_wp2_with (at_builtin;refine Bz rfl _ _ 58 rfl 5 i0 Tryz.underlying58 hi hz0 hz1 hz2 _ _ _ rfl (hown1.kept (hga _) fun g _ h=>by cases h) ⟨w1.heap.size,0,none⟩ c rfl ?c1 hlen ?_)
  case c1=>
    intro j u hj
    match j,hj with
    | 0,hj=>simp at hj;subst hj;simp[Addr.add]
  intro v' w2 hown' hgrow hblk
  have hb2:w2.heap[b]? =some (.cells #[.pointer (some ⟨b,0,none⟩),v,xe] 120 (0,0)):=by
    rw[hgrow.block b (by simp;omega) (fun e=>hneb e.symm),Lib.alloc_old w1 _ b hlt]
    exact hb1
  have d0:w2.cell? ⟨b,0,none⟩=some (.pointer (some ⟨b,0,none⟩)):=by rw[Lib.cell_of_heap hb2];rfl
  have d1:w2.cell? ⟨b,1,none⟩=some v:=by rw[Lib.cell_of_heap hb2];rfl
  have f1:w2.frozen? ⟨b,1,none⟩=false:=Lib.frozen_of_heap hb2 1
  have hne':bU v'≠some b:=sM hown' hb2 (by decide)
  obtain⟨ao,n',cap,rfl⟩:∃ ao n' cap,v'= .slice ao n' cap:=by
    rcases hown'.2 with⟨hv,_⟩ | ⟨g,cap,cur,hv,_⟩
    · exact⟨_,_,_,hv⟩
    · exact⟨_,_,_,hv⟩
  go_wp2
  go_ret
  have hs3:=pC w2 b 1 (.slice ao n' cap)
  have ha:=hga (.cells #[.int .u8 c] 5)
  refine⟨rfl,_,Fe hb2,hown'.kept hs3 fun g hg h=>hne' (by rw[hg];exact h),?_,?_⟩
  · rcases hblk with h | h
    · exact .inl h
    · exact .inr ⟨_,h,by have:=hg1.size;simp;omega⟩
  · have hgs:=hgrow.size
    simp at hgs
    refine⟨(hs3.os.trans hgrow.os).trans hg1.os,(hs3.tape.trans hgrow.tape).trans hg1.tape,(hs3.output.trans hgrow.output).trans hg1.output,by have:=hg1.size;have:=hs3.size;omega,fun k hk h1 h2=> ?_⟩
    have k1:k < w1.heap.size:=by have:=hg1.size;omega
    rw[hs3.block k (by omega) (by simpa using h1),hgrow.block k (by simp;omega) (fun e=>h2 e.symm),Lib.alloc_old w1 _ k k1,hg1.block k hk (by simpa using h1)]
theorem Th {b:Nat} {p v xe:Value} (l:List UInt8) {w:World} (hbk:w.heap[b]? =some (.cells #[p,v,xe] 120 (0,0))) (hown:ownsW w 5 1 v l.length (Lib.byteCells l)):
    Calls Tryz.prog 23 #[.pointer (some ⟨b,0,none⟩)] w fun e w'=>e= .returned (.string ⟨l.toArray⟩)/\BldFr b v w w':=by
  have hlt:b < w.heap.size:=(Array.getElem?_eq_some_iff.1 hbk).1
  have mixed:Tryz.prog.follows .mixedOrders=true:=by kernel_rfl
  have t60:=Tryz.underlying60;have a60:=Tryz.isAgg60;have z60:=Tryz.sizeOf60;have v60:=Tryz.zeroValue60;have u0:=run_underlying Tryz.underlying60
  have t57:=Tryz.underlying57;have a57:=Tryz.isAgg57;have z57:=Tryz.sizeOf57;have v57:=Tryz.zeroValue57;have u1:=run_underlying Tryz.underlying57
  have t58:=Tryz.underlying58;have a58:=Tryz.isAgg58;have z58:=Tryz.sizeOf58;have v58:=Tryz.zeroValue58;have u2:=run_underlying Tryz.underlying58
  have t92:=Tryz.underlying92;have a92:=Tryz.isAgg92;have z92:=Tryz.sizeOf92;have v92:=Tryz.zeroValue92;have u4:=run_underlying Tryz.underlying92
  have t3:=Tryz.underlying3;have a3:=Tryz.isAgg3;have z3:=Tryz.sizeOf3;have v3:=Tryz.zeroValue3;have u3:=run_underlying Tryz.underlying3
  have t9:=Tryz.underlying9;have a9:=Tryz.isAgg9;have z9:=Tryz.sizeOf9;have v9:=Tryz.zeroValue9;have u9:=run_underlying Tryz.underlying9
  have t5:=Tryz.underlying5;have a5:=Tryz.isAgg5;have z5:=Tryz.sizeOf5;have v5:=Tryz.zeroValue5;have u5:=run_underlying Tryz.underlying5
  have hUS0:∀ (W:World) (q:Option Addr),(Builtin.unsafeString_ #[92,3] 9 #[.pointer q,.int .i64 0]).run Tryz.prog W= .ok (.string .empty) W:=fun W q=>Lib.run_unsafeString_none W _ _ _ q
  by_cases h0:l=[]
  · subst h0
    rcases hown.2 with⟨rfl,_⟩ | ⟨g,cap,cur,rfl,_,hg,hnc,hcm,hcs,htake⟩
    · have c1:w.drew.cell? ⟨b,1,none⟩=some (.slice none 0 0):=by
        have:w.drew.heap[b]? =some (.cells #[p,.slice none 0 0,xe] 120 (0,0)):=hbk
        rw[Lib.cell_of_heap this];rfl
      have hSD:(Builtin.unsafeSliceData_ #[58] 92 #[.slice none 0 0]).run Tryz.prog w.drew= .ok (.pointer none) w.drew:=rfl
      have hUS:=hUS0 w.drew none
      go_enter Tryz.func23,Tryz.ntmps23
      go_wp2
      go_region_o
      all_goals (go_wp2;go_ret;exact⟨rfl,⟨rfl,rfl,rfl,Nat.le_refl _,fun _ _ _ _=>rfl⟩⟩)
    · simp only[length_nil] at *
      by_cases hc0:cap=0
      · subst hc0
        have c1:w.drew.cell? ⟨b,1,none⟩=some (.slice (some ⟨g,0,none⟩) 0 0):=by
          have:w.drew.heap[b]? =some (.cells #[p,.slice (some ⟨g,0,none⟩) 0 0,xe] 120 (0,0)):=hbk
          rw[Lib.cell_of_heap this];rfl
        have hSD:(Builtin.unsafeSliceData_ #[58] 92 #[.slice (some ⟨g,0,none⟩) 0 0]).run Tryz.prog w.drew= .ok (.pointer (some ⟨w.drew.heap.size,0,none⟩)) (w.drew.alloc (.view ⟨g,0,none⟩ 5)):=
          Lib.run_unsafeSliceData_zero w.drew _ _ 5 Tryz.underlying92 ⟨g,0,none⟩ 0 (5,cur.size) (by have hg':w.drew.heap[g]? =some (.cells cur 5 (0,0)):=hg;simp[World.shape?,hg'])
        have c2:(w.drew.alloc (.view ⟨g,0,none⟩ 5)).cell? ⟨b,1,none⟩=some (.slice (some ⟨g,0,none⟩) 0 0):=by
          have:(w.drew.alloc (.view ⟨g,0,none⟩ 5)).heap[b]? =_:=(Lib.alloc_old w.drew _ b hlt).trans hbk
          rw[Lib.cell_of_heap this];rfl
        have c3:(w.alloc (.view ⟨g,0,none⟩ 5)).drew.cell? ⟨b,1,none⟩=some (.slice (some ⟨g,0,none⟩) 0 0):=c2
        have c0:w.cell? ⟨b,1,none⟩=some (.slice (some ⟨g,0,none⟩) 0 0):=c1
        have hUS:=hUS0
        go_enter Tryz.func23,Tryz.ntmps23
        go_wp2
        go_region_o
        all_goals (go_wp2;go_ret;exact⟨rfl,by first | exact EF _ _ _ _ | exact bldFr_alloc' _ _ _ _⟩)
      · have c1:w.drew.cell? ⟨b,1,none⟩=some (.slice (some ⟨g,0,none⟩) 0 cap):=by
          have:w.drew.heap[b]? =some (.cells #[p,.slice (some ⟨g,0,none⟩) 0 cap,xe] 120 (0,0)):=hbk
          rw[Lib.cell_of_heap this];rfl
        have hSD:(Builtin.unsafeSliceData_ #[58] 92 #[.slice (some ⟨g,0,none⟩) 0 cap]).run Tryz.prog w.drew= .ok (.pointer (some ⟨g,0,none⟩)) w.drew:=
          Lib.run_unsafeSliceData_row _ _ _ _ _ _ hc0
        have hUS:=hUS0 w.drew (some ⟨g,0,none⟩)
        clear hc0
        go_enter Tryz.func23,Tryz.ntmps23
        go_wp2
        go_region_o
        all_goals (go_wp2;go_ret;exact⟨rfl,⟨rfl,rfl,rfl,Nat.le_refl _,fun _ _ _ _=>rfl⟩⟩)
  · have hl0:l.length≠0:=by simpa using h0
    obtain⟨g,cap,cur,rfl,hg,hnc,hcm,hcs,htake⟩:∃ g cap cur,v= .slice (some ⟨g,0,none⟩) l.length cap/\w.heap[g]? =some (.cells cur 5 (0,0))/\l.length<=cap/\cap<=maxLen/\cap * 1<=cur.size/\cur.toList.take (l.length * 1)=Lib.byteCells l:=by
      rcases hown.2 with⟨_,hz⟩ | ⟨g,cap,cur,hv,_,r⟩
      · exact absurd hz hl0
      · exact⟨g,cap,cur,hv,r⟩
    have c1:w.drew.cell? ⟨b,1,none⟩=some (.slice (some ⟨g,0,none⟩) l.length cap):=by
      have:w.drew.heap[b]? =some (.cells #[p,.slice (some ⟨g,0,none⟩) l.length cap,xe] 120 (0,0)):=hbk
      rw[Lib.cell_of_heap this];rfl
    have hSD:(Builtin.unsafeSliceData_ #[58] 92 #[.slice (some ⟨g,0,none⟩) l.length cap]).run Tryz.prog w.drew= .ok (.pointer (some ⟨g,0,none⟩)) w.drew:=
      Lib.run_unsafeSliceData_row _ _ _ _ _ _ (by omega)
    have hUS:(Builtin.unsafeString_ #[92,3] 9 #[.pointer (some ⟨g,0,none⟩),.int .i64 l.length]).run Tryz.prog w.drew= .ok (.string ⟨l.toArray⟩) (w.drew.freeze ⟨g,0,none⟩ l.length):=by
      refine Lib.run_unsafeString_row w.drew 92 3 9 5 Tryz.underlying92 AM g cur.size (by have hg':w.drew.heap[g]? =some (.cells cur 5 (0,0)):=hg;simp[World.shape?,hg']) l h0 (by omega) (by unfold maxLen at hcm;omega) ?_
      intro j x hx
      exact hown.cells (g:=g) rfl j (.int .u8 x.toNat) (by simp[Lib.byteCells,hx])
    go_enter Tryz.func23,Tryz.ntmps23
    go_wp2
    go_region_o
    all_goals (go_wp2;go_ret;exact⟨rfl,C5 _ _ _ rfl⟩)
theorem Fk {q:PV} {G:List (Nat×List PV)} {x:List Int} {s:List UInt8} {u:Unit} (h:dr ((x.length:Int)+(s.length:Int)) 1=some u):FnW G Tryz.prog 21 [.lp 0 0,.pv (.str s)] [(0,some (.box 120 [.bp 0,.ls 1,.pv q])),(1,some (.row 5 1 (x.map fun b=>[PV.int .u8 b])))] 2 [(0,0)]
    [.pv (.int .i64 (s.length:Int)),.pv .nili] [(0,some (.box 120 [.bp 0,.ls 1,.pv q])),(1,some (.row 5 1 ((x++bh s).map fun b=>[PV.int .u8 b])))] 2:=by
  have hl:(bh s).length=s.length:=by simp[bh]
  have hr:=uA h
  have hc:Lib.strCells ⟨s.toArray⟩=(bh s).map (.int .u8):=by simp[Lib.strCells,bh]
  have hz:(⟨s.toArray⟩:ByteArray).size=s.length:=by simp[ByteArray.size]
  refine RI (by decide) (.pv (.str s)) (.string ⟨s.toArray⟩) (fun w O θ v hv=> ?_) (bh s) _ (.tuple #[.int .i64 (s.length:Int),.nilIface]) (fun w O θ=> ?_) (fun b n p v xe xs w h1 h2 h3 h4=> ?_) (by rw[hl];omega)
  · cases hv with
    | pv _ _ hv=>exact JH hv
  · refine .tup _ _ rfl fun i c u hc hu=> ?_
    match i,hc,hu with
    | 0,hc,hu=>cases hc;cases hu;exact .pv _ _ (.int _ _)
    | 1,hc,hu=>cases hc;cases hu;exact .pv _ _ .nili
  · have:=Uq ⟨s.toArray⟩ h1 h2 h3 (by rw[hz,<- hl];exact h4)
    rw[hz,hc] at this
    rw[hl]
    exact this
theorem RZ {q:PV} {G:List (Nat×List PV)} {x:List Int} {c:Int} {u:Unit} (h:dr ((x.length:Int)+1) 1=some u):FnW G Tryz.prog 136 [.lp 0 0,.pv (.int .u8 c)] [(0,some (.box 120 [.bp 0,.ls 1,.pv q])),(1,some (.row 5 1 (x.map fun b=>[PV.int .u8 b])))] 2 [(0,0)]
    [.pv .nili] [(0,some (.box 120 [.bp 0,.ls 1,.pv q])),(1,some (.row 5 1 ((x++[c]).map fun b=>[PV.int .u8 b])))] 2:=by
  have hr:=uA h
  refine RI (by decide) (.pv (.int .u8 c)) (.int .u8 c) (fun w O θ v hv=> ?_) [c] _ .nilIface (fun w O θ=> .pv _ _ .nili) (fun b n p v xe xs w h1 h2 h3 h4=>Tk c h1 h2 h3 h4) (by simp;omega)
  cases hv with
  | pv _ _ hv=>cases hv;rfl
theorem RH {q:PV} {G:List (Nat×List PV)} {x:List Int} {s:List UInt8} (h:LF x=some s):FnW G Tryz.prog 23 [.lp 0 0] [(0,some (.box 120 [.bp 0,.ls 1,.pv q])),(1,some (.row 5 1 (x.map fun b=>[PV.int .u8 b])))] 2 [] [.pv (.str s)] [] 0:=
  XJ (fun b p v xe l w h1 h2=>Th l h1 h2) h
end
end Go.Proofs.YtjimbkljclfflaaGreatDoor
