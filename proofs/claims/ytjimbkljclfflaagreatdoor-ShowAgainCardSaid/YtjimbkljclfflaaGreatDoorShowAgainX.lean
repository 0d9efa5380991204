/- A part of the proof that the law ShowAgain gives true for every input. -/
import Derived.Test.YtjimbkljclfflaaGreatDoorShowAgainA5
import Derived.Test.YtjimbkljclfflaaGreatDoorProg
/- Facts about the types of the program. -/
namespace Go.Proofs.YtjimbkljclfflaaGreatDoor
open Go.RowKit Go.Abs
/-- The package variables that are read: their blocks, and what they hold. -/
abbrev dY : List (Nat×List PV):=[(0,[.str [99,108,97,115,115],.str [101,120,116,101,110,100,115],.str [114,101,112],.str [112,101,101,114],.str [119,111,114,108,100],.str [97,110,121],.str [117,110,105,113,117,101],.str [112,117,114,101],.str [118,111,105,100],.str [105,110,116],.str [105,102],.str [101,108,115,101],.str [119,104,105,108,101],.str [114,101,116,117,114,110],.str [110,101,119],.str [109,111,118,101],.str [100,101,108,101,116,101],.str [116,104,105,115],.str [110,117,108,108],.str [105,110,112,117,116],.str [110,105,108],.str [115,97,109,101],.str [99,97,115,116]]),(1,[.str [38,38],.int .i64 1,.int .i64 11,.str [60],.int .i64 2,.int .i64 9,.str [61,61],.int .i64 2,.int .i64 10,.str [43],.int .i64 3,.int .i64 6,.str [45],.int .i64 3,.int .i64 7,.str [42],.int .i64 4,.int .i64 8])]
theorem fK : Tryz.prog.underlying 9=some .string:=by kernel_rfl
theorem pb : cW Tryz.prog 28 (.agg #[.int .i64 0,.int .i64 0]):=by unfold cW;kernel_rfl
theorem sB : jx Tryz.prog 28 [(0,1),(1,1)]=true:=by kernel_rfl
theorem jr : nC Tryz.prog 28 2=true:=by kernel_rfl
theorem Rz : pm Tryz.prog 28=false:=by kernel_rfl
theorem qy : cW Tryz.prog 70 (.agg #[.int .i64 0,.string ⟨#[]⟩,.int .i64 0]):=by unfold cW;kernel_rfl
theorem lg : cW Tryz.prog 9 (.string ⟨#[]⟩):=by unfold cW;kernel_rfl
theorem gF : sliceB Tryz.prog 34 9 1=true:=by kernel_rfl
theorem AP : pm Tryz.prog 9=true:=by kernel_rfl
theorem xX : jx Tryz.prog 70 [(0,1),(1,1),(2,1)]=true:=by kernel_rfl
theorem jD : nC Tryz.prog 70 3=true:=by kernel_rfl
theorem mixed : Tryz.prog.follows .mixedOrders=true:=by kernel_rfl
theorem kf : pm Tryz.prog 3=true:=by kernel_rfl
theorem Nr : Tryz.prog.underlying 5=some (.int .u8):=by kernel_rfl
theorem aaF : Tryz.prog.underlying 3=some (.int .i64):=by kernel_rfl
theorem EA : sliceB Tryz.prog 66 70 3=true:=by kernel_rfl
theorem WX : xq Tryz.prog 70 32=true:=by kernel_rfl
theorem WO : dh Tryz.prog 51=true:=by kernel_rfl
theorem qQ : uF Tryz.prog 70 0 3 0=true:=by kernel_rfl
theorem Vn : dh Tryz.prog 52=true:=by kernel_rfl
theorem nP : uF Tryz.prog 70 2 3 2=true:=by kernel_rfl
theorem KO : sliceB Tryz.prog 22 39 7=true:=by kernel_rfl
theorem kj : cW Tryz.prog 74 (.agg #[.string ⟨#[]⟩,.slice none 0 0,.string ⟨#[]⟩,.slice none 0 0,.slice none 0 0,.slice none 0 0,.int .i64 0,.string ⟨#[]⟩,.bool false,.int .i64 0,.string ⟨#[]⟩,.int .i64 0,.int .i64 0,.int .i64 0,.int .i64 0,.int .i64 0,.int .i64 0,.int .i64 0,.int .i64 0,.int .i64 0,.slice none 0 0,.slice none 0 0,.slice none 0 0,.int .i64 0,.slice none 0 0,.slice none 0 0,.int .i64 0,.int .i64 0,.int .i64 0]):=by unfold cW;kernel_rfl
theorem Mu : cW Tryz.prog 39 (.agg #[.string ⟨#[]⟩,.slice none 0 0,.string ⟨#[]⟩,.slice none 0 0,.slice none 0 0,.slice none 0 0,.int .i64 0]):=by unfold cW;kernel_rfl
theorem aca : jx Tryz.prog 39 [(0,1),(1,1),(2,1),(3,1),(4,1),(5,1),(6,1)]=true:=by kernel_rfl
theorem nz : nC Tryz.prog 39 7=true:=by kernel_rfl
theorem nY : jx Tryz.prog 74 [(0,7),(7,17),(24,1),(25,1),(26,1),(27,2)]=true:=by kernel_rfl
theorem fJ : nC Tryz.prog 74 29=true:=by kernel_rfl
theorem Xu : pm Tryz.prog 74=false:=by kernel_rfl
theorem sw : dh Tryz.prog 53=true:=by kernel_rfl
theorem se : uF Tryz.prog 70 1 9 1=true:=by kernel_rfl
theorem OO : xq Tryz.prog 9 16=true:=by kernel_rfl
theorem mP : cW Tryz.prog 126 (.agg #[.slice none 0 0,.int .i64 0,.string ⟨#[]⟩,.int .i64 0,.int .i64 0,.int .i64 0,.int .i64 0,.int .i64 0,.int .i64 0,.int .i64 0,.int .i64 0,.int .i64 0,.string ⟨#[]⟩,.int .i64 0,.string ⟨#[]⟩,.int .i64 0,.int .i64 0,.int .i64 0,.int .i64 0,.int .i64 0,.int .i64 0,.int .i64 0,.int .i64 0,.int .i64 0,.int .i64 0,.int .i64 0,.int .i64 0,.int .i64 0]):=by unfold cW;kernel_rfl
theorem wi : jx Tryz.prog 126 [(0,1),(1,11),(12,13),(25,1),(26,2)]=true:=by kernel_rfl
theorem Ap : nC Tryz.prog 126 28=true:=by kernel_rfl
theorem SK : pm Tryz.prog 126=false:=by kernel_rfl
theorem wh : cW Tryz.prog 42 (.agg #[.int .i64 0,.int .i64 0]):=by unfold cW;kernel_rfl
theorem Bt : jx Tryz.prog 42 [(0,1),(1,1)]=true:=by kernel_rfl
theorem uR : nC Tryz.prog 42 2=true:=by kernel_rfl
theorem Xt : pm Tryz.prog 42=false:=by kernel_rfl
theorem GW : sliceB Tryz.prog 35 42 2=true:=by kernel_rfl
theorem acl : xq Tryz.prog 42 16=true:=by kernel_rfl
theorem abY : dh Tryz.prog 55=true:=by kernel_rfl
theorem Gq : sliceB Tryz.prog 37 48 17=true:=by kernel_rfl
theorem Rh : pm Tryz.prog 46=true:=by kernel_rfl
theorem uV : sliceB Tryz.prog 46 55 23=true:=by kernel_rfl
theorem gv : nC Tryz.prog 55 23=true:=by kernel_rfl
theorem Ox : sq Tryz.prog 55 7 20=true:=by kernel_rfl
theorem Oz : sq Tryz.prog 55 8 21=true:=by kernel_rfl
theorem abt : dh Tryz.prog 25=true:=by kernel_rfl
theorem LC : cW Tryz.prog 48 (.agg #[.string ⟨#[]⟩,.bool false,.int .i64 0,.string ⟨#[]⟩,.int .i64 0,.int .i64 0,.int .i64 0,.int .i64 0,.int .i64 0,.int .i64 0,.int .i64 0,.int .i64 0,.int .i64 0,.slice none 0 0,.slice none 0 0,.slice none 0 0,.int .i64 0]):=by unfold cW;kernel_rfl
theorem abW : jx Tryz.prog 48 [(0,1),(1,1),(2,11),(13,1),(14,1),(15,1),(16,1)]=true:=by kernel_rfl
theorem zn : nC Tryz.prog 48 17=true:=by kernel_rfl
theorem Sr : pm Tryz.prog 4=true:=by kernel_rfl
theorem xj : cW Tryz.prog 45 (.agg #[.int .i64 0,.string ⟨#[]⟩,.int .i64 0,.int .i64 0,.int .i64 0,.int .i64 0,.int .i64 0,.int .i64 0,.int .i64 0,.int .i64 0,.int .i64 0]):=by unfold cW;kernel_rfl
theorem Ks : jx Tryz.prog 45 [(0,1),(1,1),(2,1),(3,8)]=true:=by kernel_rfl
theorem iW : nC Tryz.prog 45 11=true:=by kernel_rfl
theorem sC : sx Tryz.prog 43 4 42 2=true:=by kernel_rfl
theorem O8 : uF Tryz.prog 42 0 3 0=true:=by kernel_rfl
theorem qz : sliceB Tryz.prog 36 80 13=true:=by kernel_rfl
theorem wq : cW Tryz.prog 80 (.agg #[.string ⟨#[]⟩,.int .i64 0,.string ⟨#[]⟩,.int .i64 0,.int .i64 0,.int .i64 0,.int .i64 0,.int .i64 0,.int .i64 0,.int .i64 0,.int .i64 0,.int .i64 0,.int .i64 0]):=by unfold cW;kernel_rfl
theorem XT : jx Tryz.prog 80 [(0,1),(1,11),(12,1)]=true:=by kernel_rfl
theorem zk : nC Tryz.prog 80 13=true:=by kernel_rfl
theorem Re : xq Tryz.prog 80 120=true:=by kernel_rfl
theorem Yv : dh Tryz.prog 117=true:=by kernel_rfl
theorem aak : dh Tryz.prog 118=true:=by kernel_rfl
theorem jU : cW Tryz.prog 152 (.agg #[.int .i64 0,.string ⟨#[]⟩,.string ⟨#[]⟩,.string ⟨#[]⟩,.int .i64 0,.string ⟨#[]⟩,.int .i64 0,.int .i64 0,.int .i64 0,.int .i64 0,.int .i64 0,.int .i64 0,.int .i64 0,.int .i64 0,.int .i64 0,.int .i64 0,.int .i64 0,.string ⟨#[]⟩,.slice none 0 0,.slice none 0 0,.slice none 0 0,.slice none 0 0,.int .i64 0,.slice none 0 0,.slice none 0 0,.int .i64 0,.int .i64 0,.int .i64 0]):=by unfold cW;kernel_rfl
theorem Br : cW Tryz.prog 55 (.agg #[.int .i64 0,.string ⟨#[]⟩,.string ⟨#[]⟩,.string ⟨#[]⟩,.int .i64 0,.string ⟨#[]⟩,.int .i64 0,.int .i64 0,.int .i64 0,.int .i64 0,.int .i64 0,.int .i64 0,.int .i64 0,.int .i64 0,.int .i64 0,.int .i64 0,.int .i64 0,.string ⟨#[]⟩,.slice none 0 0,.slice none 0 0,.slice none 0 0,.slice none 0 0,.int .i64 0]):=by unfold cW;kernel_rfl
theorem abr : jx Tryz.prog 55 [(0,1),(1,1),(2,1),(3,1),(4,11),(15,4),(19,1),(20,1),(21,1),(22,1)]=true:=by kernel_rfl
theorem nA : jx Tryz.prog 152 [(0,23),(23,1),(24,1),(25,1),(26,2)]=true:=by kernel_rfl
theorem yo : nC Tryz.prog 152 28=true:=by kernel_rfl
theorem kz : sliceB Tryz.prog 51 53 4=true:=by kernel_rfl
theorem jg : cW Tryz.prog 175 (.agg #[.int .i64 0,.int .i64 0,.string ⟨#[]⟩,.slice none 0 0,.int .i64 0,.int .i64 0,.int .i64 0]):=by unfold cW;kernel_rfl
theorem ko : nC Tryz.prog 175 7=true:=by kernel_rfl
theorem acp : cW Tryz.prog 34 (.slice none 0 0):=by unfold cW;kernel_rfl
theorem Tq : sliceB Tryz.prog 226 34 1=true:=by kernel_rfl
theorem YC : dh Tryz.prog 201=true:=by kernel_rfl
theorem Zd : dh Tryz.prog 202=true:=by kernel_rfl
theorem eN : nC Tryz.prog 53 4=true:=by kernel_rfl
theorem jX : cW Tryz.prog 53 (.agg #[.int .i64 0,.int .i64 0,.string ⟨#[]⟩,.slice none 0 0]):=by unfold cW;kernel_rfl
theorem qk : jx Tryz.prog 53 [(0,1),(1,1),(2,1),(3,1)]=true:=by kernel_rfl
theorem Rp : pm Tryz.prog 53=false:=by kernel_rfl
theorem QL : pm Tryz.prog 51=true:=by kernel_rfl
theorem sW : jx Tryz.prog 175 [(0,4),(4,1),(5,2)]=true:=by kernel_rfl
theorem XX : xq Tryz.prog 53 56=true:=by kernel_rfl
theorem WB : xq Tryz.prog 55 288=true:=by kernel_rfl
theorem acj : dh Tryz.prog 89=true:=by kernel_rfl
theorem abf : xq Tryz.prog 48 200=true:=by kernel_rfl
theorem aba : dh Tryz.prog 56=true:=by kernel_rfl
theorem abz : xq Tryz.prog 39 136=true:=by kernel_rfl
theorem adv : cW Tryz.prog 3 (.int .i64 0):=by unfold cW;kernel_rfl
theorem XU : Tryz.prog.underlying 58=some (.slice 5):=by kernel_rfl
theorem sr : sliceB Tryz.prog 58 5 1=true:=by kernel_rfl
theorem Ia : pm Tryz.prog 5=true:=by kernel_rfl
theorem Zb : sx Tryz.prog 180 23 9 1=true:=by kernel_rfl
theorem ZI : dh Tryz.prog 161=true:=by kernel_rfl
theorem ZY : dh Tryz.prog 183=true:=by kernel_rfl
theorem aam : dh Tryz.prog 126=true:=by kernel_rfl
theorem acb : dh Tryz.prog 99=true:=by kernel_rfl
theorem EF : sq Tryz.prog 80 1 1=true:=by kernel_rfl
theorem W8 : sq Tryz.prog 80 0 0=true:=by kernel_rfl
theorem Yr : dh Tryz.prog 129=true:=by kernel_rfl
theorem Ic : eqB Tryz.prog 45 [(.i .i64),.s,(.i .i64),(.i .i64),(.i .i64),(.i .i64),(.i .i64),(.i .i64),(.i .i64),(.i .i64),(.i .i64)]=true:=by kernel_rfl
theorem VU : eqB Tryz.prog 42 [(.i .i64),(.i .i64)]=true:=by kernel_rfl
theorem YP : dh Tryz.prog 102=true:=by kernel_rfl
theorem Zc : dh Tryz.prog 101=true:=by kernel_rfl
theorem Zt : dh Tryz.prog 184=true:=by kernel_rfl
theorem adx : cW Tryz.prog 4 (.bool false):=by unfold cW;kernel_rfl
theorem ZA : dh Tryz.prog 190=true:=by kernel_rfl
theorem Sx : dh Tryz.prog 164=true:=by kernel_rfl
theorem abF : cW Tryz.prog 51 (.slice none 0 0):=by unfold cW;kernel_rfl
theorem Yu : dh Tryz.prog 207=true:=by kernel_rfl
theorem ZR : dh Tryz.prog 193=true:=by kernel_rfl
theorem YB : dh Tryz.prog 194=true:=by kernel_rfl
theorem ZH : dh Tryz.prog 191=true:=by kernel_rfl
theorem YF : dh Tryz.prog 165=true:=by kernel_rfl
theorem Tc : dh Tryz.prog 133=true:=by kernel_rfl
theorem SR : dh Tryz.prog 134=true:=by kernel_rfl
theorem abL : dh Tryz.prog 70=true:=by kernel_rfl
theorem abi : dh Tryz.prog 69=true:=by kernel_rfl
theorem acs : dh Tryz.prog 36=true:=by kernel_rfl
theorem We : cW Tryz.prog 84 (.agg #[.int .i64 0,.int .i64 0,.int .i64 0,.int .i64 0,.int .i64 0,.int .i64 0,.int .i64 0]):=by unfold cW;kernel_rfl
theorem abE : jx Tryz.prog 84 [(0,1),(1,1),(2,1),(3,1),(4,1),(5,1),(6,1)]=true:=by kernel_rfl
theorem QI : nC Tryz.prog 84 7=true:=by kernel_rfl
theorem Dx : sliceB Tryz.prog 140 45 11=true:=by kernel_rfl
theorem Ql : dh Tryz.prog 73=true:=by kernel_rfl
theorem Qy : dh Tryz.prog 72=true:=by kernel_rfl
theorem QO : dh Tryz.prog 74=true:=by kernel_rfl
theorem Wj : uF Tryz.prog 84 4 3 4=true:=by kernel_rfl
theorem acf : cW Tryz.prog 60 (.agg #[.pointer none,.slice none 0 0]):=by unfold cW;kernel_rfl
theorem ack : jx Tryz.prog 60 [(0,1),(1,1)]=true:=by kernel_rfl
theorem Wg : dh Tryz.prog 96=true:=by kernel_rfl
theorem PO : dh Tryz.prog 63=true:=by kernel_rfl
theorem GJ : dh Tryz.prog 21=true:=by kernel_rfl
theorem BH : dh Tryz.prog 40=true:=by kernel_rfl
theorem LU : dh Tryz.prog 62=true:=by kernel_rfl
theorem aaa : cW Tryz.prog 120 (.agg #[.pointer none,.slice none 0 0,.slice none 0 0]):=by unfold cW;kernel_rfl
theorem ZK : jx Tryz.prog 120 [(0,2),(2,1)]=true:=by kernel_rfl
theorem LI : Tryz.prog.underlying 203=some (.int .u64):=by kernel_rfl
theorem JI : cW Tryz.prog 5 (.int .u8 0):=by unfold cW;kernel_rfl
theorem VO : xq Tryz.prog 5 1=true:=by kernel_rfl
theorem ZU : dh Tryz.prog 208=true:=by kernel_rfl
theorem Dw : dh Tryz.prog 139=true:=by kernel_rfl
theorem SN : sx Tryz.prog 213 6 212 3=true:=by kernel_rfl
theorem aag : sliceB Tryz.prog 210 212 3=true:=by kernel_rfl
theorem Sg : nC Tryz.prog 212 3=true:=by kernel_rfl
theorem ZO : dh Tryz.prog 197=true:=by kernel_rfl
theorem YX : dh Tryz.prog 196=true:=by kernel_rfl
theorem YV : cW Tryz.prog 212 (.agg #[.string ⟨#[]⟩,.int .i64 0,.int .i64 0]):=by unfold cW;kernel_rfl
theorem TP : dh Tryz.prog 108=true:=by kernel_rfl
theorem Zu : dh Tryz.prog 135=true:=by kernel_rfl
theorem Zx : dh Tryz.prog 136=true:=by kernel_rfl
theorem zX : dh Tryz.prog 107=true:=by kernel_rfl
theorem QV : dh Tryz.prog 78=true:=by kernel_rfl
theorem WL : dh Tryz.prog 23=true:=by kernel_rfl
theorem abj : dh Tryz.prog 22=true:=by kernel_rfl
theorem aan : Tryz.prog.underlying 4=some .bool:=by kernel_rfl
theorem WV : sq Tryz.prog 55 9 22=true:=by kernel_rfl
theorem XY : dh Tryz.prog 90=true:=by kernel_rfl
theorem FK : sq Tryz.prog 80 2 12=true:=by kernel_rfl
theorem ZL : dh Tryz.prog 120=true:=by kernel_rfl
theorem SX : dh Tryz.prog 155=true:=by kernel_rfl
theorem acg : dh Tryz.prog 57=true:=by kernel_rfl
theorem abV : dh Tryz.prog 30=true:=by kernel_rfl
instance : AggI Tryz.prog 28 2:=⟨jr,Rz⟩
instance : SlcI Tryz.prog 34 9 1:=⟨gF⟩
instance : OneI Tryz.prog 9:=⟨AP⟩
instance : AggI Tryz.prog 70 3:=⟨jD,by kernel_rfl⟩
instance : FldI Tryz.prog 70 2 2:=⟨by kernel_rfl⟩
instance : OneI Tryz.prog 3:=⟨kf⟩
instance : FldI Tryz.prog 70 0 0:=⟨by kernel_rfl⟩
instance : FldI Tryz.prog 70 1 1:=⟨by kernel_rfl⟩
instance : SlcI Tryz.prog 66 70 3:=⟨EA⟩
instance : FldI Tryz.prog 28 0 0:=⟨by kernel_rfl⟩
instance : OneI Tryz.prog 26:=⟨by kernel_rfl⟩
instance : SlcI Tryz.prog 22 39 7:=⟨KO⟩
instance : AggI Tryz.prog 39 7:=⟨nz,by kernel_rfl⟩
instance : AggI Tryz.prog 74 29:=⟨fJ,Xu⟩
instance : FldI Tryz.prog 39 0 0:=⟨by kernel_rfl⟩
instance : FldI Tryz.prog 74 5 27:=⟨by kernel_rfl⟩
instance : FldI Tryz.prog 74 3 25:=⟨by kernel_rfl⟩
instance : OneI Tryz.prog 34:=⟨by kernel_rfl⟩
instance : FldI Tryz.prog 39 1 1:=⟨by kernel_rfl⟩
instance : FldI Tryz.prog 74 4 26:=⟨by kernel_rfl⟩
instance : FldI Tryz.prog 39 2 2:=⟨by kernel_rfl⟩
instance : AggI Tryz.prog 126 28:=⟨Ap,SK⟩
instance : AggI Tryz.prog 42 2:=⟨uR,Xt⟩
instance : FldI Tryz.prog 42 0 0:=⟨by kernel_rfl⟩
instance : SlcI Tryz.prog 35 42 2:=⟨GW⟩
instance : FldI Tryz.prog 126 4 26:=⟨by kernel_rfl⟩
instance : FldI Tryz.prog 126 0 0:=⟨by kernel_rfl⟩
instance : OneI Tryz.prog 35:=⟨by kernel_rfl⟩
instance : FldI Tryz.prog 39 3 3:=⟨by kernel_rfl⟩
instance : FldI Tryz.prog 126 3 25:=⟨by kernel_rfl⟩
instance : FldI Tryz.prog 74 0 0:=⟨by kernel_rfl⟩
instance : FldI Tryz.prog 39 5 5:=⟨by kernel_rfl⟩
instance : OneI Tryz.prog 37:=⟨by kernel_rfl⟩
instance : SlcI Tryz.prog 37 48 17:=⟨Gq⟩
instance : FldI Tryz.prog 48 5 15:=⟨by kernel_rfl⟩
instance : OneI Tryz.prog 46:=⟨Rh⟩
instance : SlcI Tryz.prog 46 55 23:=⟨uV⟩
instance : AggI Tryz.prog 55 23:=⟨gv,by kernel_rfl⟩
instance : FldI Tryz.prog 55 7 20:=⟨Ox⟩
instance : FldI Tryz.prog 55 8 21:=⟨Oz⟩
instance : AggI Tryz.prog 48 17:=⟨zn,by kernel_rfl⟩
instance : FldI Tryz.prog 48 1 1:=⟨by kernel_rfl⟩
instance : OneI Tryz.prog 4:=⟨Sr⟩
instance : AggI Tryz.prog 45 11:=⟨iW,by kernel_rfl⟩
instance : FldI Tryz.prog 45 3 3:=⟨by kernel_rfl⟩
instance : FldI Tryz.prog 45 1 1:=⟨by kernel_rfl⟩
instance : FldI Tryz.prog 45 2 2:=⟨by kernel_rfl⟩
instance : FldI Tryz.prog 126 1 1:=⟨by kernel_rfl⟩
instance : FldI Tryz.prog 48 2 2:=⟨by kernel_rfl⟩
instance : FldI Tryz.prog 48 0 0:=⟨by kernel_rfl⟩
instance : SlcI Tryz.prog 36 80 13:=⟨qz⟩
instance : FldI Tryz.prog 45 0 0:=⟨by kernel_rfl⟩
instance : FldI Tryz.prog 126 2 12:=⟨by kernel_rfl⟩
instance : AggI Tryz.prog 80 13:=⟨zk,by kernel_rfl⟩
instance : FldI Tryz.prog 74 2 24:=⟨by kernel_rfl⟩
instance : OneI Tryz.prog 36:=⟨by kernel_rfl⟩
instance : FldI Tryz.prog 48 3 13:=⟨by kernel_rfl⟩
instance : FldI Tryz.prog 48 4 14:=⟨by kernel_rfl⟩
instance : AggI Tryz.prog 152 28:=⟨yo,by kernel_rfl⟩
instance : FldI Tryz.prog 55 2 2:=⟨by kernel_rfl⟩
instance : FldI Tryz.prog 55 3 3:=⟨by kernel_rfl⟩
instance : SlcI Tryz.prog 51 53 4:=⟨kz⟩
instance : AggI Tryz.prog 175 7:=⟨ko,by kernel_rfl⟩
instance : FldI Tryz.prog 175 2 5:=⟨by kernel_rfl⟩
instance : FldI Tryz.prog 175 1 4:=⟨by kernel_rfl⟩
instance : SlcI Tryz.prog 226 34 1:=⟨Tq⟩
instance : FldI Tryz.prog 175 0 0:=⟨by kernel_rfl⟩
instance : AggI Tryz.prog 53 4:=⟨eN,Rp⟩
instance : FldI Tryz.prog 53 3 3:=⟨by kernel_rfl⟩
instance : OneI Tryz.prog 51:=⟨QL⟩
instance : FldI Tryz.prog 152 4 26:=⟨by kernel_rfl⟩
instance : FldI Tryz.prog 55 0 0:=⟨by kernel_rfl⟩
instance : FldI Tryz.prog 152 2 24:=⟨by kernel_rfl⟩
instance : FldI Tryz.prog 55 6 19:=⟨by kernel_rfl⟩
instance : FldI Tryz.prog 152 3 25:=⟨by kernel_rfl⟩
instance : FldI Tryz.prog 55 1 1:=⟨by kernel_rfl⟩
instance : FldI Tryz.prog 55 5 15:=⟨by kernel_rfl⟩
instance : FldI Tryz.prog 55 4 4:=⟨by kernel_rfl⟩
instance : FldI Tryz.prog 152 1 23:=⟨by kernel_rfl⟩
instance : FldI Tryz.prog 152 0 0:=⟨by kernel_rfl⟩
instance : FldI Tryz.prog 74 1 7:=⟨by kernel_rfl⟩
instance : FldI Tryz.prog 39 4 4:=⟨by kernel_rfl⟩
instance : SlcI Tryz.prog 58 5 1:=⟨sr⟩
instance : OneI Tryz.prog 5:=⟨Ia⟩
instance : FldI Tryz.prog 42 1 1:=⟨by kernel_rfl⟩
instance : FldI Tryz.prog 80 1 1:=⟨EF⟩
instance : FldI Tryz.prog 80 0 0:=⟨W8⟩
instance : FldI Tryz.prog 53 0 0:=⟨by kernel_rfl⟩
instance : FldI Tryz.prog 53 1 1:=⟨by kernel_rfl⟩
instance : FldI Tryz.prog 53 2 2:=⟨by kernel_rfl⟩
instance : AggI Tryz.prog 84 7:=⟨QI,by kernel_rfl⟩
instance : FldI Tryz.prog 84 1 1:=⟨by kernel_rfl⟩
instance : SlcI Tryz.prog 140 45 11:=⟨Dx⟩
instance : FldI Tryz.prog 84 6 6:=⟨by kernel_rfl⟩
instance : FldI Tryz.prog 84 2 2:=⟨by kernel_rfl⟩
instance : FldI Tryz.prog 84 3 3:=⟨by kernel_rfl⟩
instance : FldI Tryz.prog 84 5 5:=⟨by kernel_rfl⟩
instance : FldI Tryz.prog 84 4 4:=⟨by kernel_rfl⟩
instance : SlcI Tryz.prog 210 212 3:=⟨aag⟩
instance : AggI Tryz.prog 212 3:=⟨Sg,by kernel_rfl⟩
instance : FldI Tryz.prog 212 2 2:=⟨by kernel_rfl⟩
instance : FldI Tryz.prog 212 1 1:=⟨by kernel_rfl⟩
instance : FldI Tryz.prog 212 0 0:=⟨by kernel_rfl⟩
instance : FldI Tryz.prog 120 1 2:=⟨by kernel_rfl⟩
instance : FldI Tryz.prog 120 0 0:=⟨by kernel_rfl⟩
instance : FldI Tryz.prog 39 6 6:=⟨by kernel_rfl⟩
instance : FldI Tryz.prog 48 6 16:=⟨by kernel_rfl⟩
instance : FldI Tryz.prog 55 9 22:=⟨WV⟩
instance : FldI Tryz.prog 80 2 12:=⟨FK⟩
abbrev FZ (f:FuncId) (a:List PV) (r:List Res):Prop:=Abs.Fn dY Tryz.prog f a r
end Go.Proofs.YtjimbkljclfflaaGreatDoor
