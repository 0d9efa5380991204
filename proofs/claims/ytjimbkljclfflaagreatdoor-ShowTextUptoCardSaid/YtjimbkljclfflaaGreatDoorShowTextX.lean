/- A part of the proof that the law ShowText gives true for every input. -/
import Derived.Test.YtjimbkljclfflaaGreatDoorShowTextA5
import Derived.Test.YtjimbkljclfflaaGreatDoorProg
/- Facts about the types of the program. -/
namespace Go.Proofs.YtjimbkljclfflaaGreatDoor
open Go.RowKit Go.Abs
/-- The package variables that are read: their blocks, and what they hold. -/
abbrev dW : List (Nat×List PV):=[(0,[.str [99,108,97,115,115],.str [101,120,116,101,110,100,115],.str [114,101,112],.str [112,101,101,114],.str [119,111,114,108,100],.str [97,110,121],.str [117,110,105,113,117,101],.str [112,117,114,101],.str [118,111,105,100],.str [105,110,116],.str [105,102],.str [101,108,115,101],.str [119,104,105,108,101],.str [114,101,116,117,114,110],.str [110,101,119],.str [109,111,118,101],.str [100,101,108,101,116,101],.str [116,104,105,115],.str [110,117,108,108],.str [105,110,112,117,116],.str [110,105,108],.str [115,97,109,101],.str [99,97,115,116]]),(1,[.str [38,38],.int .i64 1,.int .i64 11,.str [60],.int .i64 2,.int .i64 9,.str [61,61],.int .i64 2,.int .i64 10,.str [43],.int .i64 3,.int .i64 6,.str [45],.int .i64 3,.int .i64 7,.str [42],.int .i64 4,.int .i64 8])]
theorem gM : sliceB Tryz.prog 22 39 7=true:=by kernel_rfl
theorem gz : nN Tryz.prog 39 7=true:=by kernel_rfl
theorem tL : dd Tryz.prog 39 (.agg #[.string ⟨#[]⟩,.slice none 0 0,.string ⟨#[]⟩,.slice none 0 0,.slice none 0 0,.slice none 0 0,.int .i64 0]):=by unfold dd;kernel_rfl
theorem DA : pR Tryz.prog 39 1 1=true:=by kernel_rfl
theorem Nc : px Tryz.prog 34=true:=by kernel_rfl
theorem dr : sliceB Tryz.prog 34 9 1=true:=by kernel_rfl
theorem nf : sliceB Tryz.prog 35 42 2=true:=by kernel_rfl
theorem LM : pR Tryz.prog 39 4 4=true:=by kernel_rfl
theorem QF : px Tryz.prog 36=true:=by kernel_rfl
theorem lu : sliceB Tryz.prog 36 80 13=true:=by kernel_rfl
theorem yY : pR Tryz.prog 39 5 5=true:=by kernel_rfl
theorem IZ : px Tryz.prog 37=true:=by kernel_rfl
theorem qv : sliceB Tryz.prog 37 48 17=true:=by kernel_rfl
theorem oX : nN Tryz.prog 48 17=true:=by kernel_rfl
theorem yC : dd Tryz.prog 48 (.agg #[.string ⟨#[]⟩,.bool false,.int .i64 0,.string ⟨#[]⟩,.int .i64 0,.int .i64 0,.int .i64 0,.int .i64 0,.int .i64 0,.int .i64 0,.int .i64 0,.int .i64 0,.int .i64 0,.slice none 0 0,.slice none 0 0,.slice none 0 0,.int .i64 0]):=by unfold dd;kernel_rfl
theorem db : sliceB Tryz.prog 46 55 23=true:=by kernel_rfl
theorem Mz : pR Tryz.prog 80 1 1=true:=by kernel_rfl
theorem jR : rp Tryz.prog 43 4 42 2=true:=by kernel_rfl
theorem kq : px Tryz.prog 3=true:=by kernel_rfl
theorem dH : nN Tryz.prog 55 23=true:=by kernel_rfl
theorem MU : px Tryz.prog 51=true:=by kernel_rfl
theorem cG : sliceB Tryz.prog 51 53 4=true:=by kernel_rfl
theorem da : nN Tryz.prog 53 4=true:=by kernel_rfl
theorem Ab : dd Tryz.prog 28 (.agg #[.int .i64 0,.int .i64 0]):=by unfold dd;kernel_rfl
theorem eu : Tryz.prog.underlying 9=some .string:=by kernel_rfl
theorem mE : dd Tryz.prog 70 (.agg #[.int .i64 0,.string ⟨#[]⟩,.int .i64 0]):=by unfold dd;kernel_rfl
theorem jt : dd Tryz.prog 9 (.string ⟨#[]⟩):=by unfold dd;kernel_rfl
theorem qH : px Tryz.prog 9=true:=by kernel_rfl
theorem J4 : ju Tryz.prog 70 [(0,1),(1,1),(2,1)]=true:=by kernel_rfl
theorem oT : nN Tryz.prog 70 3=true:=by kernel_rfl
theorem mixed : Tryz.prog.follows .mixedOrders=true:=by kernel_rfl
theorem Aq : sliceB Tryz.prog 66 70 3=true:=by kernel_rfl
theorem QC : wR Tryz.prog 70 32=true:=by kernel_rfl
theorem RI : ju Tryz.prog 28 [(0,1),(1,1)]=true:=by kernel_rfl
theorem NV : nN Tryz.prog 28 2=true:=by kernel_rfl
theorem zq : tu Tryz.prog 70 0 3 0=true:=by kernel_rfl
theorem Vu : cT Tryz.prog 52=true:=by kernel_rfl
theorem rE : dd Tryz.prog 74 (.agg #[.string ⟨#[]⟩,.slice none 0 0,.string ⟨#[]⟩,.slice none 0 0,.slice none 0 0,.slice none 0 0,.int .i64 0,.string ⟨#[]⟩,.bool false,.int .i64 0,.string ⟨#[]⟩,.int .i64 0,.int .i64 0,.int .i64 0,.int .i64 0,.int .i64 0,.int .i64 0,.int .i64 0,.int .i64 0,.int .i64 0,.slice none 0 0,.slice none 0 0,.slice none 0 0,.int .i64 0,.slice none 0 0,.slice none 0 0,.int .i64 0,.int .i64 0,.int .i64 0]):=by unfold dd;kernel_rfl
theorem MG : tu Tryz.prog 70 2 3 2=true:=by kernel_rfl
theorem Vt : ju Tryz.prog 39 [(0,1),(1,1),(2,1),(3,1),(4,1),(5,1),(6,1)]=true:=by kernel_rfl
theorem Dv : tu Tryz.prog 70 1 9 1=true:=by kernel_rfl
theorem EZ : wR Tryz.prog 9 16=true:=by kernel_rfl
theorem Ko : ju Tryz.prog 74 [(0,7),(7,17),(24,1),(25,1),(26,1),(27,2)]=true:=by kernel_rfl
theorem Am : nN Tryz.prog 74 29=true:=by kernel_rfl
theorem QU : px Tryz.prog 74=false:=by kernel_rfl
theorem xH : dd Tryz.prog 126 (.agg #[.slice none 0 0,.int .i64 0,.string ⟨#[]⟩,.int .i64 0,.int .i64 0,.int .i64 0,.int .i64 0,.int .i64 0,.int .i64 0,.int .i64 0,.int .i64 0,.int .i64 0,.string ⟨#[]⟩,.int .i64 0,.string ⟨#[]⟩,.int .i64 0,.int .i64 0,.int .i64 0,.int .i64 0,.int .i64 0,.int .i64 0,.int .i64 0,.int .i64 0,.int .i64 0,.int .i64 0,.int .i64 0,.int .i64 0,.int .i64 0]):=by unfold dd;kernel_rfl
theorem nj : dd Tryz.prog 42 (.agg #[.int .i64 0,.int .i64 0]):=by unfold dd;kernel_rfl
theorem Et : ju Tryz.prog 42 [(0,1),(1,1)]=true:=by kernel_rfl
theorem ir : nN Tryz.prog 42 2=true:=by kernel_rfl
theorem We : wR Tryz.prog 42 16=true:=by kernel_rfl
theorem PB : ju Tryz.prog 126 [(0,1),(1,11),(12,13),(25,1),(26,2)]=true:=by kernel_rfl
theorem JC : nN Tryz.prog 126 28=true:=by kernel_rfl
theorem U0 : cT Tryz.prog 55=true:=by kernel_rfl
theorem Vk : cT Tryz.prog 25=true:=by kernel_rfl
theorem VD : ju Tryz.prog 48 [(0,1),(1,1),(2,11),(13,1),(14,1),(15,1),(16,1)]=true:=by kernel_rfl
theorem Ow : px Tryz.prog 4=true:=by kernel_rfl
theorem sH : dd Tryz.prog 45 (.agg #[.int .i64 0,.string ⟨#[]⟩,.int .i64 0,.int .i64 0,.int .i64 0,.int .i64 0,.int .i64 0,.int .i64 0,.int .i64 0,.int .i64 0,.int .i64 0]):=by unfold dd;kernel_rfl
theorem Aj : ju Tryz.prog 45 [(0,1),(1,1),(2,1),(3,8)]=true:=by kernel_rfl
theorem ff : nN Tryz.prog 45 11=true:=by kernel_rfl
theorem Qz : tu Tryz.prog 42 0 3 0=true:=by kernel_rfl
theorem yJ : dd Tryz.prog 80 (.agg #[.string ⟨#[]⟩,.int .i64 0,.string ⟨#[]⟩,.int .i64 0,.int .i64 0,.int .i64 0,.int .i64 0,.int .i64 0,.int .i64 0,.int .i64 0,.int .i64 0,.int .i64 0,.int .i64 0]):=by unfold dd;kernel_rfl
theorem Vw : ju Tryz.prog 80 [(0,1),(1,11),(12,1)]=true:=by kernel_rfl
theorem VF : wR Tryz.prog 80 120=true:=by kernel_rfl
theorem UW : cT Tryz.prog 56=true:=by kernel_rfl
theorem U1 : wR Tryz.prog 39 136=true:=by kernel_rfl
theorem UQ : dd Tryz.prog 3 (.int .i64 0):=by unfold dd;kernel_rfl
theorem IV : Tryz.prog.underlying 58=some (.slice 5):=by kernel_rfl
theorem AH : Tryz.prog.underlying 5=some (.int .u8):=by kernel_rfl
theorem oQ : sliceB Tryz.prog 58 5 1=true:=by kernel_rfl
theorem Fh : px Tryz.prog 5=true:=by kernel_rfl
theorem SO : rp Tryz.prog 180 23 9 1=true:=by kernel_rfl
theorem SI : cT Tryz.prog 161=true:=by kernel_rfl
theorem S0 : cT Tryz.prog 183=true:=by kernel_rfl
theorem TV : cT Tryz.prog 126=true:=by kernel_rfl
theorem VZ : cT Tryz.prog 99=true:=by kernel_rfl
theorem rz : nN Tryz.prog 80 13=true:=by kernel_rfl
theorem Mo : pR Tryz.prog 80 0 0=true:=by kernel_rfl
theorem Uk : cT Tryz.prog 129=true:=by kernel_rfl
theorem Jd : eqB Tryz.prog 45 [(.i .i64),.s,(.i .i64),(.i .i64),(.i .i64),(.i .i64),(.i .i64),(.i .i64),(.i .i64),(.i .i64),(.i .i64)]=true:=by kernel_rfl
theorem QV : eqB Tryz.prog 42 [(.i .i64),(.i .i64)]=true:=by kernel_rfl
theorem Tj : cT Tryz.prog 102=true:=by kernel_rfl
theorem TI : cT Tryz.prog 101=true:=by kernel_rfl
theorem yD : dd Tryz.prog 55 (.agg #[.int .i64 0,.string ⟨#[]⟩,.string ⟨#[]⟩,.string ⟨#[]⟩,.int .i64 0,.string ⟨#[]⟩,.int .i64 0,.int .i64 0,.int .i64 0,.int .i64 0,.int .i64 0,.int .i64 0,.int .i64 0,.int .i64 0,.int .i64 0,.int .i64 0,.int .i64 0,.string ⟨#[]⟩,.slice none 0 0,.slice none 0 0,.slice none 0 0,.slice none 0 0,.int .i64 0]):=by unfold dd;kernel_rfl
theorem qi : dd Tryz.prog 53 (.agg #[.int .i64 0,.int .i64 0,.string ⟨#[]⟩,.slice none 0 0]):=by unfold dd;kernel_rfl
theorem Kx : ju Tryz.prog 53 [(0,1),(1,1),(2,1),(3,1)]=true:=by kernel_rfl
theorem wz : pR Tryz.prog 53 0 0=true:=by kernel_rfl
theorem xm : pR Tryz.prog 53 1 1=true:=by kernel_rfl
theorem xg : pR Tryz.prog 53 2 2=true:=by kernel_rfl
theorem Sy : px Tryz.prog 53=false:=by kernel_rfl
theorem Ta : cT Tryz.prog 184=true:=by kernel_rfl
theorem Wx : dd Tryz.prog 4 (.bool false):=by unfold dd;kernel_rfl
theorem Ua : cT Tryz.prog 190=true:=by kernel_rfl
theorem Pm : cT Tryz.prog 164=true:=by kernel_rfl
theorem UY : dd Tryz.prog 51 (.slice none 0 0):=by unfold dd;kernel_rfl
theorem Wm : wR Tryz.prog 53 56=true:=by kernel_rfl
theorem Uv : cT Tryz.prog 207=true:=by kernel_rfl
theorem TB : cT Tryz.prog 193=true:=by kernel_rfl
theorem Tv : cT Tryz.prog 194=true:=by kernel_rfl
theorem SQ : cT Tryz.prog 191=true:=by kernel_rfl
theorem Ue : cT Tryz.prog 165=true:=by kernel_rfl
theorem Oh : cT Tryz.prog 133=true:=by kernel_rfl
theorem O9 : cT Tryz.prog 134=true:=by kernel_rfl
theorem Ve : cT Tryz.prog 70=true:=by kernel_rfl
theorem Vm : cT Tryz.prog 69=true:=by kernel_rfl
theorem VM : cT Tryz.prog 36=true:=by kernel_rfl
theorem Nn : dd Tryz.prog 84 (.agg #[.int .i64 0,.int .i64 0,.int .i64 0,.int .i64 0,.int .i64 0,.int .i64 0,.int .i64 0]):=by unfold dd;kernel_rfl
theorem VW : ju Tryz.prog 84 [(0,1),(1,1),(2,1),(3,1),(4,1),(5,1),(6,1)]=true:=by kernel_rfl
theorem NY : nN Tryz.prog 84 7=true:=by kernel_rfl
theorem zd : sliceB Tryz.prog 140 45 11=true:=by kernel_rfl
theorem NQ : cT Tryz.prog 73=true:=by kernel_rfl
theorem NP : cT Tryz.prog 72=true:=by kernel_rfl
theorem NC : cT Tryz.prog 74=true:=by kernel_rfl
theorem Rz : tu Tryz.prog 84 4 3 4=true:=by kernel_rfl
theorem VU : dd Tryz.prog 60 (.agg #[.pointer none,.slice none 0 0]):=by unfold dd;kernel_rfl
theorem Vf : ju Tryz.prog 60 [(0,1),(1,1)]=true:=by kernel_rfl
theorem Sb : cT Tryz.prog 96=true:=by kernel_rfl
theorem Nf : cT Tryz.prog 63=true:=by kernel_rfl
theorem DL : cT Tryz.prog 21=true:=by kernel_rfl
theorem Aa : cT Tryz.prog 40=true:=by kernel_rfl
theorem JI : cT Tryz.prog 62=true:=by kernel_rfl
theorem SF : dd Tryz.prog 120 (.agg #[.pointer none,.slice none 0 0,.slice none 0 0]):=by unfold dd;kernel_rfl
theorem Tb : ju Tryz.prog 120 [(0,2),(2,1)]=true:=by kernel_rfl
theorem Rl : Tryz.prog.underlying 3=some (.int .i64):=by kernel_rfl
theorem Jj : Tryz.prog.underlying 203=some (.int .u64):=by kernel_rfl
theorem Bh : dd Tryz.prog 5 (.int .u8 0):=by unfold dd;kernel_rfl
theorem Sg : wR Tryz.prog 5 1=true:=by kernel_rfl
theorem SV : cT Tryz.prog 208=true:=by kernel_rfl
theorem CD : cT Tryz.prog 139=true:=by kernel_rfl
theorem Pk : rp Tryz.prog 213 6 212 3=true:=by kernel_rfl
theorem Ox : sliceB Tryz.prog 210 212 3=true:=by kernel_rfl
theorem JK : nN Tryz.prog 212 3=true:=by kernel_rfl
theorem Tz : cT Tryz.prog 197=true:=by kernel_rfl
theorem Ut : cT Tryz.prog 196=true:=by kernel_rfl
theorem TA : dd Tryz.prog 212 (.agg #[.string ⟨#[]⟩,.int .i64 0,.int .i64 0]):=by unfold dd;kernel_rfl
theorem Pr : cT Tryz.prog 108=true:=by kernel_rfl
theorem Ti : cT Tryz.prog 135=true:=by kernel_rfl
theorem SY : cT Tryz.prog 136=true:=by kernel_rfl
theorem zp : cT Tryz.prog 107=true:=by kernel_rfl
theorem MQ : cT Tryz.prog 78=true:=by kernel_rfl
theorem QI : cT Tryz.prog 23=true:=by kernel_rfl
theorem Vl : cT Tryz.prog 22=true:=by kernel_rfl
theorem Wi : cT Tryz.prog 13=true:=by kernel_rfl
theorem IK : cT Tryz.prog 44=true:=by kernel_rfl
theorem SM : cT Tryz.prog 155=true:=by kernel_rfl
theorem SX : cT Tryz.prog 209=true:=by kernel_rfl
theorem Qt : nN Tryz.prog 43 8=true:=by kernel_rfl
theorem UZ : dd Tryz.prog 43 (.agg #[.int .i64 0,.int .i64 0,.int .i64 0,.int .i64 0,.int .i64 0,.int .i64 0,.int .i64 0,.int .i64 0]):=by unfold dd;kernel_rfl
theorem Rp : cT Tryz.prog 92=true:=by kernel_rfl
theorem Vc : cT Tryz.prog 65=true:=by kernel_rfl
theorem Kg : cT Tryz.prog 33=true:=by kernel_rfl
theorem VH : cT Tryz.prog 60=true:=by kernel_rfl
theorem IR : sliceB Tryz.prog 225 3 1=true:=by kernel_rfl
theorem Cr : cT Tryz.prog 181=true:=by kernel_rfl
theorem Tp : cT Tryz.prog 157=true:=by kernel_rfl
theorem JT : cT Tryz.prog 158=true:=by kernel_rfl
theorem TZ : cT Tryz.prog 159=true:=by kernel_rfl
theorem UX : cT Tryz.prog 61=true:=by kernel_rfl
theorem VN : cT Tryz.prog 14=true:=by kernel_rfl
theorem Vo : cT Tryz.prog 15=true:=by kernel_rfl
theorem Vh : cT Tryz.prog 16=true:=by kernel_rfl
instance : SlcI Tryz.prog 22 39 7:=⟨gM⟩
instance : AggI Tryz.prog 39 7:=⟨gz,by kernel_rfl⟩
instance : FldI Tryz.prog 39 1 1:=⟨DA⟩
instance : OneI Tryz.prog 34:=⟨Nc⟩
instance : SlcI Tryz.prog 34 9 1:=⟨dr⟩
instance : FldI Tryz.prog 39 3 3:=⟨by kernel_rfl⟩
instance : OneI Tryz.prog 35:=⟨by kernel_rfl⟩
instance : SlcI Tryz.prog 35 42 2:=⟨nf⟩
instance : FldI Tryz.prog 39 4 4:=⟨LM⟩
instance : OneI Tryz.prog 36:=⟨QF⟩
instance : SlcI Tryz.prog 36 80 13:=⟨lu⟩
instance : FldI Tryz.prog 39 5 5:=⟨yY⟩
instance : OneI Tryz.prog 37:=⟨IZ⟩
instance : SlcI Tryz.prog 37 48 17:=⟨qv⟩
instance : AggI Tryz.prog 48 17:=⟨oX,by kernel_rfl⟩
instance : FldI Tryz.prog 48 3 13:=⟨by kernel_rfl⟩
instance : FldI Tryz.prog 48 4 14:=⟨by kernel_rfl⟩
instance : FldI Tryz.prog 48 5 15:=⟨by kernel_rfl⟩
instance : OneI Tryz.prog 46:=⟨by kernel_rfl⟩
instance : SlcI Tryz.prog 46 55 23:=⟨db⟩
instance : FldI Tryz.prog 80 1 1:=⟨Mz⟩
instance : FldI Tryz.prog 45 3 3:=⟨by kernel_rfl⟩
instance : FldI Tryz.prog 42 0 0:=⟨by kernel_rfl⟩
instance : OneI Tryz.prog 3:=⟨kq⟩
instance : AggI Tryz.prog 55 23:=⟨dH,by kernel_rfl⟩
instance : FldI Tryz.prog 55 7 20:=⟨by kernel_rfl⟩
instance : FldI Tryz.prog 55 8 21:=⟨by kernel_rfl⟩
instance : FldI Tryz.prog 55 6 19:=⟨by kernel_rfl⟩
instance : OneI Tryz.prog 51:=⟨MU⟩
instance : SlcI Tryz.prog 51 53 4:=⟨cG⟩
instance : FldI Tryz.prog 55 5 15:=⟨by kernel_rfl⟩
instance : AggI Tryz.prog 53 4:=⟨da,Sy⟩
instance : FldI Tryz.prog 53 3 3:=⟨by kernel_rfl⟩
instance : OneI Tryz.prog 9:=⟨qH⟩
instance : AggI Tryz.prog 70 3:=⟨oT,by kernel_rfl⟩
instance : FldI Tryz.prog 70 2 2:=⟨by kernel_rfl⟩
instance : FldI Tryz.prog 70 0 0:=⟨by kernel_rfl⟩
instance : FldI Tryz.prog 70 1 1:=⟨by kernel_rfl⟩
instance : SlcI Tryz.prog 66 70 3:=⟨Aq⟩
instance : AggI Tryz.prog 28 2:=⟨NV,by kernel_rfl⟩
instance : FldI Tryz.prog 28 0 0:=⟨by kernel_rfl⟩
instance : OneI Tryz.prog 26:=⟨by kernel_rfl⟩
instance : FldI Tryz.prog 39 0 0:=⟨by kernel_rfl⟩
instance : AggI Tryz.prog 74 29:=⟨Am,QU⟩
instance : FldI Tryz.prog 74 5 27:=⟨by kernel_rfl⟩
instance : FldI Tryz.prog 74 3 25:=⟨by kernel_rfl⟩
instance : FldI Tryz.prog 74 4 26:=⟨by kernel_rfl⟩
instance : FldI Tryz.prog 39 2 2:=⟨by kernel_rfl⟩
instance : AggI Tryz.prog 42 2:=⟨ir,by kernel_rfl⟩
instance : AggI Tryz.prog 126 28:=⟨JC,by kernel_rfl⟩
instance : FldI Tryz.prog 126 4 26:=⟨by kernel_rfl⟩
instance : FldI Tryz.prog 126 0 0:=⟨by kernel_rfl⟩
instance : FldI Tryz.prog 126 3 25:=⟨by kernel_rfl⟩
instance : FldI Tryz.prog 74 0 0:=⟨by kernel_rfl⟩
instance : FldI Tryz.prog 48 1 1:=⟨by kernel_rfl⟩
instance : OneI Tryz.prog 4:=⟨Ow⟩
instance : AggI Tryz.prog 45 11:=⟨ff,by kernel_rfl⟩
instance : FldI Tryz.prog 45 1 1:=⟨by kernel_rfl⟩
instance : FldI Tryz.prog 126 1 1:=⟨by kernel_rfl⟩
instance : FldI Tryz.prog 48 2 2:=⟨by kernel_rfl⟩
instance : FldI Tryz.prog 48 0 0:=⟨by kernel_rfl⟩
instance : FldI Tryz.prog 45 0 0:=⟨by kernel_rfl⟩
instance : SlcI Tryz.prog 58 5 1:=⟨oQ⟩
instance : OneI Tryz.prog 5:=⟨Fh⟩
instance : FldI Tryz.prog 42 1 1:=⟨by kernel_rfl⟩
instance : AggI Tryz.prog 80 13:=⟨rz,by kernel_rfl⟩
instance : FldI Tryz.prog 80 0 0:=⟨Mo⟩
instance : FldI Tryz.prog 45 2 2:=⟨by kernel_rfl⟩
instance : FldI Tryz.prog 55 0 0:=⟨by kernel_rfl⟩
instance : FldI Tryz.prog 55 1 1:=⟨by kernel_rfl⟩
instance : FldI Tryz.prog 55 2 2:=⟨by kernel_rfl⟩
instance : FldI Tryz.prog 55 3 3:=⟨by kernel_rfl⟩
instance : FldI Tryz.prog 55 4 4:=⟨by kernel_rfl⟩
instance : FldI Tryz.prog 53 0 0:=⟨wz⟩
instance : FldI Tryz.prog 53 1 1:=⟨xm⟩
instance : FldI Tryz.prog 53 2 2:=⟨xg⟩
instance : AggI Tryz.prog 84 7:=⟨NY,by kernel_rfl⟩
instance : FldI Tryz.prog 84 1 1:=⟨by kernel_rfl⟩
instance : SlcI Tryz.prog 140 45 11:=⟨zd⟩
instance : FldI Tryz.prog 84 6 6:=⟨by kernel_rfl⟩
instance : FldI Tryz.prog 84 2 2:=⟨by kernel_rfl⟩
instance : FldI Tryz.prog 84 3 3:=⟨by kernel_rfl⟩
instance : FldI Tryz.prog 84 5 5:=⟨by kernel_rfl⟩
instance : FldI Tryz.prog 84 4 4:=⟨by kernel_rfl⟩
instance : SlcI Tryz.prog 210 212 3:=⟨Ox⟩
instance : AggI Tryz.prog 212 3:=⟨JK,by kernel_rfl⟩
instance : FldI Tryz.prog 212 2 2:=⟨by kernel_rfl⟩
instance : FldI Tryz.prog 212 1 1:=⟨by kernel_rfl⟩
instance : FldI Tryz.prog 212 0 0:=⟨by kernel_rfl⟩
instance : FldI Tryz.prog 120 1 2:=⟨by kernel_rfl⟩
instance : FldI Tryz.prog 120 0 0:=⟨by kernel_rfl⟩
instance : AggI Tryz.prog 43 8:=⟨Qt,by kernel_rfl⟩
instance : SlcI Tryz.prog 225 3 1:=⟨IR⟩
abbrev FZ (f:FuncId) (a:List PV) (r:List Res):Prop:=Abs.Fn dW Tryz.prog f a r
end Go.Proofs.YtjimbkljclfflaaGreatDoor
