/- A part of the proof that the law ShowBack gives true for every input. -/
import Derived.Test.YtjimbkljclfflaaGreatDoorShowBackA5
import Derived.Test.YtjimbkljclfflaaGreatDoorProg
/- Facts about the types of the program. -/
namespace Go.Proofs.YtjimbkljclfflaaGreatDoor
open Go.RowKit Go.Abs
/-- The package variables that are read: their blocks, and what they hold. -/
abbrev eg : List (Nat×List PV):=[(0,[.str [99,108,97,115,115],.str [101,120,116,101,110,100,115],.str [114,101,112],.str [112,101,101,114],.str [119,111,114,108,100],.str [97,110,121],.str [117,110,105,113,117,101],.str [112,117,114,101],.str [118,111,105,100],.str [105,110,116],.str [105,102],.str [101,108,115,101],.str [119,104,105,108,101],.str [114,101,116,117,114,110],.str [110,101,119],.str [109,111,118,101],.str [100,101,108,101,116,101],.str [116,104,105,115],.str [110,117,108,108],.str [105,110,112,117,116],.str [110,105,108],.str [115,97,109,101],.str [99,97,115,116]]),(1,[.str [38,38],.int .i64 1,.int .i64 11,.str [60],.int .i64 2,.int .i64 9,.str [61,61],.int .i64 2,.int .i64 10,.str [43],.int .i64 3,.int .i64 6,.str [45],.int .i64 3,.int .i64 7,.str [42],.int .i64 4,.int .i64 8])]
theorem OM : sliceB Tryz.prog 22 39 7=true:=by kernel_rfl
theorem nN : nR Tryz.prog 39 7=true:=by kernel_rfl
theorem P8 : cG Tryz.prog 39 (.agg #[.string ⟨#[]⟩,.slice none 0 0,.string ⟨#[]⟩,.slice none 0 0,.slice none 0 0,.slice none 0 0,.int .i64 0]):=by unfold cG;kernel_rfl
theorem ga : sliceB Tryz.prog 34 9 1=true:=by kernel_rfl
theorem Ea : sliceB Tryz.prog 35 42 2=true:=by kernel_rfl
theorem pA : sliceB Tryz.prog 36 80 13=true:=by kernel_rfl
theorem Jy : sliceB Tryz.prog 37 48 17=true:=by kernel_rfl
theorem yY : nR Tryz.prog 48 17=true:=by kernel_rfl
theorem Qc : cG Tryz.prog 48 (.agg #[.string ⟨#[]⟩,.bool false,.int .i64 0,.string ⟨#[]⟩,.int .i64 0,.int .i64 0,.int .i64 0,.int .i64 0,.int .i64 0,.int .i64 0,.int .i64 0,.int .i64 0,.int .i64 0,.slice none 0 0,.slice none 0 0,.slice none 0 0,.int .i64 0]):=by unfold cG;kernel_rfl
theorem vd : sliceB Tryz.prog 46 55 23=true:=by kernel_rfl
theorem Kz : uc Tryz.prog 80 1 1=true:=by kernel_rfl
theorem mP : tQ Tryz.prog 43 4 42 2=true:=by kernel_rfl
theorem jP : qT Tryz.prog 3=true:=by kernel_rfl
theorem ec : nR Tryz.prog 55 23=true:=by kernel_rfl
theorem SY : qT Tryz.prog 51=true:=by kernel_rfl
theorem jG : sliceB Tryz.prog 51 53 4=true:=by kernel_rfl
theorem dR : nR Tryz.prog 53 4=true:=by kernel_rfl
theorem Kx : cG Tryz.prog 28 (.agg #[.int .i64 0,.int .i64 0]):=by unfold cG;kernel_rfl
theorem eo : Tryz.prog.underlying 9=some .string:=by kernel_rfl
theorem rj : cG Tryz.prog 70 (.agg #[.int .i64 0,.string ⟨#[]⟩,.int .i64 0]):=by unfold cG;kernel_rfl
theorem kQ : cG Tryz.prog 9 (.string ⟨#[]⟩):=by unfold cG;kernel_rfl
theorem yn : qT Tryz.prog 9=true:=by kernel_rfl
theorem yU : jg Tryz.prog 70 [(0,1),(1,1),(2,1)]=true:=by kernel_rfl
theorem jo : nR Tryz.prog 70 3=true:=by kernel_rfl
theorem mixed : Tryz.prog.follows .mixedOrders=true:=by kernel_rfl
theorem Qx : Tryz.prog.underlying 5=some (.int .u8):=by kernel_rfl
theorem ack : Tryz.prog.underlying 3=some (.int .i64):=by kernel_rfl
theorem IZ : sliceB Tryz.prog 66 70 3=true:=by kernel_rfl
theorem aao : zu Tryz.prog 70 32=true:=by kernel_rfl
theorem ZC : jg Tryz.prog 28 [(0,1),(1,1)]=true:=by kernel_rfl
theorem PH : nR Tryz.prog 28 2=true:=by kernel_rfl
theorem YZ : cY Tryz.prog 51=true:=by kernel_rfl
theorem rn : vK Tryz.prog 70 0 3 0=true:=by kernel_rfl
theorem ZZ : cY Tryz.prog 52=true:=by kernel_rfl
theorem nP : cG Tryz.prog 74 (.agg #[.string ⟨#[]⟩,.slice none 0 0,.string ⟨#[]⟩,.slice none 0 0,.slice none 0 0,.slice none 0 0,.int .i64 0,.string ⟨#[]⟩,.bool false,.int .i64 0,.string ⟨#[]⟩,.int .i64 0,.int .i64 0,.int .i64 0,.int .i64 0,.int .i64 0,.int .i64 0,.int .i64 0,.int .i64 0,.int .i64 0,.slice none 0 0,.slice none 0 0,.slice none 0 0,.int .i64 0,.slice none 0 0,.slice none 0 0,.int .i64 0,.int .i64 0,.int .i64 0]):=by unfold cG;kernel_rfl
theorem BV : vK Tryz.prog 70 2 3 2=true:=by kernel_rfl
theorem adV : jg Tryz.prog 39 [(0,1),(1,1),(2,1),(3,1),(4,1),(5,1),(6,1)]=true:=by kernel_rfl
theorem tu : vK Tryz.prog 70 1 9 1=true:=by kernel_rfl
theorem Rh : zu Tryz.prog 9 16=true:=by kernel_rfl
theorem vQ : jg Tryz.prog 74 [(0,7),(7,17),(24,1),(25,1),(26,1),(27,2)]=true:=by kernel_rfl
theorem zd : nR Tryz.prog 74 29=true:=by kernel_rfl
theorem Xx : qT Tryz.prog 74=false:=by kernel_rfl
theorem nT : cG Tryz.prog 126 (.agg #[.slice none 0 0,.int .i64 0,.string ⟨#[]⟩,.int .i64 0,.int .i64 0,.int .i64 0,.int .i64 0,.int .i64 0,.int .i64 0,.int .i64 0,.int .i64 0,.int .i64 0,.string ⟨#[]⟩,.int .i64 0,.string ⟨#[]⟩,.int .i64 0,.int .i64 0,.int .i64 0,.int .i64 0,.int .i64 0,.int .i64 0,.int .i64 0,.int .i64 0,.int .i64 0,.int .i64 0,.int .i64 0,.int .i64 0,.int .i64 0]):=by unfold cG;kernel_rfl
theorem vZ : cG Tryz.prog 42 (.agg #[.int .i64 0,.int .i64 0]):=by unfold cG;kernel_rfl
theorem BN : jg Tryz.prog 42 [(0,1),(1,1)]=true:=by kernel_rfl
theorem qj : nR Tryz.prog 42 2=true:=by kernel_rfl
theorem ZX : qT Tryz.prog 42=false:=by kernel_rfl
theorem adW : zu Tryz.prog 42 16=true:=by kernel_rfl
theorem Ai : jg Tryz.prog 126 [(0,1),(1,11),(12,13),(25,1),(26,2)]=true:=by kernel_rfl
theorem Oe : nR Tryz.prog 126 28=true:=by kernel_rfl
theorem Vt : qT Tryz.prog 126=false:=by kernel_rfl
theorem ads : cY Tryz.prog 55=true:=by kernel_rfl
theorem adl : cY Tryz.prog 25=true:=by kernel_rfl
theorem adJ : jg Tryz.prog 48 [(0,1),(1,1),(2,11),(13,1),(14,1),(15,1),(16,1)]=true:=by kernel_rfl
theorem VE : qT Tryz.prog 4=true:=by kernel_rfl
theorem uL : cG Tryz.prog 45 (.agg #[.int .i64 0,.string ⟨#[]⟩,.int .i64 0,.int .i64 0,.int .i64 0,.int .i64 0,.int .i64 0,.int .i64 0,.int .i64 0,.int .i64 0,.int .i64 0]):=by unfold cG;kernel_rfl
theorem BR : jg Tryz.prog 45 [(0,1),(1,1),(2,1),(3,8)]=true:=by kernel_rfl
theorem fH : nR Tryz.prog 45 11=true:=by kernel_rfl
theorem QC : vK Tryz.prog 42 0 3 0=true:=by kernel_rfl
theorem yf : cG Tryz.prog 80 (.agg #[.string ⟨#[]⟩,.int .i64 0,.string ⟨#[]⟩,.int .i64 0,.int .i64 0,.int .i64 0,.int .i64 0,.int .i64 0,.int .i64 0,.int .i64 0,.int .i64 0,.int .i64 0,.int .i64 0]):=by unfold cG;kernel_rfl
theorem Yn : jg Tryz.prog 80 [(0,1),(1,11),(12,1)]=true:=by kernel_rfl
theorem A8 : nR Tryz.prog 80 13=true:=by kernel_rfl
theorem UD : zu Tryz.prog 80 120=true:=by kernel_rfl
theorem pt : cG Tryz.prog 152 (.agg #[.int .i64 0,.string ⟨#[]⟩,.string ⟨#[]⟩,.string ⟨#[]⟩,.int .i64 0,.string ⟨#[]⟩,.int .i64 0,.int .i64 0,.int .i64 0,.int .i64 0,.int .i64 0,.int .i64 0,.int .i64 0,.int .i64 0,.int .i64 0,.int .i64 0,.int .i64 0,.string ⟨#[]⟩,.slice none 0 0,.slice none 0 0,.slice none 0 0,.slice none 0 0,.int .i64 0,.slice none 0 0,.slice none 0 0,.int .i64 0,.int .i64 0,.int .i64 0]):=by unfold cG;kernel_rfl
theorem DR : cG Tryz.prog 55 (.agg #[.int .i64 0,.string ⟨#[]⟩,.string ⟨#[]⟩,.string ⟨#[]⟩,.int .i64 0,.string ⟨#[]⟩,.int .i64 0,.int .i64 0,.int .i64 0,.int .i64 0,.int .i64 0,.int .i64 0,.int .i64 0,.int .i64 0,.int .i64 0,.int .i64 0,.int .i64 0,.string ⟨#[]⟩,.slice none 0 0,.slice none 0 0,.slice none 0 0,.slice none 0 0,.int .i64 0]):=by unfold cG;kernel_rfl
theorem adU : jg Tryz.prog 55 [(0,1),(1,1),(2,1),(3,1),(4,11),(15,4),(19,1),(20,1),(21,1),(22,1)]=true:=by kernel_rfl
theorem xT : jg Tryz.prog 152 [(0,23),(23,1),(24,1),(25,1),(26,2)]=true:=by kernel_rfl
theorem Vd : nR Tryz.prog 152 28=true:=by kernel_rfl
theorem jw : cG Tryz.prog 175 (.agg #[.int .i64 0,.int .i64 0,.string ⟨#[]⟩,.slice none 0 0,.int .i64 0,.int .i64 0,.int .i64 0]):=by unfold cG;kernel_rfl
theorem rB : nR Tryz.prog 175 7=true:=by kernel_rfl
theorem adX : cG Tryz.prog 34 (.slice none 0 0):=by unfold cG;kernel_rfl
theorem VR : sliceB Tryz.prog 226 34 1=true:=by kernel_rfl
theorem aaZ : cY Tryz.prog 201=true:=by kernel_rfl
theorem acb : cY Tryz.prog 202=true:=by kernel_rfl
theorem iZ : cG Tryz.prog 53 (.agg #[.int .i64 0,.int .i64 0,.string ⟨#[]⟩,.slice none 0 0]):=by unfold cG;kernel_rfl
theorem pz : jg Tryz.prog 53 [(0,1),(1,1),(2,1),(3,1)]=true:=by kernel_rfl
theorem Ul : qT Tryz.prog 53=false:=by kernel_rfl
theorem yb : jg Tryz.prog 175 [(0,4),(4,1),(5,2)]=true:=by kernel_rfl
theorem Zh : zu Tryz.prog 53 56=true:=by kernel_rfl
theorem Zo : zu Tryz.prog 55 288=true:=by kernel_rfl
theorem acU : cY Tryz.prog 89=true:=by kernel_rfl
theorem acS : zu Tryz.prog 48 200=true:=by kernel_rfl
theorem adP : cY Tryz.prog 56=true:=by kernel_rfl
theorem aei : zu Tryz.prog 39 136=true:=by kernel_rfl
theorem aeQ : cG Tryz.prog 3 (.int .i64 0):=by unfold cG;kernel_rfl
theorem aal : Tryz.prog.underlying 58=some (.slice 5):=by kernel_rfl
theorem tZ : sliceB Tryz.prog 58 5 1=true:=by kernel_rfl
theorem J4 : qT Tryz.prog 5=true:=by kernel_rfl
theorem aaM : tQ Tryz.prog 180 23 9 1=true:=by kernel_rfl
theorem aaE : cY Tryz.prog 161=true:=by kernel_rfl
theorem acf : cY Tryz.prog 183=true:=by kernel_rfl
theorem aaL : cY Tryz.prog 126=true:=by kernel_rfl
theorem adO : cY Tryz.prog 99=true:=by kernel_rfl
theorem Yu : uc Tryz.prog 80 0 0=true:=by kernel_rfl
theorem abL : cY Tryz.prog 129=true:=by kernel_rfl
theorem Bh : eqB Tryz.prog 45 [(.i .i64),.s,(.i .i64),(.i .i64),(.i .i64),(.i .i64),(.i .i64),(.i .i64),(.i .i64),(.i .i64),(.i .i64)]=true:=by kernel_rfl
theorem Um : eqB Tryz.prog 42 [(.i .i64),(.i .i64)]=true:=by kernel_rfl
theorem aaJ : cY Tryz.prog 102=true:=by kernel_rfl
theorem abc : cY Tryz.prog 101=true:=by kernel_rfl
theorem C8 : uc Tryz.prog 53 0 0=true:=by kernel_rfl
theorem Cf : uc Tryz.prog 53 1 1=true:=by kernel_rfl
theorem De : uc Tryz.prog 53 2 2=true:=by kernel_rfl
theorem aaB : cY Tryz.prog 184=true:=by kernel_rfl
theorem afc : cG Tryz.prog 4 (.bool false):=by unfold cG;kernel_rfl
theorem abi : cY Tryz.prog 190=true:=by kernel_rfl
theorem Wb : cY Tryz.prog 164=true:=by kernel_rfl
theorem adm : cG Tryz.prog 51 (.slice none 0 0):=by unfold cG;kernel_rfl
theorem abh : cY Tryz.prog 207=true:=by kernel_rfl
theorem aaR : cY Tryz.prog 193=true:=by kernel_rfl
theorem abg : cY Tryz.prog 194=true:=by kernel_rfl
theorem abV : cY Tryz.prog 191=true:=by kernel_rfl
theorem aaO : cY Tryz.prog 165=true:=by kernel_rfl
theorem UJ : cY Tryz.prog 133=true:=by kernel_rfl
theorem Vh : cY Tryz.prog 134=true:=by kernel_rfl
theorem adz : cY Tryz.prog 70=true:=by kernel_rfl
theorem acM : cY Tryz.prog 69=true:=by kernel_rfl
theorem adA : cY Tryz.prog 36=true:=by kernel_rfl
theorem ZU : cG Tryz.prog 84 (.agg #[.int .i64 0,.int .i64 0,.int .i64 0,.int .i64 0,.int .i64 0,.int .i64 0,.int .i64 0]):=by unfold cG;kernel_rfl
theorem aed : jg Tryz.prog 84 [(0,1),(1,1),(2,1),(3,1),(4,1),(5,1),(6,1)]=true:=by kernel_rfl
theorem TJ : nR Tryz.prog 84 7=true:=by kernel_rfl
theorem GX : sliceB Tryz.prog 140 45 11=true:=by kernel_rfl
theorem Ue : cY Tryz.prog 73=true:=by kernel_rfl
theorem TB : cY Tryz.prog 72=true:=by kernel_rfl
theorem S8 : cY Tryz.prog 74=true:=by kernel_rfl
theorem XM : vK Tryz.prog 84 4 3 4=true:=by kernel_rfl
theorem adx : cG Tryz.prog 60 (.agg #[.pointer none,.slice none 0 0]):=by unfold cG;kernel_rfl
theorem adi : jg Tryz.prog 60 [(0,1),(1,1)]=true:=by kernel_rfl
theorem YO : cY Tryz.prog 96=true:=by kernel_rfl
theorem TN : cY Tryz.prog 63=true:=by kernel_rfl
theorem Jw : cY Tryz.prog 21=true:=by kernel_rfl
theorem DZ : cY Tryz.prog 40=true:=by kernel_rfl
theorem Pc : cY Tryz.prog 62=true:=by kernel_rfl
theorem aax : cG Tryz.prog 120 (.agg #[.pointer none,.slice none 0 0,.slice none 0 0]):=by unfold cG;kernel_rfl
theorem abJ : jg Tryz.prog 120 [(0,2),(2,1)]=true:=by kernel_rfl
theorem PX : Tryz.prog.underlying 203=some (.int .u64):=by kernel_rfl
theorem MF : cG Tryz.prog 5 (.int .u8 0):=by unfold cG;kernel_rfl
theorem YW : zu Tryz.prog 5 1=true:=by kernel_rfl
theorem abY : cY Tryz.prog 208=true:=by kernel_rfl
theorem GQ : cY Tryz.prog 139=true:=by kernel_rfl
theorem Vc : tQ Tryz.prog 213 6 212 3=true:=by kernel_rfl
theorem abf : sliceB Tryz.prog 210 212 3=true:=by kernel_rfl
theorem UX : nR Tryz.prog 212 3=true:=by kernel_rfl
theorem aaX : cY Tryz.prog 197=true:=by kernel_rfl
theorem aca : cY Tryz.prog 196=true:=by kernel_rfl
theorem abj : cG Tryz.prog 212 (.agg #[.string ⟨#[]⟩,.int .i64 0,.int .i64 0]):=by unfold cG;kernel_rfl
theorem Wl : cY Tryz.prog 108=true:=by kernel_rfl
theorem abM : cY Tryz.prog 135=true:=by kernel_rfl
theorem abO : cY Tryz.prog 136=true:=by kernel_rfl
theorem C4 : cY Tryz.prog 107=true:=by kernel_rfl
theorem Tn : cY Tryz.prog 78=true:=by kernel_rfl
theorem Yf : cY Tryz.prog 23=true:=by kernel_rfl
theorem adn : cY Tryz.prog 22=true:=by kernel_rfl
theorem Pa : cY Tryz.prog 44=true:=by kernel_rfl
theorem Wg : cY Tryz.prog 155=true:=by kernel_rfl
theorem abC : cY Tryz.prog 209=true:=by kernel_rfl
theorem Tq : nR Tryz.prog 43 8=true:=by kernel_rfl
theorem adS : cG Tryz.prog 43 (.agg #[.int .i64 0,.int .i64 0,.int .i64 0,.int .i64 0,.int .i64 0,.int .i64 0,.int .i64 0,.int .i64 0]):=by unfold cG;kernel_rfl
theorem aeY : Tryz.prog.underlying 4=some .bool:=by kernel_rfl
theorem Jk : uc Tryz.prog 80 2 12=true:=by kernel_rfl
theorem abx : cY Tryz.prog 120=true:=by kernel_rfl
theorem acY : cY Tryz.prog 57=true:=by kernel_rfl
theorem aee : cY Tryz.prog 30=true:=by kernel_rfl
instance : SlcI Tryz.prog 22 39 7:=⟨OM⟩
instance : AggI Tryz.prog 39 7:=⟨nN,by kernel_rfl⟩
instance : FldI Tryz.prog 39 1 1:=⟨by kernel_rfl⟩
instance : OneI Tryz.prog 34:=⟨by kernel_rfl⟩
instance : SlcI Tryz.prog 34 9 1:=⟨ga⟩
instance : FldI Tryz.prog 39 3 3:=⟨by kernel_rfl⟩
instance : OneI Tryz.prog 35:=⟨by kernel_rfl⟩
instance : SlcI Tryz.prog 35 42 2:=⟨Ea⟩
instance : FldI Tryz.prog 39 4 4:=⟨by kernel_rfl⟩
instance : OneI Tryz.prog 36:=⟨by kernel_rfl⟩
instance : SlcI Tryz.prog 36 80 13:=⟨pA⟩
instance : FldI Tryz.prog 39 5 5:=⟨by kernel_rfl⟩
instance : OneI Tryz.prog 37:=⟨by kernel_rfl⟩
instance : SlcI Tryz.prog 37 48 17:=⟨Jy⟩
instance : AggI Tryz.prog 48 17:=⟨yY,by kernel_rfl⟩
instance : FldI Tryz.prog 48 3 13:=⟨by kernel_rfl⟩
instance : FldI Tryz.prog 48 4 14:=⟨by kernel_rfl⟩
instance : FldI Tryz.prog 48 5 15:=⟨by kernel_rfl⟩
instance : OneI Tryz.prog 46:=⟨by kernel_rfl⟩
instance : SlcI Tryz.prog 46 55 23:=⟨vd⟩
instance : FldI Tryz.prog 80 1 1:=⟨Kz⟩
instance : FldI Tryz.prog 45 3 3:=⟨by kernel_rfl⟩
instance : FldI Tryz.prog 42 0 0:=⟨by kernel_rfl⟩
instance : OneI Tryz.prog 3:=⟨jP⟩
instance : AggI Tryz.prog 55 23:=⟨ec,by kernel_rfl⟩
instance : FldI Tryz.prog 55 7 20:=⟨by kernel_rfl⟩
instance : FldI Tryz.prog 55 8 21:=⟨by kernel_rfl⟩
instance : FldI Tryz.prog 55 6 19:=⟨by kernel_rfl⟩
instance : OneI Tryz.prog 51:=⟨SY⟩
instance : SlcI Tryz.prog 51 53 4:=⟨jG⟩
instance : FldI Tryz.prog 55 5 15:=⟨by kernel_rfl⟩
instance : AggI Tryz.prog 53 4:=⟨dR,Ul⟩
instance : FldI Tryz.prog 53 3 3:=⟨by kernel_rfl⟩
instance : OneI Tryz.prog 9:=⟨yn⟩
instance : AggI Tryz.prog 70 3:=⟨jo,by kernel_rfl⟩
instance : FldI Tryz.prog 70 2 2:=⟨by kernel_rfl⟩
instance : FldI Tryz.prog 70 0 0:=⟨by kernel_rfl⟩
instance : FldI Tryz.prog 70 1 1:=⟨by kernel_rfl⟩
instance : SlcI Tryz.prog 66 70 3:=⟨IZ⟩
instance : AggI Tryz.prog 28 2:=⟨PH,by kernel_rfl⟩
instance : FldI Tryz.prog 28 0 0:=⟨by kernel_rfl⟩
instance : OneI Tryz.prog 26:=⟨by kernel_rfl⟩
instance : FldI Tryz.prog 39 0 0:=⟨by kernel_rfl⟩
instance : AggI Tryz.prog 74 29:=⟨zd,Xx⟩
instance : FldI Tryz.prog 74 5 27:=⟨by kernel_rfl⟩
instance : FldI Tryz.prog 74 3 25:=⟨by kernel_rfl⟩
instance : FldI Tryz.prog 74 4 26:=⟨by kernel_rfl⟩
instance : FldI Tryz.prog 39 2 2:=⟨by kernel_rfl⟩
instance : AggI Tryz.prog 42 2:=⟨qj,ZX⟩
instance : AggI Tryz.prog 126 28:=⟨Oe,Vt⟩
instance : FldI Tryz.prog 126 4 26:=⟨by kernel_rfl⟩
instance : FldI Tryz.prog 126 0 0:=⟨by kernel_rfl⟩
instance : FldI Tryz.prog 126 3 25:=⟨by kernel_rfl⟩
instance : FldI Tryz.prog 74 0 0:=⟨by kernel_rfl⟩
instance : FldI Tryz.prog 48 1 1:=⟨by kernel_rfl⟩
instance : OneI Tryz.prog 4:=⟨VE⟩
instance : AggI Tryz.prog 45 11:=⟨fH,by kernel_rfl⟩
instance : FldI Tryz.prog 45 1 1:=⟨by kernel_rfl⟩
instance : FldI Tryz.prog 45 2 2:=⟨by kernel_rfl⟩
instance : FldI Tryz.prog 126 1 1:=⟨by kernel_rfl⟩
instance : FldI Tryz.prog 48 2 2:=⟨by kernel_rfl⟩
instance : FldI Tryz.prog 48 0 0:=⟨by kernel_rfl⟩
instance : FldI Tryz.prog 45 0 0:=⟨by kernel_rfl⟩
instance : FldI Tryz.prog 126 2 12:=⟨by kernel_rfl⟩
instance : AggI Tryz.prog 80 13:=⟨A8,by kernel_rfl⟩
instance : FldI Tryz.prog 74 2 24:=⟨by kernel_rfl⟩
instance : FldI Tryz.prog 55 2 2:=⟨by kernel_rfl⟩
instance : FldI Tryz.prog 55 3 3:=⟨by kernel_rfl⟩
instance : AggI Tryz.prog 152 28:=⟨Vd,by kernel_rfl⟩
instance : AggI Tryz.prog 175 7:=⟨rB,by kernel_rfl⟩
instance : FldI Tryz.prog 175 2 5:=⟨by kernel_rfl⟩
instance : FldI Tryz.prog 175 1 4:=⟨by kernel_rfl⟩
instance : SlcI Tryz.prog 226 34 1:=⟨VR⟩
instance : FldI Tryz.prog 175 0 0:=⟨by kernel_rfl⟩
instance : FldI Tryz.prog 152 4 26:=⟨by kernel_rfl⟩
instance : FldI Tryz.prog 55 0 0:=⟨by kernel_rfl⟩
instance : FldI Tryz.prog 152 2 24:=⟨by kernel_rfl⟩
instance : FldI Tryz.prog 152 3 25:=⟨by kernel_rfl⟩
instance : FldI Tryz.prog 55 1 1:=⟨by kernel_rfl⟩
instance : FldI Tryz.prog 55 4 4:=⟨by kernel_rfl⟩
instance : FldI Tryz.prog 152 1 23:=⟨by kernel_rfl⟩
instance : FldI Tryz.prog 152 0 0:=⟨by kernel_rfl⟩
instance : FldI Tryz.prog 74 1 7:=⟨by kernel_rfl⟩
instance : SlcI Tryz.prog 58 5 1:=⟨tZ⟩
instance : OneI Tryz.prog 5:=⟨J4⟩
instance : FldI Tryz.prog 42 1 1:=⟨by kernel_rfl⟩
instance : FldI Tryz.prog 80 0 0:=⟨Yu⟩
instance : FldI Tryz.prog 53 0 0:=⟨C8⟩
instance : FldI Tryz.prog 53 1 1:=⟨Cf⟩
instance : FldI Tryz.prog 53 2 2:=⟨De⟩
instance : AggI Tryz.prog 84 7:=⟨TJ,by kernel_rfl⟩
instance : FldI Tryz.prog 84 1 1:=⟨by kernel_rfl⟩
instance : SlcI Tryz.prog 140 45 11:=⟨GX⟩
instance : FldI Tryz.prog 84 6 6:=⟨by kernel_rfl⟩
instance : FldI Tryz.prog 84 2 2:=⟨by kernel_rfl⟩
instance : FldI Tryz.prog 84 3 3:=⟨by kernel_rfl⟩
instance : FldI Tryz.prog 84 5 5:=⟨by kernel_rfl⟩
instance : FldI Tryz.prog 84 4 4:=⟨by kernel_rfl⟩
instance : SlcI Tryz.prog 210 212 3:=⟨abf⟩
instance : AggI Tryz.prog 212 3:=⟨UX,by kernel_rfl⟩
instance : FldI Tryz.prog 212 2 2:=⟨by kernel_rfl⟩
instance : FldI Tryz.prog 212 1 1:=⟨by kernel_rfl⟩
instance : FldI Tryz.prog 212 0 0:=⟨by kernel_rfl⟩
instance : FldI Tryz.prog 120 1 2:=⟨by kernel_rfl⟩
instance : FldI Tryz.prog 120 0 0:=⟨by kernel_rfl⟩
instance : AggI Tryz.prog 43 8:=⟨Tq,by kernel_rfl⟩
instance : FldI Tryz.prog 80 2 12:=⟨Jk⟩
abbrev FZ (f:FuncId) (a:List PV) (r:List Res):Prop:=Abs.Fn eg Tryz.prog f a r
end Go.Proofs.YtjimbkljclfflaaGreatDoor
