/- A part of the proof that the law ShowText gives true for every input. -/
import Derived.Test.YtjimbkljclfflaaGreatDoorShowTextA5
import Derived.Test.YtjimbkljclfflaaGreatDoorProg
/- Facts about the types of the program. -/
namespace Go.Proofs.YtjimbkljclfflaaGreatDoor
open Go.RowKit Go.Abs
/-- The package variables that are read: their blocks, and what they hold. -/
abbrev dZ : List (Nat×List PV):=[(0,[.str [99,108,97,115,115],.str [101,120,116,101,110,100,115],.str [114,101,112],.str [112,101,101,114],.str [119,111,114,108,100],.str [97,110,121],.str [117,110,105,113,117,101],.str [112,117,114,101],.str [118,111,105,100],.str [105,110,116],.str [105,102],.str [101,108,115,101],.str [119,104,105,108,101],.str [114,101,116,117,114,110],.str [110,101,119],.str [109,111,118,101],.str [100,101,108,101,116,101],.str [116,104,105,115],.str [110,117,108,108],.str [105,110,112,117,116],.str [110,105,108],.str [115,97,109,101],.str [99,97,115,116]]),(1,[.str [38,38],.int .i64 1,.int .i64 11,.str [60],.int .i64 2,.int .i64 9,.str [61,61],.int .i64 2,.int .i64 10,.str [43],.int .i64 3,.int .i64 6,.str [45],.int .i64 3,.int .i64 7,.str [42],.int .i64 4,.int .i64 8])]
theorem gU : sliceB Tryz.prog 22 39 7=true:=by kernel_rfl
theorem gD : nN Tryz.prog 39 7=true:=by kernel_rfl
theorem tQ : dd Tryz.prog 39 (.agg #[.string ⟨#[]⟩,.slice none 0 0,.string ⟨#[]⟩,.slice none 0 0,.slice none 0 0,.slice none 0 0,.int .i64 0]):=by unfold dd;kernel_rfl
theorem E8 : pZ Tryz.prog 39 1 1=true:=by kernel_rfl
theorem MI : pY Tryz.prog 34=true:=by kernel_rfl
theorem dq : sliceB Tryz.prog 34 9 1=true:=by kernel_rfl
theorem np : sliceB Tryz.prog 35 42 2=true:=by kernel_rfl
theorem Mc : pZ Tryz.prog 39 4 4=true:=by kernel_rfl
theorem Rl : pY Tryz.prog 36=true:=by kernel_rfl
theorem lq : sliceB Tryz.prog 36 80 13=true:=by kernel_rfl
theorem zq : pZ Tryz.prog 39 5 5=true:=by kernel_rfl
theorem Jh : pY Tryz.prog 37=true:=by kernel_rfl
theorem qp : sliceB Tryz.prog 37 48 17=true:=by kernel_rfl
theorem pa : nN Tryz.prog 48 17=true:=by kernel_rfl
theorem yV : dd Tryz.prog 48 (.agg #[.string ⟨#[]⟩,.bool false,.int .i64 0,.string ⟨#[]⟩,.int .i64 0,.int .i64 0,.int .i64 0,.int .i64 0,.int .i64 0,.int .i64 0,.int .i64 0,.int .i64 0,.int .i64 0,.slice none 0 0,.slice none 0 0,.slice none 0 0,.int .i64 0]):=by unfold dd;kernel_rfl
theorem db : sliceB Tryz.prog 46 55 23=true:=by kernel_rfl
theorem Mu : pZ Tryz.prog 80 1 1=true:=by kernel_rfl
theorem kf : rr Tryz.prog 43 4 42 2=true:=by kernel_rfl
theorem kr : pY Tryz.prog 3=true:=by kernel_rfl
theorem dH : nN Tryz.prog 55 23=true:=by kernel_rfl
theorem Nq : pY Tryz.prog 51=true:=by kernel_rfl
theorem cG : sliceB Tryz.prog 51 53 4=true:=by kernel_rfl
theorem da : nN Tryz.prog 53 4=true:=by kernel_rfl
theorem Az : dd Tryz.prog 28 (.agg #[.int .i64 0,.int .i64 0]):=by unfold dd;kernel_rfl
theorem eu : Tryz.prog.underlying 9=some .string:=by kernel_rfl
theorem mC : dd Tryz.prog 70 (.agg #[.int .i64 0,.string ⟨#[]⟩,.int .i64 0]):=by unfold dd;kernel_rfl
theorem jt : dd Tryz.prog 9 (.string ⟨#[]⟩):=by unfold dd;kernel_rfl
theorem qQ : pY Tryz.prog 9=true:=by kernel_rfl
theorem JC : ju Tryz.prog 70 [(0,1),(1,1),(2,1)]=true:=by kernel_rfl
theorem oZ : nN Tryz.prog 70 3=true:=by kernel_rfl
theorem mixed : Tryz.prog.follows .mixedOrders=true:=by kernel_rfl
theorem Ac : sliceB Tryz.prog 66 70 3=true:=by kernel_rfl
theorem Rk : xg Tryz.prog 70 32=true:=by kernel_rfl
theorem RZ : ju Tryz.prog 28 [(0,1),(1,1)]=true:=by kernel_rfl
theorem NV : nN Tryz.prog 28 2=true:=by kernel_rfl
theorem zV : tH Tryz.prog 70 0 3 0=true:=by kernel_rfl
theorem Vl : cT Tryz.prog 52=true:=by kernel_rfl
theorem ry : dd Tryz.prog 74 (.agg #[.string ⟨#[]⟩,.slice none 0 0,.string ⟨#[]⟩,.slice none 0 0,.slice none 0 0,.slice none 0 0,.int .i64 0,.string ⟨#[]⟩,.bool false,.int .i64 0,.string ⟨#[]⟩,.int .i64 0,.int .i64 0,.int .i64 0,.int .i64 0,.int .i64 0,.int .i64 0,.int .i64 0,.int .i64 0,.int .i64 0,.slice none 0 0,.slice none 0 0,.slice none 0 0,.int .i64 0,.slice none 0 0,.slice none 0 0,.int .i64 0,.int .i64 0,.int .i64 0]):=by unfold dd;kernel_rfl
theorem LI : tH Tryz.prog 70 2 3 2=true:=by kernel_rfl
theorem Wi : ju Tryz.prog 39 [(0,1),(1,1),(2,1),(3,1),(4,1),(5,1),(6,1)]=true:=by kernel_rfl
theorem C5 : tH Tryz.prog 70 1 9 1=true:=by kernel_rfl
theorem Fj : xg Tryz.prog 9 16=true:=by kernel_rfl
theorem Kf : ju Tryz.prog 74 [(0,7),(7,17),(24,1),(25,1),(26,1),(27,2)]=true:=by kernel_rfl
theorem Ah : nN Tryz.prog 74 29=true:=by kernel_rfl
theorem Ru : pY Tryz.prog 74=false:=by kernel_rfl
theorem xr : dd Tryz.prog 126 (.agg #[.slice none 0 0,.int .i64 0,.string ⟨#[]⟩,.int .i64 0,.int .i64 0,.int .i64 0,.int .i64 0,.int .i64 0,.int .i64 0,.int .i64 0,.int .i64 0,.int .i64 0,.string ⟨#[]⟩,.int .i64 0,.string ⟨#[]⟩,.int .i64 0,.int .i64 0,.int .i64 0,.int .i64 0,.int .i64 0,.int .i64 0,.int .i64 0,.int .i64 0,.int .i64 0,.int .i64 0,.int .i64 0,.int .i64 0,.int .i64 0]):=by unfold dd;kernel_rfl
theorem nk : dd Tryz.prog 42 (.agg #[.int .i64 0,.int .i64 0]):=by unfold dd;kernel_rfl
theorem Dv : ju Tryz.prog 42 [(0,1),(1,1)]=true:=by kernel_rfl
theorem ik : nN Tryz.prog 42 2=true:=by kernel_rfl
theorem Vf : xg Tryz.prog 42 16=true:=by kernel_rfl
theorem Pk : ju Tryz.prog 126 [(0,1),(1,11),(12,13),(25,1),(26,2)]=true:=by kernel_rfl
theorem JL : nN Tryz.prog 126 28=true:=by kernel_rfl
theorem UW : cT Tryz.prog 55=true:=by kernel_rfl
theorem VG : cT Tryz.prog 25=true:=by kernel_rfl
theorem Wk : ju Tryz.prog 48 [(0,1),(1,1),(2,11),(13,1),(14,1),(15,1),(16,1)]=true:=by kernel_rfl
theorem Ox : pY Tryz.prog 4=true:=by kernel_rfl
theorem tp : dd Tryz.prog 45 (.agg #[.int .i64 0,.string ⟨#[]⟩,.int .i64 0,.int .i64 0,.int .i64 0,.int .i64 0,.int .i64 0,.int .i64 0,.int .i64 0,.int .i64 0,.int .i64 0]):=by unfold dd;kernel_rfl
theorem AF : ju Tryz.prog 45 [(0,1),(1,1),(2,1),(3,8)]=true:=by kernel_rfl
theorem fg : nN Tryz.prog 45 11=true:=by kernel_rfl
theorem Sw : tH Tryz.prog 42 0 3 0=true:=by kernel_rfl
theorem yu : dd Tryz.prog 80 (.agg #[.string ⟨#[]⟩,.int .i64 0,.string ⟨#[]⟩,.int .i64 0,.int .i64 0,.int .i64 0,.int .i64 0,.int .i64 0,.int .i64 0,.int .i64 0,.int .i64 0,.int .i64 0,.int .i64 0]):=by unfold dd;kernel_rfl
theorem VQ : ju Tryz.prog 80 [(0,1),(1,11),(12,1)]=true:=by kernel_rfl
theorem VR : xg Tryz.prog 80 120=true:=by kernel_rfl
theorem Vo : cT Tryz.prog 56=true:=by kernel_rfl
theorem Vm : xg Tryz.prog 39 136=true:=by kernel_rfl
theorem UE : dd Tryz.prog 3 (.int .i64 0):=by unfold dd;kernel_rfl
theorem Ju : Tryz.prog.underlying 58=some (.slice 5):=by kernel_rfl
theorem AM : Tryz.prog.underlying 5=some (.int .u8):=by kernel_rfl
theorem oQ : sliceB Tryz.prog 58 5 1=true:=by kernel_rfl
theorem CT : pY Tryz.prog 5=true:=by kernel_rfl
theorem SH : rr Tryz.prog 180 23 9 1=true:=by kernel_rfl
theorem S4 : cT Tryz.prog 161=true:=by kernel_rfl
theorem TI : cT Tryz.prog 183=true:=by kernel_rfl
theorem TN : cT Tryz.prog 126=true:=by kernel_rfl
theorem Vt : cT Tryz.prog 99=true:=by kernel_rfl
theorem rq : nN Tryz.prog 80 13=true:=by kernel_rfl
theorem Lj : pZ Tryz.prog 80 0 0=true:=by kernel_rfl
theorem TC : cT Tryz.prog 129=true:=by kernel_rfl
theorem IV : eqB Tryz.prog 45 [(.i .i64),.s,(.i .i64),(.i .i64),(.i .i64),(.i .i64),(.i .i64),(.i .i64),(.i .i64),(.i .i64),(.i .i64)]=true:=by kernel_rfl
theorem RJ : eqB Tryz.prog 42 [(.i .i64),(.i .i64)]=true:=by kernel_rfl
theorem Ti : cT Tryz.prog 102=true:=by kernel_rfl
theorem Uo : cT Tryz.prog 101=true:=by kernel_rfl
theorem yr : dd Tryz.prog 55 (.agg #[.int .i64 0,.string ⟨#[]⟩,.string ⟨#[]⟩,.string ⟨#[]⟩,.int .i64 0,.string ⟨#[]⟩,.int .i64 0,.int .i64 0,.int .i64 0,.int .i64 0,.int .i64 0,.int .i64 0,.int .i64 0,.int .i64 0,.int .i64 0,.int .i64 0,.int .i64 0,.string ⟨#[]⟩,.slice none 0 0,.slice none 0 0,.slice none 0 0,.slice none 0 0,.int .i64 0]):=by unfold dd;kernel_rfl
theorem qv : dd Tryz.prog 53 (.agg #[.int .i64 0,.int .i64 0,.string ⟨#[]⟩,.slice none 0 0]):=by unfold dd;kernel_rfl
theorem IG : ju Tryz.prog 53 [(0,1),(1,1),(2,1),(3,1)]=true:=by kernel_rfl
theorem xj : pZ Tryz.prog 53 0 0=true:=by kernel_rfl
theorem wA : pZ Tryz.prog 53 1 1=true:=by kernel_rfl
theorem wK : pZ Tryz.prog 53 2 2=true:=by kernel_rfl
theorem QI : pY Tryz.prog 53=false:=by kernel_rfl
theorem SV : cT Tryz.prog 184=true:=by kernel_rfl
theorem Wz : dd Tryz.prog 4 (.bool false):=by unfold dd;kernel_rfl
theorem Ui : cT Tryz.prog 190=true:=by kernel_rfl
theorem PK : cT Tryz.prog 164=true:=by kernel_rfl
theorem Wn : dd Tryz.prog 51 (.slice none 0 0):=by unfold dd;kernel_rfl
theorem Vk : xg Tryz.prog 53 56=true:=by kernel_rfl
theorem Un : cT Tryz.prog 207=true:=by kernel_rfl
theorem Uv : cT Tryz.prog 193=true:=by kernel_rfl
theorem Uu : cT Tryz.prog 194=true:=by kernel_rfl
theorem Tp : cT Tryz.prog 191=true:=by kernel_rfl
theorem S6 : cT Tryz.prog 165=true:=by kernel_rfl
theorem OQ : cT Tryz.prog 133=true:=by kernel_rfl
theorem PG : cT Tryz.prog 134=true:=by kernel_rfl
theorem U0 : cT Tryz.prog 70=true:=by kernel_rfl
theorem Wh : cT Tryz.prog 69=true:=by kernel_rfl
theorem VU : cT Tryz.prog 36=true:=by kernel_rfl
theorem Nf : dd Tryz.prog 84 (.agg #[.int .i64 0,.int .i64 0,.int .i64 0,.int .i64 0,.int .i64 0,.int .i64 0,.int .i64 0]):=by unfold dd;kernel_rfl
theorem Wa : ju Tryz.prog 84 [(0,1),(1,1),(2,1),(3,1),(4,1),(5,1),(6,1)]=true:=by kernel_rfl
theorem Ny : nN Tryz.prog 84 7=true:=by kernel_rfl
theorem ze : sliceB Tryz.prog 140 45 11=true:=by kernel_rfl
theorem MO : cT Tryz.prog 73=true:=by kernel_rfl
theorem Np : cT Tryz.prog 72=true:=by kernel_rfl
theorem Nu : cT Tryz.prog 74=true:=by kernel_rfl
theorem SB : tH Tryz.prog 84 4 3 4=true:=by kernel_rfl
theorem Vu : dd Tryz.prog 60 (.agg #[.pointer none,.slice none 0 0]):=by unfold dd;kernel_rfl
theorem Ve : ju Tryz.prog 60 [(0,1),(1,1)]=true:=by kernel_rfl
theorem RQ : cT Tryz.prog 96=true:=by kernel_rfl
theorem Nv : cT Tryz.prog 63=true:=by kernel_rfl
theorem DV : cT Tryz.prog 21=true:=by kernel_rfl
theorem Ai : cT Tryz.prog 40=true:=by kernel_rfl
theorem JH : cT Tryz.prog 62=true:=by kernel_rfl
theorem TZ : dd Tryz.prog 120 (.agg #[.pointer none,.slice none 0 0,.slice none 0 0]):=by unfold dd;kernel_rfl
theorem Ux : ju Tryz.prog 120 [(0,2),(2,1)]=true:=by kernel_rfl
theorem Sm : Tryz.prog.underlying 3=some (.int .i64):=by kernel_rfl
theorem IK : Tryz.prog.underlying 203=some (.int .u64):=by kernel_rfl
theorem Bq : dd Tryz.prog 5 (.int .u8 0):=by unfold dd;kernel_rfl
theorem Sh : xg Tryz.prog 5 1=true:=by kernel_rfl
theorem Th : cT Tryz.prog 208=true:=by kernel_rfl
theorem CE : cT Tryz.prog 139=true:=by kernel_rfl
theorem OY : rr Tryz.prog 213 6 212 3=true:=by kernel_rfl
theorem Pc : sliceB Tryz.prog 210 212 3=true:=by kernel_rfl
theorem Kw : nN Tryz.prog 212 3=true:=by kernel_rfl
theorem Uk : cT Tryz.prog 197=true:=by kernel_rfl
theorem Tz : cT Tryz.prog 196=true:=by kernel_rfl
theorem TH : dd Tryz.prog 212 (.agg #[.string ⟨#[]⟩,.int .i64 0,.int .i64 0]):=by unfold dd;kernel_rfl
theorem PH : cT Tryz.prog 108=true:=by kernel_rfl
theorem Tn : cT Tryz.prog 135=true:=by kernel_rfl
theorem TW : cT Tryz.prog 136=true:=by kernel_rfl
theorem zU : cT Tryz.prog 107=true:=by kernel_rfl
theorem Nk : cT Tryz.prog 78=true:=by kernel_rfl
theorem Qq : cT Tryz.prog 23=true:=by kernel_rfl
theorem UY : cT Tryz.prog 22=true:=by kernel_rfl
theorem Wm : cT Tryz.prog 13=true:=by kernel_rfl
theorem IB : cT Tryz.prog 44=true:=by kernel_rfl
theorem TP : cT Tryz.prog 155=true:=by kernel_rfl
theorem Tv : cT Tryz.prog 209=true:=by kernel_rfl
theorem Rp : nN Tryz.prog 43 8=true:=by kernel_rfl
theorem Wo : dd Tryz.prog 43 (.agg #[.int .i64 0,.int .i64 0,.int .i64 0,.int .i64 0,.int .i64 0,.int .i64 0,.int .i64 0,.int .i64 0]):=by unfold dd;kernel_rfl
theorem QM : cT Tryz.prog 92=true:=by kernel_rfl
theorem VL : cT Tryz.prog 65=true:=by kernel_rfl
theorem Ks : cT Tryz.prog 33=true:=by kernel_rfl
theorem VV : cT Tryz.prog 60=true:=by kernel_rfl
theorem JD : sliceB Tryz.prog 225 3 1=true:=by kernel_rfl
theorem CJ : cT Tryz.prog 181=true:=by kernel_rfl
theorem Uc : cT Tryz.prog 157=true:=by kernel_rfl
theorem J5 : cT Tryz.prog 158=true:=by kernel_rfl
theorem Tb : cT Tryz.prog 159=true:=by kernel_rfl
theorem VK : cT Tryz.prog 61=true:=by kernel_rfl
theorem VW : cT Tryz.prog 14=true:=by kernel_rfl
theorem VT : cT Tryz.prog 15=true:=by kernel_rfl
theorem VE : cT Tryz.prog 16=true:=by kernel_rfl
instance : SlcI Tryz.prog 22 39 7:=⟨gU⟩
instance : AggI Tryz.prog 39 7:=⟨gD,by kernel_rfl⟩
instance : FldI Tryz.prog 39 1 1:=⟨E8⟩
instance : OneI Tryz.prog 34:=⟨MI⟩
instance : SlcI Tryz.prog 34 9 1:=⟨dq⟩
instance : FldI Tryz.prog 39 3 3:=⟨by kernel_rfl⟩
instance : OneI Tryz.prog 35:=⟨by kernel_rfl⟩
instance : SlcI Tryz.prog 35 42 2:=⟨np⟩
instance : FldI Tryz.prog 39 4 4:=⟨Mc⟩
instance : OneI Tryz.prog 36:=⟨Rl⟩
instance : SlcI Tryz.prog 36 80 13:=⟨lq⟩
instance : FldI Tryz.prog 39 5 5:=⟨zq⟩
instance : OneI Tryz.prog 37:=⟨Jh⟩
instance : SlcI Tryz.prog 37 48 17:=⟨qp⟩
instance : AggI Tryz.prog 48 17:=⟨pa,by kernel_rfl⟩
instance : FldI Tryz.prog 48 3 13:=⟨by kernel_rfl⟩
instance : FldI Tryz.prog 48 4 14:=⟨by kernel_rfl⟩
instance : FldI Tryz.prog 48 5 15:=⟨by kernel_rfl⟩
instance : OneI Tryz.prog 46:=⟨by kernel_rfl⟩
instance : SlcI Tryz.prog 46 55 23:=⟨db⟩
instance : FldI Tryz.prog 80 1 1:=⟨Mu⟩
instance : FldI Tryz.prog 45 3 3:=⟨by kernel_rfl⟩
instance : FldI Tryz.prog 42 0 0:=⟨by kernel_rfl⟩
instance : OneI Tryz.prog 3:=⟨kr⟩
instance : AggI Tryz.prog 55 23:=⟨dH,by kernel_rfl⟩
instance : FldI Tryz.prog 55 7 20:=⟨by kernel_rfl⟩
instance : FldI Tryz.prog 55 8 21:=⟨by kernel_rfl⟩
instance : FldI Tryz.prog 55 6 19:=⟨by kernel_rfl⟩
instance : OneI Tryz.prog 51:=⟨Nq⟩
instance : SlcI Tryz.prog 51 53 4:=⟨cG⟩
instance : FldI Tryz.prog 55 5 15:=⟨by kernel_rfl⟩
instance : AggI Tryz.prog 53 4:=⟨da,QI⟩
instance : FldI Tryz.prog 53 3 3:=⟨by kernel_rfl⟩
instance : OneI Tryz.prog 9:=⟨qQ⟩
instance : AggI Tryz.prog 70 3:=⟨oZ,by kernel_rfl⟩
instance : FldI Tryz.prog 70 2 2:=⟨by kernel_rfl⟩
instance : FldI Tryz.prog 70 0 0:=⟨by kernel_rfl⟩
instance : FldI Tryz.prog 70 1 1:=⟨by kernel_rfl⟩
instance : SlcI Tryz.prog 66 70 3:=⟨Ac⟩
instance : AggI Tryz.prog 28 2:=⟨NV,by kernel_rfl⟩
instance : FldI Tryz.prog 28 0 0:=⟨by kernel_rfl⟩
instance : OneI Tryz.prog 26:=⟨by kernel_rfl⟩
instance : FldI Tryz.prog 39 0 0:=⟨by kernel_rfl⟩
instance : AggI Tryz.prog 74 29:=⟨Ah,Ru⟩
instance : FldI Tryz.prog 74 5 27:=⟨by kernel_rfl⟩
instance : FldI Tryz.prog 74 3 25:=⟨by kernel_rfl⟩
instance : FldI Tryz.prog 74 4 26:=⟨by kernel_rfl⟩
instance : FldI Tryz.prog 39 2 2:=⟨by kernel_rfl⟩
instance : AggI Tryz.prog 42 2:=⟨ik,by kernel_rfl⟩
instance : AggI Tryz.prog 126 28:=⟨JL,by kernel_rfl⟩
instance : FldI Tryz.prog 126 4 26:=⟨by kernel_rfl⟩
instance : FldI Tryz.prog 126 0 0:=⟨by kernel_rfl⟩
instance : FldI Tryz.prog 126 3 25:=⟨by kernel_rfl⟩
instance : FldI Tryz.prog 74 0 0:=⟨by kernel_rfl⟩
instance : FldI Tryz.prog 48 1 1:=⟨by kernel_rfl⟩
instance : OneI Tryz.prog 4:=⟨Ox⟩
instance : AggI Tryz.prog 45 11:=⟨fg,by kernel_rfl⟩
instance : FldI Tryz.prog 45 1 1:=⟨by kernel_rfl⟩
instance : FldI Tryz.prog 126 1 1:=⟨by kernel_rfl⟩
instance : FldI Tryz.prog 48 2 2:=⟨by kernel_rfl⟩
instance : FldI Tryz.prog 48 0 0:=⟨by kernel_rfl⟩
instance : FldI Tryz.prog 45 0 0:=⟨by kernel_rfl⟩
instance : SlcI Tryz.prog 58 5 1:=⟨oQ⟩
instance : OneI Tryz.prog 5:=⟨CT⟩
instance : FldI Tryz.prog 42 1 1:=⟨by kernel_rfl⟩
instance : AggI Tryz.prog 80 13:=⟨rq,by kernel_rfl⟩
instance : FldI Tryz.prog 80 0 0:=⟨Lj⟩
instance : FldI Tryz.prog 45 2 2:=⟨by kernel_rfl⟩
instance : FldI Tryz.prog 55 0 0:=⟨by kernel_rfl⟩
instance : FldI Tryz.prog 55 1 1:=⟨by kernel_rfl⟩
instance : FldI Tryz.prog 55 2 2:=⟨by kernel_rfl⟩
instance : FldI Tryz.prog 55 3 3:=⟨by kernel_rfl⟩
instance : FldI Tryz.prog 55 4 4:=⟨by kernel_rfl⟩
instance : FldI Tryz.prog 53 0 0:=⟨xj⟩
instance : FldI Tryz.prog 53 1 1:=⟨wA⟩
instance : FldI Tryz.prog 53 2 2:=⟨wK⟩
instance : AggI Tryz.prog 84 7:=⟨Ny,by kernel_rfl⟩
instance : FldI Tryz.prog 84 1 1:=⟨by kernel_rfl⟩
instance : SlcI Tryz.prog 140 45 11:=⟨ze⟩
instance : FldI Tryz.prog 84 6 6:=⟨by kernel_rfl⟩
instance : FldI Tryz.prog 84 2 2:=⟨by kernel_rfl⟩
instance : FldI Tryz.prog 84 3 3:=⟨by kernel_rfl⟩
instance : FldI Tryz.prog 84 5 5:=⟨by kernel_rfl⟩
instance : FldI Tryz.prog 84 4 4:=⟨by kernel_rfl⟩
instance : SlcI Tryz.prog 210 212 3:=⟨Pc⟩
instance : AggI Tryz.prog 212 3:=⟨Kw,by kernel_rfl⟩
instance : FldI Tryz.prog 212 2 2:=⟨by kernel_rfl⟩
instance : FldI Tryz.prog 212 1 1:=⟨by kernel_rfl⟩
instance : FldI Tryz.prog 212 0 0:=⟨by kernel_rfl⟩
instance : FldI Tryz.prog 120 1 2:=⟨by kernel_rfl⟩
instance : FldI Tryz.prog 120 0 0:=⟨by kernel_rfl⟩
instance : AggI Tryz.prog 43 8:=⟨Rp,by kernel_rfl⟩
instance : SlcI Tryz.prog 225 3 1:=⟨JD⟩
abbrev FZ (f:FuncId) (a:List PV) (r:List Res):Prop:=Abs.Fn dZ Tryz.prog f a r
end Go.Proofs.YtjimbkljclfflaaGreatDoor
