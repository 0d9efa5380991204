/- A part of the proof that the law PureAll gives true for every input. -/
import Derived.Test.YtiefoagopfeibaaGreatProg
import Derived.Test.YtiefoagopfeibaaGreatPureAllA5
import Derived.Test.YtiefoagopfeibaaGreatPureAllX
/- The types and the plain functions. -/
namespace Go.Proofs.YtiefoagopfeibaaGreat
open Go.RowKit Go.Abs
noncomputable section
structure bH where
 ab : Int
 fN : Int
 deriving DecidableEq
abbrev am : bH := (⟨0, 0⟩ : bH)
abbrev bw (x : bH) : List PV := [.int .i64 x.ab, .int .i64 x.fN]
structure bV where
 ab : Int
 aq : List UInt8
 fN : Int
 aK : A4 bH
 deriving DecidableEq
abbrev cT : bV := (⟨0, [], 0, (⟨am, am, am, am⟩ : A4 bH)⟩ : bV)
abbrev aj (x : bV) : List PV := [.int .i64 x.ab, .str x.aq, .int .i64 x.fN, .int .i64 x.aK.a0.ab, .int .i64 x.aK.a0.fN, .int .i64 x.aK.a1.ab, .int .i64 x.aK.a1.fN, .int .i64 x.aK.a2.ab, .int .i64 x.aK.a2.fN, .int .i64 x.aK.a3.ab, .int .i64 x.aK.a3.fN]
structure dU where
 ax : List UInt8
 aO : bV
 fAt : Int
 deriving DecidableEq
abbrev sk : dU := (⟨[], cT, 0⟩ : dU)
abbrev aY (x : dU) : List PV := [.str x.ax, .int .i64 x.aO.ab, .str x.aO.aq, .int .i64 x.aO.fN, .int .i64 x.aO.aK.a0.ab, .int .i64 x.aO.aK.a0.fN, .int .i64 x.aO.aK.a1.ab, .int .i64 x.aO.aK.a1.fN, .int .i64 x.aO.aK.a2.ab, .int .i64 x.aO.aK.a2.fN, .int .i64 x.aO.aK.a3.ab, .int .i64 x.aO.aK.a3.fN, .int .i64 x.fAt]
structure cD where
 ab : Int
 eh : Int
 ax : List UInt8
 cY : List cD
abbrev si : cD := (⟨0, 0, [], []⟩ : cD)
mutual
def Nz : cD → List PV
 | ⟨z0, z1, z2, z3⟩ => [.int .i64 z0, .int .i64 z1, .str z2, .vs 4 (gD z3)]
def gD : List cD → List (List PV)
 | [] => []
 | x :: l => Nz x :: gD l
end
abbrev bL (x : cD) : List PV := [.int .i64 x.ab, .int .i64 x.eh, .str x.ax, .vs 4 (gD x.cY)]
theorem Pt (x : cD) : Nz x = bL x := by cases x; simp only [Nz]
theorem cO : ∀ l : List cD, gD l = l.map bL
 | [] => by simp only [gD, List.map_nil]
 | x :: l => by simp only [gD, List.map_cons, Pt, cO l]
mutual
def dh : cD → Nat
 | ⟨_, _, _, z3⟩ => 1 + pt z3
def pt : List cD → Nat
 | [] => 0
 | x :: l => dh x + pt l
end
structure aQ where
 ab : Int
 fX : List UInt8
 fY : List UInt8
 ax : List UInt8
 aO : bV
 fE : cD
 dH : List cD
 bM : List aQ
 dp : List aQ
 fAt : Int
abbrev gh : aQ := (⟨0, [], [], [], cT, si, [], [], [], 0⟩ : aQ)
mutual
def Nn : aQ → List PV
 | ⟨z0, z1, z2, z3, z4, z5, z6, z7, z8, z9⟩ => [.int .i64 z0, .str z1, .str z2, .str z3, .int .i64 z4.ab, .str z4.aq, .int .i64 z4.fN, .int .i64 z4.aK.a0.ab, .int .i64 z4.aK.a0.fN, .int .i64 z4.aK.a1.ab, .int .i64 z4.aK.a1.fN, .int .i64 z4.aK.a2.ab, .int .i64 z4.aK.a2.fN, .int .i64 z4.aK.a3.ab, .int .i64 z4.aK.a3.fN, .int .i64 z5.ab, .int .i64 z5.eh, .str z5.ax, .vs 4 (gD z5.cY), .vs 4 (gD z6), .vs 23 (co z7), .vs 23 (co z8), .int .i64 z9]
def co : List aQ → List (List PV)
 | [] => []
 | x :: l => Nn x :: co l
end
abbrev aM (x : aQ) : List PV := [.int .i64 x.ab, .str x.fX, .str x.fY, .str x.ax, .int .i64 x.aO.ab, .str x.aO.aq, .int .i64 x.aO.fN, .int .i64 x.aO.aK.a0.ab, .int .i64 x.aO.aK.a0.fN, .int .i64 x.aO.aK.a1.ab, .int .i64 x.aO.aK.a1.fN, .int .i64 x.aO.aK.a2.ab, .int .i64 x.aO.aK.a2.fN, .int .i64 x.aO.aK.a3.ab, .int .i64 x.aO.aK.a3.fN, .int .i64 x.fE.ab, .int .i64 x.fE.eh, .str x.fE.ax, .vs 4 (gD x.fE.cY), .vs 4 (gD x.dH), .vs 23 (co x.bM), .vs 23 (co x.dp), .int .i64 x.fAt]
theorem Pq (x : aQ) : Nn x = aM x := by cases x; simp only [Nn]
theorem cb : ∀ l : List aQ, co l = l.map aM
 | [] => by simp only [co, List.map_nil]
 | x :: l => by simp only [co, List.map_cons, Pq, cb l]
mutual
def dE : aQ → Nat
 | ⟨_, _, _, _, _, z5, z6, z7, z8, _⟩ => 1 + dh z5 + pt z6 + dd z7 + dd z8
def dd : List aQ → Nat
 | [] => 0
 | x :: l => dE x + dd l
end
structure aI where
 ax : List UInt8
 eN : Bool
 ca : bV
 ap : List dU
 cy : List dU
 bM : List aQ
 fAt : Int
abbrev zGMethod : aI := (⟨[], false, cT, [], [], [], 0⟩ : aI)
def qt : aI → Nat
 | ⟨_, _, _, _, _, z5, _⟩ => 1 + dd z5
def IM : List aI → Nat
 | [] => 0
 | x :: l => qt x + IM l
abbrev ai (x : aI) : List PV := [.str x.ax, .bool x.eN, .int .i64 x.ca.ab, .str x.ca.aq, .int .i64 x.ca.fN, .int .i64 x.ca.aK.a0.ab, .int .i64 x.ca.aK.a0.fN, .int .i64 x.ca.aK.a1.ab, .int .i64 x.ca.aK.a1.fN, .int .i64 x.ca.aK.a2.ab, .int .i64 x.ca.aK.a2.fN, .int .i64 x.ca.aK.a3.ab, .int .i64 x.ca.aK.a3.fN, .vs 13 (List.map aY x.ap), .vs 13 (List.map aY x.cy), .vs 23 (co x.bM), .int .i64 x.fAt]
structure ae where
 ax : List UInt8
 ap : List (List UInt8)
 di : List UInt8
 ey : List bH
 cm : List dU
 ah : List aI
 fAt : Int
abbrev zGClass : ae := (⟨[], [], [], [], [], [], 0⟩ : ae)
def yN : ae → Nat
 | ⟨_, _, _, _, _, z5, _⟩ => 1 + IM z5
def zc : List ae → Nat
 | [] => 0
 | x :: l => yN x + zc l
abbrev aa (x : ae) : List PV := [.str x.ax, .vs 1 (List.map eS x.ap), .str x.di, .vs 2 (List.map bw x.ey), .vs 13 (List.map aY x.cm), .vs 17 (List.map ai x.ah), .int .i64 x.fAt]
structure ce where
 dA : Int
 fAt : Int
 deriving DecidableEq
abbrev bG : ce := (⟨0, 0⟩ : ce)
abbrev aP (x : ce) : List PV := [.int .i64 x.dA, .int .i64 x.fAt]
structure bz where
 aq : Int
 aE : Int
 fw : Int
 aO : bV
 fAt : Int
 deriving DecidableEq
abbrev jI : bz := (⟨0, 0, 0, cT, 0⟩ : bz)
abbrev bq (x : bz) : List PV := [.int .i64 x.aq, .int .i64 x.aE, .int .i64 x.fw, .int .i64 x.aO.ab, .str x.aO.aq, .int .i64 x.aO.fN, .int .i64 x.aO.aK.a0.ab, .int .i64 x.aO.aK.a0.fN, .int .i64 x.aO.aK.a1.ab, .int .i64 x.aO.aK.a1.fN, .int .i64 x.aO.aK.a2.ab, .int .i64 x.aO.aK.a2.fN, .int .i64 x.aO.aK.a3.ab, .int .i64 x.aO.aK.a3.fN, .int .i64 x.fAt]
structure az where
 aq : Int
 aE : Int
 dB : Int
 fS : aQ
abbrev rk : az := (⟨0, 0, 0, gh⟩ : az)
def uu : az → Nat
 | ⟨_, _, _, z3⟩ => 1 + dE z3
def Gj : List az → Nat
 | [] => 0
 | x :: l => uu x + Gj l
abbrev ay (x : az) : List PV := [.int .i64 x.aq, .int .i64 x.aE, .int .i64 x.dB, .int .i64 x.fS.ab, .str x.fS.fX, .str x.fS.fY, .str x.fS.ax, .int .i64 x.fS.aO.ab, .str x.fS.aO.aq, .int .i64 x.fS.aO.fN, .int .i64 x.fS.aO.aK.a0.ab, .int .i64 x.fS.aO.aK.a0.fN, .int .i64 x.fS.aO.aK.a1.ab, .int .i64 x.fS.aO.aK.a1.fN, .int .i64 x.fS.aO.aK.a2.ab, .int .i64 x.fS.aO.aK.a2.fN, .int .i64 x.fS.aO.aK.a3.ab, .int .i64 x.fS.aO.aK.a3.fN, .int .i64 x.fS.fE.ab, .int .i64 x.fS.fE.eh, .str x.fS.fE.ax, .vs 4 (gD x.fS.fE.cY), .vs 4 (gD x.fS.dH), .vs 23 (co x.fS.bM), .vs 23 (co x.fS.dp), .int .i64 x.fS.fAt]
structure cn where
 aq : List UInt8
 aE : aI
abbrev dr : cn := (⟨[], zGMethod⟩ : cn)
def FY : cn → Nat
 | ⟨_, z1⟩ => 1 + qt z1
def Dj : List cn → Nat
 | [] => 0
 | x :: l => FY x + Dj l
abbrev br (x : cn) : List PV := [.str x.aq, .str x.aE.ax, .bool x.aE.eN, .int .i64 x.aE.ca.ab, .str x.aE.ca.aq, .int .i64 x.aE.ca.fN, .int .i64 x.aE.ca.aK.a0.ab, .int .i64 x.aE.ca.aK.a0.fN, .int .i64 x.aE.ca.aK.a1.ab, .int .i64 x.aE.ca.aK.a1.fN, .int .i64 x.aE.ca.aK.a2.ab, .int .i64 x.aE.ca.aK.a2.fN, .int .i64 x.aE.ca.aK.a3.ab, .int .i64 x.aE.ca.aK.a3.fN, .vs 13 (List.map aY x.aE.ap), .vs 13 (List.map aY x.aE.cy), .vs 23 (co x.aE.bM), .int .i64 x.aE.fAt]
structure ct where
 fP : List ae
 fC : ae
 fM : aI
abbrev tx : ct := (⟨[], zGClass, zGMethod⟩ : ct)
def GV : ct → Nat
 | ⟨z0, z1, z2⟩ => 1 + zc z0 + yN z1 + qt z2
def Du : List ct → Nat
 | [] => 0
 | x :: l => GV x + Du l
abbrev aZ (x : ct) : List PV := [.vs 7 (List.map aa x.fP), .str x.fC.ax, .vs 1 (List.map eS x.fC.ap), .str x.fC.di, .vs 2 (List.map bw x.fC.ey), .vs 13 (List.map aY x.fC.cm), .vs 17 (List.map ai x.fC.ah), .int .i64 x.fC.fAt, .str x.fM.ax, .bool x.fM.eN, .int .i64 x.fM.ca.ab, .str x.fM.ca.aq, .int .i64 x.fM.ca.fN, .int .i64 x.fM.ca.aK.a0.ab, .int .i64 x.fM.ca.aK.a0.fN, .int .i64 x.fM.ca.aK.a1.ab, .int .i64 x.fM.ca.aK.a1.fN, .int .i64 x.fM.ca.aK.a2.ab, .int .i64 x.fM.ca.aK.a2.fN, .int .i64 x.fM.ca.aK.a3.ab, .int .i64 x.fM.ca.aK.a3.fN, .vs 13 (List.map aY x.fM.ap), .vs 13 (List.map aY x.fM.cy), .vs 23 (co x.fM.bM), .int .i64 x.fM.fAt]
structure db where
 aq : List UInt8
 fw : dU
 deriving DecidableEq
abbrev oI : db := (⟨[], sk⟩ : db)
abbrev cQ (x : db) : List PV := [.str x.aq, .str x.fw.ax, .int .i64 x.fw.aO.ab, .str x.fw.aO.aq, .int .i64 x.fw.aO.fN, .int .i64 x.fw.aO.aK.a0.ab, .int .i64 x.fw.aO.aK.a0.fN, .int .i64 x.fw.aO.aK.a1.ab, .int .i64 x.fw.aO.aK.a1.fN, .int .i64 x.fw.aO.aK.a2.ab, .int .i64 x.fw.aO.aK.a2.fN, .int .i64 x.fw.aO.aK.a3.ab, .int .i64 x.fw.aO.aK.a3.fN, .int .i64 x.fw.fAt]
structure cF where
 aq : Int
 aE : Int
 dB : Int
 fS : aQ
abbrev uq : cF := (⟨0, 0, 0, gh⟩ : cF)
def Jb : cF → Nat
 | ⟨_, _, _, z3⟩ => 1 + dE z3
def GQ : List cF → Nat
 | [] => 0
 | x :: l => Jb x + GQ l
abbrev da (x : cF) : List PV := [.int .i64 x.aq, .int .i64 x.aE, .int .i64 x.dB, .int .i64 x.fS.ab, .str x.fS.fX, .str x.fS.fY, .str x.fS.ax, .int .i64 x.fS.aO.ab, .str x.fS.aO.aq, .int .i64 x.fS.aO.fN, .int .i64 x.fS.aO.aK.a0.ab, .int .i64 x.fS.aO.aK.a0.fN, .int .i64 x.fS.aO.aK.a1.ab, .int .i64 x.fS.aO.aK.a1.fN, .int .i64 x.fS.aO.aK.a2.ab, .int .i64 x.fS.aO.aK.a2.fN, .int .i64 x.fS.aO.aK.a3.ab, .int .i64 x.fS.aO.aK.a3.fN, .int .i64 x.fS.fE.ab, .int .i64 x.fS.fE.eh, .str x.fS.fE.ax, .vs 4 (gD x.fS.fE.cY), .vs 4 (gD x.fS.dH), .vs 23 (co x.fS.bM), .vs 23 (co x.fS.dp), .int .i64 x.fS.fAt]
structure bT where
 aq : List UInt8
 aE : aI
abbrev dm : bT := (⟨[], zGMethod⟩ : bT)
def CY : bT → Nat
 | ⟨_, z1⟩ => 1 + qt z1
def AK : List bT → Nat
 | [] => 0
 | x :: l => CY x + AK l
abbrev aX (x : bT) : List PV := [.str x.aq, .str x.aE.ax, .bool x.aE.eN, .int .i64 x.aE.ca.ab, .str x.aE.ca.aq, .int .i64 x.aE.ca.fN, .int .i64 x.aE.ca.aK.a0.ab, .int .i64 x.aE.ca.aK.a0.fN, .int .i64 x.aE.ca.aK.a1.ab, .int .i64 x.aE.ca.aK.a1.fN, .int .i64 x.aE.ca.aK.a2.ab, .int .i64 x.aE.ca.aK.a2.fN, .int .i64 x.aE.ca.aK.a3.ab, .int .i64 x.aE.ca.aK.a3.fN, .vs 13 (List.map aY x.aE.ap), .vs 13 (List.map aY x.aE.cy), .vs 23 (co x.aE.bM), .int .i64 x.aE.fAt]
structure Gasker_fit where
 fp : List ae
 fc : ae
 fm : aI
 fs : aQ
 fx : bV
 fo : bV
abbrev Lq : Gasker_fit := (⟨[], zGClass, zGMethod, gh, cT, cT⟩ : Gasker_fit)
def Mi : Gasker_fit → Nat
 | ⟨z0, z1, z2, z3, _, _⟩ => 1 + zc z0 + yN z1 + qt z2 + dE z3
def J4 : List Gasker_fit → Nat
 | [] => 0
 | x :: l => Mi x + J4 l
abbrev gR (x : Gasker_fit) : List PV := [.vs 7 (List.map aa x.fp), .str x.fc.ax, .vs 1 (List.map eS x.fc.ap), .str x.fc.di, .vs 2 (List.map bw x.fc.ey), .vs 13 (List.map aY x.fc.cm), .vs 17 (List.map ai x.fc.ah), .int .i64 x.fc.fAt, .str x.fm.ax, .bool x.fm.eN, .int .i64 x.fm.ca.ab, .str x.fm.ca.aq, .int .i64 x.fm.ca.fN, .int .i64 x.fm.ca.aK.a0.ab, .int .i64 x.fm.ca.aK.a0.fN, .int .i64 x.fm.ca.aK.a1.ab, .int .i64 x.fm.ca.aK.a1.fN, .int .i64 x.fm.ca.aK.a2.ab, .int .i64 x.fm.ca.aK.a2.fN, .int .i64 x.fm.ca.aK.a3.ab, .int .i64 x.fm.ca.aK.a3.fN, .vs 13 (List.map aY x.fm.ap), .vs 13 (List.map aY x.fm.cy), .vs 23 (co x.fm.bM), .int .i64 x.fm.fAt, .int .i64 x.fs.ab, .str x.fs.fX, .str x.fs.fY, .str x.fs.ax, .int .i64 x.fs.aO.ab, .str x.fs.aO.aq, .int .i64 x.fs.aO.fN, .int .i64 x.fs.aO.aK.a0.ab, .int .i64 x.fs.aO.aK.a0.fN, .int .i64 x.fs.aO.aK.a1.ab, .int .i64 x.fs.aO.aK.a1.fN, .int .i64 x.fs.aO.aK.a2.ab, .int .i64 x.fs.aO.aK.a2.fN, .int .i64 x.fs.aO.aK.a3.ab, .int .i64 x.fs.aO.aK.a3.fN, .int .i64 x.fs.fE.ab, .int .i64 x.fs.fE.eh, .str x.fs.fE.ax, .vs 4 (gD x.fs.fE.cY), .vs 4 (gD x.fs.dH), .vs 23 (co x.fs.bM), .vs 23 (co x.fs.dp), .int .i64 x.fs.fAt, .int .i64 x.fx.ab, .str x.fx.aq, .int .i64 x.fx.fN, .int .i64 x.fx.aK.a0.ab, .int .i64 x.fx.aK.a0.fN, .int .i64 x.fx.aK.a1.ab, .int .i64 x.fx.aK.a1.fN, .int .i64 x.fx.aK.a2.ab, .int .i64 x.fx.aK.a2.fN, .int .i64 x.fx.aK.a3.ab, .int .i64 x.fx.aK.a3.fN, .int .i64 x.fo.ab, .str x.fo.aq, .int .i64 x.fo.fN, .int .i64 x.fo.aK.a0.ab, .int .i64 x.fo.aK.a0.fN, .int .i64 x.fo.aK.a1.ab, .int .i64 x.fo.aK.a1.fN, .int .i64 x.fo.aK.a2.ab, .int .i64 x.fo.aK.a2.fN, .int .i64 x.fo.aK.a3.ab, .int .i64 x.fo.aK.a3.fN]
structure Gheld_method where
 aE : aI
 fclass : Int
abbrev Gk : Gheld_method := (⟨zGMethod, 0⟩ : Gheld_method)
def GL : Gheld_method → Nat
 | ⟨z0, _⟩ => 1 + qt z0
def De : List Gheld_method → Nat
 | [] => 0
 | x :: l => GL x + De l
abbrev nj (x : Gheld_method) : List PV := [.str x.aE.ax, .bool x.aE.eN, .int .i64 x.aE.ca.ab, .str x.aE.ca.aq, .int .i64 x.aE.ca.fN, .int .i64 x.aE.ca.aK.a0.ab, .int .i64 x.aE.ca.aK.a0.fN, .int .i64 x.aE.ca.aK.a1.ab, .int .i64 x.aE.ca.aK.a1.fN, .int .i64 x.aE.ca.aK.a2.ab, .int .i64 x.aE.ca.aK.a2.fN, .int .i64 x.aE.ca.aK.a3.ab, .int .i64 x.aE.ca.aK.a3.fN, .vs 13 (List.map aY x.aE.ap), .vs 13 (List.map aY x.aE.cy), .vs 23 (co x.aE.bM), .int .i64 x.aE.fAt, .int .i64 x.fclass]
structure cf where
 ab : Int
 ew : List UInt8
 fAt : Int
 deriving DecidableEq
abbrev gy : cf := (⟨0, [], 0⟩ : cf)
abbrev aB (x : cf) : List PV := [.int .i64 x.ab, .str x.ew, .int .i64 x.fAt]
structure et where
 fC : ae
 fM : aI
 fV : List dU
 fN : List (List UInt8)
 dQ : Int
 fF : ce
abbrev zGGot_ref09 : et := (⟨zGClass, zGMethod, [], [], 0, bG⟩ : et)
def Lx : et → Nat
 | ⟨z0, z1, _, _, _, _⟩ => 1 + yN z0 + qt z1
def IZ : List et → Nat
 | [] => 0
 | x :: l => Lx x + IZ l
abbrev cr (x : et) : List PV := [.str x.fC.ax, .vs 1 (List.map eS x.fC.ap), .str x.fC.di, .vs 2 (List.map bw x.fC.ey), .vs 13 (List.map aY x.fC.cm), .vs 17 (List.map ai x.fC.ah), .int .i64 x.fC.fAt, .str x.fM.ax, .bool x.fM.eN, .int .i64 x.fM.ca.ab, .str x.fM.ca.aq, .int .i64 x.fM.ca.fN, .int .i64 x.fM.ca.aK.a0.ab, .int .i64 x.fM.ca.aK.a0.fN, .int .i64 x.fM.ca.aK.a1.ab, .int .i64 x.fM.ca.aK.a1.fN, .int .i64 x.fM.ca.aK.a2.ab, .int .i64 x.fM.ca.aK.a2.fN, .int .i64 x.fM.ca.aK.a3.ab, .int .i64 x.fM.ca.aK.a3.fN, .vs 13 (List.map aY x.fM.ap), .vs 13 (List.map aY x.fM.cy), .vs 23 (co x.fM.bM), .int .i64 x.fM.fAt, .vs 13 (List.map aY x.fV), .vs 1 (List.map eS x.fN), .int .i64 x.dQ, .int .i64 x.fF.dA, .int .i64 x.fF.fAt]
structure lf where
 fL : List bH
 fT : bV
 fV : dU
 dQ : Int
 fF : ce
 deriving DecidableEq
abbrev sY : lf := (⟨[], cT, sk, 0, bG⟩ : lf)
abbrev kQ (x : lf) : List PV := [.vs 2 (List.map bw x.fL), .int .i64 x.fT.ab, .str x.fT.aq, .int .i64 x.fT.fN, .int .i64 x.fT.aK.a0.ab, .int .i64 x.fT.aK.a0.fN, .int .i64 x.fT.aK.a1.ab, .int .i64 x.fT.aK.a1.fN, .int .i64 x.fT.aK.a2.ab, .int .i64 x.fT.aK.a2.fN, .int .i64 x.fT.aK.a3.ab, .int .i64 x.fT.aK.a3.fN, .str x.fV.ax, .int .i64 x.fV.aO.ab, .str x.fV.aO.aq, .int .i64 x.fV.aO.fN, .int .i64 x.fV.aO.aK.a0.ab, .int .i64 x.fV.aO.aK.a0.fN, .int .i64 x.fV.aO.aK.a1.ab, .int .i64 x.fV.aO.aK.a1.fN, .int .i64 x.fV.aO.aK.a2.ab, .int .i64 x.fV.aO.aK.a2.fN, .int .i64 x.fV.aO.aK.a3.ab, .int .i64 x.fV.aO.aK.a3.fN, .int .i64 x.fV.fAt, .int .i64 x.dQ, .int .i64 x.fF.dA, .int .i64 x.fF.fAt]
structure gg where
 fS : aQ
 fL : List aQ
 fA : List cD
 dQ : Int
 fF : ce
abbrev iZ : gg := (⟨gh, [], [], 0, bG⟩ : gg)
def KU : gg → Nat
 | ⟨z0, z1, z2, _, _⟩ => 1 + dE z0 + dd z1 + pt z2
def JS : List gg → Nat
 | [] => 0
 | x :: l => KU x + JS l
abbrev dN (x : gg) : List PV := [.int .i64 x.fS.ab, .str x.fS.fX, .str x.fS.fY, .str x.fS.ax, .int .i64 x.fS.aO.ab, .str x.fS.aO.aq, .int .i64 x.fS.aO.fN, .int .i64 x.fS.aO.aK.a0.ab, .int .i64 x.fS.aO.aK.a0.fN, .int .i64 x.fS.aO.aK.a1.ab, .int .i64 x.fS.aO.aK.a1.fN, .int .i64 x.fS.aO.aK.a2.ab, .int .i64 x.fS.aO.aK.a2.fN, .int .i64 x.fS.aO.aK.a3.ab, .int .i64 x.fS.aO.aK.a3.fN, .int .i64 x.fS.fE.ab, .int .i64 x.fS.fE.eh, .str x.fS.fE.ax, .vs 4 (gD x.fS.fE.cY), .vs 4 (gD x.fS.dH), .vs 23 (co x.fS.bM), .vs 23 (co x.fS.dp), .int .i64 x.fS.fAt, .vs 23 (co x.fL), .vs 4 (gD x.fA), .int .i64 x.dQ, .int .i64 x.fF.dA, .int .i64 x.fF.fAt]
structure gl where
 fE : cD
 dQ : Int
 fF : ce
abbrev gm : gl := (⟨si, 0, bG⟩ : gl)
def Mb : gl → Nat
 | ⟨z0, _, _⟩ => 1 + dh z0
def Jo : List gl → Nat
 | [] => 0
 | x :: l => Mb x + Jo l
abbrev dj (x : gl) : List PV := [.int .i64 x.fE.ab, .int .i64 x.fE.eh, .str x.fE.ax, .vs 4 (gD x.fE.cY), .int .i64 x.dQ, .int .i64 x.fF.dA, .int .i64 x.fF.fAt]
structure Gwalker_pure where
 fp : List ae
 fmet : List UInt8 → Option Int
 ftodo : List (A2 Int)
abbrev zGwalker_pure : Gwalker_pure := (⟨[], (fun _ => none), []⟩ : Gwalker_pure)
def GI : Gwalker_pure → Nat
 | ⟨z0, _, _⟩ => 1 + zc z0
def Cg : List Gwalker_pure → Nat
 | [] => 0
 | x :: l => GI x + Cg l
abbrev Rm (x : Gwalker_pure) : List PV := [.vs 7 (List.map aa x.fp), .mpv Tryz.prog 79 x.fmet, .vs 2 (List.map (eA2 eI) x.ftodo)]
def Jt (a b : bV) : Bool := (a.ab == b.ab && (a.aq == b.aq && (a.fN == b.fN && (a.aK.a0.ab == b.aK.a0.ab && (a.aK.a0.fN == b.aK.a0.fN && (a.aK.a1.ab == b.aK.a1.ab && (a.aK.a1.fN == b.aK.a1.fN && (a.aK.a2.ab == b.aK.a2.ab && (a.aK.a2.fN == b.aK.a2.fN && (a.aK.a3.ab == b.aK.a3.ab && (a.aK.a3.fN == b.aK.a3.fN && true)))))))))))
def OI (a b : bH) : Bool := (a.ab == b.ab && (a.fN == b.fN && true))
def BR (a b : ce) : Bool := (a.dA == b.dA && (a.fAt == b.fAt && true))
def je (a0 : aI) : Nat → Int → Int → Option (Int)
 | 0, _, _ => none
 | n + 1, x0, x1 =>
 if (decide (x1 < (a0.ap.length : Int))) then
 ((idx a0.ap x1).bind fun y0 =>
 if (y0.aO.aK.a0.ab == 6) then
 some (ak (x0 + 1))
 else
 some x0 : Option (Int)).bind fun x2 =>
 je a0 n x2 (ak (x1 + 1))
 else
 some x0
def jh (a0 : aI) : Nat → Int → Int → Option (Int)
 | 0, _, _ => none
 | n + 1, x0, x1 =>
 if (decide (x1 < (a0.cy.length : Int))) then
 ((idx a0.cy x1).bind fun y0 =>
 if (y0.aO.aK.a0.ab == 6) then
 some (ak (x0 + 1))
 else
 some x0 : Option (Int)).bind fun x2 =>
 jh a0 n x2 (ak (x1 + 1))
 else
 some x0
def nw (a0 : aI) : Option Int :=
 (je a0 ((a0.ap.length - 0 : Int).toNat + 1) 0 0).bind fun x0 =>
 (jh a0 ((a0.cy.length - 0 : Int).toNat + 1) x0 0).bind fun x1 =>
 some x1
def ln (a0 : cD) (a1 : Int) (ref10_kids_rec : cD → Int → Option Bool) : Nat → Int → Option (Ctl (Bool) (Unit))
 | 0, _ => none
 | n + 1, x0 =>
 if (decide (x0 < (a0.cY.length : Int))) then
 (idx a0.cY x0).bind fun y0 =>
 (ref10_kids_rec y0 (ak (a1 - 1))).bind fun y1 =>
 if y1 = true then
 some (.stop true)
 else
 ln a0 a1 ref10_kids_rec n (ak (x0 + 1))
 else
 some (.next ())
def jw : Nat → cD → Int → Option Bool
 | 0, _, _ => none
 | n + 1, a0, a1 =>
 (if (decide (a1 < 0)) then
 some true
 else
 some (decide ((a0.cY.length : Int) > 4)) : Option (Bool)).bind fun x2 =>
 if x2 = true then
 some true
 else
 (ln a0 a1 (jw n) ((a0.cY.length - 0 : Int).toNat + 1) 0).bind fun lr0 =>
 Ctl.elim lr0 (fun v => some v) fun _ =>
 some false
def lJ (a0 : aQ) : Nat → Int → Option (Ctl (Bool) (Unit))
 | 0, _ => none
 | n + 1, x0 =>
 if (decide (x0 < (a0.dH.length : Int))) then
 (idx a0.dH x0).bind fun y0 =>
 (jw (dh y0 + 1) y0 25).bind fun y1 =>
 if y1 = true then
 some (.stop true)
 else
 lJ a0 n (ak (x0 + 1))
 else
 some (.next ())
def lH (a0 : aQ) (a1 : Int) (ref10_much_rec : aQ → Int → Option Bool) : Nat → Int → Option (Ctl (Bool) (Unit))
 | 0, _ => none
 | n + 1, x0 =>
 if (decide (x0 < (a0.bM.length : Int))) then
 (idx a0.bM x0).bind fun y0 =>
 (ref10_much_rec y0 (ak (a1 - 1))).bind fun y1 =>
 if y1 = true then
 some (.stop true)
 else
 lH a0 a1 ref10_much_rec n (ak (x0 + 1))
 else
 some (.next ())
def lm (a0 : aQ) (a1 : Int) (ref10_much_rec : aQ → Int → Option Bool) : Nat → Int → Option (Ctl (Bool) (Unit))
 | 0, _ => none
 | n + 1, x0 =>
 if (decide (x0 < (a0.dp.length : Int))) then
 (idx a0.dp x0).bind fun y0 =>
 (ref10_much_rec y0 (ak (a1 - 1))).bind fun y1 =>
 if y1 = true then
 some (.stop true)
 else
 lm a0 a1 ref10_much_rec n (ak (x0 + 1))
 else
 some (.next ())
def iI : Nat → aQ → Int → Option Bool
 | 0, _, _ => none
 | n + 1, a0, a1 =>
 (if (decide (a1 < 0)) then
 some true
 else
 if (decide ((a0.bM.length : Int) > 500)) then
 some true
 else
 if (decide ((a0.dp.length : Int) > 500)) then
 some true
 else
 if (decide ((a0.dH.length : Int) > 20)) then
 some true
 else
 (jw (dh a0.fE + 1) a0.fE 25).bind fun y5 =>
 some y5 : Option (Bool)).bind fun x7 =>
 if x7 = true then
 some true
 else
 (lJ a0 ((a0.dH.length - 0 : Int).toNat + 1) 0).bind fun lr0 =>
 Ctl.elim lr0 (fun v => some v) fun _ =>
 (lH a0 a1 (iI n) ((a0.bM.length - 0 : Int).toNat + 1) 0).bind fun lr1 =>
 Ctl.elim lr1 (fun v => some v) fun _ =>
 (lm a0 a1 (iI n) ((a0.dp.length - 0 : Int).toNat + 1) 0).bind fun lr2 =>
 Ctl.elim lr2 (fun v => some v) fun _ =>
 some false
def im (a0 : aQ) (ref08_Size_rec : aQ → Option Int) : Nat → Int → Int → Option (Int)
 | 0, _, _ => none
 | n + 1, x0, x1 =>
 if (decide (x1 < (a0.bM.length : Int))) then
 (idx a0.bM x1).bind fun y0 =>
 (ref08_Size_rec y0).bind fun (y1 : Int) =>
 im a0 ref08_Size_rec n (ak (x0 + y1)) (ak (x1 + 1))
 else
 some x0
def iq (a0 : aQ) (ref08_Size_rec : aQ → Option Int) : Nat → Int → Int → Option (Int)
 | 0, _, _ => none
 | n + 1, x0, x1 =>
 if (decide (x1 < (a0.dp.length : Int))) then
 (idx a0.dp x1).bind fun y0 =>
 (ref08_Size_rec y0).bind fun (y1 : Int) =>
 iq a0 ref08_Size_rec n (ak (x0 + y1)) (ak (x1 + 1))
 else
 some x0
def fK : Nat → aQ → Option Int
 | 0, _ => none
 | n + 1, a0 =>
 (im a0 (fK n) ((a0.bM.length - 0 : Int).toNat + 1) 1 0).bind fun x0 =>
 (iq a0 (fK n) ((a0.dp.length - 0 : Int).toNat + 1) x0 0).bind fun x1 =>
 some x1
def lX (y0 : aI) : Nat → Int → Int → Option (Ctl (Bool) (Int))
 | 0, _, _ => none
 | n + 1, x0, x1 =>
 if (decide (x1 < (y0.bM.length : Int))) then
 (if (decide (x0 > 500)) then
 some true
 else
 (idx y0.bM x1).bind fun y1 =>
 (iI (dE y1 + 1) y1 25).bind fun y2 =>
 some y2 : Option (Bool)).bind fun x2 =>
 if x2 = true then
 some (.stop true)
 else
 (idx y0.bM x1).bind fun y3 =>
 (fK (dE y3 + 1) y3).bind fun (y4 : Int) =>
 lX y0 n (ak (x0 + y4)) (ak (x1 + 1))
 else
 some (.next x0)
def kD (y0 : ae) : Nat → Int → Int → Option (Ctl (Bool) (Int))
 | 0, _, _ => none
 | n + 1, x0, x1 =>
 if (decide (x1 < (y0.ah.length : Int))) then
 (idx y0.ah x1).bind fun y1 =>
 (if (decide ((y1.ap.length : Int) > 40)) then
 some true
 else
 if (decide ((y1.cy.length : Int) > 40)) then
 some true
 else
 if (decide ((y1.bM.length : Int) > 500)) then
 some true
 else
 (nw y1).bind fun (y2 : Int) =>
 some (decide (y2 > 8)) : Option (Bool)).bind fun x2 =>
 if x2 = true then
 some (.stop true)
 else
 (lX y1 ((y1.bM.length - 0 : Int).toNat + 1) x0 0).bind fun lr0 =>
 Ctl.elim lr0 (fun v => some (.stop v)) fun x3 =>
 kD y0 n x3 (ak (x1 + 1))
 else
 some (.next x0)
def ke (a0 : List ae) : Nat → Int → Int → Option (Ctl (Bool) (Int))
 | 0, _, _ => none
 | n + 1, x0, x1 =>
 if (decide (x1 < (a0.length : Int))) then
 (idx a0 x1).bind fun y0 =>
 (if (decide ((a0.length : Int) > 30)) then
 some true
 else
 if (decide ((y0.ap.length : Int) > 20)) then
 some true
 else
 if (decide ((y0.ey.length : Int) > 20)) then
 some true
 else
 if (decide ((y0.cm.length : Int) > 40)) then
 some true
 else
 some (decide ((y0.ah.length : Int) > 40)) : Option (Bool)).bind fun x2 =>
 if x2 = true then
 some (.stop true)
 else
 (kD y0 ((y0.ah.length - 0 : Int).toNat + 1) x0 0).bind fun lr0 =>
 Ctl.elim lr0 (fun v => some (.stop v)) fun x3 =>
 ke a0 n x3 (ak (x1 + 1))
 else
 some (.next x0)
def qJ (a0 : List ae) : Option Bool :=
 (ke a0 ((a0.length - 0 : Int).toNat + 1) 0 0).bind fun lr0 =>
 Ctl.elim lr0 (fun v => some v) fun x0 =>
 some (decide (x0 > 500))
def jG (a0 : Int) : Option Bool :=
 if (decide (a0 ≥ 97)) then
 if (decide (a0 ≤ 122)) then
 some true
 else
 if (decide (a0 ≥ 65)) then
 some (decide (a0 ≤ 90))
 else
 some false
 else
 if (decide (a0 ≥ 65)) then
 some (decide (a0 ≤ 90))
 else
 some false
def qM  : Option (List (List UInt8)) :=
 some [[99, 108, 97, 115, 115], [101, 120, 116, 101, 110, 100, 115], [114, 101, 112], [112, 101, 101, 114], [119, 111, 114, 108, 100], [97, 110, 121], [117, 110, 105, 113, 117, 101], [112, 117, 114, 101], [118, 111, 105, 100], [105, 110, 116], [105, 102], [101, 108, 115, 101], [119, 104, 105, 108, 101], [114, 101, 116, 117, 114, 110], [110, 101, 119], [109, 111, 118, 101], [100, 101, 108, 101, 116, 101], [116, 104, 105, 115], [110, 117, 108, 108], [105, 110, 112, 117, 116], [110, 105, 108], [115, 97, 109, 101], [99, 97, 115, 116]]
def lz (a0 : List UInt8) (y3 : (List (List UInt8))) : Nat → Int → Option (Ctl (Int) (Unit))
 | 0, _ => none
 | n + 1, x0 =>
 if (decide (x0 < (y3.length : Int))) then
 (idx y3 x0).bind fun y0 =>
 if (y0 == a0) then
 some (.stop (ak (x0 + 1)))
 else
 lz a0 y3 n (ak (x0 + 1))
 else
 some (.next ())
def pT (a0 : List UInt8) : Option Int :=
 Option.bind qM fun (y3 : (List (List UInt8))) =>
 (lz a0 y3 ((y3.length - 0 : Int).toNat + 1) 0).bind fun lr0 =>
 Ctl.elim lr0 (fun v => some v) fun _ =>
 some 0
def jJ (a0 : Int) : Option Bool :=
 if (decide (a0 ≥ 48)) then
 some (decide (a0 ≤ 57))
 else
 some false
def lB (a0 : List UInt8) : Nat → Int → Option (Ctl (Bool) (Unit))
 | 0, _ => none
 | n + 1, x0 =>
 if (decide (x0 < (a0.length : Int))) then
 ((idx a0 x0).bind fun (y0 : UInt8) =>
 (jG (y0.toNat : Int)).bind fun y1 =>
 if (!y1) then
 (idx a0 x0).bind fun (y2 : UInt8) =>
 (jJ (y2.toNat : Int)).bind fun y3 =>
 some (!y3)
 else
 some false : Option (Bool)).bind fun x1 =>
 if x1 = true then
 some (.stop false)
 else
 lB a0 n (ak (x0 + 1))
 else
 some (.next ())
def dL (a0 : List UInt8) : Option Bool :=
 (if (decide ((a0.length : Int) < 1)) then
 some true
 else
 if (decide ((a0.length : Int) > 20)) then
 some true
 else
 (idx a0 0).bind fun (y3 : UInt8) =>
 (jG (y3.toNat : Int)).bind fun y5 =>
 if (!y5) then
 some true
 else
 (pT a0).bind fun (y8 : Int) =>
 some (decide (y8 > 0)) : Option (Bool)).bind fun x0 =>
 if x0 = true then
 some false
 else
 (lB a0 ((a0.length - 0 : Int).toNat + 1) 0).bind fun lr0 =>
 Ctl.elim lr0 (fun v => some v) fun _ =>
 some true
def mC (a0 : bH) (a1 : Int) : Option Bool :=
 if (a0.ab == 3) then
 if (decide (a0.fN ≥ 1)) then
 some (decide (a0.fN ≤ a1))
 else
 some false
 else
 if (a0.ab == 7) then
 some (decide (a0.fN ≥ 0))
 else
 if (a0.fN == 0) then
 if (a0.ab == 1) then
 some true
 else
 if (a0.ab == 2) then
 some true
 else
 if (a0.ab == 4) then
 some true
 else
 if (a0.ab == 5) then
 some true
 else
 some (a0.ab == 6)
 else
 some false
def qX (a0 : aQ) : Option aQ :=
 ((if (a0.ab == 1) then
 some true
 else
 if (a0.ab == 2) then
 some true
 else
 if (a0.ab == 4) then
 some true
 else
 if (a0.ab == 5) then
 some true
 else
 if (a0.ab == 6) then
 some true
 else
 some (a0.ab == 7) : Option (Bool)).bind fun x6 =>
 if x6 = true then
 some ({ a0 with fX := [] } : aQ)
 else
 some a0 : Option (aQ)).bind fun x0 =>
 ((if (a0.ab == 2) then
 some true
 else
 if (a0.ab == 3) then
 some true
 else
 if (a0.ab == 4) then
 some true
 else
 if (a0.ab == 7) then
 some true
 else
 some (a0.ab == 8) : Option (Bool)).bind fun x1 =>
 if x1 = true then
 some ({ x0 with fY := [] } : aQ)
 else
 some x0 : Option (aQ)).bind fun x2 =>
 ((if (a0.ab == 2) then
 some true
 else
 if (a0.ab == 3) then
 some true
 else
 some (a0.ab == 4) : Option (Bool)).bind fun x3 =>
 if x3 = true then
 some ({ x2 with ax := [] } : aQ)
 else
 some x2 : Option (aQ)).bind fun x4 =>
 ((if (a0.ab == 5) then
 some true
 else
 some (a0.ab == 6) : Option (Bool)).bind fun x5 =>
 if x5 = true then
 some ({ x4 with aO := ({ ab := 0, aq := [], fN := 0, aK := (⟨am, am, am, am⟩ : A4 bH) } : bV) } : aQ)
 else
 some x4 : Option (aQ)).bind fun x7 =>
 ((if (a0.ab == 1) then
 some true
 else
 if (a0.ab == 3) then
 some true
 else
 if (a0.ab == 6) then
 some true
 else
 if (a0.ab == 9) then
 some true
 else
 if (a0.ab == 10) then
 some true
 else
 some (a0.ab == 11) : Option (Bool)).bind fun x8 =>
 if x8 = true then
 some ({ x7 with fE := ({ ab := 0, eh := 0, ax := [], cY := [] } : cD) } : aQ)
 else
 some x7 : Option (aQ)).bind fun x9 =>
 (if (a0.ab == 4) then
 some ({ x9 with dH := [] } : aQ)
 else
 some x9 : Option (aQ)).bind fun x11 =>
 ((if (a0.ab == 9) then
 some true
 else
 some (a0.ab == 10) : Option (Bool)).bind fun x12 =>
 if x12 = true then
 some ({ x11 with bM := [] } : aQ)
 else
 some x11 : Option (aQ)).bind fun x13 =>
 if (a0.ab == 9) then
 some ({ x13 with dp := [] } : aQ)
 else
 some x13
def lC (a0 : cD) (a1 : cD) (ref06_Same_rec : cD → cD → Option Bool) : Nat → Int → Option (Ctl (Bool) (Unit))
 | 0, _ => none
 | n + 1, x0 =>
 if (decide (x0 < (a0.cY.length : Int))) then
 (idx a0.cY x0).bind fun y0 =>
 (idx a1.cY x0).bind fun y1 =>
 (ref06_Same_rec y0 y1).bind fun y2 =>
 if (!y2) then
 some (.stop false)
 else
 lC a0 a1 ref06_Same_rec n (ak (x0 + 1))
 else
 some (.next ())
def ig : Nat → cD → cD → Option Bool
 | 0, _, _ => none
 | n + 1, a0, a1 =>
 (if (a0.ab != a1.ab) then
 some true
 else
 if (a0.eh != a1.eh) then
 some true
 else
 if (!(a0.ax == a1.ax)) then
 some true
 else
 some ((a0.cY.length : Int) != (a1.cY.length : Int)) : Option (Bool)).bind fun x4 =>
 if x4 = true then
 some false
 else
 (lC a0 a1 (ig n) ((a0.cY.length - 0 : Int).toNat + 1) 0).bind fun lr0 =>
 Ctl.elim lr0 (fun v => some v) fun _ =>
 some true
def rI (a0 : aQ) : Option Bool :=
 (qX a0).bind fun y3 =>
 if (decide (a0.ab ≥ 1)) then
 if (decide (a0.ab ≤ 11)) then
 if (y3.fX == []) then
 if (y3.fY == []) then
 if (y3.ax == []) then
 if (Jt y3.aO cT) then
 (ig (dh y3.fE + dh si + 1) y3.fE si).bind fun y0 =>
 if y0 = true then
 some ((ak ((ak ((y3.dH.length : Int) + (y3.bM.length : Int))) + (y3.dp.length : Int))) == 0)
 else
 some false
 else
 some false
 else
 some false
 else
 some false
 else
 some false
 else
 some false
 else
 some false
def ku (a0 : bV) (a1 : Int) : Nat → Int → Option (Ctl (Bool) (Unit))
 | 0, _ => none
 | n + 1, x0 =>
 if (decide (x0 < 4)) then
 (idx (a0.aK).l x0).bind fun y0 =>
 (if (decide (x0 > a0.fN)) then
 if (!(OI y0 am)) then
 some true
 else
 if (decide (x0 ≤ a0.fN)) then
 (mC y0 a1).bind fun y1 =>
 if (!y1) then
 some true
 else
 if (decide (x0 > 0)) then
 some (y0.ab == 6)
 else
 some false
 else
 some false
 else
 if (decide (x0 ≤ a0.fN)) then
 (mC y0 a1).bind fun y2 =>
 if (!y2) then
 some true
 else
 if (decide (x0 > 0)) then
 some (y0.ab == 6)
 else
 some false
 else
 some false : Option (Bool)).bind fun x1 =>
 if x1 = true then
 some (.stop false)
 else
 ku a0 a1 n (ak (x0 + 1))
 else
 some (.next ())
def kW (a0 : bV) (a1 : Int) : Option Bool :=
 (if (a0.ab == 0) then
 some true
 else
 some (a0.ab == 1) : Option (Bool)).bind fun x2 =>
 if x2 = true then
 some (Jt a0 (⟨a0.ab, [], 0, (⟨am, am, am, am⟩ : A4 bH)⟩ : bV))
 else
 (if (a0.ab != 2) then
 some true
 else
 (dL a0.aq).bind fun y7 =>
 if (!y7) then
 some true
 else
 if (decide (a0.fN < 0)) then
 some true
 else
 some (decide (a0.fN > 3)) : Option (Bool)).bind fun x0 =>
 if x0 = true then
 some false
 else
 (ku a0 a1 (((4 : Int) - (0)).toNat + 1) 0).bind fun lr0 =>
 Ctl.elim lr0 (fun v => some v) fun _ =>
 some true
def qI (a0 : aQ) (a1 : Int) : Option Bool :=
 ((dL a0.fX).bind fun y3 =>
 if y3 = true then
 some true
 else
 if (a0.ab == 4) then
 if (a0.fX == []) then
 some true
 else
 if (a0.ab == 3) then
 some true
 else
 if (a0.ab == 8) then
 some true
 else
 some (decide (a0.ab ≥ 9))
 else
 if (a0.ab == 3) then
 some true
 else
 if (a0.ab == 8) then
 some true
 else
 some (decide (a0.ab ≥ 9)) : Option (Bool)).bind fun x0 =>
 ((dL a0.fY).bind fun y0 =>
 if y0 = true then
 some true
 else
 if (a0.ab == 2) then
 if (a0.fY == [116, 104, 105, 115]) then
 some true
 else
 if (a0.ab == 1) then
 some true
 else
 if (a0.ab == 5) then
 some true
 else
 if (a0.ab == 6) then
 some true
 else
 some (decide (a0.ab ≥ 9))
 else
 if (a0.ab == 3) then
 if (a0.fY == [116, 104, 105, 115]) then
 some true
 else
 if (a0.ab == 1) then
 some true
 else
 if (a0.ab == 5) then
 some true
 else
 if (a0.ab == 6) then
 some true
 else
 some (decide (a0.ab ≥ 9))
 else
 if (a0.ab == 4) then
 if (a0.fY == [116, 104, 105, 115]) then
 some true
 else
 if (a0.ab == 1) then
 some true
 else
 if (a0.ab == 5) then
 some true
 else
 if (a0.ab == 6) then
 some true
 else
 some (decide (a0.ab ≥ 9))
 else
 if (a0.ab == 1) then
 some true
 else
 if (a0.ab == 5) then
 some true
 else
 if (a0.ab == 6) then
 some true
 else
 some (decide (a0.ab ≥ 9)) : Option (Bool)).bind fun x1 =>
 ((dL a0.ax).bind fun y1 =>
 if y1 = true then
 some true
 else
 if (a0.ab != 2) then
 if (a0.ab != 3) then
 some (a0.ab != 4)
 else
 some false
 else
 some false : Option (Bool)).bind fun x2 =>
 (if (a0.aO.ab == 2) then
 (kW a0.aO a1).bind fun y2 =>
 if y2 = true then
 some true
 else
 if (a0.ab != 5) then
 some (a0.ab != 6)
 else
 some false
 else
 if (a0.ab != 5) then
 some (a0.ab != 6)
 else
 some false : Option (Bool)).bind fun x3 =>
 if x0 = true then
 if x1 = true then
 if x2 = true then
 some x3
 else
 some false
 else
 some false
 else
 some false
def sh (a0 : Int) : Option Int :=
 (if (decide (a0 ≥ 6)) then
 if (decide (a0 ≤ 11)) then
 some true
 else
 some (a0 == 14)
 else
 some (a0 == 14) : Option (Bool)).bind fun x3 =>
 if x3 = true then
 some 2
 else
 (if (a0 == 12) then
 some true
 else
 some (a0 == 13) : Option (Bool)).bind fun x8 =>
 if x8 = true then
 some 1
 else
 some 0
def lx (a0 : cD) (ref06_form_rec : cD → Option Bool) : Nat → Int → Option (Ctl (Bool) (Unit))
 | 0, _ => none
 | n + 1, x0 =>
 if (decide (x0 < (a0.cY.length : Int))) then
 (idx a0.cY x0).bind fun y0 =>
 ((idx a0.cY x0).bind fun y1 =>
 (ref06_form_rec y1).bind fun y2 =>
 if (!y2) then
 some true
 else
 if (a0.ab == 13) then
 if (y0.ab != 2) then
 if (y0.ab != 3) then
 some true
 else
 if (a0.ab == 14) then
 some false
 else
 some false
 else
 if (a0.ab == 14) then
 some false
 else
 some false
 else
 if (a0.ab == 14) then
 if (y0.ab != 2) then
 if (y0.ab != 3) then
 some (y0.ab != 4)
 else
 some false
 else
 some false
 else
 some false : Option (Bool)).bind fun x1 =>
 if x1 = true then
 some (.stop false)
 else
 lx a0 ref06_form_rec n (ak (x0 + 1))
 else
 some (.next ())
def jK : Nat → cD → Option Bool
 | 0, _ => none
 | n + 1, a0 =>
 (if (decide (a0.ab < 1)) then
 some true
 else
 if (decide (a0.ab > 14)) then
 some true
 else
 (sh a0.ab).bind fun (y3 : Int) =>
 if ((a0.cY.length : Int) != y3) then
 some true
 else
 if (a0.ab != 1) then
 if (a0.eh != 0) then
 some true
 else
 if (a0.ab != 2) then
 if (!(a0.ax == [])) then
 some true
 else
 if (decide (a0.eh < 0)) then
 some true
 else
 if (decide (a0.eh > 999999999)) then
 some true
 else
 if (a0.ab == 2) then
 (dL a0.ax).bind fun y0 =>
 some (!y0)
 else
 some false
 else
 if (decide (a0.eh < 0)) then
 some true
 else
 if (decide (a0.eh > 999999999)) then
 some true
 else
 if (a0.ab == 2) then
 (dL a0.ax).bind fun y1 =>
 some (!y1)
 else
 some false
 else
 if (a0.ab != 2) then
 if (!(a0.ax == [])) then
 some true
 else
 if (decide (a0.eh < 0)) then
 some true
 else
 if (decide (a0.eh > 999999999)) then
 some true
 else
 if (a0.ab == 2) then
 (dL a0.ax).bind fun y2 =>
 some (!y2)
 else
 some false
 else
 if (decide (a0.eh < 0)) then
 some true
 else
 if (decide (a0.eh > 999999999)) then
 some true
 else
 if (a0.ab == 2) then
 (dL a0.ax).bind fun y4 =>
 some (!y4)
 else
 some false : Option (Bool)).bind fun x0 =>
 if x0 = true then
 some false
 else
 (lx a0 (jK n) ((a0.cY.length - 0 : Int).toNat + 1) 0).bind fun lr0 =>
 Ctl.elim lr0 (fun v => some v) fun _ =>
 some true
def lj (a0 : cD) (ref06_Deep_rec : cD → Option Int) : Nat → Int → Int → Option (Int)
 | 0, _, _ => none
 | n + 1, x0, x1 =>
 if (decide (x1 < (a0.cY.length : Int))) then
 (idx a0.cY x1).bind fun y0 =>
 (ref06_Deep_rec y0).bind fun (y1 : Int) =>
 lj a0 ref06_Deep_rec n (if y1 > x0 then y1 else x0) (ak (x1 + 1))
 else
 some x0
def jM : Nat → cD → Option Int
 | 0, _ => none
 | n + 1, a0 =>
 (lj a0 (jM n) ((a0.cY.length - 0 : Int).toNat + 1) 0 0).bind fun x0 =>
 some (ak (x0 + 1))
def kS (a0 : cD) : Option Bool :=
 (jK (dh a0 + 1) a0).bind fun y1 =>
 if y1 = true then
 (jM (dh a0 + 1) a0).bind fun (y4 : Int) =>
 some (decide (y4 ≤ 20))
 else
 some false
def jk (a0 : aQ) : Nat → Int → Option (Ctl (Bool) (Unit))
 | 0, _ => none
 | n + 1, x0 =>
 if (decide (x0 < (a0.dH.length : Int))) then
 (idx a0.dH x0).bind fun y0 =>
 (kS y0).bind fun y1 =>
 if (!y1) then
 some (.stop false)
 else
 jk a0 n (ak (x0 + 1))
 else
 some (.next ())
def ql (a0 : aQ) : Option Bool :=
 (if (a0.ab == 2) then
 some true
 else
 if (a0.ab == 4) then
 some true
 else
 if (a0.ab == 5) then
 some true
 else
 if (a0.ab == 7) then
 some true
 else
 if (a0.ab == 8) then
 some true
 else
 if (a0.ab == 11) then
 (ig (dh a0.fE + dh si + 1) a0.fE si).bind fun y7 =>
 some y7
 else
 some false : Option (Bool)).bind fun x9 =>
 (if (!x9) then
 (kS a0.fE).bind fun y0 =>
 if (!y0) then
 some true
 else
 if (a0.ab == 6) then
 if (a0.fE.ab != 2) then
 if (a0.fE.ab != 3) then
 if (a0.fE.ab != 4) then
 some true
 else
 some (decide ((a0.dH.length : Int) > 5))
 else
 some (decide ((a0.dH.length : Int) > 5))
 else
 some (decide ((a0.dH.length : Int) > 5))
 else
 some (decide ((a0.dH.length : Int) > 5))
 else
 if (a0.ab == 6) then
 if (a0.fE.ab != 2) then
 if (a0.fE.ab != 3) then
 if (a0.fE.ab != 4) then
 some true
 else
 some (decide ((a0.dH.length : Int) > 5))
 else
 some (decide ((a0.dH.length : Int) > 5))
 else
 some (decide ((a0.dH.length : Int) > 5))
 else
 some (decide ((a0.dH.length : Int) > 5)) : Option (Bool)).bind fun x0 =>
 if x0 = true then
 some false
 else
 (jk a0 ((a0.dH.length - 0 : Int).toNat + 1) 0).bind fun lr0 =>
 Ctl.elim lr0 (fun v => some v) fun _ =>
 some true
def jS (a0 : aQ) (a1 : Int) (ref08_form_rec : aQ → Int → Option Bool) : Nat → Int → Option (Ctl (Bool) (Unit))
 | 0, _ => none
 | n + 1, x0 =>
 if (decide (x0 < (a0.bM.length : Int))) then
 (idx a0.bM x0).bind fun y0 =>
 (ref08_form_rec y0 a1).bind fun y1 =>
 if (!y1) then
 some (.stop false)
 else
 jS a0 a1 ref08_form_rec n (ak (x0 + 1))
 else
 some (.next ())
def jL (a0 : aQ) (a1 : Int) (ref08_form_rec : aQ → Int → Option Bool) : Nat → Int → Option (Ctl (Bool) (Unit))
 | 0, _ => none
 | n + 1, x0 =>
 if (decide (x0 < (a0.dp.length : Int))) then
 (idx a0.dp x0).bind fun y0 =>
 (ref08_form_rec y0 a1).bind fun y1 =>
 if (!y1) then
 some (.stop false)
 else
 jL a0 a1 ref08_form_rec n (ak (x0 + 1))
 else
 some (.next ())
def gJ : Nat → aQ → Int → Option Bool
 | 0, _, _ => none
 | n + 1, a0, a1 =>
 ((rI a0).bind fun y3 =>
 if (!y3) then
 some true
 else
 (qI a0 a1).bind fun y6 =>
 if (!y6) then
 some true
 else
 (ql a0).bind fun y9 =>
 some (!y9) : Option (Bool)).bind fun x0 =>
 if x0 = true then
 some false
 else
 (jS a0 a1 (gJ n) ((a0.bM.length - 0 : Int).toNat + 1) 0).bind fun lr0 =>
 Ctl.elim lr0 (fun v => some v) fun _ =>
 (jL a0 a1 (gJ n) ((a0.dp.length - 0 : Int).toNat + 1) 0).bind fun lr1 =>
 Ctl.elim lr1 (fun v => some v) fun _ =>
 some true
def lK (a0 : aQ) (ref08_Deep_rec : aQ → Option Int) : Nat → Int → Int → Option (Int)
 | 0, _, _ => none
 | n + 1, x0, x1 =>
 if (decide (x1 < (a0.bM.length : Int))) then
 (idx a0.bM x1).bind fun y0 =>
 (ref08_Deep_rec y0).bind fun (y1 : Int) =>
 lK a0 ref08_Deep_rec n (if y1 > x0 then y1 else x0) (ak (x1 + 1))
 else
 some x0
def lI (a0 : aQ) (ref08_Deep_rec : aQ → Option Int) : Nat → Int → Int → Option (Int)
 | 0, _, _ => none
 | n + 1, x0, x1 =>
 if (decide (x1 < (a0.dp.length : Int))) then
 (idx a0.dp x1).bind fun y0 =>
 (ref08_Deep_rec y0).bind fun (y1 : Int) =>
 lI a0 ref08_Deep_rec n (if y1 > x0 then y1 else x0) (ak (x1 + 1))
 else
 some x0
def iC : Nat → aQ → Option Int
 | 0, _ => none
 | n + 1, a0 =>
 (lK a0 (iC n) ((a0.bM.length - 0 : Int).toNat + 1) 0 0).bind fun x0 =>
 (lI a0 (iC n) ((a0.dp.length - 0 : Int).toNat + 1) x0 0).bind fun x1 =>
 some (ak (x1 + 1))
def mF (a0 : aQ) (a1 : Int) : Option Bool :=
 (gJ (dE a0 + 1) a0 a1).bind fun y1 =>
 if y1 = true then
 (iC (dE a0 + 1) a0).bind fun (y4 : Int) =>
 some (decide (y4 ≤ 20))
 else
 some false
def io (a0 : bV) (a1 : Int) : Option Bool :=
 (kW a0 a1).bind fun y1 =>
 if y1 = true then
 if (a0.aK.a1.ab != 7) then
 if (a0.aK.a2.ab != 7) then
 if (a0.aK.a3.ab != 7) then
 if (a0.aK.a0.ab != 7) then
 some true
 else
 some (a0.aK.a0.fN == 0)
 else
 some false
 else
 some false
 else
 some false
 else
 some false
def lq (a0 : List dU) (a2 : Int) : Nat → Int → Option (Ctl (Bool) (Unit))
 | 0, _ => none
 | n + 1, x0 =>
 if (decide (x0 < (a0.length : Int))) then
 ((idx a0 x0).bind fun y0 =>
 (dL y0.ax).bind fun y1 =>
 if (!y1) then
 some true
 else
 (idx a0 x0).bind fun y2 =>
 if (y2.aO.ab == 0) then
 some true
 else
 (idx a0 x0).bind fun y3 =>
 (io y3.aO a2).bind fun y4 =>
 some (!y4) : Option (Bool)).bind fun x1 =>
 if x1 = true then
 some (.stop false)
 else
 lq a0 a2 n (ak (x0 + 1))
 else
 some (.next ())
def iG (a0 : List dU) (a1 : Int) (a2 : Int) : Option Bool :=
 (lq a0 a2 ((a0.length - 0 : Int).toNat + 1) 0).bind fun lr0 =>
 Ctl.elim lr0 (fun v => some v) fun _ =>
 some (decide ((a0.length : Int) ≤ a1))
def ly (a0 : List aQ) (a1 : Int) (ref10_open_rec : (List aQ) → Int → Option Bool) : Nat → Int → Option (Ctl (Bool) (Unit))
 | 0, _ => none
 | n + 1, x0 =>
 if (decide (x0 < (a0.length : Int))) then
 ((idx a0 x0).bind fun y0 =>
 if (y0.aO.ab == 2) then
 (idx a0 x0).bind fun y1 =>
 (io y1.aO a1).bind fun y2 =>
 if (!y2) then
 some true
 else
 (idx a0 x0).bind fun y3 =>
 (ref10_open_rec y3.bM a1).bind fun y4 =>
 if (!y4) then
 some true
 else
 (idx a0 x0).bind fun y5 =>
 (ref10_open_rec y5.dp a1).bind fun y6 =>
 some (!y6)
 else
 (idx a0 x0).bind fun y7 =>
 (ref10_open_rec y7.bM a1).bind fun y8 =>
 if (!y8) then
 some true
 else
 (idx a0 x0).bind fun y9 =>
 (ref10_open_rec y9.dp a1).bind fun y10 =>
 some (!y10) : Option (Bool)).bind fun x1 =>
 if x1 = true then
 some (.stop false)
 else
 ly a0 a1 ref10_open_rec n (ak (x0 + 1))
 else
 some (.next ())
def ia : Nat → (List aQ) → Int → Option Bool
 | 0, _, _ => none
 | n + 1, a0, a1 =>
 (ly a0 a1 (ia n) ((a0.length - 0 : Int).toNat + 1) 0).bind fun lr0 =>
 Ctl.elim lr0 (fun v => some v) fun _ =>
 some true
def iB (a0 : aI) (a1 : Int) : Nat → Int → Option (Ctl (Bool) (Unit))
 | 0, _ => none
 | n + 1, x0 =>
 if (decide (x0 < (a0.bM.length : Int))) then
 (idx a0.bM x0).bind fun y0 =>
 (mF y0 a1).bind fun y1 =>
 if (!y1) then
 some (.stop false)
 else
 iB a0 a1 n (ak (x0 + 1))
 else
 some (.next ())
def oy (a0 : aI) (a1 : Int) : Option Bool :=
 (iB a0 a1 ((a0.bM.length - 0 : Int).toNat + 1) 0).bind fun lr0 =>
 Ctl.elim lr0 (fun v => some v) fun _ =>
 (dL a0.ax).bind fun y0 =>
 if y0 = true then
 (io a0.ca a1).bind fun y1 =>
 if y1 = true then
 (iG a0.ap 5 a1).bind fun y2 =>
 if y2 = true then
 (iG a0.cy 12 a1).bind fun y3 =>
 if y3 = true then
 (ia (dd a0.bM + 1) a0.bM a1).bind fun y4 =>
 some y4
 else
 some false
 else
 some false
 else
 some false
 else
 some false
def jt (a0 : ae) : Nat → Int → Option (Ctl (Bool) (Unit))
 | 0, _ => none
 | n + 1, x0 =>
 if (decide (x0 < (a0.ap.length : Int))) then
 (idx a0.ap x0).bind fun y0 =>
 (dL y0).bind fun y1 =>
 if (!y1) then
 some (.stop false)
 else
 jt a0 n (ak (x0 + 1))
 else
 some (.next ())
def jp (a0 : ae) : Nat → Int → Option (Ctl (Bool) (Unit))
 | 0, _ => none
 | n + 1, x0 =>
 if (decide (x0 < (a0.ey.length : Int))) then
 (idx a0.ey x0).bind fun y0 =>
 ((idx a0.ey x0).bind fun y1 =>
 (mC y1 (a0.ap.length : Int)).bind fun y2 =>
 if (!y2) then
 some true
 else
 if (y0.ab != 2) then
 if (y0.ab != 3) then
 some (y0.ab != 4)
 else
 some false
 else
 some false : Option (Bool)).bind fun x1 =>
 if x1 = true then
 some (.stop false)
 else
 jp a0 n (ak (x0 + 1))
 else
 some (.next ())
def jq (a0 : ae) : Nat → Int → Option (Ctl (Bool) (Unit))
 | 0, _ => none
 | n + 1, x0 =>
 if (decide (x0 < (a0.ah.length : Int))) then
 (idx a0.ah x0).bind fun y0 =>
 (oy y0 (a0.ap.length : Int)).bind fun y1 =>
 if (!y1) then
 some (.stop false)
 else
 jq a0 n (ak (x0 + 1))
 else
 some (.next ())
def qH (a0 : ae) : Option Bool :=
 (jt a0 ((a0.ap.length - 0 : Int).toNat + 1) 0).bind fun lr0 =>
 Ctl.elim lr0 (fun v => some v) fun _ =>
 (jp a0 ((a0.ey.length - 0 : Int).toNat + 1) 0).bind fun lr1 =>
 Ctl.elim lr1 (fun v => some v) fun _ =>
 (jq a0 ((a0.ah.length - 0 : Int).toNat + 1) 0).bind fun lr2 =>
 Ctl.elim lr2 (fun v => some v) fun _ =>
 (dL a0.ax).bind fun y0 =>
 if y0 = true then
 if (decide ((a0.ap.length : Int) ≤ 3)) then
 if (a0.di == []) then
 if ((a0.ey.length : Int) == 0) then
 (iG a0.cm 12 (a0.ap.length : Int)).bind fun y1 =>
 if y1 = true then
 some (decide ((a0.ah.length : Int) ≤ 12))
 else
 some false
 else
 (dL a0.di).bind fun y2 =>
 if y2 = true then
 if (decide ((a0.ey.length : Int) ≤ 3)) then
 (iG a0.cm 12 (a0.ap.length : Int)).bind fun y3 =>
 if y3 = true then
 some (decide ((a0.ah.length : Int) ≤ 12))
 else
 some false
 else
 some false
 else
 some false
 else
 (dL a0.di).bind fun y4 =>
 if y4 = true then
 if (decide ((a0.ey.length : Int) ≤ 3)) then
 (iG a0.cm 12 (a0.ap.length : Int)).bind fun y5 =>
 if y5 = true then
 some (decide ((a0.ah.length : Int) ≤ 12))
 else
 some false
 else
 some false
 else
 some false
 else
 some false
 else
 some false
def ki (a0 : ae) (x0 : Int) : Nat → Int → Int → Option (Int)
 | 0, _, _ => none
 | n + 1, x1, x2 =>
 (idx a0.ah x0).bind fun y0 =>
 if (decide (x2 < (y0.bM.length : Int))) then
 (idx a0.ah x0).bind fun y1 =>
 (idx y1.bM x2).bind fun y2 =>
 (fK (dE y2 + 1) y2).bind fun (y3 : Int) =>
 ki a0 x0 n (ak (x1 + y3)) (ak (x2 + 1))
 else
 some x1
def kj (a0 : ae) : Nat → Int → Int → Option (Int)
 | 0, _, _ => none
 | n + 1, x0, x1 =>
 if (decide (x1 < (a0.ah.length : Int))) then
 (ki a0 x1 (Option.getD ((idx a0.ah x1).bind fun y0 => some ((y0.bM.length - 0 : Int).toNat + 1)) 1) x0 0).bind fun x2 =>
 kj a0 n x2 (ak (x1 + 1))
 else
 some x0
def lY (a0 : ae) : Option Int :=
 (kj a0 ((a0.ah.length - 0 : Int).toNat + 1) 0 0).bind fun x0 =>
 some x0
def kx (a0 : List ae) : Nat → Int → Int → Option (Ctl (Bool) (Int))
 | 0, _, _ => none
 | n + 1, x0, x1 =>
 if (decide (x1 < (a0.length : Int))) then
 (if (decide ((a0.length : Int) > 20)) then
 some true
 else
 (idx a0 x1).bind fun y0 =>
 (qH y0).bind fun y1 =>
 some (!y1) : Option (Bool)).bind fun x2 =>
 if x2 = true then
 some (.stop false)
 else
 (idx a0 x1).bind fun y2 =>
 (lY y2).bind fun (y3 : Int) =>
 kx a0 n (ak (x0 + y3)) (ak (x1 + 1))
 else
 some (.next x0)
def qw (a0 : List ae) : Option Bool :=
 (kx a0 ((a0.length - 0 : Int).toNat + 1) 0 0).bind fun lr0 =>
 Ctl.elim lr0 (fun v => some v) fun x0 =>
 some (decide (x0 ≤ 400))
def gU (a0 : Int) (a1 : Int) : Option ce :=
 some (⟨a0, a1⟩ : ce)
def ni (a0 : List ae) (a1 : List UInt8) : Nat → Int → Option (Ctl (Int) (Unit))
 | 0, _ => none
 | n + 1, x7 =>
 if (decide (x7 < (a0.length : Int))) then
 (idx a0 x7).bind fun y0 =>
 if (y0.ax == a1) then
 some (.stop x7)
 else
 ni a0 a1 n (ak (x7 + 1))
 else
 some (.next ())
def ik (a0 : List ae) (a1 : List UInt8) : Option Int :=
 (ni a0 a1 ((a0.length - 0 : Int).toNat + 1) 0).bind fun lr0 =>
 Ctl.elim lr0 (fun v => some v) fun _ =>
 some (-1)
def iv (a0 : List (List UInt8)) (x0 : Int) : Nat → Int → Option (Ctl (Int) (Unit))
 | 0, _ => none
 | n + 1, x1 =>
 if (decide (x1 < x0)) then
 (idx a0 x1).bind fun y0 =>
 (idx a0 x0).bind fun y1 =>
 if (y0 == y1) then
 some (.stop x0)
 else
 iv a0 x0 n (ak (x1 + 1))
 else
 some (.next ())
def iu (a0 : List (List UInt8)) : Nat → Int → Option (Ctl (Int) (Unit))
 | 0, _ => none
 | n + 1, x0 =>
 if (decide (x0 < (a0.length : Int))) then
 (iv a0 x0 (((x0 : Int) - (0)).toNat + 1) 0).bind fun lr0 =>
 Ctl.elim lr0 (fun v => some (.stop v)) fun _ =>
 iu a0 n (ak (x0 + 1))
 else
 some (.next ())
def jH (a0 : List (List UInt8)) : Option Int :=
 (iu a0 ((a0.length - 0 : Int).toNat + 1) 0).bind fun lr0 =>
 Ctl.elim lr0 (fun v => some v) fun _ =>
 some (-1)
def ja (a0 : List ae) (a1 : List UInt8) : Option Int :=
 (ik a0 a1).bind fun (y3 : Int) =>
 if (decide (y3 < 0)) then
 some (-1)
 else
 (idx a0 y3).bind fun y6 =>
 some (y6.ap.length : Int)
def jj (a0 : aI) : Option (List dU) :=
 (li ((([] : List dU).length : Int) + (a0.ap.length : Int)) 120).bind fun u1 =>
 (li (((([] : List dU) ++ a0.ap).length : Int) + (a0.cy.length : Int)) 120).bind fun u3 =>
 some ((([] : List dU) ++ a0.ap) ++ a0.cy)
def gI (a0 : List aQ) (a1 : az) (ref12_lines_rec : (List aQ) → az → Option (List az)) : Nat → (List az) → Int → Option ((List az))
 | 0, _, _ => none
 | n + 1, x0, x1 =>
 if (decide (x1 < (a0.length : Int))) then
 (idx a0 x1).bind fun y0 =>
 (li ((x0.length : Int) + ([({ a1 with fS := y0 } : az)].length : Int)) 312).bind fun u0 =>
 (idx a0 x1).bind fun y1 =>
 (ref12_lines_rec y1.bM ({ ({ a1 with fS := y0 } : az) with dB := ak ((({ a1 with fS := y0 } : az).dB) + 1) } : az)).bind fun y2 =>
 (li (((x0 ++ [({ a1 with fS := y0 } : az)]).length : Int) + (y2.length : Int)) 312).bind fun u1 =>
 (idx a0 x1).bind fun y3 =>
 (ref12_lines_rec y3.dp ({ ({ a1 with fS := y0 } : az) with dB := ak ((({ a1 with fS := y0 } : az).dB) + 1) } : az)).bind fun y4 =>
 (li ((((x0 ++ [({ a1 with fS := y0 } : az)]) ++ y2).length : Int) + (y4.length : Int)) 312).bind fun u2 =>
 gI a0 a1 ref12_lines_rec n (((x0 ++ [({ a1 with fS := y0 } : az)]) ++ y2) ++ y4) (ak (x1 + 1))
 else
 some x0
def gv : Nat → (List aQ) → az → Option (List az)
 | 0, _, _ => none
 | n + 1, a0, a1 =>
 (gI a0 a1 (gv n) ((a0.length - 0 : Int).toNat + 1) [] 0).bind fun x0 =>
 some x0
def kz (a0 : List ae) (x0 : Int) : Nat → (List bz) → Int → Option ((List bz))
 | 0, _, _ => none
 | n + 1, x1, x2 =>
 (idx a0 x0).bind fun y0 =>
 if (decide (x2 < (y0.cm.length : Int))) then
 (idx a0 x0).bind fun y1 =>
 (idx y1.cm x2).bind fun y2 =>
 (li ((x1.length : Int) + ([(⟨x0, (-1), x2, y2.aO, y2.fAt⟩ : bz)].length : Int)) 128).bind fun u0 =>
 kz a0 x0 n (x1 ++ [(⟨x0, (-1), x2, y2.aO, y2.fAt⟩ : bz)]) (ak (x2 + 1))
 else
 some x1
def kr (x0 : Int) (x1 : Int) (y0 : (List dU)) : Nat → (List bz) → Int → Option ((List bz))
 | 0, _, _ => none
 | n + 1, x2, x3 =>
 if (decide (x3 < (y0.length : Int))) then
 (idx y0 x3).bind fun y1 =>
 (idx y0 x3).bind fun y2 =>
 (li ((x2.length : Int) + ([(⟨x0, x1, x3, y1.aO, y2.fAt⟩ : bz)].length : Int)) 128).bind fun u0 =>
 kr x0 x1 y0 n (x2 ++ [(⟨x0, x1, x3, y1.aO, y2.fAt⟩ : bz)]) (ak (x3 + 1))
 else
 some x2
def ky (x0 : Int) (x1 : Int) (y0 : (List az)) : Nat → (List bz) → Int → Option ((List bz))
 | 0, _, _ => none
 | n + 1, x2, x3 =>
 if (decide (x3 < (y0.length : Int))) then
 ((idx y0 x3).bind fun y1 =>
 if (y1.fS.aO.ab == 2) then
 (idx y0 x3).bind fun y2 =>
 (idx y0 x3).bind fun y3 =>
 (li ((x2.length : Int) + ([(⟨x0, x1, (-1), y2.fS.aO, y3.fS.fAt⟩ : bz)].length : Int)) 128).bind fun u0 =>
 some (x2 ++ [(⟨x0, x1, (-1), y2.fS.aO, y3.fS.fAt⟩ : bz)])
 else
 some x2 : Option ((List bz))).bind fun x4 =>
 ky x0 x1 y0 n x4 (ak (x3 + 1))
 else
 some x2
def jZ (a0 : List ae) (x0 : Int) : Nat → (List bz) → Int → Option ((List bz))
 | 0, _, _ => none
 | n + 1, x1, x2 =>
 (idx a0 x0).bind fun y0 =>
 if (decide (x2 < (y0.ah.length : Int))) then
 (idx a0 x0).bind fun y1 =>
 (idx y1.ah x2).bind fun y2 =>
 (li ((x1.length : Int) + ([(⟨x0, x2, (-1), y2.ca, y2.fAt⟩ : bz)].length : Int)) 128).bind fun u0 =>
 (jj y2).bind fun y3 =>
 (kr x0 x2 y3 ((y3.length - 0 : Int).toNat + 1) (x1 ++ [(⟨x0, x2, (-1), y2.ca, y2.fAt⟩ : bz)]) 0).bind fun x3 =>
 (gv (dd y2.bM + uu rk + 1) y2.bM rk).bind fun y4 =>
 (ky x0 x2 y4 ((y4.length - 0 : Int).toNat + 1) x3 0).bind fun x4 =>
 jZ a0 x0 n x4 (ak (x2 + 1))
 else
 some x1
def ko (a0 : List ae) : Nat → (List bz) → Int → Option ((List bz))
 | 0, _, _ => none
 | n + 1, x0, x1 =>
 if (decide (x1 < (a0.length : Int))) then
 (kz a0 x1 (Option.getD ((idx a0 x1).bind fun y0 => some ((y0.cm.length - 0 : Int).toNat + 1)) 1) x0 0).bind fun x2 =>
 (jZ a0 x1 (Option.getD ((idx a0 x1).bind fun y1 => some ((y1.ah.length - 0 : Int).toNat + 1)) 1) x2 0).bind fun x3 =>
 ko a0 n x3 (ak (x1 + 1))
 else
 some x0
def qA (a0 : List ae) : Option (List bz) :=
 (ko a0 ((a0.length - 0 : Int).toNat + 1) [] 0).bind fun x0 =>
 some x0
def kJ (a0 : List ae) (y7 : (List bz)) : Nat → Int → Option (Ctl (ce) (Unit))
 | 0, _ => none
 | n + 1, x0 =>
 if (decide (x0 < (y7.length : Int))) then
 Ctl.go (vk (idx y7 x0) fun (y0 : bz) =>
 if (y0.aO.ab != 2) then
 .next ()
 else
 vk (ja a0 y0.aO.aq) fun (y1 : Int) =>
 if (decide (y1 < 0)) then
 vk (idx y7 x0) fun (y2 : bz) =>
 vk (gU 8 y2.fAt) fun (y3 : ce) =>
 .stop (some (.stop y3))
 else
 vk (if (y0.aO.fN != 0) then
 some (y0.aO.fN != y1)
 else
 some false : Option (Bool)) fun x1 =>
 if x1 = true then
 vk (idx y7 x0) fun (y4 : bz) =>
 vk (gU 10 y4.fAt) fun (y5 : ce) =>
 .stop (some (.stop y5))
 else
 .next () : Ctl (Option (Ctl (ce) (Unit))) (Unit)) fun _ =>
 kJ a0 y7 n (ak (x0 + 1))
 else
 some (.next ())
def oj (a0 : List ae) (a1 : Int) : Option ce :=
 (pB a0 a1 (ak (a1 + 1))).bind fun y5 =>
 (qA y5).bind fun y7 =>
 (kJ a0 y7 ((y7.length - 0 : Int).toNat + 1) 0).bind fun lr0 =>
 Ctl.elim lr0 (fun v => some v) fun _ =>
 some bG
def lZ (a0 : List dU) : Nat → (List (List UInt8)) → Int → Option ((List (List UInt8)))
 | 0, _, _ => none
 | n + 1, x0, x1 =>
 if (decide (x1 < (a0.length : Int))) then
 (idx a0 x1).bind fun y0 =>
 (li ((x0.length : Int) + ([y0.ax].length : Int)) 16).bind fun u0 =>
 lZ a0 n (x0 ++ [y0.ax]) (ak (x1 + 1))
 else
 some x0
def oa (a0 : List dU) : Option (List (List UInt8)) :=
 (lZ a0 ((a0.length - 0 : Int).toNat + 1) [] 0).bind fun x0 =>
 some x0
def jv (y3 : ae) : Nat → (List (List UInt8)) → Int → Option (Ctl (ce) (Unit))
 | 0, _, _ => none
 | n + 1, x0, x1 =>
 if (decide (x1 < (y3.ah.length : Int))) then
 (idx y3.ah x1).bind fun y0 =>
 (li ((x0.length : Int) + ([y0.ax].length : Int)) 16).bind fun u0 =>
 (jH (x0 ++ [y0.ax])).bind fun (y1 : Int) =>
 if (decide (y1 ≥ 0)) then
 (gU 7 y0.fAt).bind fun y2 =>
 some (.stop y2)
 else
 (jj y0).bind fun y4 =>
 (oa y4).bind fun y5 =>
 (jH y5).bind fun (y6 : Int) =>
 if (decide (y6 ≥ 0)) then
 (idx y4 y6).bind fun y7 =>
 (gU 7 y7.fAt).bind fun y8 =>
 some (.stop y8)
 else
 jv y3 n (x0 ++ [y0.ax]) (ak (x1 + 1))
 else
 some (.next ())
def qL (a0 : List ae) (a1 : Int) : Option ce :=
 (idx a0 a1).bind fun y3 =>
 ((ik a0 y3.ax).bind fun (y7 : Int) =>
 if (decide (y7 < a1)) then
 some true
 else
 (jH y3.ap).bind fun (y0 : Int) =>
 some (decide (y0 ≥ 0)) : Option (Bool)).bind fun x0 =>
 if x0 = true then
 (gU 7 y3.fAt).bind fun y1 =>
 some y1
 else
 (if (!(y3.di == [])) then
 (ik a0 y3.di).bind fun (y2 : Int) =>
 some (decide (y2 < 0))
 else
 some false : Option (Bool)).bind fun x1 =>
 if x1 = true then
 (gU 8 y3.fAt).bind fun y4 =>
 some y4
 else
 (if (!(y3.di == [])) then
 (ja a0 y3.di).bind fun (y5 : Int) =>
 some (y5 != (y3.ey.length : Int))
 else
 some false : Option (Bool)).bind fun x2 =>
 if x2 = true then
 (gU 10 y3.fAt).bind fun y6 =>
 some y6
 else
 (oj a0 a1).bind fun y8 =>
 if (y8.dA != 0) then
 some y8
 else
 (oa y3.cm).bind fun y9 =>
 (jH y9).bind fun (y11 : Int) =>
 if (decide (y11 ≥ 0)) then
 (idx y3.cm y11).bind fun y12 =>
 (gU 7 y12.fAt).bind fun y13 =>
 some y13
 else
 (jv y3 ((y3.ah.length - 0 : Int).toNat + 1) [] 0).bind fun lr0 =>
 Ctl.elim lr0 (fun v => some v) fun _ =>
 some bG
def kc (a0 : List ae) : Nat → Int → Option (Ctl (ce) (Unit))
 | 0, _ => none
 | n + 1, x0 =>
 if (decide (x0 < (a0.length : Int))) then
 (qL a0 x0).bind fun y0 =>
 if (y0.dA != 0) then
 some (.stop y0)
 else
 kc a0 n (ak (x0 + 1))
 else
 some (.next ())
def qO (a0 : List ae) : Option ce :=
 (qw a0).bind fun y3 =>
 if (!y3) then
 (gU 28 0).bind fun y6 =>
 some y6
 else
 (kc a0 ((a0.length - 0 : Int).toNat + 1) 0).bind fun lr0 =>
 Ctl.elim lr0 (fun v => some v) fun _ =>
 some bG
def pc (a0 : List Int) (a1 : Int) : Nat → Int → Option (Ctl (Bool) (Unit))
 | 0, _ => none
 | n + 1, x7 =>
 if (decide (x7 < (a0.length : Int))) then
 (idx a0 x7).bind fun (y0 : Int) =>
 if (y0 == a1) then
 some (.stop true)
 else
 pc a0 a1 n (ak (x7 + 1))
 else
 some (.next ())
def pM (a0 : List Int) (a1 : Int) : Option Bool :=
 (pc a0 a1 ((a0.length - 0 : Int).toNat + 1) 0).bind fun lr0 =>
 Ctl.elim lr0 (fun v => some v) fun _ =>
 some false
def mo (a0 : List ae) : Nat → (List Int) → Int → Option (Ctl ((List Int)) ((List Int)))
 | 0, _, _ => none
 | n + 1, x0, x1 =>
 (if (decide (x1 ≥ 0)) then
 (pM x0 x1).bind fun y0 =>
 some (!y0)
 else
 some false : Option (Bool)).bind fun x2 =>
 if x2 = true then
 (li ((x0.length : Int) + ([x1].length : Int)) 8).bind fun u0 =>
 (idx a0 x1).bind fun y1 =>
 if (y1.di == []) then
 some (.stop (x0 ++ [x1]))
 else
 (idx a0 x1).bind fun y2 =>
 (ik a0 y2.di).bind fun (y3 : Int) =>
 mo a0 n (x0 ++ [x1]) y3
 else
 some (.next x0)
def iY (a0 : List ae) (a1 : List UInt8) : Option (List Int) :=
 (ik a0 a1).bind fun (y3 : Int) =>
 (mo a0 (a0.length + 2) [] y3).bind fun lr0 =>
 Ctl.elim lr0 (fun v => some v) fun x0 =>
 some x0
def lV (a0 : List ae) : Nat → Int → Option (Ctl (ce) (Unit))
 | 0, _ => none
 | n + 1, x0 =>
 if (decide (x0 < (a0.length : Int))) then
 (idx a0 x0).bind fun y0 =>
 (iY a0 y0.ax).bind fun y1 =>
 (idx y1 (ak ((y1.length : Int) - 1))).bind fun (y2 : Int) =>
 (idx a0 y2).bind fun y3 =>
 (if (!(y3.di == [])) then
 (ik a0 y3.di).bind fun (y4 : Int) =>
 (pM y1 y4).bind fun y5 =>
 some y5
 else
 some false : Option (Bool)).bind fun x1 =>
 if x1 = true then
 (idx a0 x0).bind fun y6 =>
 some (.stop (⟨9, y6.fAt⟩ : ce))
 else
 lV a0 n (ak (x0 + 1))
 else
 some (.next ())
def qx (a0 : List ae) : Option ce :=
 (lV a0 ((a0.length - 0 : Int).toNat + 1) 0).bind fun lr0 =>
 Ctl.elim lr0 (fun v => some v) fun _ =>
 some bG
def mp (a0 : List ae) (x0 : Int) (x1 : Int) (x2 : Int) (y0 : (List Int)) (y1 : ae) : Nat → Int → Option (Ctl (ce) (Unit))
 | 0, _ => none
 | n + 1, x3 =>
 (if (decide (x3 < (y1.cm.length : Int))) then
 (idx y0 x2).bind fun (y2 : Int) =>
 some (y2 != x0)
 else
 some false : Option (Bool)).bind fun x4 =>
 if x4 = true then
 (idx y1.cm x3).bind fun y3 =>
 (idx a0 x0).bind fun y4 =>
 (idx y4.cm x1).bind fun y5 =>
 if (y3.ax == y5.ax) then
 (idx a0 x0).bind fun y6 =>
 (idx y6.cm x1).bind fun y7 =>
 some (.stop (⟨7, y7.fAt⟩ : ce))
 else
 mp a0 x0 x1 x2 y0 y1 n (ak (x3 + 1))
 else
 some (.next ())
def kC (a0 : List ae) (x0 : Int) (x1 : Int) (y0 : (List Int)) : Nat → Int → Option (Ctl (ce) (Unit))
 | 0, _ => none
 | n + 1, x2 =>
 if (decide (x2 < (y0.length : Int))) then
 (idx y0 x2).bind fun (y1 : Int) =>
 (idx a0 y1).bind fun y2 =>
 (mp a0 x0 x1 x2 y0 y2 42 0).bind fun lr0 =>
 Ctl.elim lr0 (fun v => some (.stop v)) fun _ =>
 kC a0 x0 x1 y0 n (ak (x2 + 1))
 else
 some (.next ())
def kf (a0 : List ae) (x0 : Int) (y0 : (List Int)) : Nat → Int → Option (Ctl (ce) (Unit))
 | 0, _ => none
 | n + 1, x1 =>
 (idx a0 x0).bind fun y1 =>
 if (decide (x1 < (y1.cm.length : Int))) then
 (kC a0 x0 x1 y0 ((y0.length - 0 : Int).toNat + 1) 0).bind fun lr0 =>
 Ctl.elim lr0 (fun v => some (.stop v)) fun _ =>
 kf a0 x0 y0 n (ak (x1 + 1))
 else
 some (.next ())
def kI (a0 : List ae) : Nat → Int → Option (Ctl (ce) (Unit))
 | 0, _ => none
 | n + 1, x0 =>
 if (decide (x0 < (a0.length : Int))) then
 (idx a0 x0).bind fun y0 =>
 (iY a0 y0.ax).bind fun y1 =>
 (kf a0 x0 y1 (Option.getD ((idx a0 x0).bind fun y2 => some ((y2.cm.length - 0 : Int).toNat + 1)) 1) 0).bind fun lr0 =>
 Ctl.elim lr0 (fun v => some (.stop v)) fun _ =>
 kI a0 n (ak (x0 + 1))
 else
 some (.next ())
def qv (a0 : List ae) : Option ce :=
 (kI a0 ((a0.length - 0 : Int).toNat + 1) 0).bind fun lr0 =>
 Ctl.elim lr0 (fun v => some v) fun _ =>
 some bG
def oz (a0 : ae) (a1 : List UInt8) : Nat → Int → Option (Ctl (cn × Bool) (Unit))
 | 0, _ => none
 | n + 1, x9 =>
 if (decide (x9 < (a0.ah.length : Int))) then
 (idx a0.ah x9).bind fun y0 =>
 if (y0.ax == a1) then
 (idx a0.ah x9).bind fun y1 =>
 some (.stop ((⟨a0.ax, y1⟩ : cn), true))
 else
 oz a0 a1 n (ak (x9 + 1))
 else
 some (.next ())
def tU (a0 : ae) (a1 : List UInt8) : Option (cn × Bool) :=
 (oz a0 a1 ((a0.ah.length - 0 : Int).toNat + 1) 0).bind fun lr0 =>
 Ctl.elim lr0 (fun v => some v) fun _ =>
 some (dr, false)
def mu (a0 : List ae) (a1 : List Int) (a2 : List UInt8) : Nat → Int → Option (Ctl (cn × Bool) (Unit))
 | 0, _ => none
 | n + 1, x0 =>
 if (decide (x0 < (a1.length : Int))) then
 (idx a1 x0).bind fun (y0 : Int) =>
 (idx a0 y0).bind fun y1 =>
 (tU y1 a2).bind fun y2 =>
 if y2.2 = true then
 some (.stop (y2.1, true))
 else
 mu a0 a1 a2 n (ak (x0 + 1))
 else
 some (.next ())
def oq (a0 : List ae) (a1 : List Int) (a2 : List UInt8) : Option (cn × Bool) :=
 (mu a0 a1 a2 ((a1.length - 0 : Int).toNat + 1) 0).bind fun lr0 =>
 Ctl.elim lr0 (fun v => some v) fun _ =>
 some (dr, false)
def sr (a0 : List ae) (a1 : List UInt8) (a2 : List UInt8) : Option (cn × Bool) :=
 (iY a0 a1).bind fun y3 =>
 if ((y3.length : Int) == 0) then
 some (dr, false)
 else
 (pB y3 1 y3.length).bind fun y6 =>
 (oq a0 y6 a2).bind fun y8 =>
 some (y8.1, y8.2)
def dD (a0 : bV) : Option Bool :=
 if (a0.ab == 2) then
 some (a0.aK.a0.ab == 6)
 else
 some false
def mq (a0 : bV) (a1 : bV) : Option Bool :=
 if (a0.ab == a1.ab) then
 if (a0.ab != 2) then
 some true
 else
 if (a0.aq == a1.aq) then
 (dD a0).bind fun y4 =>
 (dD a1).bind fun y6 =>
 some (y4 == y6)
 else
 some false
 else
 some false
def nv (a0 : aI) (a1 : aI) : Nat → Int → Option (Ctl (Bool) (Unit))
 | 0, _ => none
 | n + 1, x0 =>
 if (decide (x0 < (a0.ap.length : Int))) then
 (idx a0.ap x0).bind fun y0 =>
 (idx a1.ap x0).bind fun y1 =>
 (mq y0.aO y1.aO).bind fun y2 =>
 if (!y2) then
 some (.stop false)
 else
 nv a0 a1 n (ak (x0 + 1))
 else
 some (.next ())
def nI (a0 : aI) (a1 : aI) : Option Bool :=
 (if a1.eN = true then
 if (!a0.eN) then
 some true
 else
 (mq a0.ca a1.ca).bind fun y3 =>
 if (!y3) then
 some true
 else
 some ((a0.ap.length : Int) != (a1.ap.length : Int))
 else
 (mq a0.ca a1.ca).bind fun y6 =>
 if (!y6) then
 some true
 else
 some ((a0.ap.length : Int) != (a1.ap.length : Int)) : Option (Bool)).bind fun x9 =>
 if x9 = true then
 some false
 else
 (nv a0 a1 ((a0.ap.length - 0 : Int).toNat + 1) 0).bind fun lr0 =>
 Ctl.elim lr0 (fun v => some v) fun _ =>
 some true
def kw (a0 : List ae) (x0 : Int) : Nat → Int → Option (Ctl (ce) (Unit))
 | 0, _ => none
 | n + 1, x1 =>
 (idx a0 x0).bind fun y0 =>
 if (decide (x1 < (y0.ah.length : Int))) then
 (idx a0 x0).bind fun y1 =>
 (idx y1.ah x1).bind fun y2 =>
 (idx a0 x0).bind fun y3 =>
 (sr a0 y3.ax y2.ax).bind fun y4 =>
 (if y4.2 = true then
 (nI y2 y4.1.aE).bind fun y5 =>
 some (!y5)
 else
 some false : Option (Bool)).bind fun x2 =>
 if x2 = true then
 some (.stop (⟨17, y2.fAt⟩ : ce))
 else
 kw a0 x0 n (ak (x1 + 1))
 else
 some (.next ())
def kd (a0 : List ae) : Nat → Int → Option (Ctl (ce) (Unit))
 | 0, _ => none
 | n + 1, x0 =>
 if (decide (x0 < (a0.length : Int))) then
 (kw a0 x0 (Option.getD ((idx a0 x0).bind fun y0 => some ((y0.ah.length - 0 : Int).toNat + 1)) 1) 0).bind fun lr0 =>
 Ctl.elim lr0 (fun v => some (.stop v)) fun _ =>
 kd a0 n (ak (x0 + 1))
 else
 some (.next ())
def qP (a0 : List ae) : Option ce :=
 (kd a0 ((a0.length - 0 : Int).toNat + 1) 0).bind fun lr0 =>
 Ctl.elim lr0 (fun v => some v) fun _ =>
 some bG
def jm (x0 : List ce) : Nat → Int → Option (Ctl (ce) (Unit))
 | 0, _ => none
 | n + 1, x1 =>
 if (decide (x1 < (x0.length : Int))) then
 (idx x0 x1).bind fun y0 =>
 if (y0.dA != 0) then
 (idx x0 x1).bind fun y1 =>
 some (.stop y1)
 else
 jm x0 n (ak (x1 + 1))
 else
 some (.next ())
def jx (a0 : List ae) (x0 : Int) : Nat → Int → Option (Ctl (ce) (Unit))
 | 0, _ => none
 | n + 1, x1 =>
 (idx a0 x0).bind fun y0 =>
 if (decide (x1 < (y0.cm.length : Int))) then
 (idx a0 x0).bind fun y1 =>
 (idx y1.cm x1).bind fun y2 =>
 (dD y2.aO).bind fun y3 =>
 if y3 = true then
 (idx a0 x0).bind fun y4 =>
 (idx y4.cm x1).bind fun y5 =>
 some (.stop (⟨22, y5.fAt⟩ : ce))
 else
 jx a0 x0 n (ak (x1 + 1))
 else
 some (.next ())
def gM (a0 : List ae) : Nat → Int → Option (Ctl (ce) (Unit))
 | 0, _ => none
 | n + 1, x0 =>
 if (decide (x0 < (a0.length : Int))) then
 (jx a0 x0 (Option.getD ((idx a0 x0).bind fun y0 => some ((y0.cm.length - 0 : Int).toNat + 1)) 1) 0).bind fun lr0 =>
 Ctl.elim lr0 (fun v => some (.stop v)) fun _ =>
 gM a0 n (ak (x0 + 1))
 else
 some (.next ())
def qm (a0 : List ae) : Option ce :=
 (qO a0).bind fun y3 =>
 ((idx [y3] 0).bind fun y7 =>
 if (y7.dA == 0) then
 (qx a0).bind fun y0 =>
 (qv a0).bind fun y1 =>
 (qP a0).bind fun y2 =>
 (li (([y3].length : Int) + ([y0, y1, y2].length : Int)) 16).bind fun u0 =>
 some ([y3] ++ [y0, y1, y2])
 else
 some [y3] : Option ((List ce))).bind fun x0 =>
 (jm x0 ((x0.length - 0 : Int).toNat + 1) 0).bind fun lr0 =>
 Ctl.elim lr0 (fun v => some v) fun _ =>
 (gM a0 ((a0.length - 0 : Int).toNat + 1) 0).bind fun lr1 =>
 Ctl.elim lr1 (fun v => some v) fun _ =>
 some bG
def mN (a0 : List ae) (x0 : Int) : Nat → (List az) → Int → Option ((List az))
 | 0, _, _ => none
 | n + 1, x1, x2 =>
 (idx a0 x0).bind fun y0 =>
 if (decide (x2 < (y0.ah.length : Int))) then
 (idx a0 x0).bind fun y1 =>
 (idx y1.ah x2).bind fun y2 =>
 (gv (dd y2.bM + uu (⟨x0, x2, 0, gh⟩ : az) + 1) y2.bM (⟨x0, x2, 0, gh⟩ : az)).bind fun y3 =>
 (li ((x1.length : Int) + (y3.length : Int)) 312).bind fun u0 =>
 mN a0 x0 n (x1 ++ y3) (ak (x2 + 1))
 else
 some x1
def mb (a0 : List ae) : Nat → (List az) → Int → Option ((List az))
 | 0, _, _ => none
 | n + 1, x0, x1 =>
 if (decide (x1 < (a0.length : Int))) then
 (mN a0 x1 (Option.getD ((idx a0 x1).bind fun y0 => some ((y0.ah.length - 0 : Int).toNat + 1)) 1) x0 0).bind fun x2 =>
 mb a0 n x2 (ak (x1 + 1))
 else
 some x0
def nR (a0 : List ae) : Option (List az) :=
 (mb a0 ((a0.length - 0 : Int).toNat + 1) [] 0).bind fun x0 =>
 some x0
def qN (a0 : List ae) (a1 : az) : Option ct :=
 (idx a0 a1.aq).bind fun y1 =>
 (idx a0 a1.aq).bind fun y3 =>
 (idx y3.ah a1.aE).bind fun y5 =>
 some (⟨a0, y1, y5⟩ : ct)
def lF (a0 : ae) : Nat → (List bH) → Int → Option ((List bH))
 | 0, _, _ => none
 | n + 1, x6, x7 =>
 if (decide (x7 < (a0.ap.length : Int))) then
 (li ((x6.length : Int) + ([(⟨3, ak (x7 + 1)⟩ : bH)].length : Int)) 16).bind fun u0 =>
 lF a0 n (x6 ++ [(⟨3, ak (x7 + 1)⟩ : bH)]) (ak (x7 + 1))
 else
 some x6
def nF (a0 : ae) : Option (List bH) :=
 (lF a0 ((a0.ap.length - 0 : Int).toNat + 1) [(⟨2, 0⟩ : bH)] 0).bind fun x0 =>
 some x0
def tv (y3 : (List bH)) : Nat → bV → Int → Option (bV)
 | 0, _, _ => none
 | n + 1, x0, x1 =>
 if (decide (x1 ≤ x0.fN)) then
 (idx y3 x1).bind fun y0 =>
 (idx (x0.aK).l x1).bind fun y1 =>
 tv y3 n ({ x0 with aK := (A4.set x0.aK (x1 : Int).toNat y0) } : bV) (ak (x1 + 1))
 else
 some x0
def pK (a0 : ae) : Option bV :=
 (nF a0).bind fun y3 =>
 (tv y3 5 (⟨2, a0.ax, (if (a0.ap.length : Int) < 3 then (a0.ap.length : Int) else 3), (⟨am, am, am, am⟩ : A4 bH)⟩ : bV) 0).bind fun x0 =>
 some x0
def mI (a1 : List UInt8) (y3 : (List dU)) : Nat → Int → Option (Ctl (Int) (Unit))
 | 0, _ => none
 | n + 1, x0 =>
 if (decide (x0 < (y3.length : Int))) then
 (idx y3 x0).bind fun y0 =>
 if (y0.ax == a1) then
 some (.stop x0)
 else
 mI a1 y3 n (ak (x0 + 1))
 else
 some (.next ())
def oe (a0 : aI) (a1 : List UInt8) : Option Int :=
 (jj a0).bind fun y3 =>
 (mI a1 y3 ((y3.length - 0 : Int).toNat + 1) 0).bind fun lr0 =>
 Ctl.elim lr0 (fun v => some v) fun _ =>
 some (-1)
def kZ (a0 : ae) (a1 : aI) (a2 : List UInt8) : Option (bV × Bool) :=
 if (a2 == [116, 104, 105, 115]) then
 (pK a0).bind fun y2 =>
 some (y2, true)
 else
 (oe a1 a2).bind fun (y6 : Int) =>
 if (decide (y6 < 0)) then
 some (cT, false)
 else
 (jj a1).bind fun y9 =>
 (idx y9 y6).bind fun y0 =>
 some (y0.aO, true)
def uJ  : Option bV :=
 some (⟨1, [], 0, (⟨am, am, am, am⟩ : A4 bH)⟩ : bV)
def nY (a0 : ae) (a1 : aI) (a2 : cD) (ref19_of_rec : ae → aI → cD → Option (bV × Int)) : Nat → Bool → Int → Option (Ctl (bV × Int) (Bool))
 | 0, _, _ => none
 | n + 1, x0, x1 =>
 if (decide (x1 < (a2.cY.length : Int))) then
 (idx a2.cY x1).bind fun y0 =>
 (ref19_of_rec a0 a1 y0).bind fun y1 =>
 if (y1.2 != 0) then
 some (.stop (cT, y1.2))
 else
 (if (a2.ab == 13) then
 some (y1.1.ab == 2)
 else
 some (y1.1.ab == 1) : Option (Bool)).bind fun x2 =>
 (if (a2.ab == 14) then
 if (y1.1.ab == 2) then
 some true
 else
 some (y1.1.ab == 3)
 else
 some x2 : Option (Bool)).bind fun x3 =>
 if (!x3) then
 some (.stop (cT, 14))
 else
 (if x0 = true then
 some true
 else
 if (a2.ab == 14) then
 (dD y1.1).bind fun y2 =>
 some y2
 else
 some false : Option (Bool)).bind fun x4 =>
 nY a0 a1 a2 ref19_of_rec n x4 (ak (x1 + 1))
 else
 some (.next x0)
def nf : Nat → ae → aI → cD → Option (bV × Int)
 | 0, _, _, _ => none
 | n + 1, a0, a1, a2 =>
 if (a2.ab == 2) then
 (kZ a0 a1 a2.ax).bind fun y4 =>
 if (!y4.2) then
 some (cT, 13)
 else
 some (y4.1, 0)
 else
 if (a2.ab == 3) then
 (pK a0).bind fun y8 =>
 some (y8, 0)
 else
 if (a2.ab == 4) then
 some ((⟨3, [], 0, (⟨am, am, am, am⟩ : A4 bH)⟩ : bV), 0)
 else
 (nY a0 a1 a2 (nf n) ((a2.cY.length - 0 : Int).toNat + 1) false 0).bind fun lr0 =>
 Ctl.elim lr0 (fun v => some v) fun x0 =>
 if x0 = true then
 some (cT, 22)
 else
 Option.bind uJ fun (y0 : bV) =>
 some (y0, 0)
def pa (a0 : ae) (a1 : aI) (a2 : cD) : Option (bV × Int) :=
 (kS a2).bind fun y3 =>
 if (!y3) then
 some (cT, 28)
 else
 (nf (yN a0 + qt a1 + dh a2 + 1) a0 a1 a2).bind fun y6 =>
 some (y6.1, y6.2)
def my (a0 : List ae) (a1 : List UInt8) (a2 : List UInt8) : Option Bool :=
 (ik a0 a2).bind fun (y3 : Int) =>
 if (decide (y3 ≥ 0)) then
 (iY a0 a1).bind fun y6 =>
 (pM y6 y3).bind fun y8 =>
 some y8
 else
 some false
def mn (a0 : List ae) (a1 : bV) (a2 : bV) : Option Int :=
 (if (a1.ab != 2) then
 some true
 else
 some (a2.ab != 2) : Option (Bool)).bind fun x2 =>
 if x2 = true then
 some 14
 else
 (dD a1).bind fun y8 =>
 if (!y8) then
 some 22
 else
 (my a0 a1.aq a2.aq).bind fun y0 =>
 if (!y0) then
 some 15
 else
 some 0
def jO (a0 : List ae) (a1 : bV) (a2 : bV) : Option Int :=
 (dD a1).bind fun y5 =>
 (dD a2).bind fun y7 =>
 (if (a1.ab == 2) then
 some (a2.ab == 2)
 else
 some false : Option (Bool)).bind fun x0 =>
 (if (a1.ab == 1) then
 if (a2.ab == 1) then
 some true
 else
 if (a1.ab == 3) then
 some (a2.ab == 2)
 else
 some false
 else
 if (a1.ab == 3) then
 some (a2.ab == 2)
 else
 some false : Option (Bool)).bind fun x1 =>
 if x1 = true then
 some 0
 else
 (if x0 = true then
 if (!y5) then
 if (!y7) then
 (my a0 a1.aq a2.aq).bind fun y0 =>
 some y0
 else
 some false
 else
 some false
 else
 some false : Option (Bool)).bind fun x2 =>
 if x2 = true then
 some 0
 else
 (if x0 = true then
 if y5 = true then
 some true
 else
 some y7
 else
 some false : Option (Bool)).bind fun x3 =>
 if x3 = true then
 some 22
 else
 if x0 = true then
 some 15
 else
 some 14
def nT (a0 : ct) (a1 : cD) (a2 : bV) : Option Int :=
 (pa a0.fC a0.fM a1).bind fun y3 =>
 if (y3.2 != 0) then
 some y3.2
 else
 (if (y3.1.ab == 2) then
 (dD a2).bind fun y7 =>
 some y7
 else
 some false : Option (Bool)).bind fun x9 =>
 if x9 = true then
 (mn a0.fP y3.1 a2).bind fun (y0 : Int) =>
 some y0
 else
 (jO a0.fP y3.1 a2).bind fun (y1 : Int) =>
 some y1
def jo (a0 : ct) (a1 : List UInt8) : Option (bV × Int) :=
 (oe a0.fM a1).bind fun (y3 : Int) =>
 if (decide (y3 < 0)) then
 some (cT, 13)
 else
 (jj a0.fM).bind fun y6 =>
 (idx y6 y3).bind fun y8 =>
 some (y8.aO, 0)
def sy (a0 : ct) (a1 : aQ) : Option Int :=
 if (a1.ab == 11) then
 if (!((a0.fM.ca.ab == 0) == (a1.fE.ab == 0))) then
 some 14
 else
 if (a1.fE.ab == 0) then
 some 0
 else
 (nT a0 a1.fE a0.fM.ca).bind fun (y4 : Int) =>
 some y4
 else
 if (a1.ab == 8) then
 (jo a0 a1.fY).bind fun y9 =>
 if (y9.2 != 0) then
 some y9.2
 else
 if (y9.1.ab != 2) then
 some 14
 else
 (dD y9.1).bind fun y0 =>
 if (!y0) then
 some 22
 else
 some 0
 else
 (pa a0.fC a0.fM a1.fE).bind fun y1 =>
 (if (y1.2 == 0) then
 some (y1.1.ab != 1)
 else
 some false : Option (Bool)).bind fun x0 =>
 if x0 = true then
 some 14
 else
 some y1.2
def il (a0 : ct) (a1 : aQ) : Option (bV × Int) :=
 (kZ a0.fC a0.fM a1.fY).bind fun y3 =>
 if (!y3.2) then
 some (y3.1, 13)
 else
 if (y3.1.ab != 2) then
 some (y3.1, 14)
 else
 ((dD y3.1).bind fun y9 =>
 if y9 = true then
 some (a1.ab != 4)
 else
 some false : Option (Bool)).bind fun x0 =>
 if x0 = true then
 some (y3.1, 22)
 else
 some (y3.1, 0)
def nQ (a0 : List ae) (a1 : List UInt8) (a2 : List UInt8) : Option (cn × Bool) :=
 (iY a0 a1).bind fun y1 =>
 (oq a0 y1 a2).bind fun y3 =>
 some (y3.1, y3.2)
def gz (a0 : ct) (a1 : aQ) : Option (cn × Bool) :=
 (il a0 a1).bind fun y3 =>
 (if (y3.2 != 0) then
 some true
 else
 some (a1.ab != 4) : Option (Bool)).bind fun x6 =>
 if x6 = true then
 some (dr, false)
 else
 (nQ a0.fP y3.1.aq a1.ax).bind fun y0 =>
 some (y0.1, y0.2)
def sm (a0 : ct) (a1 : bV) (a2 : bV) : Option Int :=
 if (a1.ab == 0) then
 some 14
 else
 ((dD a1).bind fun y4 =>
 if (!y4) then
 (dD a2).bind fun y7 =>
 some (!y7)
 else
 some false : Option (Bool)).bind fun x9 =>
 if x9 = true then
 (jO a0.fP a1 a2).bind fun (y0 : Int) =>
 some y0
 else
 (dD a2).bind fun y1 =>
 if (!y1) then
 some 22
 else
 (mn a0.fP a1 a2).bind fun (y2 : Int) =>
 some y2
def lv (a0 : ct) (a1 : aQ) (y8 : cn × Bool) : Nat → Int → Option (Ctl (Int) (Unit))
 | 0, _ => none
 | n + 1, x0 =>
 if (decide (x0 < (a1.dH.length : Int))) then
 (idx a1.dH x0).bind fun y0 =>
 (idx y8.1.aE.ap x0).bind fun y1 =>
 (nT a0 y0 y1.aO).bind fun (y2 : Int) =>
 if (y2 != 0) then
 some (.stop y2)
 else
 lv a0 a1 y8 n (ak (x0 + 1))
 else
 some (.next ())
def mg (a0 : ct) (a1 : aQ) (a2 : bV) : Option Int :=
 (il a0 a1).bind fun y3 =>
 if (y3.2 != 0) then
 some y3.2
 else
 (gz a0 a1).bind fun y8 =>
 if (!y8.2) then
 some 12
 else
 if ((y8.1.aE.ap.length : Int) != (a1.dH.length : Int)) then
 some 16
 else
 (lv a0 a1 y8 ((a1.dH.length - 0 : Int).toNat + 1) 0).bind fun lr0 =>
 Ctl.elim lr0 (fun v => some v) fun _ =>
 if (a1.fX == []) then
 some 0
 else
 (sm a0 y8.1.aE.ca a2).bind fun (y0 : Int) =>
 some y0
def oZ (y0 : ae) : Nat → (List db) → Int → Option ((List db))
 | 0, _, _ => none
 | n + 1, x0, x1 =>
 if (decide (x1 < (y0.cm.length : Int))) then
 (idx y0.cm x1).bind fun y1 =>
 (li ((x0.length : Int) + ([(⟨y0.ax, y1⟩ : db)].length : Int)) 136).bind fun u0 =>
 oZ y0 n (x0 ++ [(⟨y0.ax, y1⟩ : db)]) (ak (x1 + 1))
 else
 some x0
def mO (a0 : List ae) (y3 : (List Int)) : Nat → (List db) → Int → Option ((List db))
 | 0, _, _ => none
 | n + 1, x0, x1 =>
 if (decide (x1 ≥ 0)) then
 (idx y3 x1).bind fun (y0 : Int) =>
 (idx a0 y0).bind fun y1 =>
 (oZ y1 ((y1.cm.length - 0 : Int).toNat + 1) x0 0).bind fun x2 =>
 mO a0 y3 n x2 (ak (x1 - 1))
 else
 some x0
def rB (a0 : List ae) (a1 : List UInt8) : Option (List db) :=
 (iY a0 a1).bind fun y3 =>
 (mO a0 y3 ((((ak ((y3.length : Int) - 1)) : Int) - (0)).toNat + 2) [] (ak ((y3.length : Int) - 1))).bind fun x0 =>
 some x0
def nn (a2 : List UInt8) (y3 : (List db)) : Nat → Int → Option (Ctl (Int) (Unit))
 | 0, _ => none
 | n + 1, x0 =>
 if (decide (x0 < (y3.length : Int))) then
 (idx y3 x0).bind fun y0 =>
 if (y0.fw.ax == a2) then
 some (.stop x0)
 else
 nn a2 y3 n (ak (x0 + 1))
 else
 some (.next ())
def rJ (a0 : List ae) (a1 : List UInt8) (a2 : List UInt8) : Option Int :=
 (rB a0 a1).bind fun y3 =>
 (nn a2 y3 ((y3.length - 0 : Int).toNat + 1) 0).bind fun lr0 =>
 Ctl.elim lr0 (fun v => some v) fun _ =>
 some (-1)
def vv (a0 : List ae) (a1 : List UInt8) (a2 : List UInt8) : Option (db × Bool) :=
 (rJ a0 a1 a2).bind fun (y3 : Int) =>
 if (decide (y3 < 0)) then
 some (oI, false)
 else
 (rB a0 a1).bind fun y6 =>
 (idx y6 y3).bind fun y8 =>
 some (y8, true)
def oX (a0 : ct) (a1 : aQ) (a2 : bV) : Option Int :=
 (il a0 a1).bind fun y3 =>
 if (y3.2 != 0) then
 some y3.2
 else
 (vv a0.fP y3.1.aq a1.ax).bind fun y8 =>
 if (!y8.2) then
 some 11
 else
 if (a1.ab == 2) then
 (jO a0.fP y8.1.fw.aO a2).bind fun (y0 : Int) =>
 some y0
 else
 (pa a0.fC a0.fM a1.fE).bind fun y1 =>
 if (y1.2 != 0) then
 some y1.2
 else
 (jO a0.fP y1.1 y8.1.fw.aO).bind fun (y2 : Int) =>
 some y2
def ss (a0 : ct) (a1 : aQ) (a2 : bV) : Option Int :=
 if (a1.ab == 5) then
 if (a2.ab != 2) then
 some 14
 else
 (dD a2).bind fun y7 =>
 (dD a1.aO).bind fun y9 =>
 if (!(y7 == y9)) then
 some 22
 else
 (my a0.fP a1.aO.aq a2.aq).bind fun y0 =>
 if (!y0) then
 some 15
 else
 some 0
 else
 (dD a1.aO).bind fun y1 =>
 if y1 = true then
 some 22
 else
 (pa a0.fC a0.fM a1.fE).bind fun y2 =>
 if (y2.2 != 0) then
 some y2.2
 else
 (if (y2.1.ab != 2) then
 some (y2.1.ab != 3)
 else
 some false : Option (Bool)).bind fun x0 =>
 if x0 = true then
 some 14
 else
 (dD y2.1).bind fun y3 =>
 if y3 = true then
 some 22
 else
 (jO a0.fP a1.aO a2).bind fun (y4 : Int) =>
 some y4
def jU (a0 : ct) (a1 : aQ) : Option Int :=
 (mF a1 (a0.fC.ap.length : Int)).bind fun y3 =>
 if (!y3) then
 some 28
 else
 if (decide (a1.ab ≥ 8)) then
 (sy a0 a1).bind fun (y7 : Int) =>
 some y7
 else
 Ctl.go (if (!(a1.fX == [])) then
 vk (jo a0 a1.fX) fun (y0 : bV × Int) =>
 if (y0.2 != 0) then
 .stop (some y0.2)
 else
 .next y0.1
 else
 .next cT : Ctl (Option Int) (bV)) fun x0 =>
 if (a1.ab == 4) then
 (mg a0 a1 x0).bind fun (y1 : Int) =>
 some y1
 else
 (if (a1.ab == 2) then
 some true
 else
 some (a1.ab == 3) : Option (Bool)).bind fun x1 =>
 if x1 = true then
 (oX a0 a1 x0).bind fun (y2 : Int) =>
 some y2
 else
 (if (a1.ab == 5) then
 some true
 else
 some (a1.ab == 6) : Option (Bool)).bind fun x2 =>
 if x2 = true then
 (ss a0 a1 x0).bind fun (y4 : Int) =>
 some y4
 else
 if (a1.ab == 7) then
 (jo a0 a1.fY).bind fun y5 =>
 if (y5.2 != 0) then
 some y5.2
 else
 (mn a0.fP y5.1 x0).bind fun (y6 : Int) =>
 some y6
 else
 (pa a0.fC a0.fM a1.fE).bind fun y8 =>
 if (y8.2 != 0) then
 some y8.2
 else
 (jO a0.fP y8.1 x0).bind fun (y9 : Int) =>
 some y9
def oY (a0 : List ae) : Option Bool :=
 (nQ a0 [77, 97, 105, 110] [109, 97, 105, 110]).bind fun (y3 : cn × Bool) =>
 if y3.2 = true then
 (ja a0 [77, 97, 105, 110]).bind fun (y6 : Int) =>
 if (y6 == 0) then
 some ((y3.1.aE.ap.length : Int) == 0)
 else
 some false
 else
 some false
def ir (a0 : List ae) (y8 : (List az)) : Nat → Int → Option (Ctl (ce) (Unit))
 | 0, _ => none
 | n + 1, x0 =>
 if (decide (x0 < (y8.length : Int))) then
 (idx y8 x0).bind fun y0 =>
 (qN a0 y0).bind fun y1 =>
 (idx y8 x0).bind fun y2 =>
 (jU y1 y2.fS).bind fun (y3 : Int) =>
 if (y3 != 0) then
 (idx y8 x0).bind fun y4 =>
 some (.stop (⟨y3, y4.fS.fAt⟩ : ce))
 else
 ir a0 y8 n (ak (x0 + 1))
 else
 some (.next ())
def qy (a0 : List ae) : Option ce :=
 (qm a0).bind fun y3 =>
 if (y3.dA != 0) then
 some y3
 else
 (nR a0).bind fun y8 =>
 (ir a0 y8 ((y8.length - 0 : Int).toNat + 1) 0).bind fun lr0 =>
 Ctl.elim lr0 (fun v => some v) fun _ =>
 (oY a0).bind fun y0 =>
 if (!y0) then
 some (⟨18, 0⟩ : ce)
 else
 some bG
def uH (a0 : aI) : Option aI :=
 some a0
def ib (a0 : List aQ) (a1 : Int) (sp : Nat) (rows : List (Int × aQ)) (arena_inner_y_rec : Nat → (List aQ) → Int → Option (Bool × Nat)) : Nat → Nat → Int → Option (Ctl (Bool × Nat) (Nat))
 | 0, _, _ => none
 | n + 1, x0, x1 =>
 if (decide (x1 < (a0.length : Int))) then
 ((idx a0 x1).bind fun y0 =>
 (yck rows sp x0 (a1, y0)).bind fun u0 =>
 if (!(!(x0 == sp))) then
 some ((x0 + 1), true)
 else
 (idx a0 x1).bind fun y1 =>
 (arena_inner_y_rec (x0 + 1) y1.bM (ak (a1 + 1))).bind fun y2 =>
 if (!y2.1) then
 some (y2.2, true)
 else
 (idx a0 x1).bind fun y3 =>
 (arena_inner_y_rec y2.2 y3.dp (ak (a1 + 1))).bind fun y4 =>
 some (y4.2, (!y4.1)) : Option (Nat × Bool)).bind fun (x2, x3) =>
 if x3 = true then
 some (.stop (false, x2))
 else
 ib a0 a1 sp rows arena_inner_y_rec n x2 (ak (x1 + 1))
 else
 some (.next x0)
def gw (rows : List (Int × aQ)) (sp : Nat) : Nat → Nat → (List aQ) → Int → Option (Bool × Nat)
 | 0, _, _, _ => none
 | n + 1, k0, a0, a1 =>
 (ib a0 a1 sp rows (gw rows sp n) ((a0.length - 0 : Int).toNat + 1) k0 0).bind fun lr0 =>
 Ctl.elim lr0 (fun v => some v) fun x0 =>
 some (true, x0)
def rm (rows : List (Int × aQ)) (sp : Nat) (c0 : aI) : Option Nat :=
 (gw rows sp (dd c0.bM + 1) 0 c0.bM 0).bind fun y1 =>
 some y1.2
mutual
def Uk (d : Int) : aQ → List (Int × aQ)
 | ⟨z0, z1, z2, z3, z4, z5, z6, z7, z8, z9⟩ => (d, ⟨z0, z1, z2, z3, z4, z5, z6, z7, z8, z9⟩) :: (dI (d + 1) z7 ++ dI (d + 1) z8)
def dI (d : Int) : List aQ → List (Int × aQ)
 | [] => []
 | x :: l => Uk d x ++ dI d l
end
def ui (m : aI) : Option (List (Int × aQ)) := if dd m.bM ≤ 1000000 then some (dI 0 m.bM) else none
def mz (x0 : Int) (x1 : Int) : Int × aQ → (List cF) → Option (Ctl Unit (List cF))
 | (x2, x3), x4 =>
 (li ((x4.length : Int) + ([(⟨x0, x1, x2, x3⟩ : cF)].length : Int)) 312).bind fun u0 =>
 some (.next (x4 ++ [(⟨x0, x1, x2, x3⟩ : cF)]))
def mv (x0 : Int) (y0 : ae) : Nat → (List cF) → Int → Option ((List cF))
 | 0, _, _ => none
 | n + 1, x1, x2 =>
 if (decide (x2 < (y0.ah.length : Int))) then
 (idx y0.ah x2).bind fun y1 =>
 (uH y1).bind fun y2 =>
 (ui y2).bind fun (rows0 : List (Int × aQ)) =>
 (vt (mz x0 x2) rows0 x1).bind fun (lr0 : Ctl Unit (List cF)) =>
 Ctl.elim lr0 (fun _ => none) (fun x3 =>
 mv x0 y0 n x3 (ak (x2 + 1)))
 else
 some x1
def mB (a0 : List ae) : Nat → (List cF) → Int → Option ((List cF))
 | 0, _, _ => none
 | n + 1, x0, x1 =>
 if (decide (x1 < (a0.length : Int))) then
 (idx a0 x1).bind fun y0 =>
 (mv x1 y0 ((y0.ah.length - 0 : Int).toNat + 1) x0 0).bind fun x2 =>
 mB a0 n x2 (ak (x1 + 1))
 else
 some x0
def qQ (a0 : List ae) : Option (List cF) :=
 (mB a0 ((a0.length - 0 : Int).toNat + 1) [] 0).bind fun x0 =>
 some x0
def lu (a0 : ae) : Nat → (List bH) → Int → Option ((List bH))
 | 0, _, _ => none
 | n + 1, x0, x1 =>
 if (decide (x1 < ((List.replicate (ak ((a0.ap.length : Int) + 1) : Int).toNat am).length : Int))) then
 (idx x0 x1).bind fun y0 =>
 lu a0 n (x0.set (x1 : Int).toNat (⟨3, x1⟩ : bH)) (ak (x1 + 1))
 else
 some x0
def nG (a0 : ae) : Option (List bH) :=
 (Tx (ak ((a0.ap.length : Int) + 1)) (ak ((a0.ap.length : Int) + 1)) 16).bind fun u3 =>
 (lu a0 (((((List.replicate (ak ((a0.ap.length : Int) + 1) : Int).toNat am).length : Int) : Int) - (0)).toNat + 1) (List.replicate (ak ((a0.ap.length : Int) + 1) : Int).toNat am) 0).bind fun x0 =>
 (idx x0 0).bind fun y0 =>
 some (x0.set (0 : Int).toNat (⟨2, 0⟩ : bH))
def sn (a0 : ae) : Option bV :=
 (nG a0).bind fun y1 =>
 some ({ ({ ({ ab := 2, aq := a0.ax, fN := 0, aK := (⟨am, am, am, am⟩ : A4 bH) } : bV) with aK := (A4.cp (({ ab := 2, aq := a0.ax, fN := 0, aK := (⟨am, am, am, am⟩ : A4 bH) } : bV).aK) y1) } : bV) with fN := ak ((Nat.min (List.map bw y1).length 4 : Nat) - 1) } : bV)
def fU (a0 : List dU) (q1 : dU → Option Bool) : Nat → Int → Option (Ctl (Int) (Unit))
 | 0, _ => none
 | n + 1, x0 =>
 if (decide (x0 < (a0.length : Int))) then
 (idx a0 x0).bind fun y0 =>
 (q1 y0).bind fun y1 =>
 if y1 = true then
 some (.stop x0)
 else
 fU a0 q1 n (ak (x0 + 1))
 else
 some (.next ())
def fH (a0 : List dU) (q1 : dU → Option Bool) : Option Int :=
 (fU a0 q1 ((a0.length - 0 : Int).toNat + 1) 0).bind fun lr0 =>
 Ctl.elim lr0 (fun v => some v) fun _ =>
 some (-1)
def ll (a0 : dU) (c0 : List UInt8) : Option Bool :=
 some (a0.ax == c0)
def qz (a0 : aI) (a1 : List UInt8) : Option Int :=
 (fH a0.ap (fun (z4 : dU) => ll z4 a1)).bind fun (y5 : Int) =>
 if (decide (y5 ≥ 0)) then
 some y5
 else
 (fH a0.cy (fun (z11 : dU) => ll z11 a1)).bind fun (y0 : Int) =>
 if (decide (y0 < 0)) then
 some (-1)
 else
 some (ak ((a0.ap.length : Int) + y0))
def iM (a1 : Int) : Option (List dU) :=
 if (decide (a1 < 0)) then
 none
 else
 if (decide ((ak (a1 - (ak (0 - 0)))) > 0)) then
 (KY (ak (a1 - (ak (0 - 0)))) 120).bind fun u3 =>
 (pB (List.replicate (ak (a1 - (ak (0 - 0))) : Int).toNat sk) 0 0).bind fun y5 =>
 some y5
 else
 some []
def fB (a0 : List (List dU)) : Nat → Int → Int → Option (Int)
 | 0, _, _ => none
 | n + 1, x7, x8 =>
 if (decide (x8 < (a0.length : Int))) then
 (idx a0 x8).bind fun y0 =>
 if (decide ((ak (x7 + (y0.length : Int))) < 0)) then
 none
 else
 fB a0 n (ak (x7 + (y0.length : Int))) (ak (x8 + 1))
 else
 some x7
def fJ (a0 : List (List dU)) : Nat → (List dU) → Int → Option ((List dU))
 | 0, _, _ => none
 | n + 1, x0, x1 =>
 if (decide (x1 < (a0.length : Int))) then
 (idx a0 x1).bind fun y0 =>
 (li ((x0.length : Int) + (y0.length : Int)) 120).bind fun u0 =>
 fJ a0 n (x0 ++ y0) (ak (x1 + 1))
 else
 some x0
def jA (a0 : List (List dU)) : Option (List dU) :=
 (fB a0 ((a0.length - 0 : Int).toNat + 1) 0 0).bind fun x0 =>
 (iM x0).bind fun y0 =>
 (fJ a0 ((a0.length - 0 : Int).toNat + 1) y0 0).bind fun x1 =>
 some x1
def rE (a0 : aI) : Option (List dU) :=
 (jA [a0.ap, a0.cy]).bind fun y1 =>
 some y1
def nP (a0 : ae) (a1 : aI) (a2 : List UInt8) : Option (bV × Bool) :=
 if (a2 == [116, 104, 105, 115]) then
 (sn a0).bind fun y2 =>
 some (y2, true)
 else
 (qz a1 a2).bind fun (y6 : Int) =>
 if (decide (y6 < 0)) then
 some (cT, false)
 else
 (rE a1).bind fun y9 =>
 (idx y9 y6).bind fun y0 =>
 some (y0.aO, true)
def vL (a0 : Bool) (a1 : Int) : Option Int :=
 if a0 = true then
 some 0
 else
 some a1
def wl (a0 : bV) : Option Bool :=
 if (a0.ab == 2) then
 some (a0.aK.a0.ab == 6)
 else
 some false
def jy (b0 : Gasker_fit) : Option (Int × Gasker_fit) :=
 (nP b0.fc b0.fm b0.fs.fY).bind fun y3 =>
 if (!y3.2) then
 some (13, b0)
 else
 if (y3.1.ab != 2) then
 some (14, ({ b0 with fo := y3.1 } : Gasker_fit))
 else
 if ((({ b0 with fo := y3.1 } : Gasker_fit).fs.ab) == 4) then
 (vL true 22).bind fun (y8 : Int) =>
 some (y8, ({ b0 with fo := y3.1 } : Gasker_fit))
 else
 (wl y3.1).bind fun y0 =>
 (vL (!y0) 22).bind fun (y1 : Int) =>
 some (y1, ({ b0 with fo := y3.1 } : Gasker_fit))
def ue (a0 : List ae) (a1 : List UInt8) : Option ((List ae) × (List UInt8)) :=
 some (a0, a1)
def fj (a0 : List ae) (q1 : ae → Option Bool) : Nat → Int → Option (Ctl (Int) (Unit))
 | 0, _ => none
 | n + 1, x0 =>
 if (decide (x0 < (a0.length : Int))) then
 (idx a0 x0).bind fun y0 =>
 (q1 y0).bind fun y1 =>
 if y1 = true then
 some (.stop x0)
 else
 fj a0 q1 n (ak (x0 + 1))
 else
 some (.next ())
def gL (a0 : List ae) (q1 : ae → Option Bool) : Option Int :=
 (fj a0 q1 ((a0.length - 0 : Int).toNat + 1) 0).bind fun lr0 =>
 Ctl.elim lr0 (fun v => some v) fun _ =>
 some (-1)
def oH (a0 : ae) (c0 : List UInt8) : Option Bool :=
 some (a0.ax == c0)
def mj (a0 : List ae) (a1 : List UInt8) : Option Int :=
 (gL a0 (fun (z1 : ae) => oH z1 a1)).bind fun (y2 : Int) =>
 some y2
def iW (c0 : List ae) (sp : Nat) (rows : List (Int)) : Nat → Nat → (List UInt8) → Int → Option (Ctl (Nat) (Nat))
 | 0, _, _, _ => none
 | n + 1, x0, x1, x2 =>
 if (decide (x2 < (ak ((c0.length : Int) + 1)))) then
 (mj c0 x1).bind fun (y0 : Int) =>
 (if (decide (y0 < 0)) then
 some (x0, true)
 else
 (yck rows sp x0 y0).bind fun u0 =>
 some ((x0 + 1), (!(!(x0 == sp)))) : Option (Nat × Bool)).bind fun (x3, x4) =>
 if x4 = true then
 some (.stop x3)
 else
 (idx c0 y0).bind fun y1 =>
 if (y1.di == []) then
 some (.stop x3)
 else
 iW c0 sp rows n x3 y1.di (ak (x2 + 1))
 else
 some (.next x0)
def uW (rows : List (Int)) (sp : Nat) (c0 : List ae) (c1 : List UInt8) : Option Nat :=
 (iW c0 sp rows ((((ak ((c0.length : Int) + 1)) : Int) - (0)).toNat + 1) 0 c1 0).bind fun lr0 =>
 Ctl.elim lr0 (fun v => some v) fun x0 =>
 some x0
def sx (p : List ae) : Nat → List UInt8 → Option (List Int)
 | 0, _ => some []
 | n + 1, name => (mj p name).bind fun i =>
 if i < 0 then some [] else
 (idx p i).bind fun c =>
 if c.di == [] then some [i] else
 (sx p n c.di).bind fun l => some (i :: l)
def zP (p : List ae) (name : List UInt8) : Option (List Int) := if p.length < 9223372036854775806 then sx p (p.length + 1) name else none
def iL (a0 : List Int) (a1 : Int) : Nat → Int → Option (Ctl (Int) (Unit))
 | 0, _ => none
 | n + 1, x7 =>
 if (decide (x7 < (a0.length : Int))) then
 (idx a0 x7).bind fun (y0 : Int) =>
 if (a1 == y0) then
 some (.stop x7)
 else
 iL a0 a1 n (ak (x7 + 1))
 else
 some (.next ())
def mW (a0 : List Int) (a1 : Int) : Option Int :=
 (iL a0 a1 ((a0.length - 0 : Int).toNat + 1) 0).bind fun lr0 =>
 Ctl.elim lr0 (fun v => some v) fun _ =>
 some (-1)
def iQ (a0 : List Int) (a1 : Int) : Option Bool :=
 (mW a0 a1).bind fun (y1 : Int) =>
 some (decide (y1 ≥ 0))
def kq  : Int → (List Int) → Option (Ctl (List Int) (List Int))
 | x0, x1 =>
 (iQ x1 x0).bind fun y0 =>
 if y0 = true then
 some (.stop x1)
 else
 (li ((x1.length : Int) + ([x0].length : Int)) 8).bind fun u0 =>
 some (.next (x1 ++ [x0]))
def qF (a0 : List ae) (a1 : List UInt8) : Option (List Int) :=
 (ue a0 a1).bind fun y3 =>
 (zP y3.1 y3.2).bind fun (rows0 : List (Int)) =>
 (vt kq rows0 []).bind fun (lr0 : Ctl (List Int) (List Int)) =>
 Ctl.elim lr0 (fun x0 =>
 some x0) (fun x1 =>
 some x1)
def mZ (a0 : Gheld_method) (b0 : List UInt8) (b1 : List ae) (b2 : bT) (b3 : Bool) : Option (Bool × bT × Bool) :=
 if (a0.aE.ax == b0) then
 (idx b1 a0.fclass).bind fun y2 =>
 some ((!true), ({ ({ dm with aq := y2.ax } : bT) with aE := a0.aE } : bT), true)
 else
 some ((!b3), b2, b3)
def kF (b0 : List UInt8) (b1 : List ae) (y0 : Int) (y1 : ae) : Nat → bT → Bool → Int → Option (Ctl (bT × Bool) (bT × Bool))
 | 0, _, _, _ => none
 | n + 1, x0, x1, x2 =>
 if (decide (x2 < (y1.ah.length : Int))) then
 (idx y1.ah x2).bind fun y2 =>
 (mZ (⟨y2, y0⟩ : Gheld_method) b0 b1 x0 x1).bind fun y3 =>
 if (!y3.1) then
 some (.stop (y3.2.1, y3.2.2))
 else
 kF b0 b1 y0 y1 n y3.2.1 y3.2.2 (ak (x2 + 1))
 else
 some (.next (x0, x1))
def jd (a0 : List ae) (a1 : List Int) (b0 : List UInt8) (b1 : List ae) : Nat → bT → Bool → Int → Option (Ctl (bT × Bool) (bT × Bool))
 | 0, _, _, _ => none
 | n + 1, x0, x1, x2 =>
 if (decide (x2 < (a1.length : Int))) then
 (idx a1 x2).bind fun (y0 : Int) =>
 (idx a0 y0).bind fun y1 =>
 (kF b0 b1 y0 y1 ((y1.ah.length - 0 : Int).toNat + 1) x0 x1 0).bind fun lr0 =>
 Ctl.elim lr0 (fun v => some (.stop v)) fun (x3, x4) =>
 jd a0 a1 b0 b1 n x3 x4 (ak (x2 + 1))
 else
 some (.next (x0, x1))
def qg (a0 : List ae) (a1 : List Int) (b0 : List UInt8) (b1 : List ae) (b2 : bT) (b3 : Bool) : Option (bT × Bool) :=
 (jd a0 a1 b0 b1 ((a1.length - 0 : Int).toNat + 1) b2 b3 0).bind fun lr0 =>
 Ctl.elim lr0 (fun v => some v) fun (x0, x1) =>
 some (x0, x1)
def oM (a0 : List ae) (a1 : List Int) (a2 : List UInt8) : Option (bT × Bool) :=
 (qg a0 a1 a2 a0 dm false).bind fun y3 =>
 some (y3.1, y3.2)
def oo (a0 : List ae) (a1 : List UInt8) (a2 : List UInt8) : Option (bT × Bool) :=
 (qF a0 a1).bind fun y1 =>
 (oM a0 y1 a2).bind fun y3 =>
 some (y3.1, y3.2)
def rF (a0 : List ae) (a1 : ae) (a2 : aI) (a3 : aQ) : Option (bT × Bool) :=
 (if (a3.ab != 4) then
 some ((⟨a0, a1, a2, a3, cT, cT⟩ : Gasker_fit), true)
 else
 (jy (⟨a0, a1, a2, a3, cT, cT⟩ : Gasker_fit)).bind fun y2 =>
 some (y2.2, (y2.1 != 0)) : Option (Gasker_fit × Bool)).bind fun (x4, x5) =>
 if x5 = true then
 some (dm, false)
 else
 (oo a0 x4.fo.aq a3.ax).bind fun y9 =>
 some (y9.1, y9.2)
def jF (a0 : List ae) (a1 : ae) (a2 : aI) (a3 : aQ) : Option Bool :=
 (if (a3.ab == 3) then
 some (a3.ab == 3)
 else
 if (a3.ab == 7) then
 some (a3.ab == 7)
 else
 some (a3.ab == 8) : Option (Bool)).bind fun x3 =>
 if x3 = true then
 some true
 else
 if (a3.ab == 4) then
 (rF a0 a1 a2 a3).bind fun y0 =>
 if y0.2 = true then
 some (!y0.1.aE.eN)
 else
 some false
 else
 some false
def lk (a0 : List ae) (y3 : (List cF)) : Nat → Int → Option (Ctl (ce) (Unit))
 | 0, _ => none
 | n + 1, x0 =>
 if (decide (x0 < (y3.length : Int))) then
 (idx y3 x0).bind fun y0 =>
 (idx a0 y0.aq).bind fun y1 =>
 (idx y1.ah y0.aE).bind fun y2 =>
 (if y2.eN = true then
 (jF a0 y1 y2 y0.fS).bind fun y4 =>
 some y4
 else
 some false : Option (Bool)).bind fun x1 =>
 if x1 = true then
 some (.stop (⟨20, y0.fS.fAt⟩ : ce))
 else
 lk a0 y3 n (ak (x0 + 1))
 else
 some (.next ())
def lb (a0 : List ae) : Option ce :=
 (qQ a0).bind fun y3 =>
 (lk a0 y3 ((y3.length - 0 : Int).toNat + 1) 0).bind fun lr0 =>
 Ctl.elim lr0 (fun v => some v) fun _ =>
 some bG
def vK (a0 : Int) : Option Bool :=
 if (a0 == 9) then
 none
 else
 if (a0 == 10) then
 none
 else
 if (a0 == 13) then
 none
 else
 some (a0 == 32)
def tj (a0 : List UInt8) : Nat → Int → Option (Ctl (Int) (Int))
 | 0, _ => none
 | n + 1, x0 =>
 if (decide (x0 < (a0.length : Int))) then
 (idx a0 x0).bind fun (y0 : UInt8) =>
 (vK (y0.toNat : Int)).bind fun y1 =>
 if y1 = true then
 tj a0 n (ak (x0 + 1))
 else
 (if (decide ((ak (x0 + 1)) ≥ (a0.length : Int))) then
 some ()
 else
 (idx a0 x0).bind fun (y2 : UInt8) =>
 if ((y2.toNat : Int) != 47) then
 some ()
 else
 none : Option (Unit)).bind fun _ =>
 some (.stop x0)
 else
 some (.next x0)
def ux (a0 : List UInt8) : Option Int :=
 (tj a0 (a0.length + 64) 0).bind fun lr0 =>
 Ctl.elim lr0 (fun v => some v) fun x0 =>
 some x0
def tn (a0 : List UInt8) : Nat → Int → Option (Ctl ((List UInt8)) (Unit))
 | 0, _ => none
 | n + 1, x0 =>
 (if (decide (x0 < ([123, 125, 40, 41, 60, 62, 44, 59, 46, 61, 43, 45, 42, 33].length : Int))) then
 some ()
 else
 none : Option (Unit)).bind fun _ =>
 if (!(a0 == [])) then
 (idx [123, 125, 40, 41, 60, 62, 44, 59, 46, 61, 43, 45, 42, 33] x0).bind fun (y0 : UInt8) =>
 (idx a0 0).bind fun (y1 : UInt8) =>
 if ((y0.toNat : Int) == (y1.toNat : Int)) then
 (pB a0 0 1).bind fun y2 =>
 some (.stop y2)
 else
 tn a0 n (ak (x0 + 1))
 else
 some (.next ())
def uL (a0 : List UInt8) : Option (List UInt8) :=
 (if (decide ((a0.length : Int) > 1)) then
 (pB a0 0 2).bind fun y2 =>
 if (y2 == [61, 61]) then
 none
 else
 (pB a0 0 2).bind fun y5 =>
 some (y5 == [38, 38])
 else
 some false : Option (Bool)).bind fun x7 =>
 if x7 = true then
 none
 else
 (tn a0 (a0.length + 64) 0).bind fun lr0 =>
 Ctl.elim lr0 (fun v => some v) fun _ =>
 some []
def uF (a0 : List UInt8) : Nat → Int → Option (Int)
 | 0, _ => none
 | n + 1, x0 =>
 (if (decide (x0 < (a0.length : Int))) then
 (idx a0 x0).bind fun (y0 : UInt8) =>
 (jG (y0.toNat : Int)).bind fun y1 =>
 if y1 = true then
 some true
 else
 (idx a0 x0).bind fun (y2 : UInt8) =>
 (jJ (y2.toNat : Int)).bind fun y3 =>
 some y3
 else
 none : Option (Bool)).bind fun x1 =>
 if x1 = true then
 uF a0 n (ak (x0 + 1))
 else
 some x0
def uz (a0 : List UInt8) : Nat → Int → Option (Int)
 | 0, _ => none
 | n + 1, x0 =>
 (if (decide (x0 < (a0.length : Int))) then
 (idx a0 x0).bind fun (y0 : UInt8) =>
 (jJ (y0.toNat : Int)).bind fun y1 =>
 some y1
 else
 none : Option (Bool)).bind fun x1 =>
 if x1 = true then
 uz a0 n (ak (x0 + 1))
 else
 some x0
def zw (a0 : List UInt8) : Option cf :=
 (idx a0 0).bind fun (y5 : UInt8) =>
 (jG (y5.toNat : Int)).bind fun y7 =>
 if y7 = true then
 (uF a0 (a0.length + 64) 0).bind fun x0 =>
 (pB a0 0 x0).bind fun y0 =>
 (pT y0).bind fun (y1 : Int) =>
 if (decide (y1 > 0)) then
 (pB a0 0 x0).bind fun y2 =>
 some (⟨3, y2, 0⟩ : cf)
 else
 (pB a0 0 x0).bind fun y3 =>
 some (⟨1, y3, 0⟩ : cf)
 else
 (idx a0 0).bind fun (y4 : UInt8) =>
 (jJ (y4.toNat : Int)).bind fun y6 =>
 if y6 = true then
 (uz a0 (a0.length + 64) 0).bind fun x1 =>
 (pB a0 0 x1).bind fun y8 =>
 some (⟨2, y8, 0⟩ : cf)
 else
 (uL a0).bind fun y9 =>
 if (!(y9 == [])) then
 (uL a0).bind fun y10 =>
 some (⟨4, y10, 0⟩ : cf)
 else
 none
def rh (a0 : List UInt8) : Nat → Int → Int → Option (Ctl (Int × Bool) (Int))
 | 0, _, _ => none
 | n + 1, x0, x1 =>
 if (decide (x1 < (a0.length : Int))) then
 (idx a0 x1).bind fun (y0 : UInt8) =>
 (jJ (y0.toNat : Int)).bind fun y1 =>
 if (!y1) then
 some (.stop (0, false))
 else
 (idx a0 x1).bind fun (y2 : UInt8) =>
 rh a0 n (ak ((ak (10 * x0)) + (ak (TX ((y2.toNat : Int) - 48))))) (ak (x1 + 1))
 else
 some (.next x0)
def rl (a0 : List UInt8) : Option (Int × Bool) :=
 (if (decide ((a0.length : Int) < 1)) then
 none
 else
 if (decide ((a0.length : Int) > 9)) then
 none
 else
 (idx a0 0).bind fun (y3 : UInt8) =>
 if ((y3.toNat : Int) == 48) then
 none
 else
 some () : Option (Unit)).bind fun _ =>
 (rh a0 ((a0.length - 0 : Int).toNat + 1) 0 0).bind fun lr0 =>
 Ctl.elim lr0 (fun v => some v) fun x0 =>
 some (x0, true)
def wu (a0 : List UInt8) : Nat → (List cf) → Int → Option ((List cf))
 | 0, _, _ => none
 | n + 1, x0, x1 =>
 if (decide (x1 < (a0.length : Int))) then
 (pB a0 x1 a0.length).bind fun y0 =>
 (zw y0).bind fun y1 =>
 if ((({ y1 with fAt := x1 } : cf).ab) == 0) then
 none
 else
 (rl (({ y1 with fAt := x1 } : cf).ew)).bind fun y2 =>
 (if ((({ y1 with fAt := x1 } : cf).ab) == 1) then
 if (decide (((({ y1 with fAt := x1 } : cf).ew).length : Int) > 20)) then
 none
 else
 if ((({ y1 with fAt := x1 } : cf).ab) == 2) then
 some (!y2.2)
 else
 some false
 else
 if ((({ y1 with fAt := x1 } : cf).ab) == 2) then
 some (!y2.2)
 else
 some false : Option (Bool)).bind fun x2 =>
 if x2 = true then
 none
 else
 (li ((x0.length : Int) + ([({ y1 with fAt := x1 } : cf)].length : Int)) 32).bind fun u0 =>
 (pB a0 (ak (x1 + ((({ y1 with fAt := x1 } : cf).ew).length : Int))) a0.length).bind fun y3 =>
 (ux y3).bind fun (y4 : Int) =>
 wu a0 n (x0 ++ [({ y1 with fAt := x1 } : cf)]) (ak ((ak (x1 + ((({ y1 with fAt := x1 } : cf).ew).length : Int))) + y4))
 else
 some x0
def DJ (a0 : List UInt8) : Option ((List cf) × ce) :=
 if (decide ((a0.length : Int) > 16384)) then
 none
 else
 (ux a0).bind fun (y4 : Int) =>
 (wu a0 ((((a0.length : Int) : Int) - (y4)).toNat + 1) [] y4).bind fun x0 =>
 (li ((x0.length : Int) + ([(⟨0, [], (a0.length : Int)⟩ : cf)].length : Int)) 32).bind fun u0 =>
 some ((x0 ++ [(⟨0, [], (a0.length : Int)⟩ : cf)]), bG)
def mY (a0 : List cf) (a1 : Int) : Option cf :=
 (if (decide (a1 ≥ 0)) then
 some ()
 else
 none : Option (Unit)).bind fun _ =>
 if (decide (a1 < (a0.length : Int))) then
 (idx a0 a1).bind fun y5 =>
 some y5
 else
 none
def oh (a0 : List cf) (a1 : Int) : Option cf :=
 (mY a0 a1).bind fun y1 =>
 some y1
def iO (a0 : cf) (a1 : List UInt8) : Option Bool :=
 if (a0.ab == 3) then
 some (a0.ew == a1)
 else
 if (a0.ab == 4) then
 some (a0.ew == a1)
 else
 some false
def kG (a0 : List cf) (a1 : Int) (a2 : List UInt8) : Option Bool :=
 (mY a0 a1).bind fun y1 =>
 (iO y1 a2).bind fun y3 =>
 some y3
def wk (a0 : List cf) (a1 : Int) (a2 : List (List UInt8)) (a3 : Bool) : Option lf :=
 (mY a0 a1).bind fun y3 =>
 (iO y3 [118, 111, 105, 100]).bind fun (y7 : Bool) =>
 if y7 = true then
 some (⟨[], cT, sk, ak (a1 + 1), bG⟩ : lf)
 else
 (iO y3 [105, 110, 116]).bind fun (y0 : Bool) =>
 if y0 = true then
 some (⟨[], (⟨1, [], 0, (⟨am, am, am, am⟩ : A4 bH)⟩ : bV), sk, ak (a1 + 1), bG⟩ : lf)
 else
 none
def uv (a0 : List cf) (a1 : Int) (a2 : List (List UInt8)) : Option et :=
 (kG a0 (ak (a1 + 1)) [41]).bind fun (y3 : Bool) =>
 if y3 = true then
 some (⟨zGClass, zGMethod, [], [], ak ((ak (a1 + 1)) + 1), bG⟩ : et)
 else
 none
def tH (a0 : cf) : Nat → Int → Option (Unit)
 | 0, _ => none
 | n + 1, x0 =>
 if (decide (x0 < ([[114, 101, 112], [112, 101, 101, 114], [], [119, 111, 114, 108, 100], [97, 110, 121], [117, 110, 105, 113, 117, 101]].length : Int))) then
 ((idx [[114, 101, 112], [112, 101, 101, 114], [], [119, 111, 114, 108, 100], [97, 110, 121], [117, 110, 105, 113, 117, 101]] x0).bind fun (y0 : List UInt8) =>
 (iO a0 y0).bind fun y1 =>
 if y1 = true then
 (idx [[114, 101, 112], [112, 101, 101, 114], [], [119, 111, 114, 108, 100], [97, 110, 121], [117, 110, 105, 113, 117, 101]] x0).bind fun (y2 : List UInt8) =>
 some (!(y2 == []))
 else
 some false : Option (Bool)).bind fun x1 =>
 if x1 = true then
 none
 else
 tH a0 n (ak (x0 + 1))
 else
 some ()
def yu (a0 : cf) : Option bH :=
 (tH a0 (((([[114, 101, 112], [112, 101, 101, 114], [], [119, 111, 114, 108, 100], [97, 110, 121], [117, 110, 105, 113, 117, 101]].length : Int) : Int) - (0)).toNat + 1) 0).bind fun _ =>
 some am
def uQ (a0 : List cf) (a1 : Int) : Option Bool :=
 (mY a0 a1).bind fun y3 =>
 ((iO y3 [105, 110, 116]).bind fun (y7 : Bool) =>
 if y7 = true then
 none
 else
 (yu y3).bind fun y0 =>
 some (y0.ab != 0) : Option (Bool)).bind fun x0 =>
 if x0 = true then
 none
 else
 if (y3.ab != 1) then
 some false
 else
 none
def vh (a0 : List cf) (a1 : Int) : Nat → Option (Unit)
 | 0 => none
 | n + 1 =>
 (uQ a0 a1).bind fun y0 =>
 if y0 = true then
 if ((([] : List dU).length : Int) == 12) then
 none
 else
 none
 else
 some ()
def uD (a0 : List cf) (a1 : Int) (a2 : List (List UInt8)) : Option et :=
 (vh a0 a1 (a0.length + 64)).bind fun _ =>
 some (⟨zGClass, zGMethod, [], [], a1, bG⟩ : et)
def om (a0 : List cf) (a1 : Int) : Option cf :=
 (mY a0 a1).bind fun y1 =>
 some y1
def qV (a0 : List cf) (a1 : Int) (a2 : List UInt8) : Option Bool :=
 (om a0 a1).bind fun y1 =>
 (iO y1 a2).bind fun y3 =>
 some y3
def wo (a0 : List cf) (a1 : Int) : Option Bool :=
 (om a0 a1).bind fun y1 =>
 if (y1.ab == 1) then
 none
 else
 (qV a0 a1 [116, 104, 105, 115]).bind fun (y4 : Bool) =>
 some y4
def yz (a0 : List cf) (a1 : Int) : Option gg :=
 (qV a0 (ak (a1 + 1)) [41]).bind fun (y3 : Bool) =>
 if y3 = true then
 some (⟨gh, [], [], ak ((ak (a1 + 1)) + 1), bG⟩ : gg)
 else
 none
def uN (a0 : List cf) (a1 : Int) (a2 : aQ) : Option gg :=
 (qV a0 a1 [59]).bind fun (y3 : Bool) =>
 if (!y3) then
 none
 else
 some (⟨a2, [], [], ak (a1 + 1), bG⟩ : gg)
def vR (a0 : List cf) (a1 : Int) (a2 : Int) : Option gl :=
 (mY a0 a1).bind fun y3 =>
 ((iO y3 [40]).bind fun (y7 : Bool) =>
 if y7 = true then
 none
 else
 (iO y3 [33]).bind fun (y0 : Bool) =>
 if y0 = true then
 none
 else
 some () : Option (Unit)).bind fun _ =>
 (iO y3 [40]).bind fun (y1 : Bool) =>
 if y1 = true then
 none
 else
 (iO y3 [33]).bind fun (y2 : Bool) =>
 if y2 = true then
 none
 else
 ((iO y3 [110, 105, 108]).bind fun (y4 : Bool) =>
 if y4 = true then
 none
 else
 (iO y3 [115, 97, 109, 101]).bind fun (y5 : Bool) =>
 some y5 : Option (Bool)).bind fun x0 =>
 if x0 = true then
 none
 else
 (iO y3 [105, 110, 112, 117, 116]).bind fun (y6 : Bool) =>
 if y6 = true then
 none
 else
 (rl y3.ew).bind fun y8 =>
 (if (y3.ab == 2) then
 some ()
 else
 none : Option (Unit)).bind fun _ =>
 if y8.2 = true then
 some (⟨(⟨1, y8.1, [], []⟩ : cD), ak (a1 + 1), bG⟩ : gl)
 else
 none
def ww (a0 : Int) : Option (List (List UInt8)) :=
 (idx [[[38, 38]], [[60], [61, 61]], [[43], [45]], [[42]]] a0).bind fun (y1 : List (List UInt8)) =>
 some y1
def pH (a0 : List cf) (a1 : Int) (y3 : (List (List UInt8))) : Nat → Int → Option (Unit)
 | 0, _ => none
 | n + 1, x0 =>
 if (decide (x0 < (y3.length : Int))) then
 (mY a0 a1).bind fun y0 =>
 (idx y3 x0).bind fun y1 =>
 (iO y0 y1).bind fun y2 =>
 if y2 = true then
 none
 else
 pH a0 a1 y3 n (ak (x0 + 1))
 else
 some ()
def tu (a0 : List cf) (a1 : Int) (a2 : Int) : Option (List UInt8) :=
 (ww a2).bind fun y3 =>
 (pH a0 a1 y3 ((y3.length - 0 : Int).toNat + 1) 0).bind fun _ =>
 some []
def vw (a0 : List cf) (a2 : Int) (a3 : Int) (y6 : gl) (ref06_chain_rec : (List cf) → Int → Int → Int → Option gl) : Nat → Option (Unit)
 | 0 => none
 | n + 1 =>
 (if (y6.fF.dA == 0) then
 (tu a0 y6.dQ a2).bind fun y0 =>
 some (!(y0 == []))
 else
 none : Option (Bool)).bind fun x0 =>
 if x0 = true then
 (ref06_chain_rec a0 (ak (y6.dQ + 1)) (ak (a2 + 1)) a3).bind fun y1 =>
 if (y1.fF.dA != 0) then
 none
 else
 none
 else
 some ()
def kO : Nat → (List cf) → Int → Int → Int → Option gl
 | 0, _, _, _, _ => none
 | n + 1, a0, a1, a2, a3 =>
 if (a2 == 4) then
 (vR a0 a1 a3).bind fun y2 =>
 some y2
 else
 ((kO n) a0 a1 (ak (a2 + 1)) a3).bind fun y6 =>
 (vw a0 a2 a3 y6 (kO n) (a0.length + 64)).bind fun _ =>
 some y6
def wv (a0 : List cf) (a1 : Int) : Option gl :=
 (kO 8 a0 a1 0 0).bind fun y3 =>
 if (y3.fF.dA != 0) then
 none
 else
 some y3
def vQ (a0 : List cf) (a1 : Int) (a2 : aQ) : Option gg :=
 (om a0 a1).bind fun y3 =>
 (om a0 (ak (a1 + 2))).bind fun y7 =>
 if (y7.ab != 1) then
 none
 else
 (om a0 (ak (a1 + 2))).bind fun y0 =>
 (qV a0 (ak (a1 + 3)) [40]).bind fun (y1 : Bool) =>
 if y1 = true then
 (yz a0 (ak (a1 + 3))).bind fun y2 =>
 if (y2.fF.dA != 0) then
 none
 else
 (uN a0 y2.dQ ({ ({ ({ ({ a2 with fY := y3.ew } : aQ) with ax := y0.ew } : aQ) with ab := 4 } : aQ) with dH := y2.fA } : aQ)).bind fun y4 =>
 some y4
 else
 if (!((({ ({ a2 with fY := y3.ew } : aQ) with ax := y0.ew } : aQ).fX) == [])) then
 none
 else
 (qV a0 (ak (a1 + 3)) [61]).bind fun (y5 : Bool) =>
 if (!y5) then
 none
 else
 (wv a0 (ak (a1 + 4))).bind fun y6 =>
 if (y6.fF.dA != 0) then
 none
 else
 (uN a0 y6.dQ ({ ({ ({ ({ a2 with fY := y3.ew } : aQ) with ax := y0.ew } : aQ) with ab := 3 } : aQ) with fE := y6.fE } : aQ)).bind fun y8 =>
 some y8
def wh (a0 : List cf) (a1 : Int) (a2 : List (List UInt8)) (a3 : Int) : Option gg :=
 (om a0 a1).bind fun y3 =>
 if (decide (a3 ≥ 20)) then
 none
 else
 ((wo a0 a1).bind fun y8 =>
 if y8 = true then
 (qV a0 (ak (a1 + 1)) [46]).bind fun (y0 : Bool) =>
 some y0
 else
 none : Option (Bool)).bind fun x0 =>
 if x0 = true then
 (vQ a0 a1 (⟨0, [], [], [], cT, si, [], [], [], y3.fAt⟩ : aQ)).bind fun y1 =>
 some y1
 else
 none
def rf (a0 : List cf) (a2 : List (List UInt8)) : Nat → Int → Int → (List aQ) → Option (Int × (List aQ))
 | 0, _, _, _ => none
 | n + 1, x0, x1, x2 =>
 (kG a0 x0 [125]).bind fun (y0 : Bool) =>
 if (!y0) then
 (wh a0 x0 a2 0).bind fun y1 =>
 if (y1.fF.dA != 0) then
 none
 else
 (fK (dE y1.fS + 1) y1.fS).bind fun (y2 : Int) =>
 if (decide ((ak (x1 + y2)) > 400)) then
 none
 else
 (li ((x2.length : Int) + ([y1.fS].length : Int)) 288).bind fun u0 =>
 rf a0 a2 n y1.dQ (ak (x1 + y2)) (x2 ++ [y1.fS])
 else
 some (x0, x2)
def uA (a0 : List cf) (a1 : Int) (a2 : List (List UInt8)) (a3_0 : List UInt8) (a3_1 : Bool) (a3_2 : Int) (a3_3 : List UInt8) (a3_4 : Int) (a3_5 : Int) (a3_6 : Int) (a3_7 : Int) (a3_8 : Int) (a3_9 : Int) (a3_10 : Int) (a3_11 : Int) (a3_12 : Int) (a3_13 : List dU) (a3_14 : List dU) (a3_16 : Int) (a4 : Int) (b0 : List aQ) : Option et :=
 (uv a0 a1 a2).bind fun y3 =>
 if (y3.fF.dA != 0) then
 none
 else
 (kG a0 y3.dQ [123]).bind fun (y8 : Bool) =>
 if (!y8) then
 none
 else
 (uD a0 (ak (y3.dQ + 1)) a2).bind fun y0 =>
 if (y0.fF.dA != 0) then
 none
 else
 (rf a0 a2 (a0.length + 64) y0.dQ a4 b0).bind fun (x0, x1) =>
 some (⟨zGClass, (⟨a3_0, a3_1, (⟨a3_2, a3_3, a3_4, (⟨(⟨a3_5, a3_6⟩ : bH), (⟨a3_7, a3_8⟩ : bH), (⟨a3_9, a3_10⟩ : bH), (⟨a3_11, a3_12⟩ : bH)⟩ : A4 bH)⟩ : bV), y3.fV, y0.fV, x1, a3_16⟩ : aI), [], [], ak (x0 + 1), bG⟩ : et)
def uV (a0 : List cf) (a1 : Int) (a2_0 : List UInt8) (a2_1 : List (List UInt8)) (a2_2 : List UInt8) (a2_3 : List bH) (a2_6 : Int) (a3 : Int) (b0 : List dU) (b1 : List aI) : Option ((List UInt8) × (List (List UInt8)) × (List UInt8) × (List bH) × (List dU) × (List aI) × Int × (List UInt8) × Bool × Int × (List UInt8) × Int × Int × Int × Int × Int × Int × Int × Int × Int × (List dU) × (List dU) × (List aQ) × Int × (List dU) × (List (List UInt8)) × Int × Int × Int) :=
 (oh a0 a1).bind fun y3 =>
 (kG a0 a1 [112, 117, 114, 101]).bind fun (y7 : Bool) =>
 (if y7 = true then
 some (ak (a1 + 1))
 else
 some a1 : Option (Int)).bind fun x0 =>
 (wk a0 x0 a2_1 true).bind fun y0 =>
 if (y0.fF.dA != 0) then
 none
 else
 (oh a0 y0.dQ).bind fun y1 =>
 if (y1.ab != 1) then
 none
 else
 (kG a0 (ak (y0.dQ + 1)) [40]).bind fun (y2 : Bool) =>
 if y2 = true then
 if ((b1.length : Int) == 12) then
 none
 else
 (uA a0 (ak (y0.dQ + 1)) a2_1 y1.ew y7 y0.fT.ab y0.fT.aq y0.fT.fN y0.fT.aK.a0.ab y0.fT.aK.a0.fN y0.fT.aK.a1.ab y0.fT.aK.a1.fN y0.fT.aK.a2.ab y0.fT.aK.a2.fN y0.fT.aK.a3.ab y0.fT.aK.a3.fN zGMethod.ap zGMethod.cy y3.fAt a3 []).bind fun y4 =>
 if (y4.fF.dA != 0) then
 none
 else
 (li ((b1.length : Int) + ([y4.fM].length : Int)) 200).bind fun u0 =>
 some (a2_0, a2_1, a2_2, a2_3, b0, (b1 ++ [y4.fM]), a2_6, zGGot_ref09.fM.ax, zGGot_ref09.fM.eN, zGGot_ref09.fM.ca.ab, zGGot_ref09.fM.ca.aq, zGGot_ref09.fM.ca.fN, zGGot_ref09.fM.ca.aK.a0.ab, zGGot_ref09.fM.ca.aK.a0.fN, zGGot_ref09.fM.ca.aK.a1.ab, zGGot_ref09.fM.ca.aK.a1.fN, zGGot_ref09.fM.ca.aK.a2.ab, zGGot_ref09.fM.ca.aK.a2.fN, zGGot_ref09.fM.ca.aK.a3.ab, zGGot_ref09.fM.ca.aK.a3.fN, zGGot_ref09.fM.ap, zGGot_ref09.fM.cy, [], zGGot_ref09.fM.fAt, zGGot_ref09.fV, zGGot_ref09.fN, y4.dQ, zGGot_ref09.fF.dA, zGGot_ref09.fF.fAt)
 else
 ((kG a0 (ak (y0.dQ + 1)) [59]).bind fun (y5 : Bool) =>
 if (!y5) then
 none
 else
 if y7 = true then
 none
 else
 some () : Option (Unit)).bind fun _ =>
 if (y0.fT.ab == 0) then
 none
 else
 if ((b0.length : Int) == 12) then
 none
 else
 (li ((b0.length : Int) + ([(⟨y1.ew, y0.fT, y3.fAt⟩ : dU)].length : Int)) 120).bind fun u1 =>
 some (a2_0, a2_1, a2_2, a2_3, (b0 ++ [(⟨y1.ew, y0.fT, y3.fAt⟩ : dU)]), b1, a2_6, zGGot_ref09.fM.ax, zGGot_ref09.fM.eN, zGGot_ref09.fM.ca.ab, zGGot_ref09.fM.ca.aq, zGGot_ref09.fM.ca.fN, zGGot_ref09.fM.ca.aK.a0.ab, zGGot_ref09.fM.ca.aK.a0.fN, zGGot_ref09.fM.ca.aK.a1.ab, zGGot_ref09.fM.ca.aK.a1.fN, zGGot_ref09.fM.ca.aK.a2.ab, zGGot_ref09.fM.ca.aK.a2.fN, zGGot_ref09.fM.ca.aK.a3.ab, zGGot_ref09.fM.ca.aK.a3.fN, zGGot_ref09.fM.ap, zGGot_ref09.fM.cy, [], zGGot_ref09.fM.fAt, zGGot_ref09.fV, zGGot_ref09.fN, ak ((ak (y0.dQ + 1)) + 1), zGGot_ref09.fF.dA, zGGot_ref09.fF.fAt)
def rP (a0 : List cf) (a2 : Int) : Nat → Int → (List UInt8) → (List (List UInt8)) → (List UInt8) → (List bH) → (List dU) → (List aI) → Int → Option (Int × (List UInt8) × (List (List UInt8)) × (List UInt8) × (List bH) × (List dU) × (List aI) × Int)
 | 0, _, _, _, _, _, _, _, _ => none
 | n + 1, x0, x1, x2, x3, x4, x5, x6, x7 =>
 (kG a0 x0 [125]).bind fun (y0 : Bool) =>
 if (!y0) then
 (lY (⟨x1, x2, x3, x4, x5, x6, x7⟩ : ae)).bind fun (y1 : Int) =>
 (uV a0 x0 x1 x2 x3 x4 x7 (ak (a2 + y1)) x5 x6).bind fun y2 =>
 if (y2.2.2.2.2.2.2.2.2.2.2.2.2.2.2.2.2.2.2.2.2.2.2.2.2.2.2.2.1 != 0) then
 none
 else
 rP a0 a2 n y2.2.2.2.2.2.2.2.2.2.2.2.2.2.2.2.2.2.2.2.2.2.2.2.2.2.2.1 y2.1 y2.2.1 y2.2.2.1 y2.2.2.2.1 y2.2.2.2.2.1 y2.2.2.2.2.2.1 y2.2.2.2.2.2.2.1
 else
 some (x0, x1, x2, x3, x4, x5, x6, x7)
def vU (a0 : List cf) (a1 : Int) (a2 : Int) : Option et :=
 (oh a0 a1).bind fun y3 =>
 (oh a0 (ak (a1 + 1))).bind fun y7 =>
 if (y7.ab != 1) then
 none
 else
 (oh a0 (ak (a1 + 1))).bind fun y0 =>
 (kG a0 (ak (a1 + 2)) [60]).bind fun (y1 : Bool) =>
 if y1 = true then
 none
 else
 (kG a0 (ak (a1 + 2)) [101, 120, 116, 101, 110, 100, 115]).bind fun (y2 : Bool) =>
 if y2 = true then
 none
 else
 (kG a0 (ak (a1 + 2)) [123]).bind fun (y4 : Bool) =>
 if (!y4) then
 none
 else
 (rP a0 a2 (a0.length + 64) (ak ((ak (a1 + 2)) + 1)) y0.ew zGClass.ap zGClass.di zGClass.ey [] [] y3.fAt).bind fun (x0, x1, x2, x3, x4, x5, x6, x7) =>
 some (⟨(⟨x1, x2, x3, x4, x5, x6, x7⟩ : ae), zGMethod, [], [], ak (x0 + 1), bG⟩ : et)
def wz (y3 : (List cf) × ce) : Nat → (List ae) → Int → Int → Option ((List ae))
 | 0, _, _, _ => none
 | n + 1, x0, x1, x2 =>
 (oh y3.1 x1).bind fun y0 =>
 if (y0.ab != 0) then
 (kG y3.1 x1 [99, 108, 97, 115, 115]).bind fun (y1 : Bool) =>
 if (!y1) then
 none
 else
 if ((x0.length : Int) == 20) then
 none
 else
 (vU y3.1 x1 x2).bind fun y2 =>
 if (y2.fF.dA != 0) then
 none
 else
 (li ((x0.length : Int) + ([y2.fC].length : Int)) 136).bind fun u0 =>
 (lY y2.fC).bind fun (y4 : Int) =>
 wz y3 n (x0 ++ [y2.fC]) y2.dQ (ak (x2 + y4))
 else
 some x0
def uk (a0 : List UInt8) : Option ((List ae) × ce) :=
 (DJ a0).bind fun y3 =>
 if (y3.2.dA != 0) then
 none
 else
 (wz y3 (a0.length + 64) [] 0 0).bind fun x0 =>
 some (x0, bG)
def pr (y3 : Int) : Int → Unit → Option (Ctl Unit Unit)
 | x0, _ =>
 if (x0 == y3) then
 some (.stop ())
 else
 some (.next ())
def qp (a0 : List ae) (a1 : List UInt8) (a2 : List UInt8) : Option Bool :=
 (mj a0 a2).bind fun (y3 : Int) =>
 (ue a0 a1).bind fun y7 =>
 (zP y7.1 y7.2).bind fun (rows0 : List (Int)) =>
 (vt (pr y3) rows0 ()).bind fun (lr0 : Ctl Unit Unit) =>
 Ctl.elim lr0 (fun _ =>
 some true) (fun _ =>
 some false)
def eW (a0 : List aI) (q1 : aI → Option Bool) : Nat → Int → Option (Ctl (Int) (Unit))
 | 0, _ => none
 | n + 1, x0 =>
 if (decide (x0 < (a0.length : Int))) then
 (idx a0 x0).bind fun y0 =>
 (q1 y0).bind fun y1 =>
 if y1 = true then
 some (.stop x0)
 else
 eW a0 q1 n (ak (x0 + 1))
 else
 some (.next ())
def fW (a0 : List aI) (q1 : aI → Option Bool) : Option Int :=
 (eW a0 q1 ((a0.length - 0 : Int).toNat + 1) 0).bind fun lr0 =>
 Ctl.elim lr0 (fun v => some v) fun _ =>
 some (-1)
def gY (a0 : aI) (c0 : List UInt8) : Option Bool :=
 some (a0.ax == c0)
def gx (a1 : List UInt8) (a2 : List UInt8) (b0_0 : List ae) : Nat → Nat → (List UInt8 → Option Int) → (List (A2 Int)) → Int → Option (Nat × (List UInt8 → Option Int) × (List (A2 Int)))
 | 0, _, _, _, _ => none
 | n + 1, x0, x1, x2, x3 =>
 if (decide (x3 < (b0_0.length : Int))) then
 ((idx b0_0 x3).bind fun y0 =>
 (qp b0_0 y0.ax a1).bind fun y1 =>
 if (!y1) then
 some (x0, x1, x2)
 else
 (oo b0_0 y0.ax a2).bind fun y2 =>
 if (!y2.2) then
 some (x0, x1, x2)
 else
 (mj b0_0 y2.1.aq).bind fun (y3 : Int) =>
 (idx b0_0 y3).bind fun y4 =>
 (fW y4.ah (fun (z141 : aI) => gY z141 a2)).bind fun (y5 : Int) =>
 (xW x1 ((⟨y3, y5⟩ : A2 Int).a0) ((⟨y3, y5⟩ : A2 Int).a1)).bind fun (y6 : Int) =>
 (P9 x0 ((⟨y3, y5⟩ : A2 Int).a0) ((⟨y3, y5⟩ : A2 Int).a1)).bind fun u0 =>
 (LL (ak (y6 + 1))).bind fun u1 =>
 (xW (qK x1 (kb2 ((⟨y3, y5⟩ : A2 Int).a0) ((⟨y3, y5⟩ : A2 Int).a1)) (ak (y6 + 1))) ((⟨y3, y5⟩ : A2 Int).a0) ((⟨y3, y5⟩ : A2 Int).a1)).bind fun (y7 : Int) =>
 if (y7 == 1) then
 (li ((x2.length : Int) + ([(⟨y3, y5⟩ : A2 Int)].length : Int)) 16).bind fun u2 =>
 some ((x0 + 1), qK x1 (kb2 ((⟨y3, y5⟩ : A2 Int).a0) ((⟨y3, y5⟩ : A2 Int).a1)) (ak (y6 + 1)), (x2 ++ [(⟨y3, y5⟩ : A2 Int)]))
 else
 some ((x0 + 1), qK x1 (kb2 ((⟨y3, y5⟩ : A2 Int).a0) ((⟨y3, y5⟩ : A2 Int).a1)) (ak (y6 + 1)), x2) : Option (Nat × (List UInt8 → Option Int) × (List (A2 Int)))).bind fun (x4, x5, x6) =>
 gx a1 a2 b0_0 n x4 x5 x6 (ak (x3 + 1))
 else
 some (x0, x1, x2)
def eb (a1 : List UInt8) (a2 : List UInt8) (b0_0 : List ae) (b1 : Nat × (List UInt8 → Option Int)) (b2 : List (A2 Int)) : Option ((Nat × (List UInt8 → Option Int)) × (List (A2 Int))) :=
 (gx a1 a2 b0_0 ((b0_0.length - 0 : Int).toNat + 1) b1.1 b1.2 b2 0).bind fun (x0, x1, x2) =>
 some ((x0, x1), x2)
def fG (a1 : ae) (a2 : aI) (a3 : List aQ) (b0_0 : List ae) (__pure_walker__body_w_rec : ae → aI → (List aQ) → (List ae) → (Nat × (List UInt8 → Option Int)) → (List (A2 Int)) → Option ((Nat × (List UInt8 → Option Int)) × (List (A2 Int)))) : Nat → Nat → (List UInt8 → Option Int) → (List (A2 Int)) → Int → Option (Nat × (List UInt8 → Option Int) × (List (A2 Int)))
 | 0, _, _, _, _ => none
 | n + 1, x0, x1, x2, x3 =>
 if (decide (x3 < (a3.length : Int))) then
 (idx a3 x3).bind fun y0 =>
 ((nP a1 a2 y0.fY).bind fun y1 =>
 (if y1.2 = true then
 if (y0.ab == 4) then
 some (y1.1.ab == 2)
 else
 some false
 else
 some false : Option (Bool)).bind fun x4 =>
 if x4 = true then
 (eb y1.1.aq y0.ax b0_0 (x0, x1) x2).bind fun y2 =>
 some (y2.1.1, y2.1.2, y2.2)
 else
 some (x0, x1, x2) : Option (Nat × (List UInt8 → Option Int) × (List (A2 Int)))).bind fun (x5, x6, x7) =>
 (__pure_walker__body_w_rec a1 a2 y0.bM b0_0 (x5, x6) x7).bind fun y3 =>
 (__pure_walker__body_w_rec a1 a2 y0.dp b0_0 (y3.1.1, y3.1.2) y3.2).bind fun y4 =>
 fG a1 a2 a3 b0_0 __pure_walker__body_w_rec n y4.1.1 y4.1.2 y4.2 (ak (x3 + 1))
 else
 some (x0, x1, x2)
def dJ : Nat → ae → aI → (List aQ) → (List ae) → (Nat × (List UInt8 → Option Int)) → (List (A2 Int)) → Option ((Nat × (List UInt8 → Option Int)) × (List (A2 Int)))
 | 0, _, _, _, _, _, _ => none
 | n + 1, a1, a2, a3, b0_0, b1, b2 =>
 (fG a1 a2 a3 b0_0 (dJ n) ((a3.length - 0 : Int).toNat + 1) b1.1 b1.2 b2 0).bind fun (x0, x1, x2) =>
 some ((x0, x1), x2)

def lg (a0 : List ae) (a1 : List UInt8) : Nat → Nat → (List UInt8 → Option Int) → (List (A2 Int)) → Int → Option (Nat × (List UInt8 → Option Int) × (List (A2 Int)))
 | 0, _, _, _, _ => none
 | n + 1, x0, x1, x2, x3 =>
 if (decide (x3 < (x2.length : Int))) then
 (idx x2 x3).bind fun y0 =>
 (idx a0 y0.a0).bind fun y1 =>
 (idx x2 x3).bind fun y2 =>
 (idx y1.ah y2.a1).bind fun y3 =>
 (dJ (dd y3.bM + 1) y1 y3 y3.bM a0 (x0, x1) x2).bind fun y4 =>
 lg a0 a1 n y4.1.1 y4.1.2 y4.2 (ak (x3 + 1))
 else
 some (x0, x1, x2)
def od (a0 : List ae) (a1 : List UInt8) (a2 : List UInt8) : Option (List (A2 Int)) :=
 (eb a1 a2 a0 (0, (fun _ => none)) []).bind fun y3 =>
 (lg a0 a1 ((a0.map fun c => c.ah.length).foldr (· + ·) 0 + 1) y3.1.1 y3.1.2 y3.2 0).bind fun (x0, x1, x2) =>
 (sV x2).bind fun y0 =>
 some y0
def kR  : Option Bool :=
 (uk [99, 108, 97, 115, 115, 32, 65, 32, 123, 32, 105, 110, 116, 32, 110, 59, 32, 112, 117, 114, 101, 32, 118, 111, 105, 100, 32, 109, 40, 41, 32, 123, 32, 116, 104, 105, 115, 46, 110, 32, 61, 32, 49, 59, 32, 125, 32, 118, 111, 105, 100, 32, 107, 40, 41, 32, 123, 32, 116, 104, 105, 115, 46, 109, 40, 41, 59, 32, 125, 32, 125]).bind fun (y3 : (List ae) × ce) =>
 (lb y3.1).bind fun y5 =>
 if (BR y5 (⟨20, 33⟩ : ce)) then
 (od y3.1 [65] [107]).bind fun (y8 : (List (A2 Int))) =>
 some ((y8.length : Int) == 2)
 else
 none
def ji (y0 : (List az)) : Nat → Int → Option (Ctl (Bool) (Unit))
 | 0, _ => none
 | n + 1, x0 =>
 if (decide (x0 < (y0.length : Int))) then
 ((idx y0 x0).bind fun y1 =>
 if (y1.fS.ab == 3) then
 some true
 else
 (idx y0 x0).bind fun y2 =>
 if (y2.fS.ab == 7) then
 some true
 else
 (idx y0 x0).bind fun y3 =>
 some (y3.fS.ab == 8) : Option (Bool)).bind fun x1 =>
 if x1 = true then
 some (.stop false)
 else
 ji y0 n (ak (x0 + 1))
 else
 some (.next ())
def jf (a0 : List ae) (a1 : List UInt8) (y0 : (List (A2 Int))) : Nat → Int → Option (Ctl (Bool) (Unit))
 | 0, _ => none
 | n + 1, x0 =>
 if (decide (x0 < (y0.length : Int))) then
 (idx y0 x0).bind fun y1 =>
 (idx a0 y1.a0).bind fun y2 =>
 ((idx y0 x0).bind fun y3 =>
 if (decide (y3.a1 ≥ (y2.ah.length : Int))) then
 some true
 else
 (idx y0 x0).bind fun y4 =>
 (idx y2.ah y4.a1).bind fun y5 =>
 some (!y5.eN) : Option (Bool)).bind fun x1 =>
 if x1 = true then
 some (.stop false)
 else
 (idx y0 x0).bind fun y6 =>
 (idx y2.ah y6.a1).bind fun y7 =>
 (nR [({ y2 with ah := [y7] } : ae)]).bind fun y8 =>
 (ji y8 ((y8.length - 0 : Int).toNat + 1) 0).bind fun lr0 =>
 Ctl.elim lr0 (fun v => some (.stop v)) fun _ =>
 jf a0 a1 y0 n (ak (x0 + 1))
 else
 some (.next ())
def qi (a0 : List ae) (a1 : List UInt8) (a2 : List UInt8) : Option Bool :=
 ((qJ a0).bind fun y3 =>
 if y3 = true then
 some true
 else
 (qy a0).bind fun y6 =>
 if (y6.dA != 0) then
 some true
 else
 (lb a0).bind fun y9 =>
 some (y9.dA != 0) : Option (Bool)).bind fun x0 =>
 if x0 = true then
 Option.bind kR fun (y0 : Bool) =>
 some y0
 else
 (nQ a0 a1 a2).bind fun y1 =>
 (od a0 a1 a2).bind fun y2 =>
 (if (!y1.2) then
 some true
 else
 some (!y1.1.aE.eN) : Option (Bool)).bind fun x1 =>
 if x1 = true then
 if (y1.2 == (decide ((y2.length : Int) > 0))) then
 Option.bind kR fun (y4 : Bool) =>
 some y4
 else
 if (!y1.2) then
 Option.bind kR fun (y5 : Bool) =>
 some y5
 else
 some false
 else
 if ((y2.length : Int) == 0) then
 some false
 else
 (jf a0 a1 y2 ((y2.length - 0 : Int).toNat + 1) 0).bind fun lr0 =>
 Ctl.elim lr0 (fun v => some v) fun _ =>
 Option.bind kR fun (y7 : Bool) =>
 some y7
end
end Go.Proofs.YtiefoagopfeibaaGreat
