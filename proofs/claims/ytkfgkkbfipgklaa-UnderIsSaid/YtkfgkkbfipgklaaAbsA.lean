/- The abstract layer that the proof stands on: no condition. -/
import Derived.OrdersIn
import Derived.Laws.OwnMore
import Derived.Laws.AppendOwnNone
import Derived.Laws.MakeOwn
import Derived.Laws.CopyOwn
import Derived.Below
import Derived.Maps.Views
/- Abstract values over the model's memory: what a Go value reads as, with no word on where it lies. -/
namespace Go.Abs
open Go.RowKit

/-- A value that holds nothing of the call's own memory. -/
inductive PV where
  | int (k : IntKind) (n : Int)
  | bool (b : Bool)
  | str (s : List UInt8)
  | agg (cs : List PV)
  | vs (sz : Nat) (rows : List (List PV))
  | vp (row : List PV)
  | nilp
  | nils
  | fn (f : Nat) (caps : List PV)
  | nilf
  | yld (l : Nat)

/-- Fits one cell. -/
def PV.one : PV → Bool
  | .agg _ => false
  | _ => true

/-- Value `v` reads as `p` in world `w`; nothing that is read lies in a block of `O` (the blocks that somebody may still write). -/
inductive Rd (w : World) (O : Nat → Prop) : PV → Value → Prop
  | int (k : IntKind) (n : Int) : Rd w O (.int k n) (.int k n)
  | bool (b : Bool) : Rd w O (.bool b) (.bool b)
  | str (s : List UInt8) : Rd w O (.str s) (.string ⟨s.toArray⟩)
  | agg (cs : List PV) (us : Array Value) (hn : us.size = cs.length) (hone : ∀ c ∈ cs, c.one = true)
      (h : ∀ (i : Nat) (c : PV) (u : Value), cs[i]? = some c → us[i]? = some u → Rd w O c u) : Rd w O (.agg cs) (.agg us)
  | vsz (sz : Nat) (a : Option Addr) (cap : Nat) (h0 : a = none → cap = 0) (hm : cap ≤ maxLen) : Rd w O (.vs sz []) (.slice a 0 cap)
  | vs (sz : Nat) (rows : List (List PV)) (b off cap : Nat) (us : Nat → Value) (hO : ¬ O b) (hb : b < w.heap.size) (hc : rows.length ≤ cap) (hm : cap ≤ maxLen)
      (hz : ∀ row ∈ rows, row.length = sz) (hone : ∀ row ∈ rows, ∀ c ∈ row, c.one = true)
      (hcell : ∀ k, k < rows.length * sz → w.cell? ⟨b, off + k, none⟩ = some (us k))
      (h : ∀ (i j : Nat) (row : List PV) (c : PV), rows[i]? = some row → row[j]? = some c → Rd w O c (us (i * sz + j))) :
      Rd w O (.vs sz rows) (.slice (some ⟨b, off, none⟩) rows.length cap)
  | vp (row : List PV) (b off : Nat) (us : Nat → Value) (hO : ¬ O b) (hb : b < w.heap.size) (hone : ∀ c ∈ row, c.one = true)
      (hcell : ∀ k, k < row.length → w.cell? ⟨b, off + k, none⟩ = some (us k))
      (h : ∀ (j : Nat) (c : PV), row[j]? = some c → Rd w O c (us j)) :
      Rd w O (.vp row) (.pointer (some ⟨b, off, none⟩))
  | nilp : Rd w O .nilp (.pointer none)
  | nils : Rd w O .nils (.slice none 0 0)
  | fn (f : Nat) (caps : List PV) (us : Array Value) (hn : us.size = caps.length)
      (h : ∀ (i : Nat) (c : PV) (u : Value), caps[i]? = some c → us[i]? = some u → Rd w O c u) : Rd w O (.fn f caps) (.func (.func f) #[] us)
  | nilf : Rd w O .nilf .nilFunc
  | yld (l : Nat) : Rd w O (.yld l) (.func (.yield l) #[] #[])

theorem Rd.mono {w w' : World} {O O' : Nat → Prop} (hsz : w.heap.size ≤ w'.heap.size)
    (hO : ∀ b, b < w.heap.size → ¬ O b → ¬ O' b ∧ w'.heap[b]? = w.heap[b]?) : ∀ {p : PV} {v : Value}, Rd w O p v → Rd w' O' p v := by
  intro p v h
  induction h with
  | int k n => exact .int k n
  | bool b => exact .bool b
  | str s => exact .str s
  | agg cs us hn hone h ih => exact .agg cs us hn hone ih
  | vsz sz a cap h0 hm => exact .vsz sz a cap h0 hm
  | vs sz rows b off cap us h1 h2 h3 h4 h5 h6 h7 h8 ih =>
    obtain ⟨h9, h10⟩ := hO b h2 h1
    exact .vs sz rows b off cap us h9 (by omega) h3 h4 h5 h6 (fun k hk => (World.cell?_of_block (a := ⟨b, off + k, none⟩) h10).trans (h7 k hk)) ih
  | vp row b off us h1 h2 h3 h4 h5 ih =>
    obtain ⟨h9, h10⟩ := hO b h2 h1
    exact .vp row b off us h9 (by omega) h3 (fun k hk => (World.cell?_of_block (a := ⟨b, off + k, none⟩) h10).trans (h4 k hk)) ih
  | nilp => exact .nilp
  | nils => exact .nils
  | fn f caps us hn h ih => exact .fn f caps us hn ih
  | nilf => exact .nilf
  | yld l => exact .yld l

theorem Rd.vs0 {w : World} {O : Nat → Prop} (sz : Nat) : Rd w O (.vs sz []) (.slice none 0 0) := .vsz sz none 0 (fun _ => rfl) (Nat.zero_le _)

theorem Rd.one_ {w : World} {O : Nat → Prop} {p : PV} {v : Value} (h : Rd w O p v) (hp : p.one = true) : v.oneCell' = true := by
  cases h <;> first | rfl | simp [PV.one] at hp

/-- A value of the activation: as `PV`, or of its own memory. -/
inductive AV where
  | pv (p : PV)
  | ls (id : Nat)
  | le (id sz i off : Nat)
  | lp (id off : Nat)
  | cs (sz : Nat) (rows : List (List PV))
  | ra (id m : Nat)
  | fn (f : Nat) (caps : List AV)
  | tup (vs : List AV)

inductive RdA (w : World) (O : Nat → Prop) (θ : Nat → Option Value) : AV → Value → Prop
  | pv (p : PV) (v : Value) (h : Rd w O p v) : RdA w O θ (.pv p) v
  | ls (id : Nat) (v : Value) (h : θ id = some v) : RdA w O θ (.ls id) v
  | le (id sz i off g n cap : Nat) (h : θ id = some (.slice (some ⟨g, 0, none⟩) n cap)) : RdA w O θ (.le id sz i off) (.pointer (some ⟨g, i * sz + off, none⟩))
  | lp (id off g : Nat) (h : θ id = some (.pointer (some ⟨g, 0, none⟩))) : RdA w O θ (.lp id off) (.pointer (some ⟨g, off, none⟩))
  | ra (id m g n cap : Nat) (h : θ id = some (.slice (some ⟨g, 0, none⟩) n cap)) (h0 : 0 < m) : RdA w O θ (.ra id m) (.slice (some ⟨g, 0, none⟩) m m)
  | cs (sz : Nat) (rows : List (List PV)) (v : Value) (h : Rd w O (.vs sz rows) v) (hc : ∃ a n, v = .slice a n n) : RdA w O θ (.cs sz rows) v
  | fn (f : Nat) (caps : List AV) (us : Array Value) (hn : us.size = caps.length)
      (h : ∀ (i : Nat) (c : AV) (u : Value), caps[i]? = some c → us[i]? = some u → RdA w O θ c u) : RdA w O θ (.fn f caps) (.func (.func f) #[] us)
  | tup (xs : List AV) (us : Array Value) (hn : us.size = xs.length)
      (h : ∀ (i : Nat) (c : AV) (u : Value), xs[i]? = some c → us[i]? = some u → RdA w O θ c u) : RdA w O θ (.tup xs) (.tuple us)

theorem RdA.mono {w w' : World} {O O' : Nat → Prop} {θ θ' : Nat → Option Value} (hsz : w.heap.size ≤ w'.heap.size)
    (hO : ∀ b, b < w.heap.size → ¬ O b → ¬ O' b ∧ w'.heap[b]? = w.heap[b]?) (hθ : ∀ i v, θ i = some v → θ' i = some v) : ∀ {x : AV} {v : Value}, RdA w O θ x v → RdA w' O' θ' x v := by
  intro x v h
  induction h with
  | pv p v h => exact .pv p v (h.mono hsz hO)
  | ls id v h => exact .ls id v (hθ _ _ h)
  | le id sz i off g n cap h => exact .le id sz i off g n cap (hθ _ _ h)
  | lp id off g h => exact .lp id off g (hθ _ _ h)
  | ra id m g n cap h h0 => exact .ra id m g n cap (hθ _ _ h) h0
  | cs sz rows v h hc => exact .cs sz rows v (h.mono hsz hO) hc
  | fn f caps us hn h ih => exact .fn f caps us hn ih
  | tup xs us hn h ih => exact .tup xs us hn ih

mutual
/-- The same with other names for the call's own memory. -/
def AV.map (ρ : Nat → Nat) : AV → AV
  | .pv p => .pv p
  | .ls id => .ls (ρ id)
  | .le id sz i off => .le (ρ id) sz i off
  | .lp id off => .lp (ρ id) off
  | .cs sz rows => .cs sz rows
  | .ra id m => .ra (ρ id) m
  | .fn f caps => .fn f (AV.mapL ρ caps)
  | .tup vs => .tup (AV.mapL ρ vs)
def AV.mapL (ρ : Nat → Nat) : List AV → List AV
  | [] => []
  | x :: l => x.map ρ :: AV.mapL ρ l
end

theorem AV.mapL_get (ρ : Nat → Nat) : ∀ (l : List AV) (i : Nat), (AV.mapL ρ l)[i]? = (l[i]?).map (AV.map ρ)
  | [], i => by simp [AV.mapL]
  | x :: l, 0 => by simp [AV.mapL]
  | x :: l, i + 1 => by simp [AV.mapL, AV.mapL_get ρ l i]

theorem AV.mapL_length (ρ : Nat → Nat) : ∀ (l : List AV), (AV.mapL ρ l).length = l.length
  | [] => by simp [AV.mapL]
  | x :: l => by simp [AV.mapL, AV.mapL_length ρ l]

theorem RdA.ren {w : World} {O : Nat → Prop} {θ θ' : Nat → Option Value} (ρ : Nat → Nat) (hθ : ∀ i v, θ (ρ i) = some v → θ' i = some v) :
    ∀ {y : AV} {v : Value}, RdA w O θ y v → ∀ x : AV, y = x.map ρ → RdA w O θ' x v := by
  intro y v h
  induction h with
  | pv p v h => intro x hx; cases x <;> simp [AV.map] at hx; subst hx; exact .pv _ v h
  | ls id v h => intro x hx; cases x <;> simp [AV.map] at hx; subst hx; exact .ls _ v (hθ _ _ h)
  | le id sz i off g n cap h => intro x hx; cases x <;> simp [AV.map] at hx; obtain ⟨rfl, rfl, rfl, rfl⟩ := hx; exact .le _ _ _ _ g n cap (hθ _ _ h)
  | lp id off g h => intro x hx; cases x <;> simp [AV.map] at hx; obtain ⟨rfl, rfl⟩ := hx; exact .lp _ _ g (hθ _ _ h)
  | ra id m g n cap h h0 => intro x hx; cases x <;> simp [AV.map] at hx; obtain ⟨rfl, rfl⟩ := hx; exact .ra _ _ g n cap (hθ _ _ h) h0
  | cs sz rows v h hc => intro x hx; cases x <;> simp [AV.map] at hx; obtain ⟨rfl, rfl⟩ := hx; exact .cs _ _ v h hc
  | fn f caps us hn h ih =>
    intro x hx; cases x <;> simp [AV.map] at hx
    rename_i g cs
    obtain ⟨rfl, rfl⟩ := hx
    refine .fn _ cs us (by rw [hn, AV.mapL_length]) fun i c u hc hu => ?_
    have := ih i (c.map ρ) u (by rw [AV.mapL_get, hc]; rfl) hu
    exact this c rfl
  | tup xs us hn h ih =>
    intro x hx; cases x <;> simp [AV.map] at hx
    rename_i cs
    subst hx
    refine .tup cs us (by rw [hn, AV.mapL_length]) fun i c u hc hu => ?_
    have := ih i (c.map ρ) u (by rw [AV.mapL_get, hc]; rfl) hu
    exact this c rfl

/-- A block of the call's own memory. -/
inductive Blk where
  | row (e : TypeId) (sz : Nat) (rows : List (List PV))
  | box (t : TypeId) (cells : List AV)
  | dict (P : Program) (t : TypeId) (n : Nat) (m : List UInt8 → Int)

def Blk.map (ρ : Nat → Nat) : Blk → Blk
  | .row e sz rows => .row e sz rows
  | .box t cells => .box t (AV.mapL ρ cells)
  | .dict P t n m => .dict P t n m

/-- The block in which a slice or pointer value lies. -/
def blkOf : Value → Option Nat
  | .slice (some a) _ _ => some a.block
  | .pointer (some a) => some a.block
  | .map (some b) => some b
  | _ => none

/-- The cells `us` hold the rows `rows`, `sz` cells each. -/
structure RowsRd (w : World) (O : Nat → Prop) (sz : Nat) (rows : List (List PV)) (us : List Value) : Prop where
  len : us.length = rows.length * sz
  hz : ∀ row ∈ rows, row.length = sz
  one : ∀ row ∈ rows, ∀ c ∈ row, c.one = true
  rd : ∀ (i j : Nat) (row : List PV) (c : PV) (u : Value), rows[i]? = some row → row[j]? = some c → us[i * sz + j]? = some u → Rd w O c u

/-- A row of the call's own: `n` elements' cells lie at its block's start; its spare places lie behind, in the block. -/
def ownsW (w : World) (e : TypeId) (size : Nat) (v : Value) (n : Nat) (xs : List Value) : Prop :=
  xs.length = n * size ∧
  ((v = .slice none 0 0 ∧ n = 0) ∨
   ∃ g cap cur, v = .slice (some ⟨g, 0, none⟩) n cap ∧ True ∧ w.heap[g]? = some (.cells cur e (0, 0)) ∧ n ≤ cap ∧ cap ≤ maxLen ∧ cap * size ≤ cur.size ∧ cur.toList.take (n * size) = xs)
theorem ownsW_nil (w : World) (e : TypeId) (size : Nat) : ownsW w e size (.slice none 0 0) 0 [] := ⟨by simp, .inl ⟨rfl, rfl⟩⟩
theorem ownsW.cells {w : World} {e : TypeId} {size n : Nat} {v : Value} {xs : List Value} (h : ownsW w e size v n xs) {g : Nat} (hg : blkOf v = some g) : ∀ j u, xs[j]? = some u → w.cell? ((⟨g, 0, none⟩ : Addr).add j) = some u := by
  intro j u hu
  rcases h.2 with ⟨rfl, _⟩ | ⟨g', cap, cur, rfl, _, hgg, _, _, _, ht⟩
  · cases hg
  · cases hg
    rw [Addr.add_lit, cell_of_row w g' _ cur e (0, 0) hgg, Nat.zero_add]
    rw [← ht, List.getElem?_take] at hu
    split at hu
    · simpa using hu
    · cases hu

def BlkOk (w : World) (O : Nat → Prop) (θ : Nat → Option Value) (v : Value) : Blk → Prop
  | .row e sz rows => ∃ us, ownsW w e sz v rows.length us ∧ RowsRd w O sz rows us
  | .box t cells => ∃ g us, v = .pointer (some ⟨g, 0, none⟩) ∧ w.heap[g]? = some (.cells us t (0, 0)) ∧ us.size = cells.length ∧
      ∀ (j : Nat) (c : AV) (u : Value), cells[j]? = some c → us[j]? = some u → RdA w O θ c u ∧ u.oneCell' = true
  | .dict P t n m => ∃ (b k e : Nat) (D : DataW Unit), v = .map (some b) ∧ P.underlying t = some (.map k e) ∧ P.underlying k = some .string ∧ P.underlying e = some (.int .i64) ∧ w.ownsMap P k (plainElem P e) b n D ∧ Maps.IsMap D ∧
      ∀ key : List UInt8, D.atKey (.string key) (.lit (.int .i64 0)) = .lit (.int .i64 (m key))

/-- The abstract state: how many temporaries; what is known of them; the call's own memory; the next free name; its deferred calls; names that are free; how often it has called yield; the temporaries that it keeps. -/
structure St where
  n : Nat
  fr : List (Nat × Option AV)
  hp : List (Nat × Option Blk)
  next : Nat
  df : List Deferred := []
  free : List Nat := []
  ys : Nat := 0
  kt : List Nat := []

def look {α : Type} (t : Nat) : List (Nat × Option α) → Option α
  | [] => none
  | (k, x) :: l => bif Nat.beq k t then x else look t l

def St.put (s : St) (d : Option Nat) (x : Option AV) : St :=
  match d with
  | some d => { s with fr := (d, x) :: s.fr }
  | none => s
def St.setBlk (s : St) (id : Nat) (b : Option Blk) : St := { s with hp := (id, b) :: s.hp }

/-- From `w` to `w'` at most the blocks `I` have turned, and nobody else's; `O`: the blocks that somebody may write. -/
structure Stp (O I : Nat → Prop) (w : World) (O' I' : Nat → Prop) (w' : World) : Prop where
  os : w'.os = w.os
  tape : w'.tape = w.tape
  output : w'.output = w.output
  size : w.heap.size ≤ w'.heap.size
  block : ∀ b, b < w.heap.size → (¬ I b ∨ ¬ O b) → w'.heap[b]? = w.heap[b]?
  o1 : ∀ g, O' g → O g ∨ w.heap.size ≤ g
  o2 : ∀ g, O g → ¬ I g → O' g
  olt : ∀ g, O' g → g < w'.heap.size
  i1 : ∀ g, I' g → I g ∨ w.heap.size ≤ g

/-- What is fixed for one activation: the world in which it began; the elder blocks that it may write (`L`), those that it may not hand out (`X`), those that others of its side may write (`K`); what yield's owner says of the world (`J`, by how often yield was called); the temporaries at the start. -/
structure Cx where
  w0 : World
  L : Nat → Prop
  X : Nat → Prop
  K : Nat → Prop
  J : Nat → (Nat → Prop) → (Nat → Prop) → World → Prop
  Jst : ∀ {k : Nat} {O I : Nat → Prop} {w : World} {O' I' : Nat → Prop} {w' : World}, J k O I w → Stp O I w O' I' w' → J k O' I' w'
  KX : ∀ g, K g → X g
  t0 : Array Value

structure Ext (L : Nat → Prop) (w0 w : World) : Prop where
  os : w.os = w0.os
  tape : w.tape = w0.tape
  output : w.output = w0.output
  size : w0.heap.size ≤ w.heap.size
  block : ∀ b, b < w0.heap.size → ¬ L b → w.heap[b]? = w0.heap[b]?

/-- The blocks of the names. -/
def HpB (s : St) (θ : Nat → Option Value) (g : Nat) : Prop := ∃ id b v, look id s.hp = some b ∧ θ id = some v ∧ blkOf v = some g
/-- The blocks of the marks. -/
def DfB (df : List Deferred) (g : Nat) : Prop := ∃ d ∈ df, d.target = .collected g
/-- All that the activation may write. -/
def Mine (c : Cx) (s : St) (θ : Nat → Option Value) (df : List Deferred) (g : Nat) : Prop := c.K g ∨ HpB s θ g ∨ DfB df g

structure SimAt (c : Cx) (s : St) (O : Nat → Prop) (θ : Nat → Option Value) (a : Act) (w : World) : Prop where
  size : a.tmps.size = s.n
  df : a.defers.Nodup
  fr : ∀ t x, look t s.fr = some x → RdA w O θ x (a.tmps.getD t undef)
  hp : ∀ id b, look id s.hp = some b → ∃ v, θ id = some v ∧ BlkOk w O θ v b ∧
    ∀ g, blkOf v = some g → O g ∧ g < w.heap.size ∧ (¬ c.L g → c.w0.heap.size ≤ g) ∧ ¬ c.X g
  inj : ∀ i j bi bj vi vj g, look i s.hp = some bi → look j s.hp = some bj → θ i = some vi → θ j = some vj → blkOf vi = some g → blkOf vj = some g → i = j
  dom : ∀ id v, θ id = some v → id < s.next ∧ id ∉ s.free
  flt : ∀ k ∈ s.free, k < s.next
  one : ∀ id v, θ id = some v → v.oneCell' = true
  olt : ∀ g, O g → g < w.heap.size
  ext : Ext c.L c.w0 w
  xo : ∀ g, c.X g → O g
  xlt : ∀ g, c.X g → g < c.w0.heap.size
  llt : ∀ g, c.L g → g < c.w0.heap.size
  marks : ∀ d ∈ a.defers, ∃ D, d = { target := .collected D, args := #[] } ∧ w.heap[D]? = some (.deferred (some [])) ∧ O D ∧ c.w0.heap.size ≤ D
  oc : ∀ g, O g → g < c.w0.heap.size → c.X g ∨ c.L g
  kp : ∀ t ∈ s.kt, a.tmps.getD t undef = c.t0.getD t undef
  jn : c.J s.ys O (Mine c s θ a.defers) w

def Sim (c : Cx) (s : St) (a : Act) (w : World) : Prop := ∃ O θ, SimAt c s O θ a w
end Go.Abs
