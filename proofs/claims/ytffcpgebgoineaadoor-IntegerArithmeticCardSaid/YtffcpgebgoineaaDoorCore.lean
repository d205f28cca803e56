/- The abstract reading of Go data, of a call's temporaries and of the memory that a call makes; what 'this function computes that' says. Nothing of any program stands here. -/
import Derived.Below
import Derived.Orders
import Derived.Laws.MakeOwn
import Derived.IntWalk
import Derived.Test.YtffcpgebgoineaaDoorGam
namespace Go.Proofs.YtffcpgebgoineaaDoor.K
open Go Go.RowKit
set_option linter.unusedVariables false
set_option linter.unusedSimpArgs false

/-- the rules that a condition is read with -/
theorem sc : (∀ (p : Prop) [Decidable p], (decide p = true) = p) ∧ (∀ (p : Prop) [Decidable p], (decide p = false) ↔ ¬ p) ∧ ((!true) = false) ∧ ((!false) = true) ∧
    (∀ {α : Type} [BEq α] [ReflBEq α] (a : α), (a != a) = false) ∧ (∀ {α : Type} [BEq α] [ReflBEq α] (a : α), (a == a) = true) ∧ (∀ {α : Type} (a : α), a ≠ a ↔ False) ∧
    (∀ b : Bool, (true != b) = !b) ∧ (∀ b : Bool, (false != b) = b) ∧ (∀ b : Bool, (true == b) = b) ∧ (∀ b : Bool, (false == b) = !b) ∧ ((false = true) = False) ∧ ((true = false) = False) ∧
    (∀ b : Bool, ((!b) = true) = (b = false)) ∧ (∀ b : Bool, ((!b) = false) = (b = true)) ∧
    (∀ {α : Type} [BEq α] [LawfulBEq α] {a b : α}, (a == b) = true ↔ a = b) ∧ (∀ {α : Type} [BEq α] [LawfulBEq α] {a b : α}, (a != b) = true ↔ a ≠ b) ∧ (∀ {α : Type} [BEq α] [LawfulBEq α] {a b : α}, (a == b) = false ↔ a ≠ b) ∧ (∀ {α : Type} [BEq α] [LawfulBEq α] {a b : α}, (a != b) = false ↔ a = b) :=
  ⟨fun _ _ => decide_eq_true_eq, fun _ _ => decide_eq_false_iff_not, rfl, rfl, fun a => by simp only [bne, BEq.rfl, Bool.not_true], fun a => BEq.rfl, fun _ => ne_self_iff_false _, fun b => by cases b <;> rfl, fun b => by cases b <;> rfl, fun b => by cases b <;> rfl, fun b => by cases b <;> rfl,
    Bool.false_eq_true, Bool.true_eq_false, fun b => by cases b <;> simp, fun b => by cases b <;> simp, beq_iff_eq, bne_iff_ne, beq_eq_false_iff_ne, bne_eq_false_iff_eq⟩

/-- Immutable data. -/
inductive D where
  | int (k : IntKind) (n : Int)
  | bool (b : Bool)
  | str (s : List UInt8)
  | ints (k : IntKind) (l : List Int)
  | sl (z : Nat) (l : List (List D))
  | agg (l : List D)
  | tup (l : List D)
  | ref (l : List D)
  | fn (f : Nat) (l : List D)
  | raw (v : Value)
  | any

/-- In the range of a kind. -/
def InR (k : IntKind) (n : Int) : Prop := k.min ≤ n ∧ n ≤ k.max

/-- A value of one cell. -/
def one (v : Value) : Bool := match v with
  | .agg _ | .tuple _ => false
  | _ => true
/-- The value reads as the datum, through blocks of R alone. -/
inductive Holds (R : Nat → Prop) (w : World) : D → Value → Prop where
  | int (k : IntKind) (n : Int) (h : InR k n) : Holds R w (.int k n) (.int k n)
  | bool (b : Bool) : Holds R w (.bool b) (.bool b)
  | str (s : ByteArray) (h : s.size ≤ maxLen) : Holds R w (.str s.data.toList) (.string s)
  | intsNil (k : IntKind) : Holds R w (.ints k []) (.slice none 0 0)
  | intsE (k : IntKind) (a : Addr) : Holds R w (.ints k []) (.slice (some a) 0 0)
  | ints (k : IntKind) (l : List Int) (b off cap : Nat) (hR : R b) (hcap : l.length ≤ cap) (hmax : l.length ≤ maxLen)
      (hr : ∀ x ∈ l, InR k x) (hc : ∀ i, (h : i < l.length) → w.cell? ⟨b, off + i, none⟩ = some (.int k l[i])) : Holds R w (.ints k l) (.slice (some ⟨b, off, none⟩) l.length cap)
  | slNil (z : Nat) : Holds R w (.sl z []) (.slice none 0 0)
  | slE (z : Nat) (a : Addr) : Holds R w (.sl z []) (.slice (some a) 0 0)
  | sl (z : Nat) (l : List (List D)) (b off cap : Nat) (vs : Nat → Value) (hR : R b) (hcap : l.length ≤ cap) (hmax : l.length ≤ maxLen)
      (hz : ∀ ds ∈ l, ds.length = z) (hc : ∀ i, i < l.length * z → w.cell? ⟨b, off + i, none⟩ = some (vs i))
      (hh : ∀ (i : Nat) (ds : List D) (j : Nat) (d : D), l[i]? = some ds → ds[j]? = some d → Holds R w d (vs (i * z + j))) : Holds R w (.sl z l) (.slice (some ⟨b, off, none⟩) l.length cap)
  | agg (ds : List D) (cs : Array Value) (hs : cs.size = ds.length) (hh : ∀ (i : Nat) (d : D) (v : Value), ds[i]? = some d → cs[i]? = some v → Holds R w d v) : Holds R w (.agg ds) (.agg cs)
  | tup (ds : List D) (cs : Array Value) (hs : cs.size = ds.length) (hh : ∀ (i : Nat) (d : D) (v : Value), ds[i]? = some d → cs[i]? = some v → Holds R w d v) : Holds R w (.tup ds) (.tuple cs)
  | ref (ds : List D) (b off : Nat) (vs : Nat → Value) (hR : R b) (hc : ∀ j, j < ds.length → w.cell? ⟨b, off + j, none⟩ = some (vs j))
      (hh : ∀ (j : Nat) (d : D), ds[j]? = some d → Holds R w d (vs j)) : Holds R w (.ref ds) (.pointer (some ⟨b, off, none⟩))
  | fn (f : Nat) (ds : List D) (cs : Array Value) (hs : cs.size = ds.length) (hh : ∀ (i : Nat) (d : D) (v : Value), ds[i]? = some d → cs[i]? = some v → Holds R w d v) : Holds R w (.fn f ds) (.func (.func f) #[] cs)
  | raw (v : Value) (h : one v = true) : Holds R w (.raw v) v
  | any (v : Value) (h : one v = true) : Holds R w .any v

theorem cell_of_heap {w w' : World} {b off : Nat} (h : w'.heap[b]? = w.heap[b]?) : w'.cell? ⟨b, off, none⟩ = w.cell? ⟨b, off, none⟩ :=
  World.cell?_of_block (w := w) (w' := w') (a := ⟨b, off, none⟩) h

theorem Holds.mono {R R' : Nat → Prop} {w w' : World} {d : D} {v : Value} (h : Holds R w d v) (hR : ∀ b, R b → R' b) (hw : ∀ b, R b → w'.heap[b]? = w.heap[b]?) : Holds R' w' d v := by
  induction h with
  | int k n h => exact .int k n h
  | bool b => exact .bool b
  | str s h => exact .str s h
  | intsNil k => exact .intsNil k
  | intsE k a => exact .intsE k a
  | ints k l b off cap hb hcap hmax hr hc => exact .ints k l b off cap (hR _ hb) hcap hmax hr fun i hi => by rw [cell_of_heap (hw _ hb)]; exact hc i hi
  | slNil z => exact .slNil z
  | slE z a => exact .slE z a
  | sl z l b off cap vs hb hcap hmax hz hc hh ih => exact .sl z l b off cap vs (hR _ hb) hcap hmax hz (fun i hi => by rw [cell_of_heap (hw _ hb)]; exact hc i hi) ih
  | agg ds cs hs hh ih => exact .agg ds cs hs ih
  | tup ds cs hs hh ih => exact .tup ds cs hs ih
  | ref ds b off vs hb hc hh ih => exact .ref ds b off vs (hR _ hb) (fun j hj => by rw [cell_of_heap (hw _ hb)]; exact hc j hj) ih
  | fn f ds cs hs hh ih => exact .fn f ds cs hs ih
  | raw v h => exact .raw v h
  | any v h => exact .any v h

/-- What a temporary holds: a datum; a pointer into, or a slice over, memory of the call's own; a slice that the call appends to; a pointer to a variable of the call's own that holds such a slice; a function literal that captures variables of the call's own; a datum that reads through new blocks alone (at least n); that own memory is a certain block. -/
inductive TD where
  | val (d : D)
  | pb (k off : Nat)
  | sb (k off len cap : Nat)
  | vec (k : Nat) (T z : Nat) (l : List (List D))
  | psb (j T k off len cap : Nat)
  | pvec (j T k U z : Nat) (l : List (List D))
  | pbs (j T : Nat)
  | clo (f : Nat) (ks : List Nat)
  | nv (n : Nat) (d : D)
  | pin (j b m : Nat)
  | un

/-- Memory of the call's own: a variable or a row of cells. -/
inductive Bx where
  | cells (T : TypeId) (ds : List D)
  | row (T : TypeId) (k : IntKind) (l : List Int)

def Bx.T : Bx → TypeId
  | .cells T _ => T
  | .row T _ _ => T
def Bx.ds : Bx → List D
  | .cells _ ds => ds
  | .row _ k l => l.map (D.int k)

/-- A block whose cells read as these data. -/
def RowIs (R : Nat → Prop) (w : World) (b : Nat) (T : TypeId) (ds : List D) : Prop :=
  ∃ cs : Array Value, w.heap[b]? = some (.cells cs T (0, 0)) ∧ cs.size = ds.length ∧ ∀ (i : Nat) (d : D) (v : Value), ds[i]? = some d → cs[i]? = some v → Holds R w d v

/-- A block whose first cells read as these data, and that may hold more. -/
def VecIs (R : Nat → Prop) (w : World) (b cap : Nat) (T z : Nat) (l : List (List D)) : Prop :=
  ∃ cs : Array Value, w.heap[b]? = some (.cells cs T (0, 0)) ∧ cs.size = cap * z ∧ l.length ≤ cap ∧ cap ≤ maxLen ∧ (∀ ds ∈ l, ds.length = z) ∧
    ∀ (i : Nat) (ds : List D) (j : Nat) (d : D) (v : Value), l[i]? = some ds → ds[j]? = some d → cs[i * z + j]? = some v → Holds R w d v

def HoldsT (R : Nat → Prop) (ad : Nat → Option Nat) (w : World) : TD → Value → Prop
  | .val d, v => Holds R w d v
  | .pb k off, v => ∃ b, ad k = some b ∧ v = .pointer (some ⟨b, off, none⟩)
  | .sb k off len cap, v => (∃ b, ad k = some b ∧ v = .slice (some ⟨b, off, none⟩) len cap) ∧ len ≤ cap ∧ cap ≤ maxLen
  | .vec k T z l, v => (ad k = none ∧ v = .slice none 0 0 ∧ l = []) ∨ ∃ b cap, ad k = some b ∧ v = .slice (some ⟨b, 0, none⟩) l.length cap ∧ VecIs R w b cap T z l
  | .psb j T k off len cap, v => ∃ b u, ad j = some b ∧ v = .pointer (some ⟨b, 0, none⟩) ∧ w.heap[b]? = some (.cells #[u] T (0, 0)) ∧ (∃ c, ad k = some c ∧ u = .slice (some ⟨c, off, none⟩) len cap) ∧ len ≤ cap ∧ cap ≤ maxLen
  | .pvec j T k U z l, v => ∃ b u, ad j = some b ∧ v = .pointer (some ⟨b, 0, none⟩) ∧ w.heap[b]? = some (.cells #[u] T (0, 0)) ∧ ((ad k = none ∧ u = .slice none 0 0 ∧ l = []) ∨ ∃ c cap, ad k = some c ∧ u = .slice (some ⟨c, 0, none⟩) l.length cap ∧ VecIs R w c cap U z l)
  | .pbs j T, v => ∃ b u, ad j = some b ∧ v = .pointer (some ⟨b, 0, none⟩) ∧ w.heap[b]? = some (.cells #[u] T (0, 0))
  | .clo f ks, v => ∃ vs : Array Value, v = .func (.func f) #[] vs ∧ vs.size = ks.length ∧ ∀ (i k : Nat), ks[i]? = some k → ∃ b, ad k = some b ∧ vs[i]? = some (Value.pointer (some ⟨b, 0, none⟩))
  | .nv n d, v => Holds (fun b => R b ∧ n ≤ b) w d v
  | .pin j b m, _ => ad j = some b ∧ ∃ cs T, w.heap[b]? = some (.cells cs T (0, 0)) ∧ m ≤ cs.size
  | .un, _ => True

/-- Reads a list of pairs. -/
def get {α : Type} : List (Nat × α) → Nat → Option α
  | [], _ => none
  | (k, v) :: r, n => match Nat.beq k n with
    | true => some v
    | false => get r n

/-- What is known of the temporaries and of the call's own memory. -/
structure St where
  tm : List (Nat × TD)
  bx : List (Nat × Bx)

def St.t (s : St) (n : Nat) : Option TD := get s.tm n
def St.b (s : St) (n : Nat) : Option Bx := get s.bx n
def St.setT (s : St) (n : Nat) (x : TD) : St := ⟨(n, x) :: s.tm, s.bx⟩
def St.setB (s : St) (n : Nat) (x : Bx) : St := ⟨s.tm, (n, x) :: s.bx⟩

theorem beq_false {n m : Nat} (h : n ≠ m) : Nat.beq n m = false := by
  cases hb : Nat.beq n m with
  | false => rfl
  | true => exact absurd (Nat.eq_of_beq_eq_true hb) h
theorem St.t_setT (s : St) (n m : Nat) (x : TD) : (s.setT n x).t m = if n = m then some x else s.t m := by
  simp only [St.t, St.setT, get]
  by_cases h : n = m
  · subst h; simp [Nat.beq_refl]
  · rw [beq_false h]; simp [h]
theorem St.b_setT (s : St) (n m : Nat) (x : TD) : (s.setT n x).b m = s.b m := rfl
theorem St.t_setB (s : St) (n m : Nat) (x : Bx) : (s.setB n x).t m = s.t m := rfl
theorem St.b_setB (s : St) (n m : Nat) (x : Bx) : (s.setB n x).b m = if n = m then some x else s.b m := by
  simp only [St.b, St.setB, get]
  by_cases h : n = m
  · subst h; simp [Nat.beq_refl]
  · rw [beq_false h]; simp [h]

/-- Where a call began: the world, the blocks that its arguments are read through, the number of its temporaries. -/
structure Base where
  w0 : World
  R0 : Nat → Prop
  N : Nat
  ex : Nat → Prop
  R1 : Nat → Prop
/-- the base at the end of the call -/
def Base.fin (B : Base) : Base := ⟨B.w0, B.R1, B.N, B.ex, B.R1⟩
class RetB (B : Base) : Prop where
  eq : B.fin = B
instance {w : World} {R ex : Nat → Prop} {N : Nat} : RetB ⟨w, R, N, ex, R⟩ := ⟨rfl⟩
/-- a block that may be written -/
def Unf (w : World) (b : Nat) : Prop := ∃ cs T, w.heap[b]? = some (.cells cs T (0, 0))
theorem Unf.of {w w' : World} {b : Nat} (h : Unf w b) (hb : w'.heap[b]? = w.heap[b]?) : Unf w' b := by
  obtain ⟨cs, T, h⟩ := h
  exact ⟨cs, T, by rw [hb, h]⟩

/-- All old blocks are as they were, but for those that the call was given to write. -/
structure BelowX (ex : Nat → Prop) (w w' : World) : Prop where
  os : w'.os = w.os
  tape : w'.tape = w.tape
  output : w'.output = w.output
  size : w.heap.size ≤ w'.heap.size
  block : ∀ k, k < w.heap.size → ¬ ex k → w'.heap[k]? = w.heap[k]?
theorem BelowX.refl (ex : Nat → Prop) (w : World) : BelowX ex w w := ⟨rfl, rfl, rfl, Nat.le_refl _, fun _ _ _ => rfl⟩
theorem BelowX.trans {ex : Nat → Prop} {a b c : World} (h : BelowX ex a b) (k : BelowX ex b c) : BelowX ex a c :=
  ⟨k.os.trans h.os, k.tape.trans h.tape, k.output.trans h.output, Nat.le_trans h.size k.size, fun i hi hx => (k.block i (Nat.lt_of_lt_of_le hi h.size) hx).trans (h.block i hi hx)⟩
theorem BelowX.of {ex : Nat → Prop} {w w' : World} (h : Below w.heap.size w w') : BelowX ex w w' := ⟨h.os, h.tape, h.output, h.size, fun k hk _ => h.block k hk⟩
theorem BelowX.to {w w' : World} (h : BelowX (fun _ => False) w w') : Below w.heap.size w w' := ⟨h.os, h.tape, h.output, h.size, fun k hk => h.block k hk (fun h => h)⟩

/-- What is known of package-level variables (a table of whole numbers each), wherever a call begins. -/
def Gam (w : World) : Prop := ∀ p ∈ gamList, ∃ t fz, w.heap[p.1]? = some (.cells (p.2.2.map (Value.int p.2.1)).toArray t fz)
theorem Gam.cell {w : World} (h : Gam w) {p : Nat × IntKind × List Int} (hp : p ∈ gamList) {j : Nat} {n : Int} (hj : p.2.2[j]? = some n) : w.cell? ⟨p.1, j, none⟩ = some (.int p.2.1 n) := by
  obtain ⟨t, fz, h1⟩ := h p hp
  simp [World.cell?, h1, hj]
theorem Gam.mono {w w' : World} {B : Nat} (h : Gam w) (hB : ∀ p ∈ gamList, p.1 < B) (hb : Below B w w') : Gam w' := fun p hp => by
  obtain ⟨t, fz, h1⟩ := h p hp
  exact ⟨t, fz, by rw [hb.block _ (hB p hp)]; exact h1⟩
theorem Gam.growX {w w' : World} {ex : Nat → Prop} (h : Gam w) (hx : ∀ p ∈ gamList, ¬ ex p.1) (hb : BelowX ex w w') : Gam w' := fun p hp => by
  obtain ⟨t, fz, h1⟩ := h p hp
  exact ⟨t, fz, by rw [hb.block _ (Array.getElem?_eq_some_iff.1 h1).1 (hx p hp)]; exact h1⟩
theorem Gam.grow {w w' : World} (h : Gam w) (hb : Below w.heap.size w w') : Gam w' := fun p hp => by
  obtain ⟨t, fz, h1⟩ := h p hp
  exact ⟨t, fz, by rw [hb.block _ (Array.getElem?_eq_some_iff.1 h1).1]; exact h1⟩

structure Inv (B : Base) (R : Nat → Prop) (ad : Nat → Option Nat) (s : St) (a : Act) (w : World) : Prop where
  df : a.defers = []
  sz : a.tmps.size = B.N
  R0 : ∀ b, B.R0 b → R b
  Rn : ∀ b, R b → (B.R0 b ∨ (B.w0.heap.size ≤ b ∧ Unf w b)) ∧ b < w.heap.size
  below : BelowX B.ex B.w0 w
  gm : Gam B.w0
  gx : ∀ p ∈ gamList, ¬ B.ex p.1
  adn : ∀ k b, ad k = some b → (B.w0.heap.size ≤ b ∨ B.ex b) ∧ b < w.heap.size ∧ ¬ R b
  adi : ∀ k k' b, ad k = some b → ad k' = some b → k = k'
  ax : ∀ c, B.ex c → ad 0 = some c
  bx : ∀ k x, s.b k = some x → ∃ b, ad k = some b ∧ RowIs R w b x.T x.ds
  tm : ∀ t x, s.t t = some x → ∃ v, a.tmps[t]? = some v ∧ HoldsT R ad w x v

def Good (B : Base) (s : St) (a : Act) (w : World) : Prop := ∃ R ad, Inv B R ad s a w

/-- s' knows no more than s. -/
structure St.Le (s' s : St) : Prop where
  t : ∀ n x, s'.t n = some x → s.t n = some x
  b : ∀ n x, s'.b n = some x → s.b n = some x

theorem Good.le {B : Base} {s s' : St} {a : Act} {w : World} (h : Good B s a w) (hl : s'.Le s) : Good B s' a w := by
  obtain ⟨R, ad, h⟩ := h
  exact ⟨R, ad, { h with bx := fun k x hk => h.bx k x (hl.b _ _ hk), tm := fun t x ht => h.tm t x (hl.t _ _ ht) }⟩

theorem get_le {α : Type} {l : List (Nat × α)} {f : Nat → Option α} (h : ∀ p ∈ l, f p.1 = some p.2) : ∀ n x, get l n = some x → f n = some x := by
  intro n x hx
  induction l with
  | nil => simp [get] at hx
  | cons p r ih =>
    obtain ⟨pk, pv⟩ := p
    simp only [get] at hx
    cases hb : Nat.beq pk n with
    | true =>
      rw [hb] at hx
      have e : pk = n := Nat.eq_of_beq_eq_true hb
      have := h (pk, pv) (by simp)
      simp only [e] at this
      rw [this, ← hx]
    | false =>
      rw [hb] at hx
      exact ih (fun q hq => h q (by simp [hq])) hx

theorem St.Le.of {tm : List (Nat × TD)} {bx : List (Nat × Bx)} {s : St} (ht : ∀ p ∈ tm, s.t p.1 = some p.2) (hb : ∀ p ∈ bx, s.b p.1 = some p.2) : (St.mk tm bx).Le s :=
  ⟨get_le ht, get_le hb⟩
theorem all_nil {α : Type} {p : α → Prop} : ∀ x ∈ ([] : List α), p x := fun _ h => by cases h
theorem all_cons {α : Type} {p : α → Prop} {a : α} {l : List α} (h : p a) (hl : ∀ x ∈ l, p x) : ∀ x ∈ a :: l, p x := fun x hx => by
  cases hx with
  | head => exact h
  | tail _ hx => exact hl x hx

/-- The function f, called with these data, hands back that datum, writes nothing that was there, and reads it through what it was given or has made. -/
def CallOK (P : Program) (f : FuncId) : Prop := ∀ (args : Array Value) (w : World), (callFunc f args).run P w = .ok (.enter f args) w

def HoldsAll (R : Nat → Prop) (w : World) (ds : List D) (vs : Array Value) : Prop :=
  vs.size = ds.length ∧ ∀ (i : Nat) (d : D) (v : Value), ds[i]? = some d → vs[i]? = some v → Holds R w d v

def Gives (R : Nat → Prop) (w : World) (d : D) (e : Ending) (w' : World) : Prop :=
  ∃ v R', e = .returned v ∧ Below w.heap.size w w' ∧ (∀ b, R b → R' b) ∧ (∀ b, R' b → (R b ∨ (w.heap.size ≤ b ∧ Unf w' b)) ∧ b < w'.heap.size) ∧ Holds R' w' d v

structure Evals (P : Program) (f : FuncId) (ds : List D) (d : D) : Prop where
  ok : CallOK P f
  run : ∀ (R : Nat → Prop) (w : World) (vs : Array Value), (∀ b, R b → b < w.heap.size) → Gam w → HoldsAll R w ds vs → Calls P f vs w (Gives R w d)

/-- What the datum itself says: its numbers are in range, its lists are no longer than a list can be. -/
theorem Evals.of {P : Program} {f : FuncId} {ds : List D} {d : D} (ok : CallOK P f) (h : (∃ R w vs, HoldsAll R w ds vs) → Evals P f ds d) : Evals P f ds d :=
  ⟨ok, fun R w vs hR hg hv => (h ⟨R, w, vs, hv⟩).run R w vs hR hg hv⟩

end Go.Proofs.YtffcpgebgoineaaDoor.K
