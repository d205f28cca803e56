/- One lemma an operation: what it does to what is known. -/
import Derived.Test.YtffcpgebgoineaaDoorRules
import Derived.Laws.Strings
namespace Go.Proofs.YtffcpgebgoineaaDoor.K
open Go Go.RowKit
set_option linter.unusedVariables false
set_option linter.unusedSimpArgs false

theorem HoldsT.world {R R' : Nat → Prop} {ad : Nat → Option Nat} {w w' : World} {x : TD} {v : Value} (h : HoldsT R ad w x v) (hR : ∀ b, R b → R' b) (hw : ∀ b, R b → w'.heap[b]? = w.heap[b]?)
    (ha : ∀ k b, ad k = some b → w'.heap[b]? = w.heap[b]?) : HoldsT R' ad w' x v := by
  cases x with
  | val d => exact Holds.mono h hR hw
  | pb k off => exact h
  | sb k off len cap => exact h
  | un => trivial
  | vec k T z l =>
    rcases h with h | ⟨b, cap, h1, h2, cs, h3, h4, h5, h6, h7, h8⟩
    · exact .inl h
    · exact .inr ⟨b, cap, h1, h2, cs, by rw [ha _ _ h1, h3], h4, h5, h6, h7, fun i ds j d v a1 a2 a3 => (h8 i ds j d v a1 a2 a3).mono hR hw⟩
  | psb j T k off len cap =>
    obtain ⟨b, u, h1, h2, h3, h4⟩ := h
    exact ⟨b, u, h1, h2, by rw [ha _ _ h1, h3], h4⟩
  | pvec j T k U z l =>
    obtain ⟨b, u, h1, h2, h3, h4⟩ := h
    refine ⟨b, u, h1, h2, by rw [ha _ _ h1, h3], ?_⟩
    rcases h4 with h4 | ⟨b, cap, h1, h2, cs, h3, h4, h5, h6, h7, h8⟩
    · exact .inl h4
    · exact .inr ⟨b, cap, h1, h2, cs, by rw [ha _ _ h1, h3], h4, h5, h6, h7, fun i ds j d v a1 a2 a3 => (h8 i ds j d v a1 a2 a3).mono hR hw⟩
  | pbs j T =>
    obtain ⟨b, u, h1, h2, h3⟩ := h
    exact ⟨b, u, h1, h2, by rw [ha _ _ h1, h3]⟩
  | clo f ks => exact h
  | nv n d => exact Holds.mono h (fun b h => ⟨hR b h.1, h.2⟩) (fun b h => hw b h.1)
  | pin j b m =>
    obtain ⟨h1, cs, T, h2, h3⟩ := h
    exact ⟨h1, cs, T, by rw [ha _ _ h1, h2], h3⟩

theorem RowIs.world {R R' : Nat → Prop} {w w' : World} {b T : Nat} {ds : List D} (h : RowIs R w b T ds) (hR : ∀ b, R b → R' b) (hw : ∀ b, R b → w'.heap[b]? = w.heap[b]?) (hb : w'.heap[b]? = w.heap[b]?) : RowIs R' w' b T ds := by
  obtain ⟨cs, h1, h2, h3⟩ := h
  exact ⟨cs, by rw [hb, h1], h2, fun i d v a b => (h3 i d v a b).mono hR hw⟩

theorem Inv.gam {B : Base} {R : Nat → Prop} {ad : Nat → Option Nat} {s : St} {a : Act} {w : World} (h : Inv B R ad s a w) : Gam w := h.gm.growX h.gx h.below
/-- The world has grown, and more may be read. -/
theorem Inv.grow {B : Base} {R R' : Nat → Prop} {ad : Nat → Option Nat} {s : St} {a : Act} {w w' : World} (h : Inv B R ad s a w) (hb : Below w.heap.size w w') (hR : ∀ b, R b → R' b) (hR' : ∀ b, R' b → (R b ∨ (w.heap.size ≤ b ∧ Unf w' b)) ∧ b < w'.heap.size) : Inv B R' ad s a w' := by
  have hw : ∀ b, R b → w'.heap[b]? = w.heap[b]? := fun b hr => hb.block b (h.Rn b hr).2
  have ha : ∀ k b, ad k = some b → w'.heap[b]? = w.heap[b]? := fun k b hk => hb.block b (h.adn k b hk).2.1
  refine ⟨h.df, h.sz, fun b hb => hR b (h.R0 b hb), ?_, h.below.trans (.of hb), h.gm, h.gx, ?_, h.adi, h.ax, ?_, ?_⟩
  · intro b hb'
    obtain ⟨h1, h2⟩ := hR' b hb'
    refine ⟨?_, h2⟩
    rcases h1 with h1 | h1
    · exact (h.Rn b h1).1.imp (fun h => h) (fun h => ⟨h.1, h.2.of (hw b h1)⟩)
    · exact .inr ⟨Nat.le_trans h.below.size h1.1, h1.2⟩
  · intro k b hk
    obtain ⟨h1, h2, h3⟩ := h.adn k b hk
    refine ⟨h1, Nat.lt_of_lt_of_le h2 hb.size, fun hr => ?_⟩
    rcases (hR' b hr).1 with h4 | h4
    · exact h3 h4
    · omega
  · intro k x hx
    obtain ⟨b, h1, h2⟩ := h.bx k x hx
    exact ⟨b, h1, h2.world hR hw (ha _ _ h1)⟩
  · intro t x ht
    obtain ⟨v, h1, h2⟩ := h.tm t x ht
    exact ⟨v, h1, h2.world hR hw ha⟩

def TD.id : TD → Option Nat
  | .pb k _ => some k
  | .sb k _ _ _ => some k
  | .vec k _ _ _ => some k
  | _ => none

def inL (d : Nat) : List Nat → Bool
  | [] => false
  | k :: r => match Nat.beq k d with
    | true => true
    | false => inL d r
theorem inL_false {d : Nat} {l : List Nat} (h : inL d l = false) {i k : Nat} (hk : l[i]? = some k) : k ≠ d := by
  induction l generalizing i with
  | nil => simp at hk
  | cons j r ih =>
    simp only [inL] at h
    split at h
    · cases h
    · rename_i e
      cases i with
      | zero => simp at hk; subst hk; exact fun e' => by rw [e', Nat.beq_refl] at e; cases e
      | succ i => exact ih h (by simpa using hk)
/-- speaks of memory number d -/
def TD.has (x : TD) (d : Nat) : Bool := match x with
  | .pb k _ => Nat.beq k d
  | .sb k _ _ _ => Nat.beq k d
  | .vec k _ _ _ => Nat.beq k d
  | .psb j _ k _ _ _ => match Nat.beq j d with | true => true | false => Nat.beq k d
  | .pvec j _ k _ _ _ => match Nat.beq j d with | true => true | false => Nat.beq k d
  | .pbs j _ => Nat.beq j d
  | .pin j _ _ => Nat.beq j d
  | .clo _ ks => inL d ks
  | _ => false
/-- what is left of it when memory number d is forgotten -/
def TD.lose (x : TD) (d : Nat) : TD := match x with
  | .psb j T _ _ _ _ => match Nat.beq j d with | true => .un | false => .pbs j T
  | .pvec j T _ _ _ _ => match Nat.beq j d with | true => .un | false => .pbs j T
  | _ => .un
theorem beq_ne {k d : Nat} (h : Nat.beq k d = false) : k ≠ d := fun e => by rw [e, Nat.beq_refl] at h; cases h
theorem has_psb {j T k off len cap d : Nat} (h : (TD.psb j T k off len cap).has d = false) : j ≠ d ∧ k ≠ d := by
  simp only [TD.has] at h
  split at h
  · cases h
  · exact ⟨beq_ne ‹_›, beq_ne h⟩
theorem has_pvec {j T k U z d : Nat} {l : List (List D)} (h : (TD.pvec j T k U z l).has d = false) : j ≠ d ∧ k ≠ d := by
  simp only [TD.has] at h
  split at h
  · cases h
  · exact ⟨beq_ne ‹_›, beq_ne h⟩
/-- its reading hangs on the cells of memory number d -/
def TD.vof (x : TD) (d : Nat) : Bool := match x with
  | .vec k _ _ _ => Nat.beq k d
  | .psb j _ _ _ _ _ => Nat.beq j d
  | .pbs j _ => Nat.beq j d
  | .pin j _ _ => Nat.beq j d
  | .pvec j _ k _ _ _ => match Nat.beq j d with | true => true | false => Nat.beq k d
  | _ => false
/-- No temporary speaks of memory number d. -/
def noId (d : Nat) : List (Nat × TD) → Bool
  | [] => true
  | p :: r => !(p.2.has d) && noId d r
def noVec (d : Nat) : List (Nat × TD) → Bool
  | [] => true
  | p :: r => !(p.2.vof d) && noVec d r

theorem noId_spec {d : Nat} {l : List (Nat × TD)} (h : noId d l = true) {t : Nat} {x : TD} (hx : get l t = some x) : x.has d = false := by
  induction l with
  | nil => simp [get] at hx
  | cons p r ih =>
    obtain ⟨pk, pv⟩ := p
    simp only [noId, Bool.and_eq_true, Bool.not_eq_true'] at h
    simp only [get] at hx
    split at hx
    · cases hx; exact h.1
    · exact ih h.2 hx
theorem noVec_spec' {d : Nat} {l : List (Nat × TD)} (h : noVec d l = true) {t : Nat} {x : TD} (hx : get l t = some x) : x.vof d = false := by
  induction l with
  | nil => simp [get] at hx
  | cons p r ih =>
    obtain ⟨pk, pv⟩ := p
    simp only [noVec, Bool.and_eq_true, Bool.not_eq_true'] at h
    simp only [get] at hx
    split at hx
    · cases hx; exact h.1
    · exact ih h.2 hx
theorem noVec_spec {d : Nat} {l : List (Nat × TD)} (h : noVec d l = true) {t k T z : Nat} {m : List (List D)} (hx : get l t = some (.vec k T z m)) : k ≠ d :=
  beq_ne (noVec_spec' h hx)
theorem vof_pvec {j T k U z d : Nat} {l : List (List D)} (h : (TD.pvec j T k U z l).vof d = false) : j ≠ d ∧ k ≠ d := has_pvec (T := T) (U := U) (z := z) (l := l) h
theorem vof_pin {j b m d : Nat} (h : (TD.pin j b m).vof d = false) : j ≠ d := beq_ne h
theorem vof_pbs {j T d : Nat} (h : (TD.pbs j T).vof d = false) : j ≠ d := beq_ne h
theorem vof_psb {j T k off len cap d : Nat} (h : (TD.psb j T k off len cap).vof d = false) : j ≠ d := beq_ne h

def adSet (ad : Nat → Option Nat) (d b : Nat) : Nat → Option Nat := fun k => if k = d then some b else ad k

theorem HoldsT.ad {R : Nat → Prop} {ad : Nat → Option Nat} {w : World} {x : TD} {v : Value} {d b : Nat} (h : HoldsT R ad w x v) (hx : x.has d = false) : HoldsT R (adSet ad d b) w x v := by
  cases x with
  | val d => exact h
  | nv n d => exact h
  | pin j b' m => have hx := beq_ne hx; exact ⟨by simp [adSet, hx, h.1], h.2⟩
  | un => trivial
  | pb k off => have hx := beq_ne hx; obtain ⟨c, h1, h2⟩ := h; exact ⟨c, by simp [adSet, hx, h1], h2⟩
  | sb k off len cap => have hx := beq_ne hx; obtain ⟨⟨c, h1, h2⟩, h3⟩ := h; exact ⟨⟨c, by simp [adSet, hx, h1], h2⟩, h3⟩
  | psb j T k off len cap =>
    obtain ⟨hj, hk⟩ := has_psb hx
    obtain ⟨c, u, h1, h2, h3, ⟨c', h4, h5⟩, h6⟩ := h
    exact ⟨c, u, by simp [adSet, hj, h1], h2, h3, ⟨c', by simp [adSet, hk, h4], h5⟩, h6⟩
  | pvec j T k U z l =>
    obtain ⟨hj, hk⟩ := has_pvec hx
    obtain ⟨c, u, h1, h2, h3, h4⟩ := h
    refine ⟨c, u, by simp [adSet, hj, h1], h2, h3, ?_⟩
    rcases h4 with ⟨h1, h2⟩ | ⟨c, cap, h1, h2⟩
    · exact .inl ⟨by simp [adSet, hk, h1], h2⟩
    · exact .inr ⟨c, cap, by simp [adSet, hk, h1], h2⟩
  | pbs j T => have hx := beq_ne hx; obtain ⟨c, u, h1, h2⟩ := h; exact ⟨c, u, by simp [adSet, hx, h1], h2⟩
  | clo f ks =>
    obtain ⟨vs, h1, h2, h3⟩ := h
    exact ⟨vs, h1, h2, fun i k hk => by
      obtain ⟨b', h4, h5⟩ := h3 i k hk
      exact ⟨b', by simp [adSet, inL_false hx hk, h4], h5⟩⟩
  | vec k T z l =>
    have hx := beq_ne hx
    rcases h with ⟨h1, h2⟩ | ⟨c, cap, h1, h2⟩
    · exact .inl ⟨by simp [adSet, hx, h1], h2⟩
    · exact .inr ⟨c, cap, by simp [adSet, hx, h1], h2⟩

/-- A new block of the call's own under the number d, a temporary that speaks of it. -/
theorem Inv.newBox {B : Base} {R : Nat → Prop} {ad : Nat → Option Nat} {s : St} {a : Act} {w : World} (h : Inv B R ad s a w) {d t : Nat} {x : Bx} {y : TD} {v : Value} {cs : Array Value} (hid : noId d s.tm = true) (hd0 : Nat.blt 0 d = true ∨ B.ex = fun _ => False) (ht : Nat.blt t B.N = true)
    (hs : cs.size = x.ds.length) (hc : ∀ (i : Nat) (e : D) (v : Value), x.ds[i]? = some e → cs[i]? = some v → Holds R (w.alloc (.cells cs x.T)) e v) (hy : HoldsT R (adSet ad d w.heap.size) (w.alloc (.cells cs x.T)) y v) :
    Inv B R (adSet ad d w.heap.size) ((s.setB d x).setT t y) (a.put (some t) v) (w.alloc (.cells cs x.T)) := by
  have hb : Below w.heap.size w (w.alloc (.cells cs x.T)) := (Below.refl _ _).alloc (Nat.le_refl _) _
  have hg := h.grow (R' := R) hb (fun _ h => h) (fun b hr => ⟨.inl hr, by have := (h.Rn b hr).2; simp; omega⟩)
  have hg' : Inv B R (adSet ad d w.heap.size) (s.setB d x) a (w.alloc (.cells cs x.T)) := by
    refine ⟨hg.df, hg.sz, hg.R0, hg.Rn, hg.below, hg.gm, hg.gx, ?_, ?_, fun c hc => by
      rcases hd0 with hd0 | hd0
      · simp only [adSet]; rw [if_neg (by intro h0; rw [← h0] at hd0; cases hd0)]; exact hg.ax c hc
      · rw [hd0] at hc; exact hc.elim, ?_, ?_⟩
    · intro k b hk
      simp only [adSet] at hk
      split at hk
      · cases hk
        refine ⟨.inl h.below.size, by simp, fun hr => ?_⟩
        have := (h.Rn _ hr).2
        omega
      · exact hg.adn k b hk
    · intro k k' b hk hk'
      simp only [adSet] at hk hk'
      split at hk <;> split at hk'
      · omega
      · cases hk; have := (h.adn k' _ hk').2.1; omega
      · cases hk'; have := (h.adn k _ hk).2.1; omega
      · exact h.adi k k' b hk hk'
    · intro k y hy
      rw [St.b_setB] at hy
      by_cases e : d = k
      · subst e
        rw [if_pos rfl] at hy
        cases hy
        exact ⟨w.heap.size, by simp [adSet], cs, heap_alloc_new w _, hs, hc⟩
      · rw [if_neg e] at hy
        obtain ⟨b, h1, h2⟩ := hg.bx k y hy
        exact ⟨b, by simp [adSet, h1]; intro e'; exact absurd e'.symm e, h2⟩
    · intro t' y' ht'
      obtain ⟨v', h1, h2⟩ := hg.tm t' y' ht'
      exact ⟨v', h1, h2.ad (noId_spec hid (by simpa [St.t, St.setB] using ht'))⟩
  exact hg'.put ht hy

theorem setRow_heap_ne (w : World) (g b : Nat) (cs : Array Value) (h : g ≠ b) : (w.setRow g cs).heap[b]? = w.heap[b]? := by
  simp [World.setRow, Array.getElem?_modify, h]
theorem setRow_size (w : World) (g : Nat) (cs : Array Value) : (w.setRow g cs).heap.size = w.heap.size := by
  simp [World.setRow]

theorem Inv.setBox {B : Base} {R : Nat → Prop} {ad : Nat → Option Nat} {s : St} {a : Act} {w : World} (h : Inv B R ad s a w) {k b : Nat} {x y : Bx} {cs0 cs : Array Value} (hk : ad k = some b) (hT : y.T = x.T) (hv : noVec k s.tm = true)
    (h0 : w.heap[b]? = some (.cells cs0 x.T (0, 0))) (hs : cs.size = y.ds.length) (hc : ∀ (i : Nat) (e : D) (v : Value), y.ds[i]? = some e → cs[i]? = some v → Holds R w e v) :
    Inv B R ad (s.setB k y) a (w.setRow b cs) := by
  have hn := h.adn k b hk
  have hR : ∀ c, R c → (w.setRow b cs).heap[c]? = w.heap[c]? := fun c hc => setRow_heap_ne w b c cs (fun e => hn.2.2 (e ▸ hc))
  have ha : ∀ k' c, k' ≠ k → ad k' = some c → (w.setRow b cs).heap[c]? = w.heap[c]? := fun k' c hne hk' => setRow_heap_ne w b c cs (fun e => hne (h.adi k' k c hk' (e ▸ hk)))
  refine ⟨h.df, h.sz, h.R0, fun c hc => by rw [setRow_size]; exact ⟨(h.Rn c hc).1.imp (fun h => h) (fun h => ⟨h.1, h.2.of (hR c hc)⟩), (h.Rn c hc).2⟩, ?_, h.gm, h.gx, fun k' c hk' => by rw [setRow_size]; exact h.adn k' c hk', h.adi, h.ax, ?_, ?_⟩
  · refine ⟨h.below.os, h.below.tape, h.below.output, by rw [setRow_size]; exact h.below.size, fun c hc hx => ?_⟩
    have hne : b ≠ c := by
      rintro rfl
      rcases hn.1 with h1 | h1
      · omega
      · exact hx h1
    rw [setRow_heap_ne w b c cs hne]
    exact h.below.block c hc hx
  · intro k' y' hy
    rw [St.b_setB] at hy
    by_cases e : k = k'
    · subst e
      rw [if_pos rfl] at hy
      cases hy
      exact ⟨b, hk, cs, by rw [hT]; simp [World.setRow, Array.getElem?_modify, h0], hs, fun i d v a1 a2 => (hc i d v a1 a2).mono (fun _ h => h) hR⟩
    · rw [if_neg e] at hy
      obtain ⟨c, h1, h2⟩ := h.bx k' y' hy
      exact ⟨c, h1, h2.world (fun _ h => h) hR (ha k' c (fun e' => e e'.symm) h1)⟩
  · intro t x' ht
    obtain ⟨v, h1, h2⟩ := h.tm t x' ht
    refine ⟨v, h1, ?_⟩
    cases x' with
    | val d => exact Holds.mono h2 (fun _ h => h) hR
    | pb k off => exact h2
    | sb k off len cap => exact h2
    | un => trivial
    | vec k' T z l =>
      have hne : k' ≠ k := noVec_spec hv (by simpa [St.t, St.setB] using ht)
      rcases h2 with h2 | ⟨c, cap, g1, g2, cs', g3, g4, g5, g6, g7, g8⟩
      · exact .inl h2
      · exact .inr ⟨c, cap, g1, g2, cs', by rw [ha k' c hne g1, g3], g4, g5, g6, g7, fun i ds j d v a1 a2 a3 => (g8 i ds j d v a1 a2 a3).mono (fun _ h => h) hR⟩
    | psb j T k' off len cap =>
      have hne : j ≠ k := vof_psb (noVec_spec' hv (by simpa [St.t, St.setB] using ht))
      obtain ⟨c, u, g1, g2, g3, g4⟩ := h2
      exact ⟨c, u, g1, g2, by rw [ha j c hne g1, g3], g4⟩
    | pvec j T k' U z l =>
      obtain ⟨hne, hne'⟩ := vof_pvec (noVec_spec' hv (by simpa [St.t, St.setB] using ht))
      obtain ⟨c, u, g1, g2, g3, g4⟩ := h2
      refine ⟨c, u, g1, g2, by rw [ha j c hne g1, g3], ?_⟩
      rcases g4 with h2 | ⟨c, cap, g1, g2, cs', g3, g4, g5, g6, g7, g8⟩
      · exact .inl h2
      · exact .inr ⟨c, cap, g1, g2, cs', by rw [ha k' c hne' g1, g3], g4, g5, g6, g7, fun i ds j d v a1 a2 a3 => (g8 i ds j d v a1 a2 a3).mono (fun _ h => h) hR⟩
    | pbs j T =>
      have hne : j ≠ k := vof_pbs (noVec_spec' hv (by simpa [St.t, St.setB] using ht))
      obtain ⟨c, u, g1, g2, g3⟩ := h2
      exact ⟨c, u, g1, g2, by rw [ha j c hne g1, g3]⟩
    | clo f ks => exact h2
    | nv n d => exact Holds.mono h2 (fun _ h => h) (fun c h => hR c h.1)
    | pin j c m =>
      have hne : j ≠ k := vof_pin (noVec_spec' hv (by simpa [St.t, St.setB] using ht))
      obtain ⟨g1, cs', T, g2, g3⟩ := h2
      exact ⟨g1, cs', T, by rw [ha j c hne g1, g2], g3⟩

section
variable {P : Program} {B : Base} {s : St} {d : Nat} {ty : TypeId} {pos : String} {af : Array Edge} {gd : Option (Nat × Bool)}

theorem OpDo.value {o : Oper} {s' : St} (h : ∀ R ad a w, Inv B R ad s a w → ∃ v w', (execOp a.eval o).run P w = .ok (.value v) w' ∧ Good B s' (a.put o.dst v) w') : OpDo P B o s s' := .mk fun a w ⟨R, ad, hi⟩ K Q hk => by
  obtain ⟨v, w', h1, h2⟩ := h R ad a w hi
  simp only [Oper.wp, h1, Oper.upon]
  exact hk _ _ h2

theorem OpDo.pure {op : Op} {x : TD} (hN : Nat.blt d B.N = true) (h : ∀ R ad a w, Inv B R ad s a w → ∃ v, (execOp a.eval ⟨some d, op, ty, pos, af, gd⟩).run P w = .ok (.value v) w ∧ HoldsT R ad w x v) : OpDo P B ⟨some d, op, ty, pos, af, gd⟩ s (s.setT d x) :=
  .value fun R ad a w hi => by
    obtain ⟨v, h1, h2⟩ := h R ad a w hi
    exact ⟨v, w, h1, R, ad, hi.put hN h2⟩

theorem Rd.int_inv {R : Nat → Prop} {ad : Nat → Option Nat} {a : Act} {w : World} {x : Operand} {k : IntKind} {n : Int} (hi : Inv B R ad s a w) (h : Rd s x (.val (.int k n))) : a.eval x = .int k n ∧ InR k n := by
  have := h.holds hi
  simp only [HoldsT] at this
  generalize a.eval x = v at this
  cases this; exact ⟨rfl, ‹_›⟩
theorem Rd.bool_inv {R : Nat → Prop} {ad : Nat → Option Nat} {a : Act} {w : World} {x : Operand} {b : Bool} (hi : Inv B R ad s a w) (h : Rd s x (.val (.bool b))) : a.eval x = .bool b := by
  have := h.holds hi
  simp only [HoldsT] at this
  generalize a.eval x = v at this
  cases this; rfl
theorem Rd.str_inv {R : Nat → Prop} {ad : Nat → Option Nat} {a : Act} {w : World} {x : Operand} {l : List UInt8} (hi : Inv B R ad s a w) (h : Rd s x (.val (.str l))) : ∃ b : ByteArray, a.eval x = .string b ∧ l = b.data.toList ∧ b.size ≤ maxLen := by
  have := h.holds hi
  simp only [HoldsT] at this
  generalize a.eval x = v at this
  cases this; exact ⟨_, rfl, rfl, ‹_›⟩

theorem op_move {x : Operand} {td : TD} (hx : Rd s x td) (hN : Nat.blt d B.N = true) : OpDo P B ⟨some d, .move x, ty, pos, af, gd⟩ s (s.setT d td) :=
  .pure hN fun R ad a w hi => ⟨_, rfl, hx.holds hi⟩
theorem op_assign {x : Operand} {td : TD} (hx : Rd s x td) (hN : Nat.blt d B.N = true) : OpDo P B ⟨some d, .assign x, ty, pos, af, gd⟩ s (s.setT d td) :=
  .pure hN fun R ad a w hi => ⟨_, rfl, hx.holds hi⟩

theorem op_pick {c x y : Operand} {b : Bool} {td : TD} (hc : Rd s c (.val (.bool b))) (h : (b = true ∧ Rd s x td) ∨ (b = false ∧ Rd s y td)) (hN : Nat.blt d B.N = true) : OpDo P B ⟨some d, .pick c x y, ty, pos, af, gd⟩ s (s.setT d td) :=
  .pure hN fun R ad a w hi => by
    rcases h with ⟨rfl, h⟩ | ⟨rfl, h⟩
    · exact ⟨a.eval x, by simp [execOp, hc.bool_inv hi, asBool], h.holds hi⟩
    · exact ⟨a.eval y, by simp [execOp, hc.bool_inv hi, asBool], h.holds hi⟩

theorem wrap_InR (k : IntKind) (n : Int) : InR k (k.wrap n) := by
  cases k <;> simp [InR, IntKind.wrap, IntKind.min, IntKind.max, IntKind.bits, IntKind.signed] <;> (try split) <;> omega

theorem op_arith {op : BinOp} {T T' : TypeId} {x y : Operand} {k : IntKind} {m n r : Int} (hx : Rd s x (.val (.int k m))) (hy : Rd s y (.val (.int k n))) (hop : (op = .add ∧ k.wrap (m + n) = r) ∨ (op = .sub ∧ k.wrap (m - n) = r) ∨ (op = .mul ∧ k.wrap (m * n) = r))
    (hN : Nat.blt d B.N = true) : OpDo P B ⟨some d, .binOp op T x y T', ty, pos, af, gd⟩ s (s.setT d (.val (.int k r))) :=
  .pure hN fun R ad a w hi => by
    rcases hop with ⟨rfl, rfl⟩ | ⟨rfl, rfl⟩ | ⟨rfl, rfl⟩ <;>
      exact ⟨.int k _, by simp [execOp, (hx.int_inv hi).1, (hy.int_inv hi).1, eqGuard, binOp, Op.intArith], .int _ _ (wrap_InR _ _)⟩

theorem op_add {T T' : TypeId} {x y : Operand} {k : IntKind} {m n r : Int} (hx : Rd s x (.val (.int k m))) (hy : Rd s y (.val (.int k n))) (hr : k.wrap (m + n) = r) (hN : Nat.blt d B.N = true) : OpDo P B ⟨some d, .binOp .add T x y T', ty, pos, af, gd⟩ s (s.setT d (.val (.int k r))) :=
  op_arith hx hy (.inl ⟨rfl, hr⟩) hN
theorem op_sub {T T' : TypeId} {x y : Operand} {k : IntKind} {m n r : Int} (hx : Rd s x (.val (.int k m))) (hy : Rd s y (.val (.int k n))) (hr : k.wrap (m - n) = r) (hN : Nat.blt d B.N = true) : OpDo P B ⟨some d, .binOp .sub T x y T', ty, pos, af, gd⟩ s (s.setT d (.val (.int k r))) :=
  op_arith hx hy (.inr (.inl ⟨rfl, hr⟩)) hN
theorem op_mul {T T' : TypeId} {x y : Operand} {k : IntKind} {m n r : Int} (hx : Rd s x (.val (.int k m))) (hy : Rd s y (.val (.int k n))) (hr : k.wrap (m * n) = r) (hN : Nat.blt d B.N = true) : OpDo P B ⟨some d, .binOp .mul T x y T', ty, pos, af, gd⟩ s (s.setT d (.val (.int k r))) :=
  op_arith hx hy (.inr (.inr ⟨rfl, hr⟩)) hN

theorem max_pos (k : IntKind) : 0 ≤ k.max ∧ k.min ≤ 0 := by cases k <;> simp [IntKind.min, IntKind.max, IntKind.bits, IntKind.signed]
theorem wrap_of_InR {k : IntKind} {n : Int} (h : InR k n) : k.wrap n = n := by
  cases k <;> simp [InR, IntKind.min, IntKind.max, IntKind.bits, IntKind.signed] at h <;> simp [IntKind.wrap, IntKind.bits, IntKind.signed] <;> (try split) <;> omega
theorem InR_of_le {k : IntKind} {m n : Int} (h : InR k m) (h0 : 0 ≤ n) (h1 : n ≤ m) : InR k n := ⟨Int.le_trans (max_pos k).2 h0, Int.le_trans h1 h.2⟩

theorem op_quo {T T' : TypeId} {x y : Operand} {k : IntKind} {m n : Int} (hx : Rd s x (.val (.int k m))) (hy : Rd s y (.val (.int k n))) (h0 : 0 < n) (hm : 0 ≤ m) (hN : Nat.blt d B.N = true) : OpDo P B ⟨some d, .binOp .quo T x y T', ty, pos, af, gd⟩ s (s.setT d (.val (.int k (m / n)))) :=
  .pure hN fun R ad a w hi => by
    have hr : InR k (m / n) := InR_of_le (hx.int_inv hi).2 (Int.ediv_nonneg hm (by omega)) (Int.ediv_le_self _ hm)
    have hn : n ≠ 0 := by omega
    have e : m.tdiv n = m / n := Int.tdiv_eq_ediv_of_nonneg hm
    exact ⟨.int k _, by simp [execOp, (hx.int_inv hi).1, (hy.int_inv hi).1, eqGuard, binOp, Op.intDiv, hn, e, wrap_of_InR hr], .int _ _ hr⟩
theorem op_rem {T T' : TypeId} {x y : Operand} {k : IntKind} {m n : Int} (hx : Rd s x (.val (.int k m))) (hy : Rd s y (.val (.int k n))) (h0 : 0 < n) (hm : 0 ≤ m) (hN : Nat.blt d B.N = true) : OpDo P B ⟨some d, .binOp .rem T x y T', ty, pos, af, gd⟩ s (s.setT d (.val (.int k (m % n)))) :=
  .pure hN fun R ad a w hi => by
    have h1 := Int.emod_nonneg m (show n ≠ 0 by omega)
    have h2 : m % n ≤ m := by
      have h3 := Int.mul_ediv_add_emod m n
      have h4 := Int.mul_nonneg (show 0 ≤ n by omega) (Int.ediv_nonneg hm (show 0 ≤ n by omega))
      omega
    have hr : InR k (m % n) := InR_of_le (hx.int_inv hi).2 h1 h2
    have hn : n ≠ 0 := by omega
    have e : m.tmod n = m % n := Int.tmod_eq_emod_of_nonneg hm
    exact ⟨.int k _, by simp [execOp, (hx.int_inv hi).1, (hy.int_inv hi).1, eqGuard, binOp, Op.intDiv, hn, e], .int _ _ hr⟩

theorem op_shl {T T' : TypeId} {x y : Operand} {k k' : IntKind} {m n r : Int} {c : Nat} (hx : Rd s x (.val (.int k m))) (hy : Rd s y (.val (.int k' n))) (h0 : 0 ≤ n) (hc : min n.toNat k.bits = c) (hr : k.wrap (m * 2 ^ c) = r) (hN : Nat.blt d B.N = true) :
    OpDo P B ⟨some d, .binOp .shl T x y T', ty, pos, af, gd⟩ s (s.setT d (.val (.int k r))) :=
  .pure hN fun R ad a w hi => by
    subst hr
    subst hc
    have hn : ¬ n < 0 := by omega
    exact ⟨.int k _, by simp [execOp, (hx.int_inv hi).1, (hy.int_inv hi).1, eqGuard, binOp, Op.shift, hn], .int _ _ (wrap_InR _ _)⟩
theorem op_shr {T T' : TypeId} {x y : Operand} {k k' : IntKind} {m n r : Int} {c : Nat} (hx : Rd s x (.val (.int k m))) (hy : Rd s y (.val (.int k' n))) (h0 : 0 ≤ n) (hm : 0 ≤ m) (hc : min n.toNat k.bits = c) (hr : m / 2 ^ c = r) (hN : Nat.blt d B.N = true) :
    OpDo P B ⟨some d, .binOp .shr T x y T', ty, pos, af, gd⟩ s (s.setT d (.val (.int k r))) :=
  .pure hN fun R ad a w hi => by
    subst hc
    have hn : ¬ n < 0 := by omega
    have hp : (0 : Int) ≤ 2 ^ (min n.toNat k.bits) := Int.pow_nonneg (by omega)
    have e : m.fdiv (2 ^ (min n.toNat k.bits)) = r := by rw [Int.fdiv_eq_ediv_of_nonneg _ hp, hr]
    have hi' : InR k r := by
      subst hr
      exact InR_of_le (hx.int_inv hi).2 (Int.ediv_nonneg hm hp) (Int.ediv_le_self _ hm)
    exact ⟨.int k _, by simp [execOp, (hx.int_inv hi).1, (hy.int_inv hi).1, eqGuard, binOp, Op.shift, hn, e], .int _ _ hi'⟩

@[irreducible] def bitsOf (op : BinOp) (k : IntKind) (m n : Int) : Int :=
  k.wrap (match op with
    | .and => (BitVec.ofInt k.bits m &&& BitVec.ofInt k.bits n).toNat
    | .or => (BitVec.ofInt k.bits m ||| BitVec.ofInt k.bits n).toNat
    | .xor => (BitVec.ofInt k.bits m ^^^ BitVec.ofInt k.bits n).toNat
    | _ => (BitVec.ofInt k.bits m &&& ~~~ BitVec.ofInt k.bits n).toNat : Nat)

theorem op_bits {op : BinOp} {T T' : TypeId} {x y : Operand} {k : IntKind} {m n r : Int} (hop : op = .and ∨ op = .or) (hx : Rd s x (.val (.int k m))) (hy : Rd s y (.val (.int k n))) (hr : bitsOf op k m n = r) (hN : Nat.blt d B.N = true) :
    OpDo P B ⟨some d, .binOp op T x y T', ty, pos, af, gd⟩ s (s.setT d (.val (.int k r))) :=
  .pure hN fun R ad a w hi => by
    subst hr
    rcases hop with rfl | rfl <;>
      exact ⟨.int k _, by simp [execOp, (hx.int_inv hi).1, (hy.int_inv hi).1, eqGuard, binOp, Op.intBits]; unfold bitsOf; rfl, .int _ _ (by unfold bitsOf; exact wrap_InR _ _)⟩

def cmpOf (op : BinOp) (m n : Int) : Bool :=
  match op with
  | .eql => m == n
  | .neq => m != n
  | .lss => decide (m < n)
  | .leq => decide (m ≤ n)
  | .gtr => decide (n < m)
  | _ => decide (n ≤ m)
def isCmp : BinOp → Bool
  | .eql | .neq | .lss | .leq | .gtr | .geq => true
  | _ => false
theorem op_cmp {op : BinOp} {T T' : TypeId} {x y : Operand} {k : IntKind} {m n : Int} {b : Bool} (hop : isCmp op = true) (hx : Rd s x (.val (.int k m))) (hy : Rd s y (.val (.int k n))) (hb : cmpOf op m n = b) (hN : Nat.blt d B.N = true) :
    OpDo P B ⟨some d, .binOp op T x y T', ty, pos, af, gd⟩ s (s.setT d (.val (.bool b))) :=
  .pure hN fun R ad a w hi => by
    subst hb
    refine ⟨.bool (cmpOf op m n), ?_, .bool _⟩
    cases op <;> simp [isCmp] at hop <;> simp [execOp, (hx.int_inv hi).1, (hy.int_inv hi).1, eqGuard, binOp, Op.intCmp, cmpOf]

theorem op_not {T : TypeId} {x : Operand} {b : Bool} (hx : Rd s x (.val (.bool b))) (hN : Nat.blt d B.N = true) : OpDo P B ⟨some d, .unOp .not T x, ty, pos, af, gd⟩ s (s.setT d (.val (.bool (!b)))) :=
  .pure hN fun R ad a w hi => ⟨.bool _, by simp [execOp, hx.bool_inv hi, Op.unary], .bool _⟩
theorem op_neg {T : TypeId} {x : Operand} {k : IntKind} {n r : Int} (hx : Rd s x (.val (.int k n))) (hr : k.wrap (-n) = r) (hN : Nat.blt d B.N = true) : OpDo P B ⟨some d, .unOp .neg T x, ty, pos, af, gd⟩ s (s.setT d (.val (.int k r))) :=
  .pure hN fun R ad a w hi => by
    subst hr
    exact ⟨.int k _, by simp [execOp, (hx.int_inv hi).1, Op.unary, Op.intArith], .int _ _ (wrap_InR _ _)⟩

end

/-- What is known of a program's types. -/
inductive TK where
  | int (k : IntKind)
  | bool
  | str
  | slice (e : Nat)
  | struct (fs : List (Nat × Nat))
  | array (n e : Nat)
  | ptr (e : Nat)
  | other

structure TI where
  k : TK
  size : Nat
  bytes : Nat
  zero : List D

def TK.Is (P : Program) (t : Nat) : TK → Prop
  | .int k => P.underlying t = some (.int k)
  | .bool => P.underlying t = some .bool
  | .str => P.underlying t = some .string
  | .slice e => P.underlying t = some (.slice e)
  | .struct fs => ∃ F : Array Field, P.underlying t = some (.struct F) ∧ F.toList.map (fun f => (f.offset, f.type)) = fs
  | .array n e => P.underlying t = some (.array n e)
  | .ptr e => P.underlying t = some (.pointer e)
  | .other => True

def TI.Is (P : Program) (t : Nat) (i : TI) : Prop :=
  i.k.Is P t ∧ ∃ I, P.info? t = some I ∧ I.size = i.size ∧ I.bytes = i.bytes ∧
    ∃ z, I.zero = some z ∧ z.cells.size = i.zero.length ∧ ∀ R w (j : Nat) (d : D) (v : Value), i.zero[j]? = some d → z.cells[j]? = some v → Holds R w d v

/-- A table of a program's types. -/
structure Tys (P : Program) where
  tab : List (Nat × TI)
  ok : ∀ p ∈ tab, p.2.Is P p.1

theorem get_mem {α : Type} {l : List (Nat × α)} {n : Nat} {x : α} (h : get l n = some x) : (n, x) ∈ l := by
  induction l with
  | nil => simp [get] at h
  | cons p r ih =>
    obtain ⟨pk, pv⟩ := p
    simp only [get] at h
    split at h
    · rename_i hp
      cases h
      have := Nat.eq_of_beq_eq_true hp
      subst this
      simp
    · exact List.mem_cons_of_mem _ (ih h)
theorem Tys.is {P : Program} (τ : Tys P) {t : Nat} {i : TI} (h : get τ.tab t = some i) : i.Is P t := τ.ok _ (get_mem h)

section
variable {P : Program} {τ : Tys P} {B : Base} {s : St} {d : Nat} {ty : TypeId} {pos : String} {af : Array Edge} {gd : Option (Nat × Bool)}

theorem Tys.int {t : Nat} {i : TI} {k : IntKind} (h : get τ.tab t = some i) (hk : i.k = .int k) : P.underlying t = some (.int k) := by have := (τ.is h).1; rw [hk] at this; exact this
theorem Tys.bool {t : Nat} {i : TI} (h : get τ.tab t = some i) (hk : i.k = .bool) : P.underlying t = some .bool := by have := (τ.is h).1; rw [hk] at this; exact this
theorem Tys.str {t : Nat} {i : TI} (h : get τ.tab t = some i) (hk : i.k = .str) : P.underlying t = some .string := by have := (τ.is h).1; rw [hk] at this; exact this
theorem Tys.slice {t : Nat} {i : TI} {e : Nat} (h : get τ.tab t = some i) (hk : i.k = .slice e) : P.underlying t = some (.slice e) := by have := (τ.is h).1; rw [hk] at this; exact this
theorem Tys.array {t : Nat} {i : TI} {n e : Nat} (h : get τ.tab t = some i) (hk : i.k = .array n e) : P.underlying t = some (.array n e) := by have := (τ.is h).1; rw [hk] at this; exact this
theorem Tys.size {t : Nat} {i : TI} (h : get τ.tab t = some i) (w : World) : (sizeOf t).run P w = .ok i.size w := by
  obtain ⟨_, I, h1, h2, _⟩ := τ.is h
  simp [sizeOf, typeInfo, h1, h2]

def TK.isAgg : TK → Option Bool
  | .struct _ => some true
  | .array _ _ => some true
  | .other => none
  | _ => some false

theorem Tys.isAgg {t : Nat} {i : TI} {b : Bool} (h : get τ.tab t = some i) (hk : i.k.isAgg = some b) (w : World) : (Go.isAgg t).run P w = .ok b w := by
  have h1 := (τ.is h).1
  cases hi : i.k <;> rw [hi] at h1 hk <;> simp [TK.isAgg] at hk <;> subst hk
  case int k => simp only [TK.Is] at h1; simp [Go.isAgg, run_underlying h1]
  case bool => simp only [TK.Is] at h1; simp [Go.isAgg, run_underlying h1]
  case str => simp only [TK.Is] at h1; simp [Go.isAgg, run_underlying h1]
  case slice e => simp only [TK.Is] at h1; simp [Go.isAgg, run_underlying h1]
  case ptr e => simp only [TK.Is] at h1; simp [Go.isAgg, run_underlying h1]
  case array n e => simp only [TK.Is] at h1; simp [Go.isAgg, run_underlying h1]
  case struct fs => simp only [TK.Is] at h1; obtain ⟨F, h1, _⟩ := h1; simp [Go.isAgg, run_underlying h1]

theorem Tys.zero {t : Nat} {i : TI} (h : get τ.tab t = some i) (w : World) : ∃ z : Value, (zeroValue t).run P w = .ok z w ∧ z.cells.size = i.zero.length ∧ ∀ R w (j : Nat) (d : D) (v : Value), i.zero[j]? = some d → z.cells[j]? = some v → Holds R w d v := by
  obtain ⟨_, I, h1, _, _, z, h2, h3, h4⟩ := τ.is h
  exact ⟨z, by simp [zeroValue, typeInfo, h1, h2], h3, h4⟩

theorem Rd.bool_eq {x y : Operand} {R : Nat → Prop} {ad : Nat → Option Nat} {a : Act} {w : World} {b c : Bool} {op : BinOp} {T T' : TypeId} {i : TI} (hi : Inv B R ad s a w) (hT : get τ.tab T = some i) (hk : i.k = .bool) (hx : Rd s x (.val (.bool b))) (hy : Rd s y (.val (.bool c))) :
    (execOp a.eval ⟨some d, .binOp .eql T x y T', ty, pos, af, gd⟩).run P w = .ok (.value (.bool (b == c))) w ∧ (execOp a.eval ⟨some d, .binOp .neq T x y T', ty, pos, af, gd⟩).run P w = .ok (.value (.bool (!(b == c)))) w := by
  have e : (Op.equal T (.bool b) (.bool c)).run P w = .ok (b == c) w := by
    unfold Op.equal
    rw [show Op.maxDepth = 9999 + 1 from rfl, Op.equalIn]
    simp [run_underlying (Tys.bool hT hk)]
  constructor <;> simp [execOp, hx.bool_inv hi, hy.bool_inv hi, eqGuard, binOp, e]

theorem op_eqb {T T' : TypeId} {x y : Operand} {b c : Bool} {i : TI} (hT : get τ.tab T = some i) (hk : i.k = .bool) (hx : Rd s x (.val (.bool b))) (hy : Rd s y (.val (.bool c))) (hN : Nat.blt d B.N = true) :
    OpDo P B ⟨some d, .binOp .eql T x y T', ty, pos, af, gd⟩ s (s.setT d (.val (.bool (b == c)))) :=
  .pure hN fun R ad a w hi => ⟨_, (Rd.bool_eq (τ := τ) (op := .eql) hi hT hk hx hy).1, .bool _⟩
theorem op_neb {T T' : TypeId} {x y : Operand} {b c : Bool} {i : TI} (hT : get τ.tab T = some i) (hk : i.k = .bool) (hx : Rd s x (.val (.bool b))) (hy : Rd s y (.val (.bool c))) (hN : Nat.blt d B.N = true) :
    OpDo P B ⟨some d, .binOp .neq T x y T', ty, pos, af, gd⟩ s (s.setT d (.val (.bool (!(b == c))))) :=
  .pure hN fun R ad a w hi => ⟨_, (Rd.bool_eq (τ := τ) (op := .neq) hi hT hk hx hy).2, .bool _⟩

/-- integer to integer -/
theorem op_conv {T T' : TypeId} {x : Operand} {k k' : IntKind} {n r : Int} {i j : TI} (hT : get τ.tab T = some i) (hk : i.k = .int k) (hT' : get τ.tab T' = some j) (hk' : j.k = .int k') (hx : Rd s x (.val (.int k n))) (hr : k'.wrap n = r) (hN : Nat.blt d B.N = true) :
    OpDo P B ⟨some d, .convert T T' x, ty, pos, af, gd⟩ s (s.setT d (.val (.int k' r))) :=
  .pure hN fun R ad a w hi => by
    subst hr
    exact ⟨.int k' _, by simp [execOp, convert, (hx.int_inv hi).1, run_underlying (Tys.int hT hk), run_underlying (Tys.int hT' hk'), Conv.intToInt], .int _ _ (wrap_InR _ _)⟩
theorem op_convs {T T' : TypeId} {x : Operand} {l : List UInt8} {i j : TI} (hT : get τ.tab T = some i) (hk : i.k = .str) (hT' : get τ.tab T' = some j) (hk' : j.k = .str) (hx : Rd s x (.val (.str l))) (hN : Nat.blt d B.N = true) :
    OpDo P B ⟨some d, .convert T T' x, ty, pos, af, gd⟩ s (s.setT d (.val (.str l))) :=
  .pure hN fun R ad a w hi => by
    obtain ⟨b, h1, rfl, h2⟩ := hx.str_inv hi
    exact ⟨.string b, by simp [execOp, convert, h1, run_underlying (Tys.str hT hk), run_underlying (Tys.str hT' hk')], .str _ h2⟩

/-- strings -/
def cmpStr (op : BinOp) (m n : List UInt8) : Bool :=
  match op with
  | .eql => m == n
  | .neq => !(m == n)
  | .lss => Op.bytesLess m n
  | .leq => Op.bytesLess m n || m == n
  | .gtr => !(Op.bytesLess m n || m == n)
  | _ => !Op.bytesLess m n
theorem op_cmps {op : BinOp} {T T' : TypeId} {x y : Operand} {m n : List UInt8} {b : Bool} (hop : isCmp op = true) (hx : Rd s x (.val (.str m))) (hy : Rd s y (.val (.str n))) (hb : cmpStr op m n = b) (hN : Nat.blt d B.N = true) :
    OpDo P B ⟨some d, .binOp op T x y T', ty, pos, af, gd⟩ s (s.setT d (.val (.bool b))) :=
  .pure hN fun R ad a w hi => by
    subst hb
    obtain ⟨b1, h1, rfl, _⟩ := hx.str_inv hi
    obtain ⟨b2, h2, rfl, _⟩ := hy.str_inv hi
    refine ⟨.bool (cmpStr op b1.data.toList b2.data.toList), ?_, .bool _⟩
    cases op <;> simp [isCmp] at hop <;> simp [execOp, h1, h2, eqGuard, binOp, Op.stringOp, cmpStr, ByteArray.toList_eq]
theorem op_cat {T T' : TypeId} {x y : Operand} {m n : List UInt8} (hx : Rd s x (.val (.str m))) (hy : Rd s y (.val (.str n))) (hl : m.length + n.length ≤ maxLen) (hN : Nat.blt d B.N = true) :
    OpDo P B ⟨some d, .binOp .add T x y T', ty, pos, af, gd⟩ s (s.setT d (.val (.str (m ++ n)))) :=
  .pure hN fun R ad a w hi => by
    obtain ⟨b1, h1, rfl, _⟩ := hx.str_inv hi
    obtain ⟨b2, h2, rfl, _⟩ := hy.str_inv hi
    have e1 : b1.data.toList.length = b1.size := by simp
    have e2 : b2.data.toList.length = b2.size := by simp
    have hs : (b1 ++ b2).size = b1.size + b2.size := by simp
    have e3 : b1.data.toList ++ b2.data.toList = (b1 ++ b2).data.toList := by simp
    refine ⟨.string (b1 ++ b2), by simp only [maxLen] at hl; simp [execOp, h1, h2, eqGuard, binOp, Op.stringOp]; omega, ?_⟩
    rw [e3]
    exact .str _ (by rw [hs]; omega)

theorem op_extract {x : Operand} {n : Nat} {ds : List D} {e : D} (hx : Rd s x (.val (.tup ds))) (he : ds[n]? = some e) (hN : Nat.blt d B.N = true) : OpDo P B ⟨some d, .extract x n, ty, pos, af, gd⟩ s (s.setT d (.val e)) :=
  .pure hN fun R ad a w hi => by
    have h := hx.holds hi
    simp only [HoldsT] at h
    generalize hv : a.eval x = v at h
    cases h with
    | tup ds cs hs hh =>
      have hl : n < cs.size := by rw [hs]; exact (List.getElem?_eq_some_iff.1 he).1
      exact ⟨cs[n], by simp [execOp, Instr.extract, hv, hl], hh n e _ he (by simp [hl])⟩

/-- len -/
theorem op_len {T : TypeId} {x : Operand} {td : TD} {n : Int} {i : TI} {ty : TypeId} (hT : get τ.tab T = some i) (hx : Rd s x td)
    (h : (∃ e k l, i.k = .slice e ∧ td = .val (.ints k l) ∧ n = (l.length : Int)) ∨ (∃ e z l, i.k = .slice e ∧ td = .val (.sl z l) ∧ n = (l.length : Int)) ∨ (∃ e k off len cap, i.k = .slice e ∧ td = .sb k off len cap ∧ n = (len : Int)) ∨ (∃ e k T z l, i.k = .slice e ∧ td = .vec k T z l ∧ n = (l.length : Int)) ∨ (∃ l, i.k = .str ∧ td = .val (.str l) ∧ n = (l.length : Int)))
    (hN : Nat.blt d B.N = true) : OpDo P B ⟨some d, .call ⟨.builtin .len, #[x], #[T]⟩, ty, pos, af, gd⟩ s (s.setT d (.val (.int .i64 n))) :=
  .pure hN fun R ad a w hi => by
    have hh := hx.holds hi
    have inr : ∀ m : Nat, m ≤ maxLen → InR .i64 (m : Int) := fun m hm => by simp only [maxLen] at hm; simp [InR, IntKind.min, IntKind.max, IntKind.bits, IntKind.signed]; omega
    rcases h with ⟨e, k, l, hk, rfl, rfl⟩ | ⟨e, z, l, hk, rfl, rfl⟩ | ⟨e, k, off, len, cap, hk, rfl, rfl⟩ | ⟨e, k, T', z, l, hk, rfl, rfl⟩ | ⟨l, hk, rfl, rfl⟩
    · have hu := Tys.slice hT hk
      simp only [HoldsT] at hh
      generalize hv : a.eval x = v at hh
      cases hh with
      | intsNil => exact ⟨.int .i64 0, by simp [execOp, resolve, invoke, builtin, Builtin.len_, hv, run_underlying hu, goInt], .int _ _ (inr 0 (by simp))⟩
      | intsE => exact ⟨.int .i64 0, by simp [execOp, resolve, invoke, builtin, Builtin.len_, hv, run_underlying hu, goInt], .int _ _ (inr 0 (by simp))⟩
      | ints k l b off cap _ _ hm => exact ⟨.int .i64 l.length, by simp [execOp, resolve, invoke, builtin, Builtin.len_, hv, run_underlying hu, goInt], .int _ _ (inr _ hm)⟩
    · have hu := Tys.slice hT hk
      simp only [HoldsT] at hh
      generalize hv : a.eval x = v at hh
      cases hh with
      | slNil => exact ⟨.int .i64 0, by simp [execOp, resolve, invoke, builtin, Builtin.len_, hv, run_underlying hu, goInt], .int _ _ (inr 0 (by simp))⟩
      | slE => exact ⟨.int .i64 0, by simp [execOp, resolve, invoke, builtin, Builtin.len_, hv, run_underlying hu, goInt], .int _ _ (inr 0 (by simp))⟩
      | sl k l b off cap _ _ _ hm => exact ⟨.int .i64 l.length, by simp [execOp, resolve, invoke, builtin, Builtin.len_, hv, run_underlying hu, goInt], .int _ _ (inr _ hm)⟩
    · have hu := Tys.slice hT hk
      obtain ⟨⟨b, _, hv⟩, h1, h2⟩ := hh
      exact ⟨.int .i64 len, by simp [execOp, resolve, invoke, builtin, Builtin.len_, hv, run_underlying hu, goInt], .int _ _ (inr _ (Nat.le_trans h1 h2))⟩
    · have hu := Tys.slice hT hk
      rcases hh with ⟨_, hv, rfl⟩ | ⟨b, cap, _, hv, cs, _, _, h1, h2, _⟩
      · exact ⟨.int .i64 0, by simp [execOp, resolve, invoke, builtin, Builtin.len_, hv, run_underlying hu, goInt], .int _ _ (inr 0 (by simp))⟩
      · exact ⟨.int .i64 l.length, by simp [execOp, resolve, invoke, builtin, Builtin.len_, hv, run_underlying hu, goInt], .int _ _ (inr _ (by omega))⟩
    · have hu := Tys.str hT hk
      obtain ⟨b, hv, rfl, hm⟩ := hx.str_inv hi
      have e1 : b.data.toList.length = b.size := by simp
      exact ⟨.int .i64 b.data.toList.length, by rw [e1]; simp [execOp, resolve, invoke, builtin, Builtin.len_, hv, run_underlying hu, goInt], .int _ _ (inr _ (by omega))⟩
theorem op_max {x y : Operand} {ats : Array TypeId} {k : IntKind} {m n r : Int} (hx : Rd s x (.val (.int k m))) (hy : Rd s y (.val (.int k n))) (hr : max m n = r) (hN : Nat.blt d B.N = true) : OpDo P B ⟨some d, .call ⟨.builtin .max, #[x, y], ats⟩, ty, pos, af, gd⟩ s (s.setT d (.val (.int k r))) :=
  .pure hN fun R ad a w hi => by
    subst hr
    have h1 := hx.int_inv hi
    have h2 := hy.int_inv hi
    have e : max m n = if n > m then n else m := by rw [Int.max_def]; split <;> split <;> omega
    refine ⟨.int k (max m n), ?_, .int _ _ ?_⟩
    · rw [e]; simp [execOp, resolve, invoke, builtin, Builtin.max_, Builtin.max2, h1.1, h2.1]
    · rw [e]; split
      · exact h2.2
      · exact h1.2
theorem op_min {x y : Operand} {ats : Array TypeId} {k : IntKind} {m n r : Int} (hx : Rd s x (.val (.int k m))) (hy : Rd s y (.val (.int k n))) (hr : min m n = r) (hN : Nat.blt d B.N = true) : OpDo P B ⟨some d, .call ⟨.builtin .min, #[x, y], ats⟩, ty, pos, af, gd⟩ s (s.setT d (.val (.int k r))) :=
  .pure hN fun R ad a w hi => by
    subst hr
    have h1 := hx.int_inv hi
    have h2 := hy.int_inv hi
    have e : min m n = if n < m then n else m := by rw [Int.min_def]; split <;> split <;> omega
    refine ⟨.int k (min m n), ?_, .int _ _ ?_⟩
    · rw [e]; simp [execOp, resolve, invoke, builtin, Builtin.min_, Builtin.min2, h1.1, h2.1]
    · rw [e]; split
      · exact h2.2
      · exact h1.2

theorem op_lenI {T : TypeId} {x : Operand} {i : TI} {e : Nat} {k : IntKind} {l : List Int} (hT : get τ.tab T = some i) (hk : i.k = .slice e) (hx : Rd s x (.val (.ints k l))) (hN : Nat.blt d B.N = true) : OpDo P B ⟨some d, .call ⟨.builtin .len, #[x], #[T]⟩, ty, pos, af, gd⟩ s (s.setT d (.val (.int .i64 l.length))) :=
  op_len (τ := τ) hT hx (.inl ⟨e, k, l, hk, rfl, rfl⟩) hN
theorem op_lenS {T : TypeId} {x : Operand} {i : TI} {e z : Nat} {l : List (List D)} (hT : get τ.tab T = some i) (hk : i.k = .slice e) (hx : Rd s x (.val (.sl z l))) (hN : Nat.blt d B.N = true) : OpDo P B ⟨some d, .call ⟨.builtin .len, #[x], #[T]⟩, ty, pos, af, gd⟩ s (s.setT d (.val (.int .i64 l.length))) :=
  op_len (τ := τ) hT hx (.inr (.inl ⟨e, z, l, hk, rfl, rfl⟩)) hN
theorem op_lenB {T : TypeId} {x : Operand} {i : TI} {e k off len cap : Nat} (hT : get τ.tab T = some i) (hk : i.k = .slice e) (hx : Rd s x (.sb k off len cap)) (hN : Nat.blt d B.N = true) : OpDo P B ⟨some d, .call ⟨.builtin .len, #[x], #[T]⟩, ty, pos, af, gd⟩ s (s.setT d (.val (.int .i64 len))) :=
  op_len (τ := τ) hT hx (.inr (.inr (.inl ⟨e, k, off, len, cap, hk, rfl, rfl⟩))) hN
theorem op_lenV {T T' : TypeId} {x : Operand} {i : TI} {e k z : Nat} {l : List (List D)} (hT : get τ.tab T = some i) (hk : i.k = .slice e) (hx : Rd s x (.vec k T' z l)) (hN : Nat.blt d B.N = true) : OpDo P B ⟨some d, .call ⟨.builtin .len, #[x], #[T]⟩, ty, pos, af, gd⟩ s (s.setT d (.val (.int .i64 l.length))) :=
  op_len (τ := τ) hT hx (.inr (.inr (.inr (.inl ⟨e, k, T', z, l, hk, rfl, rfl⟩)))) hN
theorem op_lenStr {T : TypeId} {x : Operand} {i : TI} {l : List UInt8} (hT : get τ.tab T = some i) (hk : i.k = .str) (hx : Rd s x (.val (.str l))) (hN : Nat.blt d B.N = true) : OpDo P B ⟨some d, .call ⟨.builtin .len, #[x], #[T]⟩, ty, pos, af, gd⟩ s (s.setT d (.val (.int .i64 l.length))) :=
  op_len (τ := τ) hT hx (.inr (.inr (.inr (.inr ⟨l, hk, rfl, rfl⟩)))) hN

/-- a call -/
inductive RdAll (s : St) : List Operand → List D → Prop where
  | nil : RdAll s [] []
  | cons {x : Operand} {e : D} {xs : List Operand} {ds : List D} (h : Rd s x (.val e)) (hs : RdAll s xs ds) : RdAll s (x :: xs) (e :: ds)

theorem RdAll.holds {R : Nat → Prop} {ad : Nat → Option Nat} {a : Act} {w : World} {xs : List Operand} {ds : List D} (hi : Inv B R ad s a w) (h : RdAll s xs ds) : HoldsAll R w ds (xs.map a.eval).toArray := by
  induction h with
  | nil => exact ⟨rfl, fun i d v h => by simp at h⟩
  | cons h hs ih =>
    refine ⟨by simpa using ih.1, fun i d v hd hv => ?_⟩
    cases i with
    | zero => simp at hd hv; subst hd hv; exact h.holds hi
    | succ i => exact ih.2 i d v (by simpa using hd) (by simpa using hv)

theorem op_call {f : FuncId} {args : Array Operand} {ats : Array TypeId} {xs : List Operand} {ds : List D} {e : D} (ha : args.toList = xs) (hx : RdAll s xs ds) (he : Evals P f ds e) (hN : Nat.blt d B.N = true) :
    OpDo P B ⟨some d, .call ⟨.value (.func f), args, ats⟩, ty, pos, af, gd⟩ s (s.setT d (.val e)) := .mk fun a w ⟨R, ad, hi⟩ K Q hk => by
  subst ha
  have e0 : (args.toList.map a.eval).toArray = args.map a.eval := by apply Array.ext' ; simp
  have hrun : (execOp a.eval ⟨some d, .call ⟨.value (.func f), args, ats⟩, ty, pos, af, gd⟩).run P w = .ok (.enter f (args.map a.eval)) w := by
    have := he.ok (args.map a.eval) w
    simp [execOp, resolve, invoke, Act.eval, Deferred.ofValue]
    simpa using this
  have hv := hx.holds hi
  rw [e0] at hv
  simp only [Oper.wp, hrun, Oper.upon]
  refine (he.run R w _ (fun b hb => (hi.Rn b hb).2) hi.gam hv).mono ?_
  rintro e' w' ⟨v, R', rfl, hb, hR, hR', hh⟩
  exact hk _ _ ⟨R', ad, (hi.grow hb hR hR').put hN hh⟩

end
end Go.Proofs.YtffcpgebgoineaaDoor.K
