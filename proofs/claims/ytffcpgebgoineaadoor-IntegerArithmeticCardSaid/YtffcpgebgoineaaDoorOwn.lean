/- Memory of the call's own that is no longer written: from then on it is a datum. Append to nothing; copy. -/
import Derived.Test.YtffcpgebgoineaaDoorLoc
namespace Go.Proofs.YtffcpgebgoineaaDoor.K
open Go Go.RowKit
set_option linter.unusedVariables false
set_option linter.unusedSimpArgs false

def dropId {α : Type} (f : α → Option Nat) (k : Nat) : List (Nat × α) → List (Nat × α)
  | [] => []
  | (t, x) :: r => match f x with
    | some j => match Nat.beq j k with
      | true => dropId f k r
      | false => (t, x) :: dropId f k r
    | none => (t, x) :: dropId f k r
def dropKey {α : Type} (k : Nat) : List (Nat × α) → List (Nat × α)
  | [] => []
  | (t, x) :: r => match Nat.beq t k with
    | true => dropKey k r
    | false => (t, x) :: dropKey k r

theorem get_dropKey {α : Type} {k : Nat} {l : List (Nat × α)} {n : Nat} {x : α} (h : get (dropKey k l) n = some x) : get l n = some x ∧ n ≠ k := by
  induction l with
  | nil => simp [dropKey, get] at h
  | cons p r ih =>
    obtain ⟨t, y⟩ := p
    simp only [dropKey] at h
    by_cases e : t = k
    · subst e
      simp only [Nat.beq_refl] at h
      obtain ⟨h1, h2⟩ := ih h
      rw [get_cons, if_neg (fun h => h2 h.symm)]
      exact ⟨h1, h2⟩
    · rw [beq_false e] at h
      simp only [get_cons] at h ⊢
      split at h
      · rename_i e2; exact ⟨by rw [if_pos e2]; exact h, fun h => e (e2.trans h)⟩
      · rename_i e2; rw [if_neg e2]; exact ih h

/-- what is known without memory number k; every temporary that speaks of it is forgotten, where any row speaks of it -/
def clean (k : Nat) : List (Nat × TD) → List (Nat × TD)
  | [] => []
  | (t, x) :: r => (match x.has k with
    | true => (t, x.lose k)
    | false => (t, x)) :: clean k r
theorem get_clean {k : Nat} {l : List (Nat × TD)} {n : Nat} {x : TD} (h : get (clean k l) n = some x) : (∃ y, get l n = some y ∧ x = y.lose k) ∨ (get l n = some x ∧ x.has k = false) := by
  induction l with
  | nil => simp [clean, get] at h
  | cons p r ih =>
    obtain ⟨t, y⟩ := p
    simp only [clean] at h
    cases hy : y.has k with
    | false =>
      rw [hy] at h
      simp only [get_cons] at h ⊢
      split at h
      · rename_i e; cases h; exact .inr ⟨by rw [if_pos e], hy⟩
      · rename_i e; rw [if_neg e]; exact ih h
    | true =>
      rw [hy] at h
      simp only [get_cons] at h ⊢
      split at h
      · rename_i e; cases h; exact .inl ⟨y, by rw [if_pos e], rfl⟩
      · rename_i e; rw [if_neg e]; exact ih h
/-- what is left when a memory is forgotten -/
theorem HoldsT.lose {R R' : Nat → Prop} {ad ad' : Nat → Option Nat} {w w' : World} {x : TD} {v : Value} {k : Nat} (h : HoldsT R ad w x v) (ha : ∀ j, j ≠ k → ad' j = ad j) (hw : ∀ j b, j ≠ k → ad j = some b → w'.heap[b]? = w.heap[b]?) : HoldsT R' ad' w' (x.lose k) v := by
  cases x with
  | psb j T i off len cap =>
    simp only [TD.lose]
    split
    · trivial
    · rename_i e
      have e := beq_ne e
      obtain ⟨b, u, h1, h2, h3, _⟩ := h
      exact ⟨b, u, by rw [ha j e, h1], h2, by rw [hw j b e h1, h3]⟩
  | pvec j T i U z l =>
    simp only [TD.lose]
    split
    · trivial
    · rename_i e
      have e := beq_ne e
      obtain ⟨b, u, h1, h2, h3, _⟩ := h
      exact ⟨b, u, by rw [ha j e, h1], h2, by rw [hw j b e h1, h3]⟩
  | _ => trivial

def St.forget (s : St) (k : Nat) : St := ⟨clean k s.tm, dropKey k s.bx⟩

theorem Inv.freeze {B : Base} {R : Nat → Prop} {ad : Nat → Option Nat} {s : St} {a : Act} {w : World} (h : Inv B R ad s a w) {t k off len cap T : Nat} {kk : IntKind} {l : List Int} (hs : s.t t = some (.sb k off len cap)) (hb : s.b k = some (.row T kk l)) (hle : off + len ≤ l.length) (hx : B.ex = fun _ => False) :
    Good B ((s.forget k).setT t (.val (.ints kk ((l.drop off).take len)))) a w := by
  obtain ⟨b, h1, cs, h2, h3, h4⟩ := h.bx k _ hb
  have hn := h.adn k b h1
  have hn1 : B.w0.heap.size ≤ b := by
    rcases hn.1 with h9 | h9
    · exact h9
    · rw [hx] at h9; exact h9.elim
  refine ⟨fun c => R c ∨ c = b, fun j => if j = k then none else ad j, ⟨h.df, h.sz, fun c hc => .inl (h.R0 c hc), ?_, h.below, h.gm, h.gx, ?_, ?_, fun c hc => by rw [hx] at hc; exact hc.elim, ?_, ?_⟩⟩
  · rintro c (hc | rfl)
    · exact h.Rn c hc
    · exact ⟨.inr ⟨hn1, cs, T, h2⟩, hn.2.1⟩
  · intro j c hj
    split at hj
    · cases hj
    · rename_i e
      have := h.adn j c hj
      refine ⟨this.1, this.2.1, ?_⟩
      rintro (hc | rfl)
      · exact this.2.2 hc
      · exact e (h.adi j k c hj h1)
  · intro j j' c hj hj'
    split at hj
    · cases hj
    · split at hj'
      · cases hj'
      · exact h.adi j j' c hj hj'
  · intro j x hx
    obtain ⟨h5, h6⟩ := get_dropKey (show get (dropKey k s.bx) j = some x from hx)
    obtain ⟨c, g1, g2⟩ := h.bx j x h5
    exact ⟨c, by simp [h6, g1], g2.world (fun _ h => .inl h) (fun _ _ => rfl) rfl⟩
  · intro u x hx
    rw [St.t_setT] at hx
    by_cases e : t = u
    · subst e
      rw [if_pos rfl] at hx
      cases hx
      obtain ⟨v, g1, ⟨c, g2, rfl⟩, g3, g4⟩ := h.tm t _ hs
      rw [h1] at g2; cases g2
      refine ⟨_, g1, ?_⟩
      have hds : (Bx.row T kk l).ds = l.map (D.int kk) := rfl
      rw [hds] at h3 h4
      simp only [List.length_map] at h3
      have hlen : ((l.drop off).take len).length = len := by simp; omega
      have hcell : ∀ j, (hj : j < l.length) → cs[j]? = some (.int kk l[j]) ∧ InR kk l[j] := fun j hj => by
        have g5 := h4 j (.int kk l[j]) cs[j] (by simp [hj]) (by simp [h3, hj])
        have e : cs[j]? = some cs[j] := by simp [h3, hj]
        generalize cs[j] = u at g5 e
        cases g5
        exact ⟨e, by assumption⟩
      show Holds _ w _ _
      conv => arg 4; rw [← hlen]
      refine .ints kk _ b off cap (.inr rfl) (by rw [hlen]; exact g3) (by rw [hlen]; omega) (fun x hx => ?_) (fun j hj => ?_)
      · obtain ⟨j, hj, rfl⟩ := List.mem_iff_getElem.1 hx
        have hj' : off + j < l.length := by simp at hj; omega
        simpa using (hcell (off + j) hj').2
      · have hj' : off + j < l.length := by simp at hj; omega
        rw [cells_of_row h2, (hcell (off + j) hj').1]
        simp
    · rw [if_neg e] at hx
      rcases get_clean (show get (clean k s.tm) u = some x from hx) with ⟨y, g1, rfl⟩ | ⟨g1, g2⟩
      · obtain ⟨v, g3, g4⟩ := h.tm u y g1
        exact ⟨v, g3, g4.lose (fun j hj => by simp [hj]) (fun _ _ _ _ => rfl)⟩
      · obtain ⟨v, g3, g4⟩ := h.tm u x g1
        refine ⟨v, g3, ?_⟩
        cases x with
        | val d => exact Holds.mono g4 (fun _ h => .inl h) (fun _ _ => rfl)
        | nv n d => exact Holds.mono g4 (fun _ h => ⟨.inl h.1, h.2⟩) (fun _ _ => rfl)
        | pin j c m => have g2 := beq_ne g2; exact ⟨by simp [g2, g4.1], g4.2⟩
        | un => trivial
        | pb j off => have g2 := beq_ne g2; obtain ⟨c, g5, g6⟩ := g4; exact ⟨c, by simp [g2, g5], g6⟩
        | sb j off len cap => have g2 := beq_ne g2; obtain ⟨⟨c, g5, g6⟩, g7⟩ := g4; exact ⟨⟨c, by simp [g2, g5], g6⟩, g7⟩
        | psb j T i off len cap =>
          obtain ⟨f1, f2⟩ := has_psb g2
          obtain ⟨c, u, g5, g6, g7, ⟨c', g8, g9⟩, g10⟩ := g4
          exact ⟨c, u, by simp [f1, g5], g6, g7, ⟨c', by simp [f2, g8], g9⟩, g10⟩
        | pvec j T i U z m =>
          obtain ⟨f1, f2⟩ := has_pvec g2
          obtain ⟨c, u, g5, g6, g7, g4⟩ := g4
          refine ⟨c, u, by simp [f1, g5], g6, g7, ?_⟩
          rcases g4 with ⟨g5, g6⟩ | ⟨c, cap, g5, g6, cs', g7, g8, g9, g10, g11, g12⟩
          · exact .inl ⟨by simp [f2, g5], g6⟩
          · exact .inr ⟨c, cap, by simp [f2, g5], g6, cs', g7, g8, g9, g10, g11, fun i ds j' d v a1 a2 a3 => (g12 i ds j' d v a1 a2 a3).mono (fun _ h => .inl h) (fun _ _ => rfl)⟩
        | pbs j T => have g2 := beq_ne g2; obtain ⟨c, u, g5, g6⟩ := g4; exact ⟨c, u, by simp [g2, g5], g6⟩
        | clo f ks =>
          obtain ⟨vs, g5, g6, g7⟩ := g4
          exact ⟨vs, g5, g6, fun i j hj => by
            obtain ⟨b', g8, g9⟩ := g7 i j hj
            exact ⟨b', by simp [inL_false g2 hj, g8], g9⟩⟩
        | vec j T z m =>
          have g2 := beq_ne g2
          rcases g4 with ⟨g5, g6⟩ | ⟨c, cap, g5, g6, cs', g7, g8, g9, g10, g11, g12⟩
          · exact .inl ⟨by simp [g2, g5], g6⟩
          · exact .inr ⟨c, cap, by simp [g2, g5], g6, cs', g7, g8, g9, g10, g11, fun i ds j' d v a1 a2 a3 => (g12 i ds j' d v a1 a2 a3).mono (fun _ h => .inl h) (fun _ _ => rfl)⟩

theorem AWP.freeze {P : Program} {B : Base} {c : Code} {Q : Post} {s : St} (t : Nat) {k off len cap T : Nat} {kk : IntKind} {l : List Int} (hs : s.t t = some (.sb k off len cap)) (hb : s.b k = some (.row T kk l)) (hle : off + len ≤ l.length) (hx : B.ex = fun _ => False)
    (h : AWP P B c Q ((s.forget k).setT t (.val (.ints kk ((l.drop off).take len))))) : AWP P B c Q s :=
  ⟨fun a w ⟨R, ad, hi⟩ => h.run a w (hi.freeze hs hb hle hx)⟩

/-- the end of a call that hands back a row of its own -/
theorem AWP.retF {P : Program} {B : Base} {Q : Post} {fn : Func} {dd : D} {s : St} {t k off len cap T : Nat} {kk : IntKind} {l : List Int} (hQ : Q.ret = Ends P fn dd) (hr : fn.results.toList.head? = some (.tmp t)) (hs : s.t t = some (.sb k off len cap)) (hb : s.b k = some (.row T kk l)) (hle : off + len ≤ l.length) (hx : B.ex = fun _ => False) [RetB B]
    (h : Ends P fn dd ((s.forget k).setT t (.val (.ints kk ((l.drop off).take len))))) : AWP P B .ret Q s :=
  .freeze t hs hb hle hx (.ret (hQ ▸ h))
theorem RunL.freeze {P : Program} {B : Base} {ops : Array Oper} {o : Oper} {r : List Oper} {K : St → Prop} {s : St} (t : Nat) {k off len cap T : Nat} {kk : IntKind} {l : List Int} (hs : s.t t = some (.sb k off len cap)) (hb : s.b k = some (.row T kk l)) (hle : off + len ≤ l.length) (hx : B.ex = fun _ => False)
    (h : RunL P B ops (o :: r) K ((s.forget k).setT t (.val (.ints kk ((l.drop off).take len))))) : RunL P B ops (o :: r) K s := by
  cases h with
  | cons h1 h2 => exact .cons (fun a w ⟨R, ad, hi⟩ KK QQ hk => h1 a w (hi.freeze hs hb hle hx) KK QQ hk) h2
/-- a row of the call's own, handed to a function that reads it -/
theorem RunL.hand {P : Program} {B : Base} {ops : Array Oper} {r : List Oper} {K : St → Prop} {s : St} {t d f : Nat} {ats : Array TypeId} {ty : TypeId} {pos : String} {af : Array Edge} {gd : Option (Nat × Bool)} {k off len cap T : Nat} {kk : IntKind} {l : List Int} (hs : s.t t = some (.sb k off len cap)) (hb : s.b k = some (.row T kk l)) (hle : off + len ≤ l.length) (hx : B.ex = fun _ => False)
    (h : RunL P B ops (⟨some d, .call ⟨.value (.func f), #[.tmp t], ats⟩, ty, pos, af, gd⟩ :: r) K ((s.forget k).setT t (.val (.ints kk ((l.drop off).take len))))) : RunL P B ops (⟨some d, .call ⟨.value (.func f), #[.tmp t], ats⟩, ty, pos, af, gd⟩ :: r) K s :=
  .freeze t hs hb hle hx h

section
variable {P : Program} {τ : Tys P} {B : Base} {s : St} {d : Nat} {ty : TypeId} {pos : String} {af : Array Edge} {gd : Option (Nat × Bool)}

/-- append(nil, l...): a copy -/
theorem op_appendNil {T e : Nat} {x : Operand} {k : IntKind} {l : List Int} {i j : TI} (hT : get τ.tab T = some i) (hk : i.k = .slice e) (he : get τ.tab e = some j) (hz : j.size = 1) (hx : Rd s x (.val (.ints k l))) (hl : l.length * j.bytes ≤ 281474976710656) (hN : Nat.blt d B.N = true) :
    OpDo P B ⟨some d, .call ⟨.builtin .append, #[.const (.slice none 0 0), x], #[T, T]⟩, ty, pos, af, gd⟩ s (s.setT d (.val (.ints k l))) :=
  .value fun R ad a w hi => by
    have h := hx.holds hi
    have hu := Tys.slice hT hk
    obtain ⟨_, I, h1, h2, h3, z, h4, h5, h6⟩ := τ.is he
    have hcn : a.eval (.const (.slice none 0 0)) = .slice none 0 0 := rfl
    have nilcase : ∀ v : Value, a.eval x = v → (v = .slice none 0 0 ∨ ∃ a c, v = .slice (some a) 0 c) → l = [] → ∃ v w', (execOp a.eval ⟨some d, .call ⟨.builtin .append, #[.const (.slice none 0 0), x], #[T, T]⟩, ty, pos, af, gd⟩).run P w = .ok (.value v) w' ∧ Good B (s.setT d (.val (.ints k l))) (a.put (some d) v) w' := by
      intro v hv hcase hl0
      subst hl0
      refine ⟨.slice none 0 0, w, ?_, R, ad, hi.put hN (.intsNil k)⟩
      rcases hcase with rfl | ⟨p, c, rfl⟩ <;>
        simp [execOp, resolve, invoke, builtin, Builtin.append_, hv, hcn, run_underlying hu, sizeOf, typeInfo, h1, Builtin.lenOf, Builtin.firstCells, loadCells, loadCellsFrom]
    simp only [HoldsT] at h
    generalize hv : a.eval x = v at h
    cases h with
    | intsNil => exact nilcase _ hv (.inl rfl) rfl
    | intsE => exact nilcase _ hv (.inr ⟨_, _, rfl⟩) rfl
    | ints k l b off cap hR hcap hmax hr hc =>
      by_cases h0 : l.length = 0
      · exact nilcase _ hv (.inr ⟨_, _, by rw [h0]⟩) (List.eq_nil_of_length_eq_zero h0)
      · simp only [maxLen] at hmax
        have hrun := run_append_nil (P := P) w T ty e I z hu h1 h4 ⟨b, off, none⟩ l.length cap (l.map (Value.int k)) (by simp [h2, hz]) (fun n v hn => by
          rw [add_lit]
          simp at hn
          obtain ⟨y, hy, rfl⟩ := hn
          obtain ⟨hlt, hg⟩ := List.getElem?_eq_some_iff.1 hy
          rw [hc n hlt, hg]) (by omega) (by omega) (by rw [h3]; exact hl)
        have hge := grownCap_ge w l.length 0 e
        let o : Obj := .cells ((l.map (Value.int k)).toArray ++ Builtin.zeroCells z.cells (grownCap w l.length 0 e - l.length)) e
        have hb : Below w.heap.size w (w.drew.alloc o) := ((Below.refl _ _).drew).alloc (by simp) _
        refine ⟨.slice (some ⟨w.heap.size, 0, none⟩) l.length (grownCap w l.length 0 e), w.drew.alloc o, by simp [execOp, resolve, invoke, builtin, hv, hcn, hrun, o], fun c => R c ∨ c = w.heap.size, ad, ?_⟩
        refine (hi.grow hb (fun _ h => .inl h) ?_).put hN ?_
        · rintro c (hc' | rfl)
          · exact ⟨.inl hc', by have := (hi.Rn c hc').2; simp; omega⟩
          · exact ⟨.inr ⟨Nat.le_refl _, _, _, heap_alloc_new w.drew o⟩, by simp⟩
        · refine .ints k l _ 0 _ (.inr rfl) hge (by simp only [maxLen]; omega) hr fun n hn => ?_
          have hnew : (w.drew.alloc o).heap[w.heap.size]? = some o := heap_alloc_new w.drew o
          rw [cells_of_row hnew]
          rw [Array.getElem?_append_left (by simpa using hn)]
          simp [hn]

/-- copy(out, l) into a row of the call's own -/
theorem op_copy {T T' e : Nat} {x y : Operand} {k off len cap T0 n : Nat} {kk : IntKind} {l l0 : List Int} {i j : TI} (hT : get τ.tab T = some i) (hk : i.k = .slice e) (he : get τ.tab e = some j) (hz : j.size = 1) (hx : Rd s x (.sb k off len cap)) (hb : s.b k = some (.row T0 kk l0)) (hy : Rd s y (.val (.ints kk l)))
    (hn : min l.length len = n) (hle : off + n ≤ l0.length) (hnv : noVec k s.tm = true) (hN : Nat.blt d B.N = true) :
    OpDo P B ⟨some d, .call ⟨.builtin .copy, #[x, y], #[T, T']⟩, ty, pos, af, gd⟩ s ((s.setB k (.row T0 kk (l0.take off ++ l.take n ++ l0.drop (off + n)))).setT d (.val (.int .i64 n))) :=
  .value fun R ad a w hi => by
    obtain ⟨⟨b, g1, hv⟩, g2, g3⟩ := hx.holds hi
    obtain ⟨b', g4, cs, g5, g6, g7⟩ := hi.bx _ _ hb
    rw [g1] at g4; cases g4
    have hu := Tys.slice hT hk
    obtain ⟨_, I, h1, h2, h3, _⟩ := τ.is he
    have hds : (Bx.row T0 kk l0).ds = l0.map (D.int kk) := rfl
    rw [hds] at g6 g7
    simp only [List.length_map] at g6
    have hnl : n ≤ len := by omega
    have hir : InR .i64 (n : Int) := by simp only [maxLen] at g3; simp [InR, IntKind.min, IntKind.max, IntKind.bits, IntKind.signed]; omega
    have key : ∀ (src : Value) (u : List Value), a.eval y = src → u = (l.take n).map (Value.int kk) → (Builtin.copy_ #[T, T'] ty #[.slice (some ⟨b, off, none⟩) len cap, src]).run P w = .ok (goInt n) (w.setRow b (cs.toList.take off ++ u ++ cs.toList.drop (off + u.length)).toArray) → (∀ x ∈ l, InR kk x) →
        ∃ v w', (execOp a.eval ⟨some d, .call ⟨.builtin .copy, #[x, y], #[T, T']⟩, ty, pos, af, gd⟩).run P w = .ok (.value v) w' ∧ Good B ((s.setB k (.row T0 kk (l0.take off ++ l.take n ++ l0.drop (off + n)))).setT d (.val (.int .i64 n))) (a.put (some d) v) w' := by
      intro src u hs hu' hrun hr
      have hul : u.length = n := by rw [hu']; simp; omega
      refine ⟨.int .i64 n, _, by simp [execOp, resolve, invoke, builtin, hv, hs, hrun, goInt]; rfl, R, ad, ?_⟩
      refine Inv.put ?_ hN (.int _ _ hir)
      refine hi.setBox (x := .row T0 kk l0) (y := .row T0 kk (l0.take off ++ l.take n ++ l0.drop (off + n))) g1 rfl hnv g5 ?_ ?_
      · simp [Bx.ds, hul]; omega
      · intro m e' v a1 a2
        have a1' : ((l0.map (D.int kk)).take off ++ (l.take n).map (D.int kk) ++ (l0.map (D.int kk)).drop (off + ((l.take n).map (D.int kk)).length))[m]? = some e' := by
          rw [← a1]; simp only [Bx.ds, List.map_append, List.map_take, List.map_drop]; congr 2; simp; omega
        have a2' : (cs.toList.take off ++ u ++ cs.toList.drop (off + u.length))[m]? = some v := by simpa using a2
        have hnn : ((l.take n).map (D.int kk)).length = n := by simp; omega
        rcases splice_get _ _ _ _ _ (by simp; omega) a1' with ⟨b1, b2⟩ | ⟨b1, b2, b3⟩ | ⟨b1, b2⟩ <;> rcases splice_get _ _ _ _ _ (by simp; omega) a2' with ⟨c1, c2⟩ | ⟨c1, c2, c3⟩ | ⟨c1, c2⟩ <;> first
          | (exfalso; omega)
          | exact g7 m e' v b2 (by simpa using c2)
          | skip
        rw [hu'] at c3
        simp only [List.getElem?_map, Option.map_eq_some_iff] at b3 c3
        obtain ⟨y1, hy1, rfl⟩ := b3
        obtain ⟨y2, hy2, rfl⟩ := c3
        rw [hy1] at hy2; cases hy2
        exact .int _ _ (hr _ (List.mem_of_mem_take (List.mem_of_getElem? hy1)))
    have hsz : (P.info? e).map (·.size) = some 1 := by rw [h1]; simp [h2, hz]
    have hh := hy.holds hi
    simp only [HoldsT] at hh
    generalize hv2 : a.eval y = v2 at hh
    cases hh with
    | intsNil =>
      have hn0 : n = 0 := by simp at hn; omega
      subst hn0
      refine key _ [] hv2 (by simp) ?_ (fun x hx => by cases hx)
      have := run_copy_nil (P := P) w T T' ty e ⟨b, off, none⟩ len cap hu (by rw [hsz]; rfl)
      rw [this]
      simp [goInt, setRow_self w b cs T0 (0, 0) g5]
    | intsE kk a2 =>
      have hn0 : n = 0 := by simp at hn; omega
      subst hn0
      refine key _ [] hv2 (by simp) ?_ (fun x hx => by cases hx)
      have := run_copy_row (P := P) w T T' ty e b off len cap a2 0 0 cs T0 [] hu hsz g5 (by simp) (fun j v hj => by simp at hj) (by simp; omega) (fun v hv => by cases hv)
      rw [this]
      simp [goInt]
    | ints kk l b2 off2 cap2 hR hcap hmax hr hc =>
      refine key _ ((l.take n).map (Value.int kk)) hv2 rfl ?_ hr
      have := run_copy_row (P := P) w T T' ty e b off len cap ⟨b2, off2, none⟩ l.length cap2 cs T0 ((l.take n).map (Value.int kk)) hu hsz g5 (by rw [List.length_map, List.length_take]; show min n l.length = min l.length len; omega) (fun j v hj => by
        simp only [List.getElem?_map, Option.map_eq_some_iff, List.getElem?_take] at hj
        obtain ⟨y, hy, rfl⟩ := hj
        split at hy
        · obtain ⟨hlt, hg⟩ := List.getElem?_eq_some_iff.1 hy
          rw [add_lit, hc j hlt, hg]
        · cases hy) (by simp; omega) (fun v hv => by obtain ⟨y, _, rfl⟩ := List.mem_map.1 hv; rfl)
      rw [this]
      congr 2
      simp; omega
end
end Go.Proofs.YtffcpgebgoineaaDoor.K
namespace Go.Proofs.YtffcpgebgoineaaDoor.K
open Go Go.RowKit
set_option linter.unusedVariables false
set_option linter.unusedSimpArgs false

def splice {α : Type} (l : List α) (off : Nat) (m : List α) : List α := l.take off ++ m ++ l.drop (off + m.length)

theorem fold_set (v : Array Value) : ∀ (l : List Value) (j : Nat) (cs : Array Value) (off : Nat), off + j + l.length ≤ cs.size →
    ((l.zipIdx j).foldl (fun cs (p : Value × Nat) => cs.setIfInBounds (off + p.2) p.1) cs).toList = splice cs.toList (off + j) l := by
  intro l
  induction l with
  | nil => intro j cs off h; simp [splice]
  | cons x l ih =>
    intro j cs off h
    simp only [List.zipIdx_cons, List.foldl_cons]
    rw [ih (j + 1) _ off (by simp at h ⊢; omega), Array.toList_setIfInBounds]
    have := list_seg_step cs.toList (off + j) x l (by simp at h ⊢; omega)
    unfold splice
    rw [show off + (j + 1) = off + j + 1 by omega, this]
    simp [Nat.add_assoc]

/-- what a literal's parts make of the zero cells -/
def fillD {P : Program} (τ : Tys P) (s : St) (place : Nat → Option (Nat × Nat × Nat)) : List D → List (Nat × Operand) → Option (List D)
  | z, [] => some z
  | z, (i, x) :: r => match place i with
    | some (off, size, T) => match τ.rdT s T x with
      | some (.val e) => match Nat.beq e.cells.length size && Nat.ble (off + e.cells.length) z.length with
        | true => fillD τ s place (splice z off e.cells) r
        | false => none
      | _ => none
    | none => none

theorem splice_length {α : Type} (l : List α) (off : Nat) (m : List α) (h : off + m.length ≤ l.length) : (splice l off m).length = l.length := by simp [splice]; omega

theorem fill_run {P : Program} {τ : Tys P} {B : Base} {R : Nat → Prop} {ad : Nat → Option Nat} {s : St} {a : Act} {w : World} (hi : Inv B R ad s a w) {place : Nat → Option (Nat × Nat × Nat)} {pl : Nat → Option (Nat × Nat)} (hp : ∀ i o, place i = some o → pl i = some (o.1, o.2.1)) : ∀ (parts : List (Nat × Operand)) (z ds : List D) (cs : Array Value), fillD τ s place z parts = some ds →
    cs.size = z.length → (∀ (i : Nat) (d : D) (v : Value), z[i]? = some d → cs[i]? = some v → Holds R w d v) →
    ∃ cs' : Array Value, Instr.fill pl cs (parts.map fun p => (p.1, a.eval p.2)) = some cs' ∧ cs'.size = ds.length ∧ cs'.size = cs.size ∧ ∀ (i : Nat) (d : D) (v : Value), ds[i]? = some d → cs'[i]? = some v → Holds R w d v := by
  intro parts
  induction parts with
  | nil => intro z ds cs h h1 h2; simp only [fillD] at h; cases h; exact ⟨cs, rfl, h1, rfl, h2⟩
  | cons p r ih =>
    obtain ⟨i, x⟩ := p
    intro z ds cs h h1 h2
    simp only [fillD] at h
    split at h
    · rename_i off size T ho
      split at h
      · rename_i e he
        split at h
        · rename_i hb
          simp only [Bool.and_eq_true] at hb
          have hsz := Nat.eq_of_beq_eq_true hb.1
          have hle := Nat.le_of_ble_eq_true hb.2
          obtain ⟨h3, h4⟩ := Holds.cells ((Rd.ofT he).holds hi)
          have hfs := fold_set #[] (a.eval x).cells.toList 0 cs off (by simp; omega)
          have hfold : ((a.eval x).cells.zipIdx.foldl (fun cs (p : Value × Nat) => cs.setIfInBounds (off + p.2) p.1) cs).toList = splice cs.toList off (a.eval x).cells.toList := by
            rw [← Array.foldl_toList, Array.toList_zipIdx]
            simpa using hfs
          generalize hcs : (a.eval x).cells.zipIdx.foldl (fun cs (p : Value × Nat) => cs.setIfInBounds (off + p.2) p.1) cs = cs1 at hfold
          have hsize : cs1.size = cs.size := by
            rw [← Array.length_toList, hfold, splice_length _ _ _ (by simp; omega), Array.length_toList]
          obtain ⟨cs', g1, g2, g3, g4⟩ := ih (splice z off e.cells) ds cs1 h (by rw [hsize, h1, splice_length _ _ _ hle]) (fun j d v a1 a2 => by
            have a2' : (splice cs.toList off (a.eval x).cells.toList)[j]? = some v := by rw [← hfold]; simpa using a2
            have hl : (a.eval x).cells.toList.length = e.cells.length := by simpa using h3
            unfold splice at a1 a2'
            rcases splice_get _ _ _ _ _ hle a1 with ⟨b1, b2⟩ | ⟨b1, b2, b3⟩ | ⟨b1, b2⟩ <;> rcases splice_get _ _ _ _ _ (by simp at hl ⊢; omega) a2' with ⟨c1, c2⟩ | ⟨c1, c2, c3⟩ | ⟨c1, c2⟩ <;> first
              | (exfalso; omega)
              | exact h2 j d v b2 (by simpa using c2)
              | exact h4 _ d v b3 (by simpa using c3))
          refine ⟨cs', ?_, g2, by rw [g3, hsize], g4⟩
          simp only [List.map_cons, Instr.fill, hp i _ ho]
          rw [if_neg (by simp; omega)]
          exact Eq.trans (congrArg (fun c => Instr.fill pl c (r.map fun p => (p.1, a.eval p.2))) hcs) g1
        · cases h
      · cases h
    · cases h

section
variable {P : Program} {τ : Tys P} {B : Base} {s : St} {d : Nat} {ty : TypeId} {pos : String} {af : Array Edge} {gd : Option (Nat × Bool)}

/-- the places of a struct's fields -/
def placeS {P : Program} (τ : Tys P) (fs : List (Nat × Nat)) (f : Nat) : Option (Nat × Nat × Nat) := match fs[f]? with
  | some (off, T) => match get τ.tab T with
    | some j => some (off, j.size, T)
    | none => none
  | none => none

def Tys.allIn {P : Program} (τ : Tys P) : List (Nat × Nat) → Bool
  | [] => true
  | (_, T) :: r => (get τ.tab T).isSome && τ.allIn r

theorem run_places {F : List Field} : ∀ (l : List Field), τ.allIn (l.map fun (f : Field) => (f.offset, f.type)) = true → ∀ w,  ∃ ps, (l.mapM fun (f : Field) => (do pure (f.offset, ← sizeOf f.type) : Sem (Nat × Nat))).run P w = .ok ps w ∧ ∀ (i : Nat) (f : Field), l[i]? = some f → ∃ j, get τ.tab f.type = some j ∧ ps[i]? = some (f.offset, j.size)
  | [], _, w => ⟨[], by simp, fun i f h => by simp at h⟩
  | f :: l, h, w => by
    simp only [List.map_cons, Tys.allIn, Bool.and_eq_true] at h
    obtain ⟨ps, h1, h2⟩ := run_places (F := F) l h.2 w
    obtain ⟨j, hj⟩ := Option.isSome_iff_exists.1 h.1
    refine ⟨(f.offset, j.size) :: ps, ?_, fun i f' hf => ?_⟩
    · rw [List.mapM_cons]
      simp only [Sem.run_bind, Sem.run_pure, Tys.size hj, Result.andThen_ok, h1]
    · cases i with
      | zero => simp at hf; subst hf; exact ⟨j, hj, rfl⟩
      | succ i => exact h2 i f' (by simpa using hf)

theorem op_build {T : TypeId} {parts : Array (Nat × Operand)} {i : TI} {fs : List (Nat × Nat)} {ds : List D} (hT : get τ.tab T = some i) (hk : i.k = .struct fs) (hall : τ.allIn fs = true) (hf : fillD τ s (placeS τ fs) i.zero parts.toList = some ds) (hN : Nat.blt d B.N = true) :
    OpDo P B ⟨some d, .build T parts, ty, pos, af, gd⟩ s (s.setT d (.val (.agg ds))) :=
  .pure hN fun R ad a w hi => by
    have h := (τ.is hT).1
    rw [hk] at h
    obtain ⟨F, h1, h2⟩ := h
    obtain ⟨z, hz1, hz2, hz3⟩ := Tys.zero hT w
    rw [← h2] at hall
    obtain ⟨ps, hp1, hp2⟩ := run_places (P := P) (τ := τ) (F := []) F.toList hall w
    obtain ⟨cs', g1, g2, g3, g4⟩ := fill_run (τ := τ) hi (place := placeS τ fs) (pl := (ps.toArray[·]?)) (fun k o ho => by
      unfold placeS at ho
      rw [← h2] at ho
      split at ho
      · rename_i off T' hoff
        simp only [List.getElem?_map, Option.map_eq_some_iff] at hoff
        obtain ⟨f, hf1, hf2⟩ := hoff
        obtain ⟨j, hj1, hj2⟩ := hp2 k f hf1
        cases hf2
        rw [hj1] at ho
        cases ho
        simpa using hj2
      · cases ho) parts.toList i.zero ds z.cells hf hz2 (fun j d v a b => hz3 R w j d v a b)
    refine ⟨.agg cs', ?_, .agg ds cs' g2 g4⟩
    have hm : (F.mapM fun (f : Field) => (do pure (f.offset, ← sizeOf f.type) : Sem (Nat × Nat))).run P w = .ok ps.toArray w := by
      rw [Array.mapM_eq_mapM_toList]
      simp only [Sem.run_map, hp1, Result.andThen_ok]
    have hparts : (parts.map fun (i, x) => (i, a.eval x)).toList = parts.toList.map fun p => (p.1, a.eval p.2) := by simp
    simp only [execOp, Instr.build, Sem.run_bind, hz1, Result.andThen_ok, run_underlying h1, hm, hparts, g1, Sem.run_pure]

/-- a slice literal of whole numbers -/
def placeI (n k : Nat) (i : Nat) : Option (Nat × Nat × Nat) := some (i * n, n, k)

theorem op_buildSlice {T e len : Nat} {parts : Array (Nat × Operand)} {i j : TI} {ds : List D} (hT : get τ.tab T = some i) (hk : i.k = .slice e) (he : get τ.tab e = some j) (hlen : Nat.ble (len * j.size) 65536 = true) (hz0 : Nat.blt 0 (len * j.size) = true) (hzp : Nat.blt 0 j.zero.length = true)
    (hf : fillD τ s (placeI j.size e) ((List.range (len * j.size)).map fun n => j.zero.getD (n % j.zero.length) (.bool false)) parts.toList = some ds) (td : D) (htd : ∀ R w b, R b → (∀ n, n < ds.length → ∃ v, w.cell? ⟨b, n, none⟩ = some v ∧ ∀ e, ds[n]? = some e → Holds R w e v) → Holds R w td (.slice (some ⟨b, 0, none⟩) len len)) (hN : Nat.blt d B.N = true) :
    OpDo P B ⟨some d, .buildSlice T len parts, ty, pos, af, gd⟩ s (s.setT d (.val td)) :=
  .value fun R ad a w hi => by
    have hle := Nat.le_of_ble_eq_true hlen
    have h0 : 0 < len * j.size := Nat.le_of_ble_eq_true hz0
    obtain ⟨z, hz1, hz2, hz3⟩ := Tys.zero he w
    obtain ⟨_, I, hI1, hI2, _, z', hz4, hz5, _⟩ := τ.is he
    have hne : ¬ len * j.size = 0 := by omega
    let cs0 : Array Value := (Array.range (len * j.size)).map (z.cells[· % z.cells.size]!)
    have hcs0 : cs0.size = len * j.size := by simp [cs0]
    obtain ⟨cs', g1, g2, g3, g4⟩ := fill_run (τ := τ) hi (place := placeI j.size e) (pl := fun i => some (i * j.size, j.size)) (fun k o ho => by unfold placeI at ho; cases ho; rfl) parts.toList _ ds cs0 hf (by simp [cs0]) (fun n dd v a1 a2 => by
      simp only [List.getElem?_map, Option.map_eq_some_iff] at a1
      obtain ⟨m, hm1, hm2⟩ := a1
      have hn : n < len * j.size := by
        have := (List.getElem?_eq_some_iff.1 hm1).1
        simpa using this
      have hmn : m = n := by
        rw [List.getElem?_range hn] at hm1
        exact (Option.some.inj hm1).symm
      subst hmn
      have hzpos : 0 < j.zero.length := Nat.le_of_ble_eq_true hzp
      have hmod : m % j.zero.length < j.zero.length := Nat.mod_lt _ hzpos
      have hv : v = z.cells[m % z.cells.size]! := by simp [cs0, hn] at a2; exact a2.symm
      rw [hz2] at hv
      have hlt : m % j.zero.length < z.cells.size := by omega
      refine hz3 R w (m % j.zero.length) dd v ?_ ?_
      · rw [← hm2, List.getD_eq_getElem?_getD, List.getElem?_eq_getElem hmod]; rfl
      · rw [hv, getElem!_pos z.cells _ hlt]; simp [hlt])
    let o : Obj := .cells cs' e
    have hb : Below w.heap.size w (w.alloc o) := (Below.refl _ _).alloc (Nat.le_refl _) _
    have hparts : (parts.map fun (i, x) => (i, a.eval x)).toList = parts.toList.map fun p => (p.1, a.eval p.2) := by simp
    have h24 : ¬ (2 ^ 24 < len * j.size) := by omega
    refine ⟨.slice (some ⟨w.heap.size, 0, none⟩) len len, w.alloc o, ?_, fun c => R c ∨ c = w.heap.size, ad, ?_⟩
    · simp only [execOp, Instr.buildSlice, Sem.run_bind, run_underlying (Tys.slice hT hk), Result.andThen_ok, Tys.size he, Sem.run_ite, Sem.run_pure, hparts, hne, if_false, hz1]
      rw [if_neg (by omega)]
      rw [show ((Array.range (len * j.size)).map fun x => z.cells[x % z.cells.size]!) = cs0 from rfl, g1]
      simp [newRow, o]
    · refine (hi.grow hb (fun _ h => .inl h) ?_).put hN ?_
      · rintro c (hc | rfl)
        · exact ⟨.inl hc, by have := (hi.Rn c hc).2; simp; omega⟩
        · exact ⟨.inr ⟨Nat.le_refl _, _, _, heap_alloc_new w o⟩, by simp⟩
      · refine htd _ _ _ (.inr rfl) fun n hn => ?_
        have hn' : n < cs'.size := by omega
        refine ⟨cs'[n], by rw [cells_of_row (heap_alloc_new w o)]; simp [hn'], fun e' he' => ?_⟩
        exact (g4 n e' _ he' (by simp [hn'])).mono (fun _ h => .inl h) (fun b hb => heap_alloc_old w _ b (hi.Rn b hb).2)

def intsOf (k : IntKind) : List D → Option (List Int)
  | [] => some []
  | d :: ds => match d, intsOf k ds with
    | .int k' n, some l => match decide (k' = k) with
      | true => some (n :: l)
      | false => none
    | _, _ => none
theorem intsOf_spec {k : IntKind} : ∀ {ds : List D} {l : List Int}, intsOf k ds = some l → ds = l.map (D.int k)
  | [], l, h => by simp only [intsOf] at h; cases h; rfl
  | d :: ds, l, h => by
    simp only [intsOf] at h
    split at h
    · rename_i k' n l' h1
      split at h
      · rename_i hk
        simp only [decide_eq_true_eq] at hk
        cases h
        rw [intsOf_spec h1, hk]; rfl
      · cases h
    · cases h

theorem op_buildE0 {T e : Nat} {i j : TI} (hT : get τ.tab T = some i) (hk : i.k = .slice e) (he : get τ.tab e = some j) (td : D) (htd : ∀ R w (x : Addr), Holds R w td (.slice (some x) 0 0)) (hN : Nat.blt d B.N = true) :
    OpDo P B ⟨some d, .buildSlice T 0 #[], ty, pos, af, gd⟩ s (s.setT d (.val td)) :=
  .value fun R ad a w hi => by
    let o : Obj := .cells #[] e
    have hb : Below w.heap.size w (w.alloc o) := (Below.refl _ _).alloc (Nat.le_refl _) _
    refine ⟨.slice (some ⟨w.heap.size, 0, none⟩) 0 0, w.alloc o, ?_, R, ad, ?_⟩
    · have e0 : Array.range 0 = #[] := Array.ext' (by simp)
      simp [execOp, Instr.buildSlice, Sem.run_bind, run_underlying (Tys.slice hT hk), Tys.size he, Instr.fill, newRow, o, e0]
    · exact (hi.grow hb (fun _ h => h) fun c hc => ⟨.inl hc, by have := (hi.Rn c hc).2; simp; omega⟩).put hN (htd _ _ _)
theorem op_buildE {T e : Nat} {i j : TI} {kz : IntKind} (hT : get τ.tab T = some i) (hk : i.k = .slice e) (he : get τ.tab e = some j) (hjk : j.k = .int kz) (hN : Nat.blt d B.N = true) :
    OpDo P B ⟨some d, .buildSlice T 0 #[], ty, pos, af, gd⟩ s (s.setT d (.val (.ints kz []))) := op_buildE0 (τ := τ) hT hk he _ (fun _ _ _ => .intsE _ _) hN
theorem op_buildESl {T e : Nat} {i j : TI} (hT : get τ.tab T = some i) (hk : i.k = .slice e) (he : get τ.tab e = some j) (hN : Nat.blt d B.N = true) :
    OpDo P B ⟨some d, .buildSlice T 0 #[], ty, pos, af, gd⟩ s (s.setT d (.val (.sl j.size []))) := op_buildE0 (τ := τ) hT hk he _ (fun _ _ _ => .slE _ _) hN
theorem op_buildInts {T e len : Nat} {parts : Array (Nat × Operand)} {i j : TI} {ds : List D} {kz : IntKind} {l : List Int} (hT : get τ.tab T = some i) (hk : i.k = .slice e) (he : get τ.tab e = some j) (hjk : j.k = .int kz) (hlen : Nat.ble (len * j.size) 65536 = true) (hz0 : Nat.blt 0 (len * j.size) = true) (hzp : Nat.blt 0 j.zero.length = true)
    (hf : fillD τ s (placeI j.size e) ((List.range (len * j.size)).map fun n => j.zero.getD (n % j.zero.length) (.bool false)) parts.toList = some ds) (hl : intsOf kz ds = some l) (hll : l.length = len) (hN : Nat.blt d B.N = true) :
    OpDo P B ⟨some d, .buildSlice T len parts, ty, pos, af, gd⟩ s (s.setT d (.val (.ints kz l))) :=
  op_buildSlice (τ := τ) hT hk he hlen hz0 hzp hf (.ints kz l) (fun R w b hR hc => by
    have hds := intsOf_spec hl
    have cell : ∀ n, (hn : n < l.length) → w.cell? ⟨b, n, none⟩ = some (.int kz l[n]) ∧ InR kz l[n] := fun n hn => by
      obtain ⟨v, h1, h2⟩ := hc n (by rw [hds]; simpa using hn)
      have h3 := h2 (.int kz l[n]) (by rw [hds]; simp [hn])
      cases h3
      exact ⟨h1, by assumption⟩
    conv => arg 4; rw [← hll]
    refine .ints kz l b 0 _ hR (Nat.le_refl _) (by have := Nat.le_of_ble_eq_true hlen; have := Nat.le_of_ble_eq_true hz0; simp only [maxLen]; rw [hll]; have : len ≤ len * j.size := Nat.le_mul_of_pos_right _ (Nat.pos_of_ne_zero (fun h => by rw [h] at this; simp at this)); omega) (fun x hx => ?_) (fun n hn => by rw [Nat.zero_add]; exact (cell n hn).1)
    obtain ⟨n, hn, rfl⟩ := List.mem_iff_getElem.1 hx
    exact (cell n hn).2) hN

def chunk {α : Type} (z : Nat) : Nat → List α → List (List α)
  | 0, _ => []
  | n + 1, l => l.take z :: chunk z n (l.drop z)
theorem chunk_length {α : Type} (z : Nat) : ∀ (n : Nat) (l : List α), (chunk z n l).length = n
  | 0, l => rfl
  | n + 1, l => by simp [chunk, chunk_length z n]
theorem chunk_at {α : Type} (z : Nat) : ∀ (n : Nat) (l : List α) (i : Nat) (m : List α), (chunk z n l)[i]? = some m → m = (l.drop (i * z)).take z ∧ i < n
  | 0, l, i, m, h => by simp [chunk] at h
  | n + 1, l, 0, m, h => by simp [chunk] at h; exact ⟨by simp [h], by omega⟩
  | n + 1, l, i + 1, m, h => by
    simp only [chunk] at h
    obtain ⟨h1, h2⟩ := chunk_at z n (l.drop z) i m (by simpa using h)
    refine ⟨?_, by omega⟩
    rw [h1, List.drop_drop]
    congr 2
    rw [Nat.add_mul, Nat.one_mul]; omega

theorem op_buildSl {T e len : Nat} {parts : Array (Nat × Operand)} {i j : TI} {ds : List D} (hT : get τ.tab T = some i) (hk : i.k = .slice e) (he : get τ.tab e = some j) (hlen : Nat.ble (len * j.size) 65536 = true) (hz0 : Nat.blt 0 (len * j.size) = true) (hzp : Nat.blt 0 j.zero.length = true)
    (hf : fillD τ s (placeI j.size e) ((List.range (len * j.size)).map fun n => j.zero.getD (n % j.zero.length) (.bool false)) parts.toList = some ds) (hll : Nat.beq ds.length (len * j.size) = true) (hN : Nat.blt d B.N = true) :
    OpDo P B ⟨some d, .buildSlice T len parts, ty, pos, af, gd⟩ s (s.setT d (.val (.sl j.size (chunk j.size len ds)))) :=
  op_buildSlice (τ := τ) hT hk he hlen hz0 hzp hf (.sl j.size (chunk j.size len ds)) (fun R w b hR hc => by
    have hdl : ds.length = len * j.size := Nat.eq_of_beq_eq_true hll
    have hcl := chunk_length j.size len ds
    have h1 := Nat.le_of_ble_eq_true hlen
    have h2 : 0 < len * j.size := Nat.le_of_ble_eq_true hz0
    have hs0 : 0 < j.size := Nat.pos_of_ne_zero (fun h => by rw [h] at h2; simp at h2)
    have hll' : len ≤ len * j.size := Nat.le_mul_of_pos_right _ hs0
    have hvs : ∃ vs : Nat → Value, ∀ n, n < ds.length → w.cell? ⟨b, n, none⟩ = some (vs n) ∧ ∀ e, ds[n]? = some e → Holds R w e (vs n) := by
      classical
      refine ⟨fun n => if h : n < ds.length then (hc n h).choose else default, fun n hn => ?_⟩
      simp only [hn, dif_pos]
      exact (hc n hn).choose_spec
    obtain ⟨vs, hvs⟩ := hvs
    conv => arg 4; rw [← hcl]
    refine .sl j.size _ b 0 _ vs hR (Nat.le_refl _) (by simp only [maxLen]; omega) (fun m hm => ?_) (fun n hn => ?_) (fun n m k' dd a1 a2 => ?_)
    · obtain ⟨n, hn⟩ := List.mem_iff_getElem?.1 hm
      obtain ⟨h3, h4⟩ := chunk_at _ _ _ _ _ hn
      rw [h3]; simp
      have : (n + 1) * j.size ≤ len * j.size := Nat.mul_le_mul_right _ h4
      rw [Nat.add_mul, Nat.one_mul] at this
      omega
    · rw [Nat.zero_add]; exact (hvs n (by rw [hcl] at hn; omega)).1
    · obtain ⟨h3, h4⟩ := chunk_at _ _ _ _ _ a1
      subst h3
      obtain ⟨h5, h6⟩ := seg_get _ _ _ _ _ a2
      exact (hvs _ (List.getElem?_eq_some_iff.1 h5).1).2 dd h5) hN
end

theorem wrap_u64m (x : Int) : IntKind.u64.wrap x = x % 18446744073709551616 := by simp [IntKind.wrap, IntKind.bits, IntKind.signed]
theorem sh_32 : min (32 : Int).toNat IntKind.u64.bits = 32 := rfl
theorem sh_63 : min (63 : Int).toNat IntKind.u64.bits = 63 := rfl
theorem sh_31 : min (31 : Int).toNat IntKind.i64.bits = 31 := rfl
theorem sh_1 : min (1 : Int).toNat IntKind.u64.bits = 1 := rfl
theorem sh32_16 : min (16 : Int).toNat IntKind.u32.bits = 16 := rfl
theorem sh32_8 : min (8 : Int).toNat IntKind.u32.bits = 8 := rfl
theorem shr_16 (m : Int) : m / 2 ^ 16 = m / 65536 := rfl
theorem shr_8 (m : Int) : m / 2 ^ 8 = m / 256 := rfl
theorem sh_var {k : Nat} (h : k ≤ 63) : min ((k : Int)).toNat IntKind.u64.bits = k := by simp [IntKind.bits]; omega
theorem shr_u64_32 (m : Int) : m / 2 ^ 32 = m / 4294967296 := rfl
theorem shr_u64_63 (m : Int) : m / 2 ^ 63 = m / 9223372036854775808 := rfl
theorem shl_u64_32 {m : Int} (h : 0 ≤ m ∧ m < 4294967296) : IntKind.u64.wrap (m * 2 ^ 32) = m * 4294967296 := by
  show IntKind.u64.wrap (m * 4294967296) = _
  exact wrap_u64' (by omega)
theorem pow2_le {k n : Nat} (h : k ≤ n) : (2 : Int) ^ k ≤ 2 ^ n := by
  have := Nat.pow_le_pow_right (n := 2) (by omega) h
  exact_mod_cast this
theorem pow2_pos (k : Nat) : (0 : Int) < 2 ^ k := Int.pow_pos (by omega)
theorem shl_u64_var {m : Int} {k : Nat} (h : 0 ≤ m ∧ m < 4294967296) (hk : k ≤ 31) : IntKind.u64.wrap (m * 2 ^ k) = m * 2 ^ k := by
  refine wrap_u64' ⟨Int.mul_nonneg h.1 (Int.le_of_lt (pow2_pos k)), ?_⟩
  have h2 : (2 : Int) ^ k ≤ 2 ^ 31 := pow2_le hk
  have h3 : m * 2 ^ k ≤ m * 2 ^ 31 := Int.mul_le_mul_of_nonneg_left h2 h.1
  omega
theorem sh_varI {k : Int} (h : 0 ≤ k ∧ k ≤ 63) : min k.toNat IntKind.u64.bits = k.toNat := by simp [IntKind.bits]; omega
theorem sh32_varI {k : Int} (h : 0 ≤ k ∧ k ≤ 31) : min k.toNat IntKind.u32.bits = k.toNat := by simp [IntKind.bits]; omega
theorem shl_u32_one {k : Nat} (h : k ≤ 31) : IntKind.u32.wrap (1 * 2 ^ k) = 2 ^ k := by
  have h1 := pow2_le h
  have h2 := pow2_pos k
  rw [IntKind.wrap_u32]; omega
theorem or_hi {h l : Int} (hh : 0 ≤ h ∧ h < 4294967296) (hl : 0 ≤ l ∧ l < 4294967296) : bitsOf .or .u64 (h * 4294967296) l = h * 4294967296 + l := by
  obtain ⟨a, rfl⟩ := Int.eq_ofNat_of_zero_le hh.1
  obtain ⟨b, rfl⟩ := Int.eq_ofNat_of_zero_le hl.1
  have ha : a < 2 ^ 32 := by omega
  have hb : b < 2 ^ 32 := by omega
  have e1 : (BitVec.ofInt IntKind.u64.bits ((a : Int) * 4294967296)).toNat = a * 2 ^ 32 := by
    rw [BitVec.toNat_ofInt]; simp only [IntKind.bits]; omega
  have e2 : (BitVec.ofInt IntKind.u64.bits (b : Int)).toNat = b := by
    rw [BitVec.toNat_ofInt]; simp only [IntKind.bits]; omega
  unfold bitsOf
  simp only [BitVec.toNat_or, e1, e2]
  have e3 : a * 2 ^ 32 ||| b = a * 2 ^ 32 + b := by
    rw [Nat.mul_comm]
    exact (Nat.two_pow_add_eq_or_of_lt hb a).symm
  rw [e3, wrap_u64' (by omega)]
  omega
theorem or_lo' {h l : Int} (hh : 0 ≤ h ∧ h < 4294967296) (hl : 0 ≤ l ∧ l < 4294967296) : bitsOf .or .u64 l (h * 4294967296) = l + h * 4294967296 := by
  rw [Int.add_comm, ← or_hi hh hl]
  unfold bitsOf
  simp only [BitVec.or_comm]
theorem rdN {s : St} {x : Operand} {k : IntKind} {m : Int} {n : Nat} (h : Rd s x (.val (.int k m))) (e : m = (n : Int)) : Rd s x (.val (.int k (n : Int))) := e ▸ h
end Go.Proofs.YtffcpgebgoineaaDoor.K
namespace Go.Proofs.YtffcpgebgoineaaDoor.K
open Go
set_option linter.unusedVariables false
set_option linter.unusedSimpArgs false

theorem fillD_ag {P : Program} {τ : Tys P} {s s' : St} {pl : Nat → Option (Nat × Nat × Nat)} : ∀ {z : List D} {parts : List (Nat × Operand)}, (∀ p ∈ parts, ∀ t, p.2 = .tmp t → s'.t t = s.t t) → fillD τ s' pl z parts = fillD τ s pl z parts
  | z, [], _ => rfl
  | z, (i, x) :: r, h => by
    have h1 := rdT_ag (τ := τ) (T := 0) (h (i, x) (by simp))
    simp only [fillD]
    cases pl i with
    | none => rfl
    | some q =>
      obtain ⟨off, size, T⟩ := q
      simp only
      rw [rdT_ag (τ := τ) (T := T) (h (i, x) (by simp))]
      cases τ.rdT s T x with
      | none => rfl
      | some td =>
        cases td with
        | val e =>
          simp only
          cases (Nat.beq e.cells.length size && Nat.ble (off + e.cells.length) z.length) with
          | true => exact fillD_ag fun p hp => h p (by simp [hp])
          | false => rfl
        | _ => rfl

section
variable {P : Program} {τ : Tys P} {B : Base} {ops : Array Oper} {s : St} {d : Nat} {ty : TypeId} {pos : String} {af : Array Edge}
theorem ag_parts {o : Oper} {s' : St} {parts : Array (Nat × Operand)} (hT : ∀ t ∈ tmpsOf ops o, s'.t t = s.t t) (ho : o.op.operands = (parts.toList.map (·.2)).toArray) : ∀ p ∈ parts.toList, ∀ t, p.2 = .tmp t → s'.t t = s.t t := fun p hp => ag_of hT (by rw [ho]; simp only [List.mem_toArray, List.mem_map]; exact ⟨p, hp, rfl⟩)
theorem ol_build {T : TypeId} {parts : Array (Nat × Operand)} {i : TI} {fs : List (Nat × Nat)} {ds : List D} (hT : get τ.tab T = some i) (hk : i.k = .struct fs) (hall : τ.allIn fs = true) (hf : fillD τ s (placeS τ fs) i.zero parts.toList = some ds) (hN : Nat.blt d B.N = true) :
    OpLoc P B ops ⟨some d, .build T parts, ty, pos, af, none⟩ s [] ⟨.val (.agg ds), none⟩ :=
  .pure rfl rfl fun s' gT gB => op_build (τ := τ) hT hk hall ((fillD_ag (ag_parts gT rfl)).trans hf) hN
theorem ol_buildE {T e : Nat} {i j : TI} {kz : IntKind} (hT : get τ.tab T = some i) (hk : i.k = .slice e) (he : get τ.tab e = some j) (hjk : j.k = .int kz) (hN : Nat.blt d B.N = true) :
    OpLoc P B ops ⟨some d, .buildSlice T 0 #[], ty, pos, af, none⟩ s [] ⟨.val (.ints kz []), none⟩ :=
  .pure rfl rfl fun s' gT gB => op_buildE (τ := τ) hT hk he hjk hN
theorem ol_buildESl {T e : Nat} {i j : TI} (hT : get τ.tab T = some i) (hk : i.k = .slice e) (he : get τ.tab e = some j) (hN : Nat.blt d B.N = true) :
    OpLoc P B ops ⟨some d, .buildSlice T 0 #[], ty, pos, af, none⟩ s [] ⟨.val (.sl j.size []), none⟩ :=
  .pure rfl rfl fun s' gT gB => op_buildESl (τ := τ) hT hk he hN
theorem ol_buildInts {T e len : Nat} {parts : Array (Nat × Operand)} {i j : TI} {ds : List D} {kz : IntKind} {l : List Int} (hT : get τ.tab T = some i) (hk : i.k = .slice e) (he : get τ.tab e = some j) (hjk : j.k = .int kz) (hlen : Nat.ble (len * j.size) 65536 = true) (hz0 : Nat.blt 0 (len * j.size) = true) (hzp : Nat.blt 0 j.zero.length = true)
    (hf : fillD τ s (placeI j.size e) ((List.range (len * j.size)).map fun n => j.zero.getD (n % j.zero.length) (.bool false)) parts.toList = some ds) (hl : intsOf kz ds = some l) (hll : l.length = len) (hN : Nat.blt d B.N = true) :
    OpLoc P B ops ⟨some d, .buildSlice T len parts, ty, pos, af, none⟩ s [] ⟨.val (.ints kz l), none⟩ :=
  .pure rfl rfl fun s' gT gB => op_buildInts (τ := τ) hT hk he hjk hlen hz0 hzp ((fillD_ag (ag_parts gT rfl)).trans hf) hl hll hN
theorem ol_buildSl {T e len : Nat} {parts : Array (Nat × Operand)} {i j : TI} {ds : List D} (hT : get τ.tab T = some i) (hk : i.k = .slice e) (he : get τ.tab e = some j) (hlen : Nat.ble (len * j.size) 65536 = true) (hz0 : Nat.blt 0 (len * j.size) = true) (hzp : Nat.blt 0 j.zero.length = true)
    (hf : fillD τ s (placeI j.size e) ((List.range (len * j.size)).map fun n => j.zero.getD (n % j.zero.length) (.bool false)) parts.toList = some ds) (hll : Nat.beq ds.length (len * j.size) = true) (hN : Nat.blt d B.N = true) :
    OpLoc P B ops ⟨some d, .buildSlice T len parts, ty, pos, af, none⟩ s [] ⟨.val (.sl j.size (chunk j.size len ds)), none⟩ :=
  .pure rfl rfl fun s' gT gB => op_buildSl (τ := τ) hT hk he hlen hz0 hzp ((fillD_ag (ag_parts gT rfl)).trans hf) hll hN
theorem ol_appendNil {T e : Nat} {x : Operand} {k : IntKind} {l : List Int} {i j : TI} (hT : get τ.tab T = some i) (hk : i.k = .slice e) (he : get τ.tab e = some j) (hz : j.size = 1) (hx : Rd s x (.val (.ints k l))) (hl : l.length * j.bytes ≤ 281474976710656) (hN : Nat.blt d B.N = true) :
    OpLoc P B ops ⟨some d, .call ⟨.builtin .append, #[.const (.slice none 0 0), x], #[T, T]⟩, ty, pos, af, none⟩ s [] ⟨.val (.ints k l), none⟩ :=
  .pure rfl rfl fun s' gT gB => op_appendNil (τ := τ) hT hk he hz (hx.ag (ag_of gT (x := x) (by simp [Op.operands, Call.operands]))) hl hN
end
end Go.Proofs.YtffcpgebgoineaaDoor.K
namespace Go.Proofs.YtffcpgebgoineaaDoor.K
open Go Go.RowKit
set_option linter.unusedVariables false
set_option linter.unusedSimpArgs false

/-- the call hands back a slice over a new block of its own, which holds these numbers -/
structure EvalsNew (P : Program) (f : FuncId) (ds : List D) (T : Nat) (kk : IntKind) (l : List Int) : Prop where
  ok : CallOK P f
  run : ∀ (R : Nat → Prop) (w : World) (vs : Array Value), (∀ b, R b → b < w.heap.size) → Gam w → HoldsAll R w ds vs → Calls P f vs w fun e w' =>
    ∃ b R', e = .returned (.slice (some ⟨b, 0, none⟩) l.length l.length) ∧ w.heap.size ≤ b ∧ b < w'.heap.size ∧ Below w.heap.size w w' ∧ (∀ c, R c → R' c) ∧ (∀ c, R' c → (R c ∨ (w.heap.size ≤ c ∧ Unf w' c)) ∧ c < w'.heap.size) ∧ ¬ R' b ∧ RowIs R' w' b T (l.map (D.int kk)) ∧ l.length ≤ maxLen

def EndsNew (fn : Func) (T : Nat) (kk : IntKind) (l : List Int) (s : St) : Prop := ∃ t k, fn.results = #[.tmp t] ∧ s.t t = some (.sb k 0 l.length l.length) ∧ s.b k = some (.row T kk l)

theorem init_good {R : Nat → Prop} {w : World} {ds : List D} {vs : Array Value} {N : Nat} (hR : ∀ b, R b → b < w.heap.size) (hgm : Gam w) (hv : HoldsAll R w ds vs) (hn : ds.length ≤ N) :
    Good ⟨w, R, N, fun _ => False, R⟩ ⟨initTm 0 ds, []⟩ { tmps := vs ++ Array.replicate (N - vs.size) undef, defers := [] } w := by
  refine ⟨R, fun _ => none, ⟨rfl, ?_, fun _ h => h, fun b hb => ⟨.inl hb, hR b hb⟩, BelowX.refl _ _, hgm, fun _ _ h => h, fun k b h => by simp at h, fun k k' b h => by simp at h, fun _ h => h.elim, fun k x h => by simp [St.b, get] at h, ?_⟩⟩
  · have := hv.1; simp; omega
  · intro t x ht
    obtain ⟨i, d, h1, h2, h3⟩ := get_initTm ds 0 t x ht
    subst h3
    have hi : i < vs.size := by
      have := hv.1
      have := (List.getElem?_eq_some_iff.1 h2).1
      omega
    have e : t = i := by omega
    subst e
    refine ⟨vs[t], by simp [Array.getElem?_append, hi], hv.2 t d _ h2 (by simp [hi])⟩

theorem evalsNew_of_awp {P : Program} {f : FuncId} {fn : Func} {c : Code} {ds : List D} {T : Nat} {kk : IntKind} {l : List Int} (hf : P.funcs[f]? = some fn) (hb : fn.body = some c) (ok : CallOK P f) (hn : ds.length ≤ fn.ntmps)
    (h : ∀ w R, (∀ b, R b → b < w.heap.size) → (∃ vs, HoldsAll R w ds vs) → AWP P ⟨w, R, fn.ntmps, fun _ => False, R⟩ c ⟨EndsNew fn T kk l, fun _ _ => False, EndsNew fn T kk l⟩ ⟨initTm 0 ds, []⟩) : EvalsNew P f ds T kk l := by
  refine ⟨ok, fun R w vs hR hgm hv => calls_of_wp hf hb ?_⟩
  refine wp_mono ((h w R hR ⟨vs, hv⟩).run _ w (init_good hR hgm hv hn)) fun e a' w' hq => ?_
  have key : ∀ s, EndsNew fn T kk l s → Good ⟨w, R, fn.ntmps, fun _ => False, R⟩ s a' w' → a'.defers = [] ∧ ∃ v, (Go.results fn a'.tmps).run P w' = .ok v w' ∧ ∃ b R', Ending.returned v = .returned (.slice (some ⟨b, 0, none⟩) l.length l.length) ∧ w.heap.size ≤ b ∧ b < w'.heap.size ∧ Below w.heap.size w w' ∧ (∀ c, R c → R' c) ∧ (∀ c, R' c → (R c ∨ (w.heap.size ≤ c ∧ Unf w' c)) ∧ c < w'.heap.size) ∧ ¬ R' b ∧ RowIs R' w' b T (l.map (D.int kk)) ∧ l.length ≤ maxLen := by
    rintro s ⟨t, k, h1, h2, h3⟩ ⟨R', ad, hi⟩
    obtain ⟨v, g1, ⟨b, g2, rfl⟩, g3, g4⟩ := hi.tm t _ h2
    obtain ⟨b', g5, g6⟩ := hi.bx k _ h3
    rw [g2] at g5; cases g5
    have g7 := hi.adn k b g2
    refine ⟨hi.df, _, ?_, b, R', rfl, g7.1.resolve_right (fun h => h), g7.2.1, hi.below.to, hi.R0, hi.Rn, g7.2.2, g6, g4⟩
    unfold Go.results
    simp [h1, g1]
  cases e with
  | normal => obtain ⟨s, h1, h2⟩ := hq; exact key s h1 h2
  | ret => obtain ⟨s, h1, h2⟩ := hq; exact key s h1 h2
  | exit i => obtain ⟨s, h1, h2⟩ := hq; exact h1.elim
  | goto l => exact hq.elim
  | panic c => exact hq.elim
  | outgrown => exact hq.elim

theorem ResOK.cellA {P : Program} {τ : Tys P} {s : St} {t T T' k : Nat} {i : TI} {fs : List (Nat × Nat)} {ds : List D} (hT : get τ.tab T = some i) (hk : i.k = .struct fs) (h : s.t t = some (.pb k 0)) (hb : s.b k = some (.cells T' ds)) (hn : i.size = ds.length) : ResOK P s (.cell t T) (.agg ds) := by
  obtain ⟨h1, I, h2, h3, _⟩ := τ.is hT
  rw [hk] at h1
  obtain ⟨F, h1, _⟩ := h1
  exact .agg (n := i.size) ⟨_, h1, rfl, by rw [h2]; simp [h3]⟩ h hb rfl hn.symm
theorem ResOK.cell1 {P : Program} {τ : Tys P} {s : St} {t T T' k : Nat} {i : TI} {d : D} (hT : get τ.tab T = some i) (hk : i.k.isAgg = some false) (hsz : i.size = 1) (h : s.t t = some (.pb k 0)) (hb : s.b k = some (.cells T' [d])) : ResOK P s (.cell t T) d := by
  obtain ⟨h1, I, h2, h3, _⟩ := τ.is hT
  refine .one ?_ h hb rfl
  generalize i.k = kk at h1 hk
  cases kk <;> simp [TK.isAgg] at hk
  all_goals exact ⟨_, h1, rfl, by rw [h2]; simp [h3, hsz]⟩

theorem AWP.freezeAs {P : Program} {B : Base} {c : Code} {Q : Post} {s : St} (t : Nat) (m : List Int) {k off len cap T : Nat} {kk : IntKind} {l : List Int} (hs : s.t t = some (.sb k off len cap)) (hb : s.b k = some (.row T kk l)) (hx : B.ex = fun _ => False) (hle : off + len ≤ l.length) (hm : (l.drop off).take len = m)
    (h : AWP P B c Q ((s.forget k).setT t (.val (.ints kk m)))) : AWP P B c Q s := by
  subst hm
  exact .freeze t hs hb hle hx h

/-- the call writes into a row of the caller's own: it holds l before and l' behind it -/
structure EvalsW (P : Program) (f : FuncId) (T : Nat) (kk : IntKind) (l : List Int) (off len cap : Nat) (ds : List D) (d : D) (l' : List Int) : Prop where
  ok : CallOK P f
  run : ∀ (R : Nat → Prop) (w : World) (b : Nat) (vs : Array Value), (∀ c, R c → c < w.heap.size) → Gam w → ¬ R b → b < w.heap.size → (∀ p ∈ gamList, p.1 ≠ b) → RowIs R w b T (l.map (D.int kk)) → len ≤ cap → cap ≤ maxLen → HoldsAll R w ds vs →
    Calls P f (#[.slice (some ⟨b, off, none⟩) len cap] ++ vs) w fun e w' =>
      ∃ v R', e = .returned v ∧ BelowX (· = b) w w' ∧ (∀ c, R c → R' c) ∧ (∀ c, R' c → (R c ∨ (w.heap.size ≤ c ∧ Unf w' c)) ∧ c < w'.heap.size) ∧ ¬ R' b ∧ RowIs R' w' b T (l'.map (D.int kk)) ∧ Holds R' w' d v

theorem evalsW_of_awp {P : Program} {f : FuncId} {fn : Func} {c : Code} {T : Nat} {kk : IntKind} {l : List Int} {off len cap : Nat} {ds : List D} {d : D} {l' : List Int} (hf : P.funcs[f]? = some fn) (hb : fn.body = some c) (ok : CallOK P f) (hn : ds.length + 1 ≤ fn.ntmps)
    (h : ∀ w R ex, (∃ vs, HoldsAll R w ds vs) → AWP P ⟨w, R, fn.ntmps, ex, R⟩ c ⟨fun s => Ends P fn d s ∧ s.b 0 = some (.row T kk l'), fun _ _ => False, fun s => Ends P fn d s ∧ s.b 0 = some (.row T kk l')⟩ ⟨(0, .sb 0 off len cap) :: initTm 1 ds, [(0, .row T kk l)]⟩) : EvalsW P f T kk l off len cap ds d l' := by
  refine ⟨ok, fun R w b vs hR hgm hnR hbw hg hrow hlc hcm hv => calls_of_wp hf hb ?_⟩
  have hvs := hv.1
  have hgood : Good ⟨w, R, fn.ntmps, (· = b), R⟩ ⟨(0, .sb 0 off len cap) :: initTm 1 ds, [(0, .row T kk l)]⟩ { tmps := (#[Value.slice (some ⟨b, off, none⟩) len cap] ++ vs) ++ Array.replicate (fn.ntmps - (#[Value.slice (some ⟨b, off, none⟩) len cap] ++ vs).size) undef, defers := [] } w := by
    refine ⟨R, fun k => if k = 0 then some b else none, ⟨rfl, ?_, fun _ h => h, fun c hc => ⟨.inl hc, hR c hc⟩, BelowX.refl _ _, hgm, hg, fun k c h => ?_, fun k k' c h h' => ?_, fun c hc => by rw [hc]; rfl, fun k x h => ?_, fun t x ht => ?_⟩⟩
    · simp; omega
    · split at h
      · cases h; exact ⟨.inr rfl, hbw, hnR⟩
      · cases h
    · split at h
      · split at h'
        · omega
        · cases h'
      · cases h
    · simp only [St.b, get_cons] at h
      split at h
      · rename_i e; cases h; subst e; exact ⟨b, rfl, hrow⟩
      · simp [get] at h
    · simp only [St.t, get_cons] at ht
      split at ht
      · rename_i e
        cases ht; subst e
        refine ⟨.slice (some ⟨b, off, none⟩) len cap, ?_, ⟨b, rfl, rfl⟩, hlc, hcm⟩
        rw [Array.getElem?_append_left (by simp; omega), Array.getElem?_append_left (by simp)]
        rfl
      · obtain ⟨i, dd, h1, h2, h3⟩ := get_initTm ds 1 t x ht
        subst h3
        have hi : i < vs.size := by
          have := (List.getElem?_eq_some_iff.1 h2).1
          omega
        refine ⟨vs[i], ?_, hv.2 i dd _ h2 (by simp [hi])⟩
        rw [Array.getElem?_append_left (by simp; omega), Array.getElem?_append_right (by simp; omega)]
        have : t - #[Value.slice (some ⟨b, off, none⟩) len cap].size = i := by simp; omega
        rw [this]; simp [hi]
  refine wp_mono ((h w R (· = b) ⟨vs, hv⟩).run _ w hgood) fun e a' w' hq => ?_
  have key : ∀ s, Ends P fn d s ∧ s.b 0 = some (.row T kk l') → Good ⟨w, R, fn.ntmps, (· = b), R⟩ s a' w' → a'.defers = [] ∧ ∃ v, (Go.results fn a'.tmps).run P w' = .ok v w' ∧ ∃ v' R', Ending.returned v = .returned v' ∧ BelowX (· = b) w w' ∧ (∀ c, R c → R' c) ∧ (∀ c, R' c → (R c ∨ (w.heap.size ≤ c ∧ Unf w' c)) ∧ c < w'.heap.size) ∧ ¬ R' b ∧ RowIs R' w' b T (l'.map (D.int kk)) ∧ Holds R' w' d v' := by
    rintro s ⟨⟨ds', hra, rfl⟩, h2⟩ ⟨R', ad, hi⟩
    obtain ⟨v, hr, hh⟩ := hra.results hi
    obtain ⟨b', g5, g6⟩ := hi.bx 0 _ h2
    have g7 := hi.ax b rfl
    rw [g7] at g5; cases g5
    exact ⟨hi.df, v, hr, v, R', rfl, hi.below, hi.R0, hi.Rn, (hi.adn 0 b g7).2.2, g6, hh⟩
  cases e with
  | normal => obtain ⟨s, h1, h2⟩ := hq; exact key s h1 h2
  | ret => obtain ⟨s, h1, h2⟩ := hq; exact key s h1 h2
  | exit i => obtain ⟨s, h1, h2⟩ := hq; exact h1.elim
  | goto l => exact hq.elim
  | panic c => exact hq.elim
  | outgrown => exact hq.elim

section
variable {P : Program} {τ : Tys P} {B : Base} {s : St} {d : Nat} {ty : TypeId} {pos : String} {af : Array Edge} {gd : Option (Nat × Bool)}

theorem op_evNew {f : FuncId} {args : Array Operand} {ats : Array TypeId} {ds : List D} {T : Nat} {kk : IntKind} {l : List Int} (hx : τ.rdAll s args.toList ats.toList = some ds) {n : Nat} (he : EvalsNew P f ds T kk l) (hn : l.length = n) (hid : noId d s.tm = true) (hd0 : Nat.blt 0 d = true) (hN : Nat.blt d B.N = true) :
    OpDo P B ⟨some d, .call ⟨.value (.func f), args, ats⟩, ty, pos, af, gd⟩ s ((s.setB d (.row T kk l)).setT d (.sb d 0 n n)) := .mk fun a w ⟨R, ad, hi⟩ K Q hk => by
  subst hn
  have e0 : (args.toList.map a.eval).toArray = args.map a.eval := by apply Array.ext' ; simp
  have hrun : (execOp a.eval ⟨some d, .call ⟨.value (.func f), args, ats⟩, ty, pos, af, gd⟩).run P w = .ok (.enter f (args.map a.eval)) w := by
    have := he.ok (args.map a.eval) w
    simp [execOp, resolve, invoke, Act.eval, Deferred.ofValue]
    simpa using this
  have hv := (RdAll.of hx).holds hi
  rw [e0] at hv
  simp only [Oper.wp, hrun, Oper.upon]
  refine (he.run R w _ (fun b hb => (hi.Rn b hb).2) hi.gam hv).mono ?_
  rintro e' w' ⟨b, R', rfl, hbw, hbw', hb, hR, hR', hnR, hrow, hlen⟩
  have hg := hi.grow hb hR hR'
  refine hk _ _ ⟨R', adSet ad d b, Inv.put ?_ hN ⟨⟨b, by simp [adSet], rfl⟩, Nat.le_refl _, hlen⟩⟩
  refine ⟨hg.df, hg.sz, hg.R0, hg.Rn, hg.below, hg.gm, hg.gx, ?_, ?_, fun c hc => by simp only [adSet]; rw [if_neg (by intro h0; rw [← h0] at hd0; cases hd0)]; exact hg.ax c hc, ?_, ?_⟩
  · intro k c hk
    simp only [adSet] at hk
    split at hk
    · cases hk
      exact ⟨.inl (Nat.le_trans hi.below.size hbw), hbw', hnR⟩
    · exact hg.adn k c hk
  · intro k k' c hk hk'
    simp only [adSet] at hk hk'
    split at hk <;> split at hk'
    · omega
    · cases hk; have := (hi.adn k' _ hk').2.1; omega
    · cases hk'; have := (hi.adn k _ hk).2.1; omega
    · exact hi.adi k k' c hk hk'
  · intro k y hy
    rw [St.b_setB] at hy
    by_cases e : d = k
    · subst e
      rw [if_pos rfl] at hy
      cases hy
      exact ⟨b, by simp [adSet], hrow⟩
    · rw [if_neg e] at hy
      obtain ⟨c, h1, h2⟩ := hg.bx k y hy
      exact ⟨c, by simp [adSet, h1]; intro e'; exact absurd e'.symm e, h2⟩
  · intro t' y' ht'
    obtain ⟨v', h1, h2⟩ := hg.tm t' y' ht'
    exact ⟨v', h1, h2.ad (noId_spec hid (by simpa [St.t, St.setB] using ht'))⟩

theorem op_evW {f : FuncId} {t : Nat} {args : Array Operand} {T0 : TypeId} {ats : List TypeId} {xs : List Operand} {k off len cap T : Nat} {kk : IntKind} {l l' : List Int} {ds : List D} {e : D} {tys : Array TypeId} (ha : args.toList = .tmp t :: xs) (hts : tys.toList = T0 :: ats) (hs : s.t t = some (.sb k off len cap)) (hb : s.b k = some (.row T kk l)) (hx : τ.rdAll s xs ats = some ds)
    (he : EvalsW P f T kk l off len cap ds e l') (hnv : noVec k s.tm = true) (hN : Nat.blt d B.N = true) :
    OpDo P B ⟨some d, .call ⟨.value (.func f), args, tys⟩, ty, pos, af, gd⟩ s ((s.setB k (.row T kk l')).setT d (.val e)) := .mk fun a w ⟨R, ad, hi⟩ K Q hk => by
  obtain ⟨v0, g1, ⟨b, g2, rfl⟩, g3, g4⟩ := hi.tm t _ hs
  obtain ⟨b', g5, g6⟩ := hi.bx k _ hb
  rw [g2] at g5; cases g5
  have hadn := hi.adn k b g2
  have e0 : args.map a.eval = #[Value.slice (some ⟨b, off, none⟩) len cap] ++ (xs.map a.eval).toArray := by
    apply Array.ext'
    simp [ha, Act.eval, g1]
  have hrun : (execOp a.eval ⟨some d, .call ⟨.value (.func f), args, tys⟩, ty, pos, af, gd⟩).run P w = .ok (.enter f (args.map a.eval)) w := by
    have := he.ok (args.map a.eval) w
    simp [execOp, resolve, invoke, Act.eval, Deferred.ofValue]
    simpa using this
  have hv := (RdAll.of hx).holds hi
  have hgb : ∀ p ∈ gamList, p.1 ≠ b := fun p hp hpb => by
    obtain ⟨_, _, h9⟩ := hi.gm p hp
    have h10 : p.1 < B.w0.heap.size := (Array.getElem?_eq_some_iff.1 h9).1
    rcases hadn.1 with h11 | h11
    · omega
    · exact hi.gx p hp (hpb ▸ h11)
  simp only [Oper.wp, hrun, Oper.upon, e0]
  refine (he.run R w b _ (fun b hb => (hi.Rn b hb).2) hi.gam hadn.2.2 hadn.2.1 hgb g6 g3 g4 hv).mono ?_
  rintro e' w' ⟨v, R', rfl, hbel, hR, hR', hnR, hrow, hh⟩
  have hRs : ∀ c, R c → w'.heap[c]? = w.heap[c]? := fun c hc => hbel.block c (hi.Rn c hc).2 (fun e => hadn.2.2 (e ▸ hc))
  have hads : ∀ j c, j ≠ k → ad j = some c → w'.heap[c]? = w.heap[c]? := fun j c hne hj => hbel.block c (hi.adn j c hj).2.1 (fun e => hne (hi.adi j k c hj (e ▸ g2)))
  refine hk _ _ ⟨R', ad, Inv.put ?_ hN hh⟩
  refine ⟨hi.df, hi.sz, fun c hc => hR c (hi.R0 c hc), ?_, ?_, hi.gm, hi.gx, ?_, hi.adi, hi.ax, ?_, ?_⟩
  · intro c hc
    obtain ⟨h1, h2⟩ := hR' c hc
    refine ⟨?_, h2⟩
    rcases h1 with h1 | h1
    · exact (hi.Rn c h1).1.imp (fun h => h) (fun h => ⟨h.1, h.2.of (hRs c h1)⟩)
    · exact .inr ⟨Nat.le_trans hi.below.size h1.1, h1.2⟩
  · refine ⟨hbel.os.trans hi.below.os, hbel.tape.trans hi.below.tape, hbel.output.trans hi.below.output, Nat.le_trans hi.below.size hbel.size, fun c hc hx => ?_⟩
    rw [hbel.block c (Nat.lt_of_lt_of_le hc hi.below.size) ?_]
    · exact hi.below.block c hc hx
    · intro e
      rw [e] at hc hx
      rcases hadn.1 with h1 | h1
      · omega
      · exact hx h1
  · intro j c hj
    obtain ⟨h1, h2, h3⟩ := hi.adn j c hj
    refine ⟨h1, Nat.lt_of_lt_of_le h2 hbel.size, fun hr => ?_⟩
    rcases (hR' c hr).1 with h4 | h4
    · exact h3 h4
    · omega
  · intro j y hy
    rw [St.b_setB] at hy
    by_cases e : k = j
    · subst e
      rw [if_pos rfl] at hy
      cases hy
      exact ⟨b, g2, hrow⟩
    · rw [if_neg e] at hy
      obtain ⟨c, h1, h2⟩ := hi.bx j y hy
      exact ⟨c, h1, h2.world hR hRs (hads j c (fun h => e h.symm) h1)⟩
  · intro u y hy
    obtain ⟨v', h1, h2⟩ := hi.tm u y hy
    refine ⟨v', h1, ?_⟩
    cases y with
    | val d => exact Holds.mono h2 hR hRs
    | pb k off => exact h2
    | sb k off len cap => exact h2
    | un => trivial
    | vec j T z m =>
      have hne : j ≠ k := noVec_spec hnv (by simpa [St.t, St.setB] using hy)
      rcases h2 with h2 | ⟨c, cap, q1, q2, cs', q3, q4, q5, q6, q7, q8⟩
      · exact .inl h2
      · exact .inr ⟨c, cap, q1, q2, cs', by rw [hads j c hne q1, q3], q4, q5, q6, q7, fun i ds j d v a1 a2 a3 => (q8 i ds j d v a1 a2 a3).mono hR hRs⟩
    | psb j T i off len cap =>
      have hne : j ≠ k := vof_psb (noVec_spec' hnv (by simpa [St.t, St.setB] using hy))
      obtain ⟨c, u, q1, q2, q3, q4⟩ := h2
      exact ⟨c, u, q1, q2, by rw [hads j c hne q1, q3], q4⟩
    | pvec j T i U z m =>
      obtain ⟨hne, hne'⟩ := vof_pvec (noVec_spec' hnv (by simpa [St.t, St.setB] using hy))
      obtain ⟨c, u, q1, q2, q3, q4⟩ := h2
      refine ⟨c, u, q1, q2, by rw [hads j c hne q1, q3], ?_⟩
      rcases q4 with h2 | ⟨c, cap, q1, q2, cs', q3, q4, q5, q6, q7, q8⟩
      · exact .inl h2
      · exact .inr ⟨c, cap, q1, q2, cs', by rw [hads i c hne' q1, q3], q4, q5, q6, q7, fun i ds j d v a1 a2 a3 => (q8 i ds j d v a1 a2 a3).mono hR hRs⟩
    | pbs j T =>
      have hne : j ≠ k := vof_pbs (noVec_spec' hnv (by simpa [St.t, St.setB] using hy))
      obtain ⟨c, u, q1, q2, q3⟩ := h2
      exact ⟨c, u, q1, q2, by rw [hads j c hne q1, q3]⟩
    | clo f ks => exact h2
    | nv n d => exact Holds.mono h2 (fun c h => ⟨hR c h.1, h.2⟩) (fun c h => hRs c h.1)
    | pin j c m =>
      have hne : j ≠ k := vof_pin (noVec_spec' hnv (by simpa [St.t, St.setB] using hy))
      obtain ⟨g1, cs', T, g2, g3⟩ := h2
      exact ⟨g1, cs', T, by rw [hads j c hne g1, g2], g3⟩

theorem sb_holds {R : Nat → Prop} {ad : Nat → Option Nat} {a : Act} {w : World} (h : Inv B R ad s a w) {t k off len cap T : Nat} {kk : IntKind} {l : List Int} (hs : s.t t = some (.sb k off len cap)) (hb : s.b k = some (.row T kk l)) (hle : off + len ≤ l.length) :
    ∃ b v, ad k = some b ∧ a.tmps[t]? = some v ∧ Holds (fun c => R c ∨ c = b) w (.ints kk ((l.drop off).take len)) v := by
  obtain ⟨b, h1, cs, h2, h3, h4⟩ := h.bx k _ hb
  obtain ⟨v, g1, ⟨c, g2, rfl⟩, g3, g4⟩ := h.tm t _ hs
  rw [h1] at g2; cases g2
  refine ⟨b, _, h1, g1, ?_⟩
  have hds : (Bx.row T kk l).ds = l.map (D.int kk) := rfl
  rw [hds] at h3 h4
  simp only [List.length_map] at h3
  have hlen : ((l.drop off).take len).length = len := by simp; omega
  have hcell : ∀ j, (hj : j < l.length) → cs[j]? = some (.int kk l[j]) ∧ InR kk l[j] := fun j hj => by
    have g5 := h4 j (.int kk l[j]) cs[j] (by simp [hj]) (by simp [h3, hj])
    have e : cs[j]? = some cs[j] := by simp [h3, hj]
    generalize cs[j] = u at g5 e
    cases g5
    exact ⟨e, by assumption⟩
  conv => arg 4; rw [← hlen]
  refine .ints kk _ b off cap (.inr rfl) (by rw [hlen]; exact g3) (by rw [hlen]; omega) (fun x hx => ?_) (fun j hj => ?_)
  · obtain ⟨j, hj, rfl⟩ := List.mem_iff_getElem.1 hx
    have hj' : off + j < l.length := by simp at hj; omega
    simpa using (hcell (off + j) hj').2
  · have hj' : off + j < l.length := by simp at hj; omega
    rw [cells_of_row h2, (hcell (off + j) hj').1]
    simp

def scalar : D → Bool
  | .int _ _ | .bool _ | .str _ => true
  | _ => false
theorem scalar_holds {R R' : Nat → Prop} {w w' : World} {d : D} {v : Value} (hs : scalar d = true) (h : Holds R w d v) : Holds R' w' d v := by
  cases h <;> simp [scalar] at hs
  · exact .int _ _ (by assumption)
  · exact .bool _
  · exact .str _ (by assumption)

/-- a row of the call's own, lent to a function that hands back a number or a truth value -/
theorem op_lend {f : FuncId} {t : Nat} {args : Array Operand} {T0 : TypeId} {ats : List TypeId} {xs : List Operand} {k off len cap T : Nat} {kk : IntKind} {l : List Int} {ds : List D} {e : D} {tys : Array TypeId} (ha : args.toList = .tmp t :: xs) (hts : tys.toList = T0 :: ats) (hs : s.t t = some (.sb k off len cap)) (hb : s.b k = some (.row T kk l)) (hle : off + len ≤ l.length) (hx : τ.rdAll s xs ats = some ds)
    (he : Evals P f (.ints kk ((l.drop off).take len) :: ds) e) (hsc : scalar e = true) (hN : Nat.blt d B.N = true) :
    OpDo P B ⟨some d, .call ⟨.value (.func f), args, tys⟩, ty, pos, af, gd⟩ s (s.setT d (.val e)) := .mk fun a w ⟨R, ad, hi⟩ K Q hk => by
  obtain ⟨b, v0, g1, g2, g3⟩ := sb_holds hi hs hb hle
  have hadn := hi.adn k b g1
  have e0 : args.map a.eval = ((.tmp t :: xs).map a.eval).toArray := by
    apply Array.ext'
    simp [ha]
  have hrun : (execOp a.eval ⟨some d, .call ⟨.value (.func f), args, tys⟩, ty, pos, af, gd⟩).run P w = .ok (.enter f (args.map a.eval)) w := by
    have := he.ok (args.map a.eval) w
    simp [execOp, resolve, invoke, Act.eval, Deferred.ofValue]
    simpa using this
  have hv := (RdAll.of hx).holds hi
  have hall : HoldsAll (fun c => R c ∨ c = b) w (.ints kk ((l.drop off).take len) :: ds) (args.map a.eval) := by
    rw [e0]
    refine ⟨by simpa using hv.1, fun i d v hd hvv => ?_⟩
    cases i with
    | zero =>
      simp [Act.eval, g2] at hd hvv
      subst hd hvv
      exact g3
    | succ i => exact (hv.2 i d v (by simpa using hd) (by simpa using hvv)).mono (fun _ h => .inl h) (fun _ _ => rfl)
  simp only [Oper.wp, hrun, Oper.upon]
  refine (he.run _ w _ (fun c hc => ?_) hi.gam hall).mono ?_
  · rcases hc with hc | rfl
    · exact (hi.Rn c hc).2
    · exact hadn.2.1
  · rintro e' w' ⟨v, R', rfl, hbel, hR, hR', hh⟩
    refine hk _ _ ⟨R, ad, (hi.grow hbel (fun _ h => h) (fun c hc => ⟨.inl hc, Nat.lt_of_lt_of_le (hi.Rn c hc).2 hbel.size⟩)).put hN ?_⟩
    exact scalar_holds hsc hh
end
end Go.Proofs.YtffcpgebgoineaaDoor.K
