/- Memory of the call's own that is no longer written: from then on it is a datum. Append to nothing; copy. -/
import Derived.Test.YtglakdnhjpakkaaLoc
namespace Go.Proofs.Ytglakdnhjpakkaa.K
open Go Go.RowKit
set_option linter.unusedVariables false
set_option linter.unusedSimpArgs false

def dropId {α : Type} (f : α → Option Nat) (k : Nat) : List (Nat × α) → List (Nat × α)
  | [] => []
  | (t, x) :: r => match f x with
    | some j => match Nat.beq j k with
      | true => dropId f k r
      | false => (t, x) :: dropId f k r
    | none => (t, x) :: dropId f k r
def dropKey {α : Type} (k : Nat) : List (Nat × α) → List (Nat × α)
  | [] => []
  | (t, x) :: r => match Nat.beq t k with
    | true => dropKey k r
    | false => (t, x) :: dropKey k r

theorem get_dropKey {α : Type} {k : Nat} {l : List (Nat × α)} {n : Nat} {x : α} (h : get (dropKey k l) n = some x) : get l n = some x ∧ n ≠ k := by
  induction l with
  | nil => simp [dropKey, get] at h
  | cons p r ih =>
    obtain ⟨t, y⟩ := p
    simp only [dropKey] at h
    by_cases e : t = k
    · subst e
      simp only [Nat.beq_refl] at h
      obtain ⟨h1, h2⟩ := ih h
      rw [get_cons, if_neg (fun h => h2 h.symm)]
      exact ⟨h1, h2⟩
    · rw [beq_false e] at h
      simp only [get_cons] at h ⊢
      split at h
      · rename_i e2; exact ⟨by rw [if_pos e2]; exact h, fun h => e (e2.trans h)⟩
      · rename_i e2; rw [if_neg e2]; exact ih h

/-- what is known without memory number k; every temporary that speaks of it is forgotten, where any row speaks of it -/
def clean (k : Nat) : List (Nat × TD) → List (Nat × TD)
  | [] => []
  | (t, x) :: r => (match x.id with
    | some j => match Nat.beq j k with
      | true => (t, .un)
      | false => (t, x)
    | none => (t, x)) :: clean k r
theorem get_clean {k : Nat} {l : List (Nat × TD)} {n : Nat} {x : TD} (h : get (clean k l) n = some x) : x = .un ∧ (∃ y, get l n = some y) ∨ (get l n = some x ∧ x.id ≠ some k) := by
  induction l with
  | nil => simp [clean, get] at h
  | cons p r ih =>
    obtain ⟨t, y⟩ := p
    simp only [clean] at h
    cases hy : y.id with
    | none =>
      rw [hy] at h
      simp only [get_cons] at h ⊢
      split at h
      · rename_i e; cases h; exact .inr ⟨by rw [if_pos e], by rw [hy]; simp⟩
      · rename_i e; rw [if_neg e]; exact ih h
    | some j =>
      rw [hy] at h
      by_cases e : j = k
      · subst e
        simp only [Nat.beq_refl, get_cons] at h ⊢
        split at h
        · rename_i e; cases h; exact .inl ⟨rfl, y, by rw [if_pos e]⟩
        · rename_i e; rw [if_neg e]; exact ih h
      · simp only [beq_false e, get_cons] at h ⊢
        split at h
        · rename_i e2; cases h; exact .inr ⟨by rw [if_pos e2], by rw [hy]; simpa using e⟩
        · rename_i e2; rw [if_neg e2]; exact ih h

def St.forget (s : St) (k : Nat) : St := ⟨clean k s.tm, dropKey k s.bx⟩

theorem Inv.freeze {B : Base} {R : Nat → Prop} {ad : Nat → Option Nat} {s : St} {a : Act} {w : World} (h : Inv B R ad s a w) {t k off len cap T : Nat} {kk : IntKind} {l : List Int} (hs : s.t t = some (.sb k off len cap)) (hb : s.b k = some (.row T kk l)) (hle : off + len ≤ l.length) (hx : B.ex = fun _ => False) :
    Good B ((s.forget k).setT t (.val (.ints kk ((l.drop off).take len)))) a w := by
  obtain ⟨b, h1, cs, h2, h3, h4⟩ := h.bx k _ hb
  have hn := h.adn k b h1
  have hn1 : B.w0.heap.size ≤ b := by
    rcases hn.1 with h9 | h9
    · exact h9
    · rw [hx] at h9; exact h9.elim
  refine ⟨fun c => R c ∨ c = b, fun j => if j = k then none else ad j, ⟨h.df, h.sz, fun c hc => .inl (h.R0 c hc), ?_, h.below, h.gm, h.gx, ?_, ?_, fun c hc => by rw [hx] at hc; exact hc.elim, ?_, ?_⟩⟩
  · rintro c (hc | rfl)
    · exact h.Rn c hc
    · exact ⟨.inr hn1, hn.2.1⟩
  · intro j c hj
    split at hj
    · cases hj
    · rename_i e
      have := h.adn j c hj
      refine ⟨this.1, this.2.1, ?_⟩
      rintro (hc | rfl)
      · exact this.2.2 hc
      · exact e (h.adi j k c hj h1)
  · intro j j' c hj hj'
    split at hj
    · cases hj
    · split at hj'
      · cases hj'
      · exact h.adi j j' c hj hj'
  · intro j x hx
    obtain ⟨h5, h6⟩ := get_dropKey (show get (dropKey k s.bx) j = some x from hx)
    obtain ⟨c, g1, g2⟩ := h.bx j x h5
    exact ⟨c, by simp [h6, g1], g2.world (fun _ h => .inl h) (fun _ _ => rfl) rfl⟩
  · intro u x hx
    rw [St.t_setT] at hx
    by_cases e : t = u
    · subst e
      rw [if_pos rfl] at hx
      cases hx
      obtain ⟨v, g1, ⟨c, g2, rfl⟩, g3, g4⟩ := h.tm t _ hs
      rw [h1] at g2; cases g2
      refine ⟨_, g1, ?_⟩
      have hds : (Bx.row T kk l).ds = l.map (D.int kk) := rfl
      rw [hds] at h3 h4
      simp only [List.length_map] at h3
      have hlen : ((l.drop off).take len).length = len := by simp; omega
      have hcell : ∀ j, (hj : j < l.length) → cs[j]? = some (.int kk l[j]) ∧ InR kk l[j] := fun j hj => by
        have g5 := h4 j (.int kk l[j]) cs[j] (by simp [hj]) (by simp [h3, hj])
        have e : cs[j]? = some cs[j] := by simp [h3, hj]
        generalize cs[j] = u at g5 e
        cases g5
        exact ⟨e, by assumption⟩
      show Holds _ w _ _
      conv => arg 4; rw [← hlen]
      refine .ints kk _ b off cap (.inr rfl) (by rw [hlen]; exact g3) (by rw [hlen]; omega) (fun x hx => ?_) (fun j hj => ?_)
      · obtain ⟨j, hj, rfl⟩ := List.mem_iff_getElem.1 hx
        have hj' : off + j < l.length := by simp at hj; omega
        simpa using (hcell (off + j) hj').2
      · have hj' : off + j < l.length := by simp at hj; omega
        rw [cells_of_row h2, (hcell (off + j) hj').1]
        simp
    · rw [if_neg e] at hx
      rcases get_clean (show get (clean k s.tm) u = some x from hx) with ⟨rfl, y, g1⟩ | ⟨g1, g2⟩
      · obtain ⟨v, g3, _⟩ := h.tm u y g1
        exact ⟨v, g3, trivial⟩
      · obtain ⟨v, g3, g4⟩ := h.tm u x g1
        refine ⟨v, g3, ?_⟩
        cases x with
        | val d => exact Holds.mono g4 (fun _ h => .inl h) (fun _ _ => rfl)
        | un => trivial
        | pb j off => simp [TD.id] at g2; obtain ⟨c, g5, g6⟩ := g4; exact ⟨c, by simp [g2, g5], g6⟩
        | sb j off len cap => simp [TD.id] at g2; obtain ⟨⟨c, g5, g6⟩, g7⟩ := g4; exact ⟨⟨c, by simp [g2, g5], g6⟩, g7⟩
        | vec j T z m =>
          simp [TD.id] at g2
          rcases g4 with ⟨g5, g6⟩ | ⟨c, cap, g5, g6, cs', g7, g8, g9, g10, g11, g12⟩
          · exact .inl ⟨by simp [g2, g5], g6⟩
          · exact .inr ⟨c, cap, by simp [g2, g5], g6, cs', g7, g8, g9, g10, g11, fun i ds j' d v a1 a2 a3 => (g12 i ds j' d v a1 a2 a3).mono (fun _ h => .inl h) (fun _ _ => rfl)⟩

theorem AWP.freeze {P : Program} {B : Base} {c : Code} {Q : Post} {s : St} (t : Nat) {k off len cap T : Nat} {kk : IntKind} {l : List Int} (hs : s.t t = some (.sb k off len cap)) (hb : s.b k = some (.row T kk l)) (hle : off + len ≤ l.length) (hx : B.ex = fun _ => False)
    (h : AWP P B c Q ((s.forget k).setT t (.val (.ints kk ((l.drop off).take len))))) : AWP P B c Q s :=
  ⟨fun a w ⟨R, ad, hi⟩ => h.run a w (hi.freeze hs hb hle hx)⟩

/-- the end of a call that hands back a row of its own -/
theorem AWP.retF {P : Program} {B : Base} {Q : Post} {fn : Func} {dd : D} {s : St} {t k off len cap T : Nat} {kk : IntKind} {l : List Int} (hQ : Q.ret = Ends P fn dd) (hr : fn.results.toList.head? = some (.tmp t)) (hs : s.t t = some (.sb k off len cap)) (hb : s.b k = some (.row T kk l)) (hle : off + len ≤ l.length) (hx : B.ex = fun _ => False)
    (h : Ends P fn dd ((s.forget k).setT t (.val (.ints kk ((l.drop off).take len))))) : AWP P B .ret Q s :=
  .freeze t hs hb hle hx (.ret (hQ ▸ h))
theorem RunL.freeze {P : Program} {B : Base} {ops : Array Oper} {o : Oper} {r : List Oper} {K : St → Prop} {s : St} (t : Nat) {k off len cap T : Nat} {kk : IntKind} {l : List Int} (hs : s.t t = some (.sb k off len cap)) (hb : s.b k = some (.row T kk l)) (hle : off + len ≤ l.length) (hx : B.ex = fun _ => False)
    (h : RunL P B ops (o :: r) K ((s.forget k).setT t (.val (.ints kk ((l.drop off).take len))))) : RunL P B ops (o :: r) K s := by
  cases h with
  | cons h1 h2 => exact .cons (fun a w ⟨R, ad, hi⟩ KK QQ hk => h1 a w (hi.freeze hs hb hle hx) KK QQ hk) h2
/-- a row of the call's own, handed to a function that reads it -/
theorem RunL.hand {P : Program} {B : Base} {ops : Array Oper} {r : List Oper} {K : St → Prop} {s : St} {t d f : Nat} {ats : Array TypeId} {ty : TypeId} {pos : String} {af : Array Edge} {gd : Option (Nat × Bool)} {k off len cap T : Nat} {kk : IntKind} {l : List Int} (hs : s.t t = some (.sb k off len cap)) (hb : s.b k = some (.row T kk l)) (hle : off + len ≤ l.length) (hx : B.ex = fun _ => False)
    (h : RunL P B ops (⟨some d, .call ⟨.value (.func f), #[.tmp t], ats⟩, ty, pos, af, gd⟩ :: r) K ((s.forget k).setT t (.val (.ints kk ((l.drop off).take len))))) : RunL P B ops (⟨some d, .call ⟨.value (.func f), #[.tmp t], ats⟩, ty, pos, af, gd⟩ :: r) K s :=
  .freeze t hs hb hle hx h

section
variable {P : Program} {τ : Tys P} {B : Base} {s : St} {d : Nat} {ty : TypeId} {pos : String} {af : Array Edge} {gd : Option (Nat × Bool)}

/-- append(nil, l...): a copy -/
theorem op_appendNil {T e : Nat} {x : Operand} {k : IntKind} {l : List Int} {i j : TI} (hT : get τ.tab T = some i) (hk : i.k = .slice e) (he : get τ.tab e = some j) (hz : j.size = 1) (hx : Rd s x (.val (.ints k l))) (hl : l.length * j.bytes ≤ 281474976710656) (hN : Nat.blt d B.N = true) :
    OpDo P B ⟨some d, .call ⟨.builtin .append, #[.const (.slice none 0 0), x], #[T, T]⟩, ty, pos, af, gd⟩ s (s.setT d (.val (.ints k l))) :=
  .value fun R ad a w hi => by
    have h := hx.holds hi
    have hu := Tys.slice hT hk
    obtain ⟨_, I, h1, h2, h3, z, h4, h5, h6⟩ := τ.is he
    have hcn : a.eval (.const (.slice none 0 0)) = .slice none 0 0 := rfl
    have nilcase : ∀ v : Value, a.eval x = v → (v = .slice none 0 0 ∨ ∃ a c, v = .slice (some a) 0 c) → l = [] → ∃ v w', (execOp a.eval ⟨some d, .call ⟨.builtin .append, #[.const (.slice none 0 0), x], #[T, T]⟩, ty, pos, af, gd⟩).run P w = .ok (.value v) w' ∧ Good B (s.setT d (.val (.ints k l))) (a.put (some d) v) w' := by
      intro v hv hcase hl0
      subst hl0
      refine ⟨.slice none 0 0, w, ?_, R, ad, hi.put hN (.intsNil k)⟩
      rcases hcase with rfl | ⟨p, c, rfl⟩ <;>
        simp [execOp, resolve, invoke, builtin, Builtin.append_, hv, hcn, run_underlying hu, sizeOf, typeInfo, h1, Builtin.lenOf, Builtin.firstCells, loadCells, loadCellsFrom]
    simp only [HoldsT] at h
    generalize hv : a.eval x = v at h
    cases h with
    | intsNil => exact nilcase _ hv (.inl rfl) rfl
    | intsE => exact nilcase _ hv (.inr ⟨_, _, rfl⟩) rfl
    | ints k l b off cap hR hcap hmax hr hc =>
      by_cases h0 : l.length = 0
      · exact nilcase _ hv (.inr ⟨_, _, by rw [h0]⟩) (List.eq_nil_of_length_eq_zero h0)
      · simp only [maxLen] at hmax
        have hrun := run_append_nil (P := P) w T ty e I z hu h1 h4 ⟨b, off, none⟩ l.length cap (l.map (Value.int k)) (by simp [h2, hz]) (fun n v hn => by
          rw [add_lit]
          simp at hn
          obtain ⟨y, hy, rfl⟩ := hn
          obtain ⟨hlt, hg⟩ := List.getElem?_eq_some_iff.1 hy
          rw [hc n hlt, hg]) (by omega) (by omega) (by rw [h3]; exact hl)
        have hge := grownCap_ge w l.length 0 e
        let o : Obj := .cells ((l.map (Value.int k)).toArray ++ Builtin.zeroCells z.cells (grownCap w l.length 0 e - l.length)) e
        have hb : Below w.heap.size w (w.drew.alloc o) := ((Below.refl _ _).drew).alloc (by simp) _
        refine ⟨.slice (some ⟨w.heap.size, 0, none⟩) l.length (grownCap w l.length 0 e), w.drew.alloc o, by simp [execOp, resolve, invoke, builtin, hv, hcn, hrun, o], fun c => R c ∨ c = w.heap.size, ad, ?_⟩
        refine (hi.grow hb (fun _ h => .inl h) ?_).put hN ?_
        · rintro c (hc' | rfl)
          · exact ⟨.inl hc', by have := (hi.Rn c hc').2; simp; omega⟩
          · exact ⟨.inr (Nat.le_refl _), by simp⟩
        · refine .ints k l _ 0 _ (.inr rfl) hge (by simp only [maxLen]; omega) hr fun n hn => ?_
          have hnew : (w.drew.alloc o).heap[w.heap.size]? = some o := heap_alloc_new w.drew o
          rw [cells_of_row hnew]
          rw [Array.getElem?_append_left (by simpa using hn)]
          simp [hn]

/-- copy(out, l) into a row of the call's own -/
theorem op_copy {T T' e : Nat} {x y : Operand} {k off len cap T0 n : Nat} {kk : IntKind} {l l0 : List Int} {i j : TI} (hT : get τ.tab T = some i) (hk : i.k = .slice e) (he : get τ.tab e = some j) (hz : j.size = 1) (hx : Rd s x (.sb k off len cap)) (hb : s.b k = some (.row T0 kk l0)) (hy : Rd s y (.val (.ints kk l)))
    (hn : min l.length len = n) (hle : off + n ≤ l0.length) (hnv : noVec k s.tm = true) (hN : Nat.blt d B.N = true) :
    OpDo P B ⟨some d, .call ⟨.builtin .copy, #[x, y], #[T, T']⟩, ty, pos, af, gd⟩ s ((s.setB k (.row T0 kk (l0.take off ++ l.take n ++ l0.drop (off + n)))).setT d (.val (.int .i64 n))) :=
  .value fun R ad a w hi => by
    obtain ⟨⟨b, g1, hv⟩, g2, g3⟩ := hx.holds hi
    obtain ⟨b', g4, cs, g5, g6, g7⟩ := hi.bx _ _ hb
    rw [g1] at g4; cases g4
    have hu := Tys.slice hT hk
    obtain ⟨_, I, h1, h2, h3, _⟩ := τ.is he
    have hds : (Bx.row T0 kk l0).ds = l0.map (D.int kk) := rfl
    rw [hds] at g6 g7
    simp only [List.length_map] at g6
    have hnl : n ≤ len := by omega
    have hir : InR .i64 (n : Int) := by simp only [maxLen] at g3; simp [InR, IntKind.min, IntKind.max, IntKind.bits, IntKind.signed]; omega
    have key : ∀ (src : Value) (u : List Value), a.eval y = src → u = (l.take n).map (Value.int kk) → (Builtin.copy_ #[T, T'] ty #[.slice (some ⟨b, off, none⟩) len cap, src]).run P w = .ok (goInt n) (w.setRow b (cs.toList.take off ++ u ++ cs.toList.drop (off + u.length)).toArray) → (∀ x ∈ l, InR kk x) →
        ∃ v w', (execOp a.eval ⟨some d, .call ⟨.builtin .copy, #[x, y], #[T, T']⟩, ty, pos, af, gd⟩).run P w = .ok (.value v) w' ∧ Good B ((s.setB k (.row T0 kk (l0.take off ++ l.take n ++ l0.drop (off + n)))).setT d (.val (.int .i64 n))) (a.put (some d) v) w' := by
      intro src u hs hu' hrun hr
      have hul : u.length = n := by rw [hu']; simp; omega
      refine ⟨.int .i64 n, _, by simp [execOp, resolve, invoke, builtin, hv, hs, hrun, goInt]; rfl, R, ad, ?_⟩
      refine Inv.put ?_ hN (.int _ _ hir)
      refine hi.setBox (x := .row T0 kk l0) (y := .row T0 kk (l0.take off ++ l.take n ++ l0.drop (off + n))) g1 rfl hnv g5 ?_ ?_
      · simp [Bx.ds, hul]; omega
      · intro m e' v a1 a2
        have a1' : ((l0.map (D.int kk)).take off ++ (l.take n).map (D.int kk) ++ (l0.map (D.int kk)).drop (off + ((l.take n).map (D.int kk)).length))[m]? = some e' := by
          rw [← a1]; simp only [Bx.ds, List.map_append, List.map_take, List.map_drop]; congr 2; simp; omega
        have a2' : (cs.toList.take off ++ u ++ cs.toList.drop (off + u.length))[m]? = some v := by simpa using a2
        have hnn : ((l.take n).map (D.int kk)).length = n := by simp; omega
        rcases splice_get _ _ _ _ _ (by simp; omega) a1' with ⟨b1, b2⟩ | ⟨b1, b2, b3⟩ | ⟨b1, b2⟩ <;> rcases splice_get _ _ _ _ _ (by simp; omega) a2' with ⟨c1, c2⟩ | ⟨c1, c2, c3⟩ | ⟨c1, c2⟩ <;> first
          | (exfalso; omega)
          | exact g7 m e' v b2 (by simpa using c2)
          | skip
        rw [hu'] at c3
        simp only [List.getElem?_map, Option.map_eq_some_iff] at b3 c3
        obtain ⟨y1, hy1, rfl⟩ := b3
        obtain ⟨y2, hy2, rfl⟩ := c3
        rw [hy1] at hy2; cases hy2
        exact .int _ _ (hr _ (List.mem_of_mem_take (List.mem_of_getElem? hy1)))
    have hsz : (P.info? e).map (·.size) = some 1 := by rw [h1]; simp [h2, hz]
    have hh := hy.holds hi
    simp only [HoldsT] at hh
    generalize hv2 : a.eval y = v2 at hh
    cases hh with
    | intsNil =>
      have hn0 : n = 0 := by simp at hn; omega
      subst hn0
      refine key _ [] hv2 (by simp) ?_ (fun x hx => by cases hx)
      have := run_copy_nil (P := P) w T T' ty e ⟨b, off, none⟩ len cap hu (by rw [hsz]; rfl)
      rw [this]
      simp [goInt, setRow_self w b cs T0 (0, 0) g5]
    | intsE kk a2 =>
      have hn0 : n = 0 := by simp at hn; omega
      subst hn0
      refine key _ [] hv2 (by simp) ?_ (fun x hx => by cases hx)
      have := run_copy_row (P := P) w T T' ty e b off len cap a2 0 0 cs T0 [] hu hsz g5 (by simp) (fun j v hj => by simp at hj) (by simp; omega) (fun v hv => by cases hv)
      rw [this]
      simp [goInt]
    | ints kk l b2 off2 cap2 hR hcap hmax hr hc =>
      refine key _ ((l.take n).map (Value.int kk)) hv2 rfl ?_ hr
      have := run_copy_row (P := P) w T T' ty e b off len cap ⟨b2, off2, none⟩ l.length cap2 cs T0 ((l.take n).map (Value.int kk)) hu hsz g5 (by rw [List.length_map, List.length_take]; show min n l.length = min l.length len; omega) (fun j v hj => by
        simp only [List.getElem?_map, Option.map_eq_some_iff, List.getElem?_take] at hj
        obtain ⟨y, hy, rfl⟩ := hj
        split at hy
        · obtain ⟨hlt, hg⟩ := List.getElem?_eq_some_iff.1 hy
          rw [add_lit, hc j hlt, hg]
        · cases hy) (by simp; omega) (fun v hv => by obtain ⟨y, _, rfl⟩ := List.mem_map.1 hv; rfl)
      rw [this]
      congr 2
      simp; omega
end
end Go.Proofs.Ytglakdnhjpakkaa.K
