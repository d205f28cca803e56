/- Variables of the call's own that hold a slice of its own; function literals that capture variables; calls that may read all memory of the call's own; calls of a function value. -/
import Derived.Test.YtmefecfkajjajaaDoorVecG
import Derived.Test.YtmefecfkajjajaaDoorAuto
namespace Go.Proofs.YtmefecfkajjajaaDoor.K
open Go Go.RowKit
set_option linter.unusedVariables false
set_option linter.unusedSimpArgs false

def St.dropB (s : St) (k : Nat) : St := ⟨s.tm, dropKey k s.bx⟩
def TD.slotOf : TD → Option (Nat × Nat)
  | .psb j T _ _ _ _ => some (j, T)
  | .pvec j T _ _ _ _ => some (j, T)
  | .pbs j T => some (j, T)
  | _ => none
theorem slot_holds {R : Nat → Prop} {ad : Nat → Option Nat} {w : World} {y : TD} {v : Value} {j T : Nat} (h : HoldsT R ad w y v) (hy : y.slotOf = some (j, T)) : ∃ b u, ad j = some b ∧ v = .pointer (some ⟨b, 0, none⟩) ∧ w.heap[b]? = some (.cells #[u] T (0, 0)) := by
  cases y <;> simp only [TD.slotOf, Option.some.injEq, Prod.mk.injEq, reduceCtorEq] at hy
  · obtain ⟨rfl, rfl⟩ := hy
    obtain ⟨b, u, h1, h2, h3, _⟩ := h
    exact ⟨b, u, h1, h2, h3⟩
  · obtain ⟨rfl, rfl⟩ := hy
    obtain ⟨b, u, h1, h2, h3, _⟩ := h
    exact ⟨b, u, h1, h2, h3⟩
  · obtain ⟨rfl, rfl⟩ := hy
    exact h
/-- the variable that a pointer names -/
def TD.keyOf : TD → Option Nat
  | .pb k 0 => some k
  | .psb j _ _ _ _ _ => some j
  | .pvec j _ _ _ _ _ => some j
  | .pbs j _ => some j
  | _ => none
theorem key_holds {R : Nat → Prop} {ad : Nat → Option Nat} {w : World} {y : TD} {v : Value} {k : Nat} (h : HoldsT R ad w y v) (hy : y.keyOf = some k) : ∃ b, ad k = some b ∧ v = .pointer (some ⟨b, 0, none⟩) := by
  cases y with
  | pb j off =>
    cases off with
    | zero => simp only [TD.keyOf, Option.some.injEq] at hy; subst hy; exact h
    | succ n => simp [TD.keyOf] at hy
  | psb j T k' off len cap => simp only [TD.keyOf, Option.some.injEq] at hy; subst hy; obtain ⟨b, u, h1, h2, _⟩ := h; exact ⟨b, h1, h2⟩
  | pvec j T k' U z l => simp only [TD.keyOf, Option.some.injEq] at hy; subst hy; obtain ⟨b, u, h1, h2, _⟩ := h; exact ⟨b, h1, h2⟩
  | pbs j T => simp only [TD.keyOf, Option.some.injEq] at hy; subst hy; obtain ⟨b, u, h1, h2, _⟩ := h; exact ⟨b, h1, h2⟩
  | _ => simp [TD.keyOf] at hy
def capKeys (s : St) : List Operand → Option (List Nat)
  | [] => some []
  | .tmp t :: r => match s.t t with
    | some x => match x.keyOf with
      | some k => match capKeys s r with
        | some ks => some (k :: ks)
        | none => none
      | none => none
    | none => none
  | _ => none

section
variable {P : Program} {τ : Tys P} {B : Base} {s : St} {d : Nat} {ty : TypeId} {pos : String} {af : Array Edge} {gd : Option (Nat × Bool)}

theorem capKeys_holds {R : Nat → Prop} {ad : Nat → Option Nat} {a : Act} {w : World} (hi : Inv B R ad s a w) : ∀ {xs : List Operand} {ks : List Nat}, capKeys s xs = some ks → (xs.map a.eval).length = ks.length ∧ ∀ (i k : Nat), ks[i]? = some k → ∃ b, ad k = some b ∧ (xs.map a.eval)[i]? = some (.pointer (some ⟨b, 0, none⟩)) := by
  intro xs
  induction xs with
  | nil => intro ks h; simp only [capKeys, Option.some.injEq] at h; subst h; exact ⟨rfl, fun i k hk => by simp at hk⟩
  | cons x xs ih =>
    intro ks h
    cases x with
    | tmp t =>
      simp only [capKeys] at h
      split at h
      · rename_i y hy
        split at h
        · rename_i k hk
          split at h
          · rename_i ks' hks
            cases h
            obtain ⟨h1, h2⟩ := ih hks
            obtain ⟨v, g1, g2⟩ := hi.tm t y hy
            obtain ⟨b, g3, rfl⟩ := key_holds g2 hk
            refine ⟨by simpa using h1, fun i j hj => ?_⟩
            cases i with
            | zero => simp at hj; subst hj; exact ⟨b, g3, by simp [Act.eval, g1]⟩
            | succ i => simpa using h2 i j (by simpa using hj)
          · cases h
        · cases h
      · cases h
    | _ => simp [capKeys] at h

theorem Inv.newSlot {R : Nat → Prop} {ad : Nat → Option Nat} {a : Act} {w : World} (h : Inv B R ad s a w) {d T : Nat} {u : Value} (hid : noId d s.tm = true) (hd0 : Nat.blt 0 d = true ∨ B.ex = fun _ => False) :
    Inv B R (adSet ad d w.heap.size) (s.dropB d) a (w.alloc (.cells #[u] T)) := by
  have hb : Below w.heap.size w (w.alloc (.cells #[u] T)) := (Below.refl _ _).alloc (Nat.le_refl _) _
  have hg := h.grow (R' := R) hb (fun _ h => h) (fun b hr => ⟨.inl hr, by have := (h.Rn b hr).2; simp; omega⟩)
  refine ⟨hg.df, hg.sz, hg.R0, hg.Rn, hg.below, hg.gm, hg.gx, ?_, ?_, fun c hc => by
    rcases hd0 with hd0 | hd0
    · simp only [adSet]; rw [if_neg (by intro h0; rw [← h0] at hd0; cases hd0)]; exact hg.ax c hc
    · rw [hd0] at hc; exact hc.elim, ?_, ?_⟩
  · intro k b hk
    simp only [adSet] at hk
    split at hk
    · cases hk
      refine ⟨.inl h.below.size, by simp, fun hr => ?_⟩
      have := (h.Rn _ hr).2
      omega
    · exact hg.adn k b hk
  · intro k k' b hk hk'
    simp only [adSet] at hk hk'
    split at hk <;> split at hk'
    · omega
    · cases hk; have := (h.adn k' _ hk').2.1; omega
    · cases hk'; have := (h.adn k _ hk).2.1; omega
    · exact h.adi k k' b hk hk'
  · intro k y hy
    obtain ⟨h5, h6⟩ := get_dropKey (show get (dropKey d s.bx) k = some y from hy)
    obtain ⟨b, h1, h2⟩ := hg.bx k y h5
    exact ⟨b, by simp [adSet, h6, h1], h2⟩
  · intro t' y' ht'
    obtain ⟨v', h1, h2⟩ := hg.tm t' y' ht'
    exact ⟨v', h1, h2.ad (noId_spec hid ht')⟩

/-- a new variable that holds a row of the call's own -/
theorem op_boxS {T : TypeId} {x : Operand} {k off len cap : Nat} (hx : Rd s x (.sb k off len cap)) (hkd : Nat.beq k d = false) (hid : noId d s.tm = true) (hd0 : Nat.blt 0 d = true ∨ B.ex = fun _ => False) (hN : Nat.blt d B.N = true) :
    OpDo P B ⟨some d, .box T x, ty, pos, af, gd⟩ s ((s.dropB d).setT d (.psb d T k off len cap)) :=
  .value fun R ad a w hi => by
    obtain ⟨⟨c, h1, h2⟩, h3, h4⟩ := hx.holds hi
    refine ⟨.pointer (some ⟨w.heap.size, 0, none⟩), w.alloc (.cells #[a.eval x] T), by rw [h2]; simp [execOp, Instr.box, newVar, newRow, h2, Value.cells], R, adSet ad d w.heap.size, ?_⟩
    exact (hi.newSlot hid hd0).put hN ⟨w.heap.size, a.eval x, by simp [adSet], rfl, heap_alloc_new w _, ⟨c, by simp [adSet, beq_ne hkd, h1], h2⟩, h3, h4⟩
/-- a new variable of a slice type, nil, that will be appended to: its slice is memory number k -/
theorem op_allocV {T : TypeId} (k e z : Nat) (hz : (P.info? T).bind (·.zero) = some (.slice none 0 0)) (hkd : Nat.beq k d = false) (hid : noId d (s.forget k).tm = true) (hd0 : Nat.blt 0 d = true ∨ B.ex = fun _ => False) (hk0 : Nat.blt 0 k = true ∨ B.ex = fun _ => False) (hN : Nat.blt d B.N = true) :
    OpDo P B ⟨some d, .alloc T, ty, pos, af, gd⟩ s (((s.forget k).dropB d).setT d (.pvec d T k e z [])) :=
  .value fun R ad a w hi => by
    have h1 := hi.reown (k := k) (o := none) (grownBy_refl w _) (fun b hb => by cases hb) hk0
    have hz' : (zeroValue T).run P w = .ok (.slice none 0 0) w := by
      cases hI : P.info? T with
      | none => rw [hI] at hz; cases hz
      | some I => rw [hI] at hz; simp only [Option.bind_some] at hz; simp [zeroValue, typeInfo, hI, hz]
    refine ⟨.pointer (some ⟨w.heap.size, 0, none⟩), w.alloc (.cells #[.slice none 0 0] T), by simp [execOp, Instr.alloc, newVar, newRow, hz', Value.cells], R, _, (h1.newSlot hid hd0).put hN ⟨w.heap.size, .slice none 0 0, by simp [adSet], rfl, heap_alloc_new w _, .inl ⟨by simp [adSet, beq_ne hkd], rfl, rfl⟩⟩⟩
/-- the slice that a variable of the call's own holds -/
theorem op_loadS {T : TypeId} {x : Operand} {j T' k off len cap : Nat} {i : TI} (hT : get τ.tab T = some i) (hk : i.k.isAgg = some false) (hx : Rd s x (.psb j T' k off len cap)) (hN : Nat.blt d B.N = true) :
    OpDo P B ⟨some d, .load T x, ty, pos, af, gd⟩ s (s.setT d (.sb k off len cap)) :=
  .pure hN fun R ad a w hi => by
    obtain ⟨b, u, h1, h2, h3, h4⟩ := hx.holds hi
    have hc : w.cell? ⟨b, 0, none⟩ = some u := by rw [cells_of_row h3]; rfl
    exact ⟨u, by simp [execOp, Instr.loadAt, h2, Instr.sureAddr, loadVar, Tys.isAgg hT hk, hc], h4⟩
theorem op_loadV {T : TypeId} {x : Operand} {j T' k U z : Nat} {l : List (List D)} {i : TI} (hT : get τ.tab T = some i) (hk : i.k.isAgg = some false) (hx : Rd s x (.pvec j T' k U z l)) (hN : Nat.blt d B.N = true) :
    OpDo P B ⟨some d, .load T x, ty, pos, af, gd⟩ s (s.setT d (.vec k U z l)) :=
  .pure hN fun R ad a w hi => by
    obtain ⟨b, u, h1, h2, h3, h4⟩ := hx.holds hi
    have hc : w.cell? ⟨b, 0, none⟩ = some u := by rw [cells_of_row h3]; rfl
    exact ⟨u, by simp [execOp, Instr.loadAt, h2, Instr.sureAddr, loadVar, Tys.isAgg hT hk, hc], h4⟩

theorem Inv.storeSlot {R : Nat → Prop} {ad : Nat → Option Nat} {a : Act} {w : World} (h : Inv B R ad s a w) {ta j T : Nat} {y : TD} (hs : s.t ta = some y) (hy : y.slotOf = some (j, T)) (h0 : Nat.blt 0 j = true ∨ B.ex = fun _ => False) (u : Value) :
    ∃ b u0, ad j = some b ∧ a.tmps[ta]? = some (.pointer (some ⟨b, 0, none⟩)) ∧ w.heap[b]? = some (.cells #[u0] T (0, 0)) ∧ Inv B R ad (s.forget j) a (w.setRow b #[u]) ∧ (w.setRow b #[u]).heap[b]? = some (.cells #[u] T (0, 0)) := by
  obtain ⟨v, g1, g2⟩ := h.tm ta y hs
  obtain ⟨b, u0, g3, rfl, g4⟩ := slot_holds g2 hy
  have hg : w.grownBy (w.setRow b #[u]) (ad j) := ⟨rfl, rfl, rfl, by rw [setRow_size]; exact Nat.le_refl _, fun k _ hk => setRow_heap_ne w b k _ (fun e => hk (by rw [g3, e]))⟩
  have := h.reown (k := j) (o := ad j) hg (fun b hb => .inl hb) h0
  have e : (fun i => if i = j then ad j else ad i) = ad := by
    funext i
    split
    · rename_i e; rw [e]
    · rfl
  rw [e] at this
  exact ⟨b, u0, g3, g1, g4, this, by simp [World.setRow, Array.getElem?_modify, g4]⟩
theorem store_slot_run {w : World} {b T T' : Nat} {u0 u : Value} {i : TI} {a : Act} {ta : Nat} {xx : Operand} (hT : get τ.tab T = some i) (hn : i.size = 1) (ht : a.tmps[ta]? = some (.pointer (some ⟨b, 0, none⟩))) (h4 : w.heap[b]? = some (.cells #[u0] T' (0, 0))) (hu : a.eval xx = u) (hc : u.cells = #[u]) (h1 : u.oneCell' = true) :
    (execOp a.eval ⟨none, .store T (.tmp ta) xx, ty, pos, af, gd⟩).run P w = .ok .skip (w.setRow b #[u]) := by
  have hst := run_storeCells_at P b 0 T' [u] 0 #[u0] w h4 (by simp) (fun v hv => by simp at hv; subst hv; exact h1)
  simp at hst
  have he : a.eval (.tmp ta) = .pointer (some ⟨b, 0, none⟩) := by simp [Act.eval, ht]
  simp [execOp, Instr.storeAt, he, Instr.sureAddr, storeVar, Tys.size hT, hn, hu, hc, hst]
theorem op_storeSb {T ta : Nat} {xx : Operand} {y : TD} {j T' k off len cap : Nat} {i : TI} (hT : get τ.tab T = some i) (hn : i.size = 1) (hs : s.t ta = some y) (hy : y.slotOf = some (j, T')) (hv : Rd (s.forget j) xx (.sb k off len cap)) (h0 : Nat.blt 0 j = true ∨ B.ex = fun _ => False) :
    OpDo P B ⟨none, .store T (.tmp ta) xx, ty, pos, af, gd⟩ s ((s.forget j).setT ta (.psb j T' k off len cap)) := .skip rfl fun R ad a w hi => by
  obtain ⟨b, u0, g1, g2, g3, g4, g5⟩ := hi.storeSlot hs hy h0 (a.eval xx)
  obtain ⟨⟨c, h1, h2⟩, h3, h4⟩ := hv.holds g4
  exact ⟨_, store_slot_run (τ := τ) hT hn g2 g3 rfl (by rw [h2]; rfl) (by rw [h2]; rfl), R, ad, g4.know g2 ⟨b, a.eval xx, g1, rfl, g5, ⟨c, h1, h2⟩, h3, h4⟩⟩
theorem op_storeVec {T ta : Nat} {xx : Operand} {y : TD} {j T' k U z : Nat} {l : List (List D)} {i : TI} (hT : get τ.tab T = some i) (hn : i.size = 1) (hs : s.t ta = some y) (hy : y.slotOf = some (j, T')) (hv : Rd (s.forget j) xx (.vec k U z l)) (h0 : Nat.blt 0 j = true ∨ B.ex = fun _ => False) :
    OpDo P B ⟨none, .store T (.tmp ta) xx, ty, pos, af, gd⟩ s ((s.forget j).setT ta (.pvec j T' k U z l)) := .skip rfl fun R ad a w hi => by
  obtain ⟨b, u0, g1, g2, g3, g4, g5⟩ := hi.storeSlot hs hy h0 (a.eval xx)
  have hh := hv.holds g4
  have hsl : ∃ x y z, a.eval xx = .slice x y z := by
    rcases hh with ⟨_, h2, _⟩ | ⟨c, cap, _, h2, _⟩ <;> exact ⟨_, _, _, h2⟩
  obtain ⟨x1, x2, x3, h2⟩ := hsl
  exact ⟨_, store_slot_run (τ := τ) hT hn g2 g3 rfl (by rw [h2]; rfl) (by rw [h2]; rfl), R, ad, g4.know g2 ⟨b, a.eval xx, g1, rfl, g5, hh⟩⟩
/-- a function literal that captures variables of the call's own -/
theorem op_clo {f : FuncId} {xs : Array Operand} {ks : List Nat} (hx : capKeys s xs.toList = some ks) (hN : Nat.blt d B.N = true) :
    OpDo P B ⟨some d, .makeFunc (.func f) #[] xs, ty, pos, af, gd⟩ s (s.setT d (.clo f ks)) :=
  .pure hN fun R ad a w hi => by
    obtain ⟨h1, h2⟩ := capKeys_holds hi hx
    refine ⟨.func (.func f) #[] (xs.map a.eval), by simp [execOp, Instr.makeFunc], xs.map a.eval, rfl, by simpa using h1, fun i k hk => ?_⟩
    obtain ⟨b, g1, g2⟩ := h2 i k hk
    exact ⟨b, g1, by simpa using g2⟩

/-- what may be read while a call that hands back a number or a truth value runs -/
def Own (R : Nat → Prop) (ad : Nat → Option Nat) : Nat → Prop := fun c => R c ∨ ∃ k, ad k = some c
theorem row_ints {R R' : Nat → Prop} {w : World} {c off len cap T : Nat} {kk : IntKind} {l : List Int} (hR : ∀ b, R b → R' b) (hc : R' c) (h : RowIs R w c T (l.map (D.int kk))) (hle : off + len ≤ l.length) (h3 : len ≤ cap) (h4 : cap ≤ maxLen) : Holds R' w (.ints kk ((l.drop off).take len)) (.slice (some ⟨c, off, none⟩) len cap) := by
  obtain ⟨cs, g1, g2, g3⟩ := h
  simp only [List.length_map] at g2
  have hlen : ((l.drop off).take len).length = len := by simp; omega
  have hcell : ∀ j, (hj : j < l.length) → cs[j]? = some (.int kk l[j]) ∧ InR kk l[j] := fun j hj => by
    have g5 := g3 j (.int kk l[j]) cs[j] (by simp [hj]) (by simp [g2, hj])
    have e : cs[j]? = some cs[j] := by simp [g2, hj]
    generalize cs[j] = u at g5 e
    cases g5
    exact ⟨e, by assumption⟩
  conv => arg 4; rw [← hlen]
  refine .ints kk _ c off cap hc (by rw [hlen]; exact h3) (by rw [hlen]; omega) (fun x hx => ?_) (fun j hj => ?_)
  · obtain ⟨j, hj, rfl⟩ := List.mem_iff_getElem.1 hx
    have hj' : off + j < l.length := by simp at hj; omega
    simpa using (hcell (off + j) hj').2
  · have hj' : off + j < l.length := by simp at hj; omega
    rw [cells_of_row g1, (hcell (off + j) hj').1]
    simp
theorem vec_ints {R : Nat → Prop} {ad : Nat → Option Nat} {w : World} {k T : Nat} {kk : IntKind} {l : List Int} {v : Value} (h : HoldsT R ad w (.vec k T 1 (iv kk l)) v) : Holds (Own R ad) w (.ints kk l) v := by
  obtain ⟨o1, o2, o3, o4⟩ := own_of_vec h
  rcases o1.2 with ⟨rfl, h2⟩ | ⟨g, cap, cur, rfl, _, h2, h3, h4, h5, h6⟩
  · have hl : l = [] := List.eq_nil_of_length_eq_zero h2
    subst hl
    exact .intsNil kk
  · have hk : ad k = some g := by rw [← o2]; rfl
    refine .ints kk l g 0 cap (.inr ⟨k, hk⟩) h3 o3 o4 (fun i hi => ?_)
    rw [cells_of_row h2]
    have h8 : (cur.toList.take (l.length * 1))[i]? = some (.int kk l[i]) := by rw [h6]; simp [hi]
    rw [List.getElem?_take, if_pos (by omega), Array.getElem?_toList] at h8
    rw [Nat.zero_add, h8]
/-- a variable of the call's own, as a function that captured it reads it -/
inductive CapV (s : St) : Nat → D → Prop
  | box {k T : Nat} {ds : List D} (hb : s.b k = some (.cells T ds)) : CapV s k (.ref ds)
  | row {j t T k off len cap T' : Nat} {kk : IntKind} {l m : List Int} (hs : s.t t = some (.psb j T k off len cap)) (hb : s.b k = some (.row T' kk l)) (hle : off + len ≤ l.length) (hm : (l.drop off).take len = m) : CapV s j (.ref [.ints kk m])
  | vec {j t T k U : Nat} {kk : IntKind} {l : List Int} (hs : s.t t = some (.pvec j T k U 1 (iv kk l))) : CapV s j (.ref [.ints kk l])
inductive CapsV (s : St) : List Nat → List D → Prop
  | nil : CapsV s [] []
  | cons {k : Nat} {d : D} {ks : List Nat} {ds : List D} (h : CapV s k d) (hs : CapsV s ks ds) : CapsV s (k :: ks) (d :: ds)
inductive ArgV (s : St) : Operand → D → Prop
  | val {x : Operand} {d : D} (h : Rd s x (.val d)) : ArgV s x d
  | row {x : Operand} {k off len cap T' : Nat} {kk : IntKind} {l m : List Int} (h : Rd s x (.sb k off len cap)) (hb : s.b k = some (.row T' kk l)) (hle : off + len ≤ l.length) (hm : (l.drop off).take len = m) : ArgV s x (.ints kk m)
  | vec {x : Operand} {k U : Nat} {kk : IntKind} {l : List Int} (h : Rd s x (.vec k U 1 (iv kk l))) : ArgV s x (.ints kk l)
  | clo {x : Operand} {f : Nat} {ks : List Nat} {ds : List D} (h : Rd s x (.clo f ks)) (hk : CapsV s ks ds) : ArgV s x (.fn f ds)
inductive ArgsV (s : St) : List Operand → List D → Prop
  | nil : ArgsV s [] []
  | cons {x : Operand} {d : D} {xs : List Operand} {ds : List D} (h : ArgV s x d) (hs : ArgsV s xs ds) : ArgsV s (x :: xs) (d :: ds)
theorem CapV.holds {R : Nat → Prop} {ad : Nat → Option Nat} {a : Act} {w : World} (hi : Inv B R ad s a w) {k : Nat} {dd : D} (h : CapV s k dd) : ∃ b, ad k = some b ∧ Holds (Own R ad) w dd (.pointer (some ⟨b, 0, none⟩)) := by
  cases h with
  | box hb =>
    obtain ⟨b, h1, cs, h2, h3, h4⟩ := hi.bx _ _ hb
    refine ⟨b, h1, .ref _ b 0 (fun j => cs[j]?.getD undef) (.inr ⟨_, h1⟩) (fun j hj => ?_) (fun j d hd => ?_)⟩
    · rw [cells_of_row h2, Nat.zero_add]
      have : j < cs.size := by rw [h3]; exact hj
      simp [this]
    · have hj : j < cs.size := by rw [h3]; exact (List.getElem?_eq_some_iff.1 hd).1
      have := h4 j d cs[j] hd (by simp [hj])
      simp only [hj, getElem?_pos, Option.getD_some]
      exact this.mono (fun _ h => .inl h) (fun _ _ => rfl)
  | @row t T k' off len cap T' kk l m hs hb hle hm =>
    obtain ⟨v, g1, b, u, g2, g3, g4, ⟨c, g5, rfl⟩, g6, g7⟩ := hi.tm t _ hs
    obtain ⟨c', f1, f2⟩ := hi.bx _ _ hb
    rw [g5] at f1; cases f1
    subst hm
    refine ⟨b, g2, .ref _ b 0 (fun _ => .slice (some ⟨c, off, none⟩) len cap) (.inr ⟨_, g2⟩) (fun j hj => ?_) (fun j d hd => ?_)⟩
    · simp at hj; subst hj; rw [cells_of_row g4]; rfl
    · cases j with
      | zero => simp at hd; subst hd; exact row_ints (fun _ h => .inl h) (.inr ⟨_, g5⟩) f2 hle g6 g7
      | succ j => simp at hd
  | @vec t T k' U kk l hs =>
    obtain ⟨v, g1, b, u, g2, g3, g4, g5⟩ := hi.tm t _ hs
    refine ⟨b, g2, .ref _ b 0 (fun _ => u) (.inr ⟨_, g2⟩) (fun j hj => ?_) (fun j d hd => ?_)⟩
    · simp at hj; subst hj; rw [cells_of_row g4]; rfl
    · cases j with
      | zero => simp at hd; subst hd; exact vec_ints (ad := ad) (k := k') (T := U) g5
      | succ j => simp at hd
theorem CapsV.holds {R : Nat → Prop} {ad : Nat → Option Nat} {a : Act} {w : World} (hi : Inv B R ad s a w) {ks : List Nat} {ds : List D} (h : CapsV s ks ds) : ks.length = ds.length ∧ ∀ (i k : Nat) (dd : D), ks[i]? = some k → ds[i]? = some dd → ∃ b, ad k = some b ∧ Holds (Own R ad) w dd (.pointer (some ⟨b, 0, none⟩)) := by
  induction h with
  | nil => exact ⟨rfl, fun i k dd h => by simp at h⟩
  | cons h hs ih =>
    refine ⟨by simp [ih.1], fun i k dd h1 h2 => ?_⟩
    cases i with
    | zero => simp at h1 h2; subst h1 h2; exact h.holds hi
    | succ i => exact ih.2 i k dd (by simpa using h1) (by simpa using h2)
theorem ArgV.holds {R : Nat → Prop} {ad : Nat → Option Nat} {a : Act} {w : World} (hi : Inv B R ad s a w) {x : Operand} {dd : D} (h : ArgV s x dd) : Holds (Own R ad) w dd (a.eval x) := by
  cases h with
  | val h => exact Holds.mono (h.holds hi) (fun _ h => .inl h) (fun _ _ => rfl)
  | row h hb hle hm =>
    obtain ⟨⟨c, g5, g6⟩, g7, g8⟩ := h.holds hi
    obtain ⟨c', f1, f2⟩ := hi.bx _ _ hb
    rw [g5] at f1; cases f1
    subst hm
    rw [g6]
    exact row_ints (fun _ h => .inl h) (.inr ⟨_, g5⟩) f2 hle g7 g8
  | vec h => exact vec_ints (h.holds hi)
  | clo h hk =>
    obtain ⟨vs, g1, g2, g3⟩ := h.holds hi
    obtain ⟨f1, f2⟩ := hk.holds hi
    rw [g1]
    refine .fn _ _ vs (by omega) fun i dd u hd hu => ?_
    have hi' := (List.getElem?_eq_some_iff.1 hd).1
    have hk := List.getElem?_eq_getElem (l := _) (i := i) (show i < _ by rw [f1]; exact hi')
    obtain ⟨b, h1, h2⟩ := g3 i _ hk
    obtain ⟨b', h3, h4⟩ := f2 i _ dd hk hd
    rw [h1] at h3; cases h3
    rw [h2] at hu; cases hu
    exact h4
theorem ArgsV.holds {R : Nat → Prop} {ad : Nat → Option Nat} {a : Act} {w : World} (hi : Inv B R ad s a w) {xs : List Operand} {ds : List D} (h : ArgsV s xs ds) : HoldsAll (Own R ad) w ds (xs.map a.eval).toArray := by
  induction h with
  | nil => exact ⟨rfl, fun i d v h => by simp at h⟩
  | cons h hs ih =>
    refine ⟨by simpa using ih.1, fun i d v h1 h2 => ?_⟩
    cases i with
    | zero => simp at h1 h2; subst h1 h2; exact h.holds hi
    | succ i => exact ih.2 i d v (by simpa using h1) (by simpa using h2)
/-- a call that may read all memory of the call's own, and hands back a number or a truth value -/
theorem op_lendAll {f : FuncId} {args : Array Operand} {ats : Array TypeId} {ds : List D} {e : D} (ha : ArgsV s args.toList ds) (he : Evals P f ds e) (hsc : scalar e = true) (hN : Nat.blt d B.N = true) :
    OpDo P B ⟨some d, .call ⟨.value (.func f), args, ats⟩, ty, pos, af, gd⟩ s (s.setT d (.val e)) := .mk fun a w ⟨R, ad, hi⟩ K Q hk => by
  have e0 : args.map a.eval = (args.toList.map a.eval).toArray := by
    apply Array.ext'
    simp
  have hrun : (execOp a.eval ⟨some d, .call ⟨.value (.func f), args, ats⟩, ty, pos, af, gd⟩).run P w = .ok (.enter f (args.map a.eval)) w := by
    have := he.ok (args.map a.eval) w
    simp [execOp, resolve, invoke, Act.eval, Deferred.ofValue]
    simpa using this
  have hall : HoldsAll (Own R ad) w ds (args.map a.eval) := by rw [e0]; exact ha.holds hi
  simp only [Oper.wp, hrun, Oper.upon]
  refine (he.run _ w _ (fun c hc => ?_) hi.gam hall).mono ?_
  · rcases hc with hc | ⟨k, hc⟩
    · exact (hi.Rn c hc).2
    · exact (hi.adn k c hc).2.1
  · rintro e' w' ⟨v, R', rfl, hbel, hR, hR', hh⟩
    refine hk _ _ ⟨R, ad, (hi.grow hbel (fun _ h => h) (fun c hc => ⟨.inl hc, Nat.lt_of_lt_of_le (hi.Rn c hc).2 hbel.size⟩)).put hN ?_⟩
    exact scalar_holds hsc hh
/-- a call of a function value -/
theorem op_evFn {t : Nat} {args : Array Operand} {ats : Array TypeId} {f : FuncId} {caps ds : List D} {e : D} (hs : s.t t = some (.val (.fn f caps))) (hx : τ.rdAll s args.toList ats.toList = some ds) (he : Evals P f (ds ++ caps) e) (hN : Nat.blt d B.N = true) :
    OpDo P B ⟨some d, .call ⟨.value (.tmp t), args, ats⟩, ty, pos, af, gd⟩ s (s.setT d (.val e)) := .mk fun a w ⟨R, ad, hi⟩ K Q hk => by
  obtain ⟨v, g1, g2⟩ := hi.tm t _ hs
  have g2 : Holds R w (.fn f caps) v := g2
  cases g2 with
  | fn _ _ cs hcs hh =>
    have hv := (RdAll.of hx).holds hi
    have e0 : (args.toList.map a.eval).toArray = args.map a.eval := by apply Array.ext' ; simp
    rw [e0] at hv
    have hall : HoldsAll R w (ds ++ caps) (args.map a.eval ++ cs) := by
      refine ⟨by have := hv.1; simp at this ⊢; omega, fun i dd u hd hu => ?_⟩
      have hsz : (args.map a.eval).size = ds.length := hv.1
      by_cases hi' : i < ds.length
      · rw [List.getElem?_append_left hi'] at hd
        rw [Array.getElem?_append_left (by omega)] at hu
        exact hv.2 i dd u hd hu
      · rw [List.getElem?_append_right (by omega)] at hd
        rw [Array.getElem?_append_right (by omega), hsz] at hu
        exact hh _ dd u hd hu
    have hrun : (execOp a.eval ⟨some d, .call ⟨.value (.tmp t), args, ats⟩, ty, pos, af, gd⟩).run P w = .ok (.enter f (args.map a.eval ++ cs)) w := by
      have := he.ok (args.map a.eval ++ cs) w
      simp [execOp, resolve, invoke, Act.eval, g1, Deferred.ofValue]
      simpa using this
    simp only [Oper.wp, hrun, Oper.upon]
    refine (he.run R w _ (fun b hb => (hi.Rn b hb).2) hi.gam hall).mono ?_
    rintro e' w' ⟨v, R', rfl, hbel, hR, hR', hh⟩
    exact hk _ _ ⟨R', ad, (hi.grow hbel hR hR').put hN hh⟩
end
end Go.Proofs.YtmefecfkajjajaaDoor.K
namespace Go.Proofs.YtmefecfkajjajaaDoor.K
open Go Go.RowKit
set_option linter.unusedVariables false
set_option linter.unusedSimpArgs false

/-- edges point backwards -/
def allBack : Nat → List Oper → Bool
  | _, [] => true
  | i, x :: xs => x.after.toList.all (fun e => !Region.binds .any e || Nat.blt e.on i) && allBack (i + 1) xs
theorem allBack_spec : ∀ {l : List Oper} {i0 : Nat}, allBack i0 l = true → ∀ (i : Nat) (x : Oper), l[i]? = some x → ∀ e ∈ x.after.toList, Region.binds .any e = true → e.on < i0 + i
  | [], _, _, i, x, h => by simp at h
  | y :: ys, i0, h, i, x, hx => by
    simp only [allBack, Bool.and_eq_true] at h
    cases i with
    | zero =>
      simp at hx; subst hx
      intro e he hb
      have := (List.all_eq_true.1 h.1) e he
      simp [hb] at this
      omega
    | succ i =>
      intro e he hb
      have := allBack_spec h.2 i x (by simpa using hx) e he hb
      omega
/-- operation i stands behind all ahead of it -/
def fullFrom : Nat → List Nat → Bool
  | _, [] => true
  | i, m :: ms => Nat.beq m (2 ^ i - 1) && fullFrom (i + 1) ms
theorem fullFrom_spec : ∀ {ms : List Nat} {i0 : Nat}, fullFrom i0 ms = true → ∀ (i m : Nat), ms[i]? = some m → m = 2 ^ (i0 + i) - 1
  | [], _, _, i, m, h => by simp at h
  | y :: ys, i0, h, i, m, hx => by
    simp only [fullFrom, Bool.and_eq_true] at h
    cases i with
    | zero => simp at hx; subst hx; exact Nat.eq_of_beq_eq_true h.1
    | succ i => have := fullFrom_spec h.2 i m (by simpa using hx); rw [this]; congr 2; omega

section
variable {P : Program} {B : Base} {ops : Array Oper} {s : St}

/-- what is ready has all of its mask listed -/
theorem ready_mask {listed : Array Bool} (hcl : Closed ops.toList (fun j => listed.getD j false)) {i : Nat} (hi : i ∈ Region.ready .any ops listed) {m : Nat} (hm : (masks ops.toList [])[i]? = some m) {j : Nat} (hj : m.testBit j = true) : listed.getD j false = true := by
  simp only [Region.ready, List.mem_filter, List.mem_range, Bool.and_eq_true] at hi
  obtain ⟨hlt, _, haft⟩ := hi
  have ho : ops[i]? = some ops[i] := by simp [hlt]
  have ho' : ops.toList[i]? = some ops[i] := by simp [hlt]
  rw [ho] at haft
  simp only [Option.map_some, Option.getD_some, Array.all_eq_true_iff_forall_mem] at haft
  have h1 := masks_at ops.toList [] i _ ho'
  simp only [List.length_nil, Nat.zero_add] at h1
  rw [hm] at h1
  cases h1
  obtain ⟨e, he, hb, h2⟩ := maskOf_bit hj
  have hon : listed.getD e.on false = true := by
    have := haft e (by simpa using he)
    simpa [hb] using this
  rcases h2 with h2 | h2
  · exact h2 ▸ hon
  · rw [List.getD_eq_getElem?_getD, List.getElem?_take] at h2
    split at h2
    · cases hme : (masks ops.toList [])[e.on]? with
      | none => rw [hme] at h2; simp at h2
      | some m' => rw [hme] at h2; exact closed_mask hcl e.on hon m' hme j (by simpa using h2)
    · simp at h2

theorem unlisted {listed : Array Bool} {i : Nat} (hi : i ∈ Region.ready .any ops listed) (hsz : listed.size = ops.size) : i < ops.size ∧ listed.getD i false = false := by
  simp only [Region.ready, List.mem_filter, List.mem_range, Bool.and_eq_true] at hi
  obtain ⟨hlt, hun, _⟩ := hi
  have hil : i < listed.size := by omega
  refine ⟨hlt, ?_⟩
  simpa [hil] using hun
theorem ready_of {listed : Array Bool} (hsz : listed.size = ops.size) {i : Nat} (hlt : i < ops.size) (hun : listed.getD i false = false) (haft : ∀ e ∈ ops[i].after.toList, Region.binds .any e = true → listed.getD e.on false = true) : i ∈ Region.ready .any ops listed := by
  have ho : ops[i]? = some ops[i] := by simp [hlt]
  simp only [Region.ready, List.mem_filter, List.mem_range, Bool.and_eq_true, ho]
  have hil : i < listed.size := by omega
  refine ⟨hlt, ?_, ?_⟩
  · simp [hil] at hun ⊢; exact hun
  · simp only [Option.map_some, Option.getD_some, Array.all_eq_true_iff_forall_mem]
    intro e he
    cases hb : Region.binds .any e with
    | false => rfl
    | true => simp [haft e (by simpa using he) hb]
theorem getD_set {listed : Array Bool} {i : Nat} (hi : i < listed.size) (j : Nat) : (listed.setIfInBounds i true).getD j false = if j = i then true else listed.getD j false := by
  by_cases e1 : j = i
  · subst e1; simp [hi]
  · have : ¬ i = j := fun h => e1 h.symm
    simp [e1, Array.getElem?_setIfInBounds, this]

/-- the operations that follow each other -/
theorem any_seq {Q : Post} {n : Nat} (hback : allBack 0 ops.toList = true) (hfull : fullFrom n ((masks ops.toList []).drop n) = true) : ∀ (fuel i : Nat) (s : St) (listed : Array Bool) (a : Act) (w : World),
    n ≤ i → i ≤ ops.size → ops.size ≤ fuel + i → listed.size = ops.size → (∀ j, listed.getD j false = decide (j < i)) → RunL P B ops (ops.toList.drop i) Q.norm s → Good B s a w → wpAny P .any ops (Q.at B) fuel listed a w := by
  intro fuel
  have hcl : ∀ (i : Nat) (listed : Array Bool), i ≤ ops.size → (∀ j, listed.getD j false = decide (j < i)) → Closed ops.toList (fun j => listed.getD j false) := fun i listed hi hl j o ho hS e he hb => by
    simp only [hl, decide_eq_true_eq] at hS ⊢
    have := allBack_spec hback j o ho e he hb
    omega
  have only : ∀ (i : Nat) (listed : Array Bool), n ≤ i → i ≤ ops.size → listed.size = ops.size → (∀ j, listed.getD j false = decide (j < i)) → ∀ j ∈ Region.ready .any ops listed, j = i := fun i listed hni hi hsz hl j hj => by
    obtain ⟨h1, h2⟩ := unlisted hj hsz
    rw [hl] at h2
    have h3 : ¬ j < i := by simpa using h2
    by_cases e : j = i
    · exact e
    · exfalso
      have hml : (masks ops.toList []).length = ops.size := by rw [masks_length]; simp
      have hm := List.getElem?_eq_getElem (l := masks ops.toList []) (i := j) (by omega)
      have hm2 : ((masks ops.toList []).drop n)[j - n]? = some ((masks ops.toList [])[j]'(by omega)) := by
        rw [List.getElem?_drop, show n + (j - n) = j by omega]; exact hm
      have hv := fullFrom_spec hfull _ _ hm2
      have hb : ((masks ops.toList [])[j]'(by omega)).testBit i = true := by
        rw [hv, show n + (j - n) = j by omega, Nat.testBit_two_pow_sub_one]; simp; omega
      have := ready_mask (hcl i listed hi hl) hj hm hb
      rw [hl] at this
      simp at this
  induction fuel with
  | zero =>
    intro i s listed a w hni hi hf hsz hl hr hg
    have e : i = ops.size := by omega
    subst e
    rw [List.drop_eq_nil_of_le (by simp)] at hr
    cases hr with
    | nil hq =>
      refine ⟨?_, s, hq, hg⟩
      cases hrr : Region.ready .any ops listed with
      | nil => rfl
      | cons j l =>
        exfalso
        have hj : j ∈ Region.ready .any ops listed := by rw [hrr]; simp
        have := only _ listed hni (Nat.le_refl _) hsz hl j hj
        have := (unlisted hj hsz).1
        omega
  | succ fuel ih =>
    intro i s listed a w hni hi hf hsz hl hr hg
    refine ⟨fun hrr => ?_, fun j hj => ?_⟩
    · by_cases e : i = ops.size
      · subst e
        rw [List.drop_eq_nil_of_le (by simp)] at hr
        cases hr with
        | nil hq => exact ⟨s, hq, hg⟩
      · exfalso
        have hlt : i < ops.size := by omega
        have : i ∈ Region.ready .any ops listed := ready_of hsz hlt (by rw [hl]; simp) (fun e he hb => by
          rw [hl]
          have := allBack_spec hback i ops[i] (by simp [hlt]) e he hb
          simpa using this)
        rw [hrr] at this; cases this
    · have hji := only i listed hni hi hsz hl j hj
      subst hji
      obtain ⟨hlt, _⟩ := unlisted hj hsz
      have hd : ops.toList.drop j = ops[j] :: ops.toList.drop (j + 1) := by rw [List.drop_eq_getElem_cons (by simpa using hlt)]; simp
      rw [hd] at hr
      cases hr with
      | cons h1 h2 =>
        have hgo := h1 a w hg (wpAny P .any ops (Q.at B) fuel (listed.setIfInBounds j true)) (Q.at B) fun a' w' hg' => ih (j + 1) _ _ a' w' (by omega) (by omega) (by omega) (by simpa using hsz) (fun k => by
          rw [getD_set (by omega), hl]
          by_cases e : k = j
          · subst e; simp
          · simp only [if_neg e, decide_eq_decide]; omega) h2 hg'
        unfold wpOp
        rw [show ops[j]? = some ops[j] by simp [hlt]]
        simp only
        split
        · rename_i hw; rw [if_pos hw] at hgo; exact .inl hgo
        · rename_i hw; rw [if_neg hw] at hgo; exact hgo

theorem closed_take {n : Nat} {S : Nat → Bool} (h : Closed ops.toList S) : Closed (ops.toList.take n) S := fun j o ho hS e he hb => by
  rw [List.getElem?_take] at ho
  split at ho
  · exact h j o ho hS e he hb
  · cases ho
theorem yielded_take {n j : Nat} {tmps : Array Value} (hj : j < n) : yielded (⟨ops.toList.take n⟩ : Array Oper) tmps j = yielded ops tmps j := by
  unfold yielded
  have : (⟨ops.toList.take n⟩ : Array Oper)[j]? = ops[j]? := by
    rw [← Array.getElem?_toList, ← Array.getElem?_toList]
    rw [List.getElem?_take, if_pos hj]
  rw [this]
theorem wanted_take {n : Nat} {o : Oper} {tmps : Array Value} (hg : ∀ j c, o.guard = some (j, c) → j < n) : Region.wanted o (yielded (⟨ops.toList.take n⟩ : Array Oper) tmps) = Region.wanted o (yielded ops tmps) := by
  unfold Region.wanted
  cases h : o.guard with
  | none => rfl
  | some p =>
    obtain ⟨j, c⟩ := p
    simp only
    rw [yielded_take (hg j c h)]
/-- guards look at operations of the first part -/
def guardsIn (n : Nat) : List Oper → Bool
  | [] => true
  | o :: r => (match o.guard with | some (j, _) => Nat.blt j n | none => true) && guardsIn n r
theorem guardsIn_spec {n : Nat} : ∀ {l : List Oper}, guardsIn n l = true → ∀ o ∈ l, ∀ j c, o.guard = some (j, c) → j < n
  | [], _, o, ho => by cases ho
  | x :: r, h, o, ho => by
    simp only [guardsIn, Bool.and_eq_true] at h
    rcases List.mem_cons.1 ho with rfl | ho
    · intro j c hg
      have h1 := h.1
      rw [hg] at h1
      exact Nat.le_of_ble_eq_true h1
    · exact guardsIn_spec h.2 o ho

theorem any_pre {Q : Post} {n : Nat} {bs : List RW} {es : List Eff} (hn : n < ops.size) (hback : allBack 0 ops.toList = true) (hfull : fullFrom n ((masks ops.toList []).drop n) = true) (hgd : guardsIn n (ops.toList.take n) = true)
    (hok : drawOk P ⟨ops.toList.take n⟩ bs = true) (h : Chain P B ⟨ops.toList.take n⟩ (ops.toList.take n) s bs es) (hq : RunL P B ops (ops.toList.drop n) Q.norm (finalSt (ops.toList.take n) es s)) : ∀ (fuel : Nat) (listed : Array Bool) (a : Act) (w : World) (s' : St),
    listed.size = ops.size → listed.toList.count false ≤ fuel → (∀ j, n ≤ j → listed.getD j false = false) → Closed ops.toList (fun j => listed.getD j false) → Mid ⟨ops.toList.take n⟩ s es (fun j => listed.getD j false) s' → Good B s' a w → wpAny P .any ops (Q.at B) fuel listed a w := by
  obtain ⟨hl1, hl2⟩ := h.lens
  have hsn : (⟨ops.toList.take n⟩ : Array Oper).size = n := by simp; omega
  have hml : (masks ops.toList []).length = ops.size := by rw [masks_length]; simp
  have e1 : (ops.toList.take n).take n = ops.toList.take n := by rw [List.take_take, Nat.min_self]
  have e2 : es.take n = es := List.take_of_length_le (by rw [← hl1]; simp; omega)
  intro fuel
  induction fuel with
  | zero =>
    intro listed a w s' hsz hc hun hcl hm hg
    exfalso
    have h0 : listed.toList.count false = 0 := by omega
    rw [List.count_eq_zero] at h0
    apply h0
    have h1 := hun n (Nat.le_refl _)
    have h2 : n < listed.size := by omega
    simp [h2] at h1
    rw [← h1]; simp
  | succ fuel ih =>
    intro listed a w s' hsz hc hun hcl hm hg
    have nth : (∀ j, j < n → listed.getD j false = true) → ∀ (fuel' : Nat), ops.size ≤ fuel' + n → wpAny P .any ops (Q.at B) fuel' listed a w := fun hall fuel' hf => by
      refine any_seq hback hfull fuel' n _ listed a w (Nat.le_refl _) (Nat.le_of_lt hn) hf hsz (fun j => ?_) hq (hg.le ⟨fun t x ht => ?_, fun k x hk => ?_⟩)
      · by_cases e : j < n
        · rw [hall j e]; simp [e]
        · rw [hun j (by omega)]; simp [e]
      · have he := stAt_t (s := s) hl1 n (by simp; omega) t
        rw [hm.t, hsn]
        show ev s.t (WT (ops.toList.take n) es) _ n t = some x
        rw [ev_congr (S' := fun _ => true) _ (fun j hj v _ => hall j hj), ← he, ← ht]
        unfold stAt
        rw [e1, e2]
      · have he := stAt_b (l := ops.toList.take n) (s := s) hl1 n (by simp; omega) k
        rw [hm.b, hsn]
        rw [ev_congr (S' := fun _ => true) _ (fun j hj v _ => hall j hj), ← he, ← hk]
        unfold stAt
        rw [e1, e2]
    have allOf : ∀ i ∈ Region.ready .any ops listed, n ≤ i → ∀ j, j < i → listed.getD j false = true := fun i hi hni j hj => by
      obtain ⟨hlt, _⟩ := unlisted hi hsz
      have hmm := List.getElem?_eq_getElem (l := masks ops.toList []) (i := i) (by omega)
      have hm2 : ((masks ops.toList []).drop n)[i - n]? = some ((masks ops.toList [])[i]'(by omega)) := by
        rw [List.getElem?_drop, show n + (i - n) = i by omega]; exact hmm
      have hv := fullFrom_spec hfull _ _ hm2
      refine ready_mask hcl hi hmm ?_
      rw [hv, show n + (i - n) = i by omega, Nat.testBit_two_pow_sub_one]; simp; omega
    by_cases hall : ∀ j, j < n → listed.getD j false = true
    · refine nth hall (fuel + 1) ?_
      -- at most fuel + 1 are not listed, and those from n on are not
      have : ops.size - n ≤ listed.toList.count false := by
        have e : listed.toList = listed.toList.take n ++ listed.toList.drop n := (List.take_append_drop n _).symm
        rw [e, List.count_append]
        have : (listed.toList.drop n).count false = (listed.toList.drop n).length := by
          rw [List.count_eq_length]
          intro b hb
          obtain ⟨i, hi, rfl⟩ := List.mem_iff_getElem.1 hb
          have h1 := hun (n + i) (by omega)
          simp at hi
          have h2 : n + i < listed.size := by omega
          simp [h2] at h1
          simp [h1]
        rw [this]
        simp; omega
      omega
    · refine ⟨fun hr => ?_, fun i hi => ?_⟩
      · exfalso
        apply hall
        intro i
        induction i using Nat.strongRecOn with
        | _ i ihi =>
          intro hi
          cases hcc : listed.getD i false with
          | true => rfl
          | false =>
            exfalso
            have hlt : i < ops.size := by omega
            have : i ∈ Region.ready .any ops listed := ready_of hsz hlt hcc (fun e he hb => by
              have := allBack_spec hback i ops[i] (by simp [hlt]) e he hb
              exact ihi e.on (by omega) (by omega))
            rw [hr] at this; cases this
      · obtain ⟨hlt, hunl⟩ := unlisted hi hsz
        have hin : i < n := by
          rcases Nat.lt_or_ge i n with h1 | h1
          · exact h1
          · exact absurd (fun j hj => allOf i hi h1 j (by omega)) hall
        have hil : i < listed.size := by omega
        have ho : ops.toList[i]? = some ops[i] := by simp [hlt]
        have ho1 : (ops.toList.take n)[i]? = some ops[i] := by rw [List.getElem?_take, if_pos hin]; exact ho
        have haft' : ∀ e ∈ ops[i].after.toList, Region.binds .any e = true → listed.getD e.on false = true := fun e he hb => by
          have hi2 := hi
          simp only [Region.ready, List.mem_filter, List.mem_range, Bool.and_eq_true] at hi2
          obtain ⟨_, _, haft⟩ := hi2
          rw [show ops[i]? = some ops[i] by simp [hlt]] at haft
          simp only [Option.map_some, Option.getD_some, Array.all_eq_true_iff_forall_mem] at haft
          have := haft e (by simpa using he)
          simpa [hb] using this
        obtain ⟨e, hok2, hm2⟩ := draw_step hok h (closed_take hcl) (i := i) (o := ops[i]) ho1 hunl haft' hm
        have hS : (fun j => if j = i then true else listed.getD j false) = fun j => (listed.setIfInBounds i true).getD j false := by
          funext j
          rw [getD_set hil]
        rw [hS] at hm2
        have hcount : (listed.setIfInBounds i true).toList.count false ≤ fuel := by
          have hun' : listed[i] = false := by simpa [hil] using hunl
          rw [Array.toList_setIfInBounds, List.count_set (by simpa using hil)]
          have hpos : 0 < listed.toList.count false := by
            rw [List.count_pos_iff]
            rw [← hun']; simp
          simp [hun']
          simp at hc hpos
          omega
        have hcl2 : Closed ops.toList (fun j => (listed.setIfInBounds i true).getD j false) := by
          rw [← hS]
          intro j o hj hSj e' he' hb
          by_cases e1 : j = i
          · subst e1
            rw [ho] at hj; cases hj
            have := haft' e' he' hb
            simp only [this]; simp
          · simp only [e1, if_false] at hSj
            have := hcl j o hj hSj e' he' hb
            simp only at this ⊢
            split
            · rfl
            · exact this
        have hgo := hok2 a w hg (wpAny P .any ops (Q.at B) fuel (listed.setIfInBounds i true)) (Q.at B) fun a' w' hg' => ih _ a' w' _ (by simpa using hsz) hcount (fun j hj => by
          rw [getD_set hil, if_neg (by omega)]; exact hun j hj) hcl2 hm2 hg'
        rw [wanted_take (guardsIn_spec hgd _ (List.mem_of_getElem? ho1))] at hgo
        unfold wpOp
        rw [show ops[i]? = some ops[i] by simp [hlt]]
        simp only
        split
        · rename_i hw; rw [if_pos hw] at hgo; exact .inl hgo
        · rename_i hw; rw [if_neg hw] at hgo; exact hgo

theorem AWP.drawT {id : Nat} {Q : Post} {n : Nat} {bs : List RW} {es : List Eff} (hn : n < ops.size) (hback : allBack 0 ops.toList = true) (hfull : fullFrom n ((masks ops.toList []).drop n) = true) (hgd : guardsIn n (ops.toList.take n) = true)
    (hmix : (P.follows .mixedOrders || !Region.departs ops) = true) (hok : drawOk P ⟨ops.toList.take n⟩ bs = true) (h : Chain P B ⟨ops.toList.take n⟩ (ops.toList.take n) s bs es) (hq : RunL P B ops (ops.toList.drop n) Q.norm (finalSt (ops.toList.take n) es s)) : AWP P B (.region id ops true) Q s := .mk fun a w hg => by
  refine wp_region_draw fun t => ?_
  have hs : Region.schedule (P.follows .mixedOrders) ops t = Region.linearise .any ops t := by
    unfold Region.schedule
    rw [if_pos hmix]
  rw [hs]
  refine wpAny_sound ops.size t _ a _ (any_pre hn hback hfull hgd hok h hq ops.size _ a _ s (by simp) (by simp) (fun j _ => ?_) ?_ ⟨fun t => ?_, fun k => ?_, fun k h => h, fun k h _ => h⟩ hg.drew)
  · simp [Array.getElem?_replicate]; split <;> simp
  · intro j o hj hS
    simp [Array.getElem?_replicate] at hS
    split at hS <;> simp at hS
  · refine (ev_none _ fun j hj v _ => ?_).symm
    simp [Array.getElem?_replicate]; split <;> simp
  · refine (ev_none _ fun j hj v _ => ?_).symm
    simp [Array.getElem?_replicate]; split <;> simp
end
end Go.Proofs.YtmefecfkajjajaaDoor.K
namespace Go.Proofs.YtmefecfkajjajaaDoor.K
open Go
set_option linter.unusedVariables false
set_option linter.unusedSimpArgs false

section
variable {P : Program} {τ : Tys P} {B : Base} {ops : Array Oper} {s : St} {Q : Post} {d : Nat} {ty : TypeId} {pos : String} {af : Array Edge}
theorem AWP.drawTA {id : Nat} (n : Nat) (hn : n < ops.size) (hback : allBack 0 ops.toList = true) (hfull : fullFrom n ((masks ops.toList []).drop n) = true) (hgd : guardsIn n (ops.toList.take n) = true) (hmix : (P.follows .mixedOrders || !Region.departs ops) = true)
    (h : DL P B ⟨ops.toList.take n⟩ (ops.toList.take n) s [] (fun s' => RunL P B ops (ops.toList.drop n) Q.norm s')) : AWP P B (.region id ops true) Q s := by
  obtain ⟨bs, es, h1, h2, h3⟩ := h.chain
  exact .drawT hn hback hfull hgd hmix (by simpa using h2) h1 h3
theorem ol_evFn {t : Nat} {args : Array Operand} {ats : Array TypeId} {f : FuncId} {caps ds : List D} {e : D} (hs : s.t t = some (.val (.fn f caps))) (hx : τ.rdAll s args.toList ats.toList = some ds) (he : Evals P f (ds ++ caps) e) (hN : Nat.blt d B.N = true) :
    OpLoc P B ops ⟨some d, .call ⟨.value (.tmp t), args, ats⟩, ty, pos, af, none⟩ s [] ⟨.val e, none⟩ :=
  .pure rfl rfl fun s' gT gB => op_evFn (τ := τ) ((gT t (by simp [tmpsOf, Op.operands, Call.operands])).trans hs) ((rdAll_ag (fun x hx => ag_of gT (by simp [Op.operands, Call.operands]; exact .inr (by simpa using hx)))).trans hx) he hN
theorem ol_loadV {T : TypeId} {x : Operand} {j T' k U z : Nat} {l : List (List D)} {i : TI} (hT : get τ.tab T = some i) (hk : i.k.isAgg = some false) (hx : Rd s x (.pvec j T' k U z l)) (hN : Nat.blt d B.N = true) :
    OpLoc P B ops ⟨some d, .load T x, ty, pos, af, none⟩ s [] ⟨.vec k U z l, none⟩ :=
  .pure rfl rfl fun s' gT gB => op_loadV (τ := τ) hT hk (hx.ag (ag_of gT (x := x) (by simp [Op.operands]))) hN
theorem ol_loadS {T : TypeId} {x : Operand} {j T' k off len cap : Nat} {i : TI} (hT : get τ.tab T = some i) (hk : i.k.isAgg = some false) (hx : Rd s x (.psb j T' k off len cap)) (hN : Nat.blt d B.N = true) :
    OpLoc P B ops ⟨some d, .load T x, ty, pos, af, none⟩ s [] ⟨.sb k off len cap, none⟩ :=
  .pure rfl rfl fun s' gT gB => op_loadS (τ := τ) hT hk (hx.ag (ag_of gT (x := x) (by simp [Op.operands]))) hN
end
end Go.Proofs.YtmefecfkajjajaaDoor.K
