/- The operations that look at memory, make it or write it. -/
import Derived.Test.YtffcpgebgoineaaDoorOps
namespace Go.Proofs.YtffcpgebgoineaaDoor.K
open Go Go.RowKit
set_option linter.unusedVariables false
set_option linter.unusedSimpArgs false

def D.cells : D → List D
  | .agg ds => ds
  | d => [d]

theorem Holds.cells {R : Nat → Prop} {w : World} {d : D} {v : Value} (h : Holds R w d v) : v.cells.size = d.cells.length ∧ ∀ (i : Nat) (e : D) (u : Value), d.cells[i]? = some e → v.cells[i]? = some u → Holds R w e u := by
  have one : ∀ (d : D) (v : Value), Holds R w d v → v.cells = #[v] → d.cells = [d] → v.cells.size = d.cells.length ∧ ∀ (i : Nat) (e : D) (u : Value), d.cells[i]? = some e → v.cells[i]? = some u → Holds R w e u := by
    intro d v h h1 h2
    rw [h1, h2]
    refine ⟨rfl, fun i e u a b => ?_⟩
    cases i with
    | zero => simp at a b; subst a b; exact h
    | succ i => simp at a
  cases h with
  | agg ds cs hs hh => exact ⟨hs, hh⟩
  | int k n h => exact one _ _ (.int k n h) rfl rfl
  | bool b => exact one _ _ (.bool b) rfl rfl
  | str s h => exact one _ _ (.str s h) rfl rfl
  | intsNil k => exact one _ _ (.intsNil k) rfl rfl
  | intsE k a => exact one _ _ (.intsE k a) rfl rfl
  | ints k l b off cap a1 a2 a3 a4 a5 => exact one _ _ (.ints k l b off cap a1 a2 a3 a4 a5) rfl rfl
  | slNil z => exact one _ _ (.slNil z) rfl rfl
  | slE z a => exact one _ _ (.slE z a) rfl rfl
  | sl z l b off cap vs a1 a2 a3 a4 a5 a6 => exact one _ _ (.sl z l b off cap vs a1 a2 a3 a4 a5 a6) rfl rfl
  | tup ds cs hs hh => exact one _ _ (.tup ds cs hs hh) rfl rfl
  | ref ds b off vs a1 a2 a3 => exact one _ _ (.ref ds b off vs a1 a2 a3) rfl rfl
  | fn f ds cs hs hh => exact one _ _ (.fn f ds cs hs hh) rfl rfl
  | raw v h => exact one _ _ (.raw v h) (by cases v <;> first | rfl | cases h) rfl
  | any v h => exact one _ _ (.any v h) (by cases v <;> first | rfl | cases h) rfl

/-- The cells of a value are of one cell each. -/
def D.isOne : D → Bool
  | .agg _ | .tup _ => false
  | _ => true
theorem Holds.oneCell {R : Nat → Prop} {w : World} {d : D} {v : Value} (h : Holds R w d v) (hd : d.isOne = true) : v.oneCell' = true := by
  cases h <;> simp [D.isOne] at hd <;> first | rfl | (rename_i h; cases v <;> first | rfl | cases h)

section
variable {P : Program} {τ : Tys P} {B : Base} {s : St} {d : Nat} {ty : TypeId} {pos : String} {af : Array Edge} {gd : Option (Nat × Bool)}

theorem alloc_mono {R : Nat → Prop} {ad : Nat → Option Nat} {a : Act} {w : World} (hi : Inv B R ad s a w) (o : Obj) {e : D} {v : Value} (h : Holds R w e v) : Holds R (w.alloc o) e v :=
  h.mono (fun _ h => h) fun b hb => heap_alloc_old w o b (hi.Rn b hb).2

theorem op_box {T : TypeId} {x : Operand} {e : D} (hx : Rd s x (.val e)) (hid : noId d s.tm = true) (hd0 : Nat.blt 0 d = true ∨ B.ex = fun _ => False) (hN : Nat.blt d B.N = true) :
    OpDo P B ⟨some d, .box T x, ty, pos, af, gd⟩ s ((s.setB d (.cells T e.cells)).setT d (.pb d 0)) :=
  .value fun R ad a w hi => by
    obtain ⟨h1, h2⟩ := Holds.cells (hx.holds hi)
    refine ⟨.pointer (some ⟨w.heap.size, 0, none⟩), w.alloc (.cells (a.eval x).cells T), by simp [execOp, Instr.box, newVar, newRow], R, adSet ad d w.heap.size, ?_⟩
    exact hi.newBox (x := .cells T e.cells) hid hd0 hN h1 (fun i e u a b => alloc_mono hi _ (h2 i e u a b)) ⟨w.heap.size, by simp [adSet], rfl⟩

theorem op_alloc {T : TypeId} {i : TI} (hT : get τ.tab T = some i) (hid : noId d s.tm = true) (hd0 : Nat.blt 0 d = true ∨ B.ex = fun _ => False) (hN : Nat.blt d B.N = true) :
    OpDo P B ⟨some d, .alloc T, ty, pos, af, gd⟩ s ((s.setB d (.cells T i.zero)).setT d (.pb d 0)) :=
  .value fun R ad a w hi => by
    obtain ⟨z, h0, h1, h2⟩ := Tys.zero hT w
    refine ⟨.pointer (some ⟨w.heap.size, 0, none⟩), w.alloc (.cells z.cells T), by simp [execOp, Instr.alloc, newVar, newRow, h0], R, adSet ad d w.heap.size, ?_⟩
    exact hi.newBox (x := .cells T i.zero) hid hd0 hN h1 (fun i e u a b => h2 _ _ i e u a b) ⟨w.heap.size, by simp [adSet], rfl⟩

theorem seg_get (ds : List D) (off n i : Nat) (e : D) (h : ((ds.drop off).take n)[i]? = some e) : ds[off + i]? = some e ∧ i < n := by
  rw [List.getElem?_take] at h
  split at h
  · rw [List.getElem?_drop] at h; exact ⟨h, by assumption⟩
  · simp at h

/-- the cells of a segment of a row, loaded -/
theorem load_seg {R : Nat → Prop} {w : World} {g off n : Nat} {ds : List D} {cs : Array Value} {T' : Nat} (h4 : w.heap[g]? = some (.cells cs T' (0, 0))) (h5 : cs.size = ds.length) (h6 : ∀ (i : Nat) (d : D) (v : Value), ds[i]? = some d → cs[i]? = some v → Holds R w d v) (hle : off + n ≤ ds.length) :
    ∃ u, (loadCells ⟨g, off, none⟩ n).run P w = .ok u w ∧ Holds R w (.agg ((ds.drop off).take n)) (.agg u) := by
  have hl' := run_loadCells' (P := P) (w := w) (b := g) (off := off) (n := n) (fun j => cs[off + j]?.getD undef) (by
    intro j hj
    rw [cells_of_row h4]
    have : off + j < cs.size := by omega
    simp [this])
  refine ⟨_, hl', .agg _ _ (by simp; omega) fun j e v h7 h8 => ?_⟩
  obtain ⟨h9, h10⟩ := seg_get _ _ _ _ _ h7
  have : off + j < cs.size := by have := (List.getElem?_eq_some_iff.1 h9).1; omega
  simp [h10, this] at h8
  exact h6 (off + j) e v h9 (by rw [← h8]; simp [this])

/-- load out of memory of the call's own -/
theorem op_loadA {T : TypeId} {x : Operand} {k off : Nat} {b : Bx} {i : TI} (hT : get τ.tab T = some i) (hk : i.k.isAgg = some true) (hx : Rd s x (.pb k off)) (hb : s.b k = some b) (hle : Nat.ble (off + i.size) b.ds.length = true) (hN : Nat.blt d B.N = true) :
    OpDo P B ⟨some d, .load T x, ty, pos, af, gd⟩ s (s.setT d (.val (.agg ((b.ds.drop off).take i.size)))) :=
  .pure hN fun R ad a w hi => by
    obtain ⟨g, h1, h2⟩ := hx.holds hi
    obtain ⟨g', h3, cs, h4, h5, h6⟩ := hi.bx _ _ hb
    rw [h1] at h3; cases h3
    obtain ⟨u, h7, h8⟩ := load_seg (P := P) h4 h5 h6 (Nat.le_of_ble_eq_true hle)
    exact ⟨.agg u, by simp [execOp, Instr.loadAt, h2, Instr.sureAddr, loadVar, Tys.isAgg hT hk, Tys.size hT, h7], h8⟩
theorem op_load1 {T : TypeId} {x : Operand} {k off : Nat} {b : Bx} {i : TI} {e : D} (hT : get τ.tab T = some i) (hk : i.k.isAgg = some false) (hx : Rd s x (.pb k off)) (hb : s.b k = some b) (he : b.ds[off]? = some e) (hN : Nat.blt d B.N = true) :
    OpDo P B ⟨some d, .load T x, ty, pos, af, gd⟩ s (s.setT d (.val e)) :=
  .pure hN fun R ad a w hi => by
    obtain ⟨g, h1, h2⟩ := hx.holds hi
    obtain ⟨g', h3, cs, h4, h5, h6⟩ := hi.bx _ _ hb
    rw [h1] at h3; cases h3
    have hlt : off < cs.size := by have := (List.getElem?_eq_some_iff.1 he).1; omega
    have hc : w.cell? ⟨g, off, none⟩ = some cs[off] := by rw [cells_of_row h4]; simp [hlt]
    exact ⟨cs[off], by simp [execOp, Instr.loadAt, h2, Instr.sureAddr, loadVar, Tys.isAgg hT hk, hc], h6 off e _ he (by simp [hlt])⟩
theorem op_loadRow {T T' : TypeId} {x : Operand} {k off : Nat} {kk : IntKind} {l : List Int} {i : TI} {n : Int} (hT : get τ.tab T = some i) (hk : i.k.isAgg = some false) (hx : Rd s x (.pb k off)) (hb : s.b k = some (.row T' kk l)) (he : l[off]? = some n) (hN : Nat.blt d B.N = true) :
    OpDo P B ⟨some d, .load T x, ty, pos, af, gd⟩ s (s.setT d (.val (.int kk n))) :=
  op_load1 (τ := τ) hT hk hx hb (by simp [Bx.ds, he]) hN
/-- load out of what is only read -/
theorem op_loadRA {T : TypeId} {x : Operand} {i : TI} {ds : List D} (hT : get τ.tab T = some i) (hk : i.k.isAgg = some true) (hx : Rd s x (.val (.ref ds))) (hn : i.size = ds.length) (hN : Nat.blt d B.N = true) :
    OpDo P B ⟨some d, .load T x, ty, pos, af, gd⟩ s (s.setT d (.val (.agg ds))) :=
  .pure hN fun R ad a w hi => by
    have h := hx.holds hi
    simp only [HoldsT] at h
    generalize hv : a.eval x = v at h
    cases h with
    | ref ds b off vs hR hc hh =>
      have hl := run_loadCells' (P := P) vs hc
      refine ⟨.agg _, by simp [execOp, Instr.loadAt, hv, Instr.sureAddr, loadVar, Tys.isAgg hT hk, Tys.size hT, hn, hl]; rfl, .agg _ _ (by simp) fun j e v h7 h8 => ?_⟩
      have hj := (List.getElem?_eq_some_iff.1 h7).1
      simp [hj] at h8
      rw [← h8]; exact hh j e h7
theorem op_loadR1 {T : TypeId} {x : Operand} {i : TI} {e : D} (hT : get τ.tab T = some i) (hk : i.k.isAgg = some false) (hx : Rd s x (.val (.ref [e]))) (hN : Nat.blt d B.N = true) :
    OpDo P B ⟨some d, .load T x, ty, pos, af, gd⟩ s (s.setT d (.val e)) :=
  .pure hN fun R ad a w hi => by
    have h := hx.holds hi
    simp only [HoldsT] at h
    generalize hv : a.eval x = v at h
    cases h with
    | ref ds b off vs hR hc hh =>
      have := hc 0 (by simp)
      simp only [Nat.add_zero] at this
      exact ⟨vs 0, by simp [execOp, Instr.loadAt, hv, Instr.sureAddr, loadVar, Tys.isAgg hT hk, this], hh 0 e rfl⟩

theorem OpDo.skip {o : Oper} {s' : St} (hd : o.dst = none) (h : ∀ R ad a w, Inv B R ad s a w → ∃ w', (execOp a.eval o).run P w = .ok .skip w' ∧ Good B s' a w') : OpDo P B o s s' := .mk fun a w ⟨R, ad, hi⟩ K Q hk => by
  obtain ⟨w', h1, h2⟩ := h R ad a w hi
  simp only [Oper.wp, h1, Oper.upon, hd]
  exact hk _ _ h2

/-- data of one cell each -/
def flat1 : List D → Bool
  | [] => true
  | d :: ds => d.isOne && flat1 ds
theorem flat1_mem {ds : List D} (h : flat1 ds = true) : ∀ (i : Nat) (d : D), ds[i]? = some d → d.isOne = true := by
  induction ds with
  | nil => intro i d hd; simp at hd
  | cons e ds ih =>
    simp only [flat1, Bool.and_eq_true] at h
    intro i d hd
    cases i with
    | zero => simp at hd; subst hd; exact h.1
    | succ i => exact ih h.2 i d (by simpa using hd)

theorem splice_get {α : Type} (l m : List α) (off i : Nat) (x : α) (hle : off + m.length ≤ l.length) (h : (l.take off ++ m ++ l.drop (off + m.length))[i]? = some x) :
    (i < off ∧ l[i]? = some x) ∨ (off ≤ i ∧ i < off + m.length ∧ m[i - off]? = some x) ∨ (off + m.length ≤ i ∧ l[i]? = some x) := by
  have h1 : (l.take off).length = off := by simp; omega
  by_cases a : i < off
  · rw [List.append_assoc, List.getElem?_append_left (by omega), List.getElem?_take, if_pos a] at h
    exact .inl ⟨a, h⟩
  · by_cases b : i < off + m.length
    · rw [List.getElem?_append_left (by simp; omega), List.getElem?_append_right (by omega), h1] at h
      exact .inr (.inl ⟨by omega, b, h⟩)
    · rw [List.getElem?_append_right (by simp; omega), List.getElem?_drop] at h
      refine .inr (.inr ⟨by omega, ?_⟩)
      rw [← h]; congr 1; simp; omega

/-- a store into memory of the call's own -/
theorem store_core {T : TypeId} {ax xx : Operand} {k off : Nat} {b y : Bx} {i : TI} {e : D} (hT : get τ.tab T = some i) (hx : Rd s ax (.pb k off)) (hv : Rd s xx (.val e)) (hb : s.b k = some b) (hyT : y.T = b.T)
    (hn : i.size = e.cells.length) (hle : off + e.cells.length ≤ b.ds.length) (hy : y.ds = b.ds.take off ++ e.cells ++ b.ds.drop (off + e.cells.length)) (hf : flat1 e.cells = true) (hnv : noVec k s.tm = true) :
    OpDo P B ⟨none, .store T ax xx, ty, pos, af, gd⟩ s (s.setB k y) :=
  .skip rfl fun R ad a w hi => by
    obtain ⟨g, h1, h2⟩ := hx.holds hi
    obtain ⟨g', h3, cs, h4, h5, h6⟩ := hi.bx _ _ hb
    rw [h1] at h3; cases h3
    obtain ⟨h7, h8⟩ := Holds.cells (hv.holds hi)
    have hone : ∀ v ∈ (a.eval xx).cells.toList, v.oneCell' = true := by
      intro v hv
      obtain ⟨j, hj, hjv⟩ := List.mem_iff_getElem.1 hv
      have hj' : j < e.cells.length := by simp at hj; omega
      exact (h8 j _ v (List.getElem?_eq_getElem hj') (by simp at hj; simp [hj] at hjv ⊢; exact hjv)).oneCell (flat1_mem hf j _ (List.getElem?_eq_getElem hj'))
    have hst := run_storeCells_at P g off b.T (a.eval xx).cells.toList 0 cs w h4 (by simp; omega) hone
    simp only [Nat.add_zero] at hst
    refine ⟨_, by simp [execOp, Instr.storeAt, h2, Instr.sureAddr, storeVar, Tys.size hT, h7, hn, hst]; rfl, R, ad, ?_⟩
    refine hi.setBox h1 hyT hnv h4 ?_ ?_
    · rw [hy]; simp; omega
    · intro j e' v a1 a2
      rw [hy] at a1
      have a2' : (cs.toList.take off ++ (a.eval xx).cells.toList ++ cs.toList.drop (off + (a.eval xx).cells.toList.length))[j]? = some v := by
        simpa [h7] using a2
      have hlen : (a.eval xx).cells.toList.length = e.cells.length := by simp [h7]
      rcases splice_get _ _ _ _ _ hle a1 with ⟨b1, b2⟩ | ⟨b1, b2, b3⟩ | ⟨b1, b2⟩ <;> rcases splice_get _ _ _ _ _ (by simp at hlen ⊢; omega) a2' with ⟨c1, c2⟩ | ⟨c1, c2, c3⟩ | ⟨c1, c2⟩ <;> first
        | (exfalso; omega)
        | exact h6 j e' v b2 (by simpa using c2)
        | exact h8 _ e' v b3 (by simpa using c3)
theorem op_storeC {T T' : TypeId} {ax xx : Operand} {k off : Nat} {ds : List D} {i : TI} {e : D} (hT : get τ.tab T = some i) (hx : Rd s ax (.pb k off)) (hv : Rd s xx (.val e)) (hb : s.b k = some (.cells T' ds))
    (hn : i.size = e.cells.length) (hle : Nat.ble (off + e.cells.length) ds.length = true) (hf : flat1 e.cells = true) (hnv : noVec k s.tm = true) :
    OpDo P B ⟨none, .store T ax xx, ty, pos, af, gd⟩ s (s.setB k (.cells T' (ds.take off ++ e.cells ++ ds.drop (off + e.cells.length)))) :=
  store_core (τ := τ) hT hx hv hb rfl hn (Nat.le_of_ble_eq_true hle) rfl hf hnv
theorem op_storeRow {T T' : TypeId} {ax xx : Operand} {k off : Nat} {kk : IntKind} {l : List Int} {i : TI} {n : Int} (hT : get τ.tab T = some i) (hn : i.size = 1) (hx : Rd s ax (.pb k off)) (hv : Rd s xx (.val (.int kk n))) (hb : s.b k = some (.row T' kk l))
    (hle : off < l.length) (hnv : noVec k s.tm = true) : OpDo P B ⟨none, .store T ax xx, ty, pos, af, gd⟩ s (s.setB k (.row T' kk (l.set off n))) :=
  store_core (τ := τ) hT hx hv hb rfl hn (by simp [D.cells, Bx.ds]; omega) (by
    simp only [Bx.ds, D.cells, List.map_set, List.length_singleton]
    apply List.ext_getElem?
    intro j
    rw [List.getElem?_set]
    have h1 : ((l.map (D.int kk)).take off).length = off := by simp; omega
    by_cases a : j < off
    · rw [List.append_assoc, List.getElem?_append_left (by omega), List.getElem?_take, if_pos a, if_neg (by omega)]
    · by_cases b : j = off
      · subst b
        rw [List.getElem?_append_left (by simp; omega), List.getElem?_append_right (by omega), h1]
        simp [hle]
      · rw [List.getElem?_append_right (by simp; omega), List.getElem?_drop, if_neg (by omega)]
        congr 1; simp; omega) rfl hnv

theorem Tys.field {T f off ft : Nat} {i j : TI} {fs : List (Nat × Nat)} (hT : get τ.tab T = some i) (hk : i.k = .struct fs) (hf : fs[f]? = some (off, ft)) (hj : get τ.tab ft = some j) :
    ∃ F : Array Field, ∃ x : Field, P.underlying T = some (.struct F) ∧ F[f]? = some x ∧ x.offset = off ∧ x.type = ft := by
  have h := (τ.is hT).1
  rw [hk] at h
  obtain ⟨F, h1, h2⟩ := h
  rw [← h2] at hf
  simp at hf
  obtain ⟨x, h3, h4, h5⟩ := hf
  exact ⟨F, x, h1, h3, h4, h5⟩

theorem op_fieldAddr {T f fo ft : Nat} {x : Operand} {k off : Nat} {i j : TI} {fs : List (Nat × Nat)} (hT : get τ.tab T = some i) (hk : i.k = .struct fs) (hf : fs[f]? = some (fo, ft)) (hj : get τ.tab ft = some j) (hz : Nat.blt 0 j.size = true) (hx : Rd s x (.pb k off)) (hN : Nat.blt d B.N = true) :
    OpDo P B ⟨some d, .fieldAddr T x f, ty, pos, af, gd⟩ s (s.setT d (.pb k (off + fo))) :=
  .pure hN fun R ad a w hi => by
    obtain ⟨g, h1, h2⟩ := hx.holds hi
    obtain ⟨F, y, h3, h4, h5, h6⟩ := Tys.field hT hk hf hj
    have h0 : 0 < j.size := Nat.le_of_ble_eq_true hz
    have h7 := Tys.size hj w
    have hne : ¬ j.size = 0 := by omega
    refine ⟨.pointer (some ⟨g, off + fo, none⟩), ?_, g, h1, rfl⟩
    simp [execOp, Instr.fieldAt, run_underlying h3, h4, h2, Instr.sureAddr, fieldPlace, h6, h7, hne, h5, add_lit]
theorem op_fieldAddrR {T f fo ft : Nat} {x : Operand} {ds : List D} {i j : TI} {fs : List (Nat × Nat)} (hT : get τ.tab T = some i) (hk : i.k = .struct fs) (hf : fs[f]? = some (fo, ft)) (hj : get τ.tab ft = some j) (hz : Nat.blt 0 j.size = true) (hx : Rd s x (.val (.ref ds))) (hN : Nat.blt d B.N = true) :
    OpDo P B ⟨some d, .fieldAddr T x f, ty, pos, af, gd⟩ s (s.setT d (.val (.ref ((ds.drop fo).take j.size)))) :=
  .pure hN fun R ad a w hi => by
    have h := hx.holds hi
    simp only [HoldsT] at h
    generalize hv : a.eval x = v at h
    cases h with
    | ref ds b off vs hR hc hh =>
      obtain ⟨F, y, h3, h4, h5, h6⟩ := Tys.field hT hk hf hj
      have h0 : 0 < j.size := Nat.le_of_ble_eq_true hz
      have h7 := Tys.size hj w
      have hne : ¬ j.size = 0 := by omega
      refine ⟨.pointer (some ⟨b, off + fo, none⟩), ?_, .ref _ _ _ (fun m => vs (fo + m)) hR (fun m hm => ?_) fun m e hm => ?_⟩
      · simp [execOp, Instr.fieldAt, run_underlying h3, h4, hv, Instr.sureAddr, fieldPlace, h6, h7, hne, h5, add_lit]
      · rw [Nat.add_assoc]; exact hc (fo + m) (by simp at hm; omega)
      · exact hh _ _ (seg_get _ _ _ _ _ hm).1

theorem op_fieldA {T f fo ft : Nat} {x : Operand} {ds : List D} {i j : TI} {fs : List (Nat × Nat)} (hT : get τ.tab T = some i) (hk : i.k = .struct fs) (hf : fs[f]? = some (fo, ft)) (hj : get τ.tab ft = some j) (hg : j.k.isAgg = some true) (hx : Rd s x (.val (.agg ds))) (hle : Nat.ble (fo + j.size) ds.length = true) (hN : Nat.blt d B.N = true) :
    OpDo P B ⟨some d, .field T x f, ty, pos, af, gd⟩ s (s.setT d (.val (.agg ((ds.drop fo).take j.size)))) :=
  .pure hN fun R ad a w hi => by
    have h := hx.holds hi
    simp only [HoldsT] at h
    generalize hv : a.eval x = v at h
    cases h with
    | agg ds cs hs hh =>
      obtain ⟨F, y, h3, h4, h5, h6⟩ := Tys.field hT hk hf hj
      have hle := Nat.le_of_ble_eq_true hle
      refine ⟨.agg (cs.extract fo (fo + j.size)), ?_, .agg _ _ (by simp; omega) fun m e v a1 a2 => ?_⟩
      · simp [execOp, Instr.field, run_underlying h3, h4, hv, asAgg, part, h6, Tys.isAgg hj hg, Tys.size hj, h5]
      · obtain ⟨b1, b2⟩ := seg_get _ _ _ _ _ a1
        refine hh _ e v b1 ?_
        rw [Array.getElem?_extract] at a2
        split at a2
        · exact a2
        · cases a2
theorem op_field1 {T f fo ft : Nat} {x : Operand} {ds : List D} {i j : TI} {fs : List (Nat × Nat)} {e : D} (hT : get τ.tab T = some i) (hk : i.k = .struct fs) (hf : fs[f]? = some (fo, ft)) (hj : get τ.tab ft = some j) (hg : j.k.isAgg = some false) (hx : Rd s x (.val (.agg ds))) (he : ds[fo]? = some e) (hN : Nat.blt d B.N = true) :
    OpDo P B ⟨some d, .field T x f, ty, pos, af, gd⟩ s (s.setT d (.val e)) :=
  .pure hN fun R ad a w hi => by
    have h := hx.holds hi
    simp only [HoldsT] at h
    generalize hv : a.eval x = v at h
    cases h with
    | agg ds cs hs hh =>
      obtain ⟨F, y, h3, h4, h5, h6⟩ := Tys.field hT hk hf hj
      have hlt : fo < cs.size := by have := (List.getElem?_eq_some_iff.1 he).1; omega
      exact ⟨cs[fo], by simp [execOp, Instr.field, run_underlying h3, h4, hv, asAgg, part, h6, Tys.isAgg hj hg, h5, hlt], hh fo e _ he (by simp [hlt])⟩


/-- an element's address -/
theorem op_iaI {T e : Nat} {x y : Operand} {k kk : IntKind} {l : List Int} {m r : Int} {i j : TI} (hT : get τ.tab T = some i) (hk : i.k = .slice e) (he : get τ.tab e = some j) (hz : j.size = 1) (hx : Rd s x (.val (.ints k l))) (hy : Rd s y (.val (.int kk m))) (h0 : 0 ≤ m) (hr : l[m.toNat]? = some r) (hN : Nat.blt d B.N = true) :
    OpDo P B ⟨some d, .indexAddr T x y, ty, pos, af, gd⟩ s (s.setT d (.val (.ref [.int k r]))) :=
  .pure hN fun R ad a w hi => by
    have h := hx.holds hi
    have hu := Tys.slice hT hk
    have hlt := (List.getElem?_eq_some_iff.1 hr).1
    simp only [HoldsT] at h
    generalize hv : a.eval x = v at h
    cases h with
    | intsNil => simp at hlt
    | intsE => simp at hlt
    | ints k l b off cap hR h1 h2 h3 h4 =>
      have hlt' : m < (l.length : Int) := by omega
      have hg : l[m.toNat] = r := by simpa [hlt] using hr
      refine ⟨.pointer (some ⟨b, off + m.toNat, none⟩), ?_, .ref _ _ _ (fun _ => .int k r) hR (fun n hn => ?_) fun n e hn => ?_⟩
      · simp [execOp, Instr.indexAt, hv, (hy.int_inv hi).1, asIntOf, run_underlying hu, h0, hlt', Tys.size he, hz, add_lit]
      · simp at hn; subst hn; rw [Nat.add_zero, h4 _ hlt, hg]
      · cases n with
        | zero => simp at hn; subst hn; rw [← hg]; exact .int _ _ (h3 _ (List.getElem_mem hlt))
        | succ n => simp at hn
theorem op_iaS {T e z : Nat} {x y : Operand} {kk : IntKind} {l : List (List D)} {m : Int} {r : List D} {i j : TI} (hT : get τ.tab T = some i) (hk : i.k = .slice e) (he : get τ.tab e = some j) (hz : j.size = z) (hx : Rd s x (.val (.sl z l))) (hy : Rd s y (.val (.int kk m))) (h0 : 0 ≤ m) (hr : l[m.toNat]? = some r) (hN : Nat.blt d B.N = true) :
    OpDo P B ⟨some d, .indexAddr T x y, ty, pos, af, gd⟩ s (s.setT d (.val (.ref r))) :=
  .pure hN fun R ad a w hi => by
    have h := hx.holds hi
    have hu := Tys.slice hT hk
    have hlt := (List.getElem?_eq_some_iff.1 hr).1
    simp only [HoldsT] at h
    generalize hv : a.eval x = v at h
    cases h with
    | slNil => simp at hlt
    | slE => simp at hlt
    | sl z l b off cap vs hR h1 h2 h3 h4 h5 =>
      have hlt' : m < (l.length : Int) := by omega
      have hrz : r.length = z := h3 r (List.mem_of_getElem? hr)
      refine ⟨.pointer (some ⟨b, off + m.toNat * z, none⟩), ?_, .ref _ _ _ (fun n => vs (m.toNat * z + n)) hR (fun n hn => ?_) fun n e hn => ?_⟩
      · simp [execOp, Instr.indexAt, hv, (hy.int_inv hi).1, asIntOf, run_underlying hu, h0, hlt', Tys.size he, hz, add_lit]
      · rw [Nat.add_assoc]
        refine h4 _ ?_
        calc m.toNat * z + n < m.toNat * z + z := by omega
          _ = (m.toNat + 1) * z := by rw [Nat.add_mul, Nat.one_mul]
          _ ≤ l.length * z := Nat.mul_le_mul_right _ hlt
      · exact h5 m.toNat r n e hr hn
theorem op_iaB {T e : Nat} {x y : Operand} {kk : IntKind} {k off len cap : Nat} {m : Int} {i j : TI} (hT : get τ.tab T = some i) (hk : i.k = .slice e) (he : get τ.tab e = some j) (hz : j.size = 1) (hx : Rd s x (.sb k off len cap)) (hy : Rd s y (.val (.int kk m))) (h0 : 0 ≤ m) (hr : m < (len : Int)) (hN : Nat.blt d B.N = true) :
    OpDo P B ⟨some d, .indexAddr T x y, ty, pos, af, gd⟩ s (s.setT d (.pb k (off + m.toNat))) :=
  .pure hN fun R ad a w hi => by
    obtain ⟨⟨b, h1, hv⟩, _⟩ := hx.holds hi
    have hu := Tys.slice hT hk
    exact ⟨.pointer (some ⟨b, off + m.toNat, none⟩), by simp [execOp, Instr.indexAt, hv, (hy.int_inv hi).1, asIntOf, run_underlying hu, h0, hr, Tys.size he, hz, add_lit], b, h1, rfl⟩
/-- a byte of a string -/
theorem op_index {T : Nat} {x y : Operand} {kk : IntKind} {l : List UInt8} {m : Int} {c : UInt8} {i : TI} (hT : get τ.tab T = some i) (hk : i.k = .str) (hx : Rd s x (.val (.str l))) (hy : Rd s y (.val (.int kk m))) (h0 : 0 ≤ m) (hr : l[m.toNat]? = some c) (hN : Nat.blt d B.N = true) :
    OpDo P B ⟨some d, .index T x y, ty, pos, af, gd⟩ s (s.setT d (.val (.int .u8 (c.toNat : Int)))) :=
  .pure hN fun R ad a w hi => by
    obtain ⟨b, hv, rfl, _⟩ := hx.str_inv hi
    have hu := Tys.str hT hk
    have hb : b[m.toNat]? = some c := by
      obtain ⟨h1, h2⟩ := List.getElem?_eq_some_iff.1 hr
      have h1' : m.toNat < b.size := by simpa using h1
      rw [getElem?_pos b m.toNat h1', ← h2]
      rfl
    refine ⟨.int .u8 c.toNat, by simp [execOp, Instr.index, hv, (hy.int_inv hi).1, asIntOf, run_underlying hu, h0, hb], .int _ _ ?_⟩
    have := c.toNat_lt
    simp [InR, IntKind.min, IntKind.max, IntKind.bits, IntKind.signed]; omega

/-- bounds of a slice expression -/
def Bd (s : St) (o : Option Operand) (dflt m : Nat) : Prop := (o = none ∧ m = dflt) ∨ ∃ x kk, o = some x ∧ Rd s x (.val (.int kk (m : Int)))
theorem Bd.none {s : St} {m : Nat} : Bd s .none m m := .inl ⟨rfl, rfl⟩
theorem Bd.some {s : St} {x : Operand} {dflt m : Nat} {kk : IntKind} {n : Int} (h : Rd s x (.val (.int kk n))) (hn : n = (m : Int)) : Bd s (.some x) dflt m := .inr ⟨x, kk, rfl, hn ▸ h⟩

theorem Bd.run {R : Nat → Prop} {ad : Nat → Option Nat} {a : Act} {w : World} {o : Option Operand} {dflt m y : Nat} {c : BoundsCode} (hi : Inv B R ad s a w) (h : Bd s o dflt m) (hle : m ≤ y) :
    (match o.map a.eval with | .some v => Instr.sliceBound v y c | .none => pure dflt).run P w = .ok m w := by
  rcases h with ⟨rfl, rfl⟩ | ⟨x, kk, rfl, h⟩
  · simp
  · simp [(h.int_inv hi).1, Instr.sliceBound, asIntOf]; omega

theorem run_bounds {R : Nat → Prop} {ad : Nat → Option Nat} {a : Act} {w : World} {lo hi' : Option Operand} {l h len cap : Nat} {isS : Bool} (hi : Inv B R ad s a w) (hl : Bd s lo 0 l) (hh : Bd s hi' len h) (h1 : l ≤ h) (h2 : h ≤ cap) :
    (Instr.sliceBounds isS len cap (lo.map a.eval) (hi'.map a.eval) none).run P w = .ok (l, h, cap) w := by
  rcases hl with ⟨rfl, rfl⟩ | ⟨x, kk, rfl, hl⟩ <;> rcases hh with ⟨rfl, rfl⟩ | ⟨y, kk', rfl, hh⟩
  · simp [Instr.sliceBounds]
  · simp [Instr.sliceBounds, (hh.int_inv hi).1, Instr.sliceBound, asIntOf, h2]
  · simp [Instr.sliceBounds, (hl.int_inv hi).1, Instr.sliceBound, asIntOf, h1]
  · simp [Instr.sliceBounds, (hl.int_inv hi).1, (hh.int_inv hi).1, Instr.sliceBound, asIntOf, h1, h2]

theorem op_sliceI {T e : Nat} {x : Operand} {lo hi' : Option Operand} {k : IntKind} {l : List Int} {m n : Nat} {i j : TI} (hT : get τ.tab T = some i) (hk : i.k = .slice e) (he : get τ.tab e = some j) (hz : j.size = 1) (hx : Rd s x (.val (.ints k l))) (hl : Bd s lo 0 m) (hh : Bd s hi' l.length n) (h1 : m ≤ n) (h2 : n ≤ l.length) (hN : Nat.blt d B.N = true) :
    OpDo P B ⟨some d, .slice T x lo hi' none, ty, pos, af, gd⟩ s (s.setT d (.val (.ints k ((l.take n).drop m)))) :=
  .pure hN fun R ad a w hi => by
    have h := hx.holds hi
    have hu := Tys.slice hT hk
    simp only [HoldsT] at h
    generalize hv : a.eval x = v at h
    cases h with
    | intsNil =>
      have hb := run_bounds (P := P) (isS := true) (cap := 0) hi hl hh h1 (by simpa using h2)
      have hm : m = 0 := by simp at h2; omega
      have hn : n = 0 := by simp at h2; omega
      subst hm hn
      refine ⟨.slice none 0 0, ?_, ?_⟩
      · simp only [List.length_nil] at hb
        simp [execOp, Instr.sliceAt, Instr.slice, hv, run_underlying hu, hb, Tys.size he, hz]
      · show Holds R w _ _
        simpa using Holds.intsNil k
    | intsE k ad0 =>
      have hb := run_bounds (P := P) (isS := true) (cap := 0) hi hl hh h1 (by simpa using h2)
      have hm : m = 0 := by simp at h2; omega
      have hn : n = 0 := by simp at h2; omega
      subst hm hn
      refine ⟨.slice (some ad0) 0 0, ?_, ?_⟩
      · simp only [List.length_nil] at hb
        simp [execOp, Instr.sliceAt, Instr.slice, hv, run_underlying hu, hb, Tys.size he, hz]
      · show Holds R w _ _
        simpa using Holds.intsE k ad0
    | ints k l b off cap hR h3 h4 h5 h6 =>
      have hb := run_bounds (P := P) (isS := true) (cap := cap) hi hl hh h1 (by omega)
      have hlen : ((l.take n).drop m).length = n - m := by simp; omega
      have cell : ∀ t, (h : t < ((l.take n).drop m).length) → w.cell? ⟨b, off + m + t, none⟩ = some (.int k ((l.take n).drop m)[t]) := fun t ht => by
        have := h6 (m + t) (by simp at ht; omega)
        rw [Nat.add_assoc, this]; simp
      have hr : ∀ y ∈ (l.take n).drop m, InR k y := fun y hy => h5 y (List.mem_of_mem_take (List.mem_of_mem_drop hy))
      by_cases hc : cap = m
      · have hnil : (l.take n).drop m = [] := List.eq_nil_of_length_eq_zero (by rw [hlen]; omega)
        refine ⟨.slice (some ⟨b, off, none⟩) (n - m) (cap - m), ?_, ?_⟩
        · rw [hc] at hb
          simp [execOp, Instr.sliceAt, Instr.slice, hv, run_underlying hu, hb, Tys.size he, hz, hc]
        · rw [hnil, show n - m = 0 by omega, show cap - m = 0 by omega]
          exact .ints k [] b off 0 hR (by simp) (by simp) (fun y hy => by cases hy) (fun t ht => by simp at ht)
      · refine ⟨.slice (some ⟨b, off + m, none⟩) (n - m) (cap - m), ?_, ?_⟩
        · simp [execOp, Instr.sliceAt, Instr.slice, hv, run_underlying hu, hb, Tys.size he, hz, hc, add_lit]
        · rw [← hlen]
          exact .ints k _ b (off + m) (cap - m) hR (by rw [hlen]; omega) (by rw [hlen]; omega) hr cell

theorem op_sliceB {T e : Nat} {x : Operand} {lo hi' : Option Operand} {k off len cap m n : Nat} {i j : TI} (hT : get τ.tab T = some i) (hk : i.k = .slice e) (he : get τ.tab e = some j) (hz : j.size = 1) (hx : Rd s x (.sb k off len cap)) (hl : Bd s lo 0 m) (hh : Bd s hi' len n) (h1 : m ≤ n) (h2 : n ≤ cap) (h3 : m < cap) (hN : Nat.blt d B.N = true) :
    OpDo P B ⟨some d, .slice T x lo hi' none, ty, pos, af, gd⟩ s (s.setT d (.sb k (off + m) (n - m) (cap - m))) :=
  .pure hN fun R ad a w hi => by
    obtain ⟨⟨b, g1, hv⟩, g2, g3⟩ := hx.holds hi
    have hu := Tys.slice hT hk
    have hb := run_bounds (P := P) (isS := true) (cap := cap) hi hl hh h1 h2
    have hc : ¬ cap = m := by omega
    exact ⟨.slice (some ⟨b, off + m, none⟩) (n - m) (cap - m), by simp [execOp, Instr.sliceAt, Instr.slice, hv, run_underlying hu, hb, Tys.size he, hz, hc, add_lit], ⟨b, g1, rfl⟩, by omega, by omega⟩

theorem op_sliceStr {T : Nat} {x : Operand} {lo hi' : Option Operand} {l : List UInt8} {m n : Nat} {i : TI} (hT : get τ.tab T = some i) (hk : i.k = .str) (hx : Rd s x (.val (.str l))) (hl : Bd s lo 0 m) (hh : Bd s hi' l.length n) (h1 : m ≤ n) (h2 : n ≤ l.length) (hN : Nat.blt d B.N = true) :
    OpDo P B ⟨some d, .slice T x lo hi' none, ty, pos, af, gd⟩ s (s.setT d (.val (.str ((l.take n).drop m)))) :=
  .pure hN fun R ad a w hi => by
    obtain ⟨b, hv, rfl, hm⟩ := hx.str_inv hi
    have hu := Tys.str hT hk
    have e1 : b.data.toList.length = b.size := by simp
    rw [e1] at hh h2
    have hb := run_bounds (P := P) (isS := false) (cap := b.size) hi hl hh h1 h2
    refine ⟨.string (b.extract m n), by simp [execOp, Instr.sliceAt, Instr.slice, hv, run_underlying hu, hb], ?_⟩
    have e2 : (b.data.toList.take n).drop m = (b.extract m n).data.toList := by
      simp [ByteArray.data_extract, List.drop_take]
    rw [e2]
    exact .str _ (by simp; omega)

theorem op_make {T e : Nat} {x y : Operand} {kk kk' : IntKind} {kz : IntKind} {n : Nat} {i j : TI} (hT : get τ.tab T = some i) (hk : i.k = .slice e) (he : get τ.tab e = some j) (hz : j.zero = [.int kz 0]) (hs : j.size = 1) (hx : Rd s x (.val (.int kk (n : Int)))) (hy : Rd s y (.val (.int kk' (n : Int)))) (hb : j.bytes * n ≤ 281474976710656)
    (hbz : 0 < j.bytes) (hid : noId d s.tm = true) (hd0 : Nat.blt 0 d = true ∨ B.ex = fun _ => False) (hN : Nat.blt d B.N = true) :
    OpDo P B ⟨some d, .makeSlice T x y, ty, pos, af, gd⟩ s ((s.setB d (.row e kz (List.replicate n 0))).setT d (.sb d 0 n n)) :=
  .value fun R ad a w hi => by
    obtain ⟨_, I, h1, h2, h3, z, h4, h5, h6⟩ := τ.is he
    have hn : n ≤ 281474976710656 := Nat.le_trans (Nat.le_mul_of_pos_left _ hbz) hb
    have hb' : (I.bytes : Int) * (n : Int) ≤ 281474976710656 := by
      rw [h3]
      have : ((j.bytes * n : Nat) : Int) ≤ 281474976710656 := by omega
      rwa [Int.natCast_mul] at this
    have hr := run_make (P := P) w T e I z (Tys.slice hT hk) h1 h4 kk kk' (n : Int) (n : Int) (by omega) (Int.le_refl _) hb' (by omega)
    rw [h2, hs] at hr
    simp only [Int.toNat_natCast, Nat.mul_one] at hr
    have hzs : z.cells.size = 1 := by rw [h5, hz]; rfl
    have hcell : ∀ m, m < n → (madeCells z.cells n)[m]? = some (.int kz 0) := fun m hm => by
      obtain ⟨c, hc⟩ : ∃ c, z.cells[0]? = some c := ⟨z.cells[0], by simp [hzs]⟩
      have h7 := h6 (fun _ => False) w 0 (.int kz 0) c (by rw [hz]; rfl) hc
      have hc' : c = .int kz 0 := by cases h7; rfl
      subst hc'
      simp [madeCells, hm, hzs, Nat.mod_one]
      simpa [hzs] using hc
    refine ⟨.slice (some ⟨w.heap.size, 0, none⟩) n n, w.alloc (.cells (madeCells z.cells n) e), by simp [execOp, (hx.int_inv hi).1, (hy.int_inv hi).1, hr], R, adSet ad d w.heap.size, ?_⟩
    refine hi.newBox (x := .row e kz (List.replicate n 0)) hid hd0 hN (by simp [Bx.ds, size_madeCells]) (fun m e' v a1 a2 => ?_) ⟨⟨w.heap.size, by simp [adSet], rfl⟩, Nat.le_refl _, by simp only [maxLen]; omega⟩
    simp only [Bx.ds, List.map_replicate, List.getElem?_replicate] at a1
    split at a1
    · rename_i hm
      cases a1
      rw [hcell m hm] at a2
      cases a2
      have h9 := (hx.int_inv hi).2
      refine .int _ _ ?_
      have := max_pos kz
      exact ⟨this.2, this.1⟩
    · cases a1

end

/-- the zero value of a cell -/
def zvals : List D → Option (List Value)
  | [] => some []
  | d :: ds => match (match d with
      | .int k 0 => some (Value.int k 0)
      | .bool b => some (.bool b)
      | .str [] => some (.string .empty)
      | .ints _ [] => some (.slice none 0 0)
      | .sl _ [] => some (.slice none 0 0)
      | _ => none), zvals ds with
    | some v, some vs => some (v :: vs)
    | _, _ => none

theorem zvals_holds {ds : List D} : ∀ {vs : List Value}, zvals ds = some vs → vs.length = ds.length ∧ ∀ R w (j : Nat) (d : D) (v : Value), ds[j]? = some d → vs[j]? = some v → Holds R w d v := by
  induction ds with
  | nil => intro vs h; cases h; exact ⟨rfl, fun R w j d v h => by simp at h⟩
  | cons d ds ih =>
    intro vs h
    simp only [zvals] at h
    split at h
    · rename_i v vs' h1 h2
      cases h
      obtain ⟨i1, i2⟩ := ih h2
      refine ⟨by simp [i1], fun R w j d' v' a b => ?_⟩
      cases j with
      | zero =>
        simp at a b
        subst a b
        split at h1
        · rename_i k; cases h1; exact .int _ _ ⟨(max_pos k).2, (max_pos k).1⟩
        · cases h1; exact .bool _
        · cases h1; exact .str .empty (by simp)
        · cases h1; exact .intsNil _
        · cases h1; exact .slNil _
        · cases h1
      | succ j => exact i2 R w j d' v' (by simpa using a) (by simpa using b)
    · cases h

theorem TI.Is.of {P : Program} {t : Nat} {k : TK} {size bytes : Nat} {zero : List D} {z : Value} (h1 : k.Is P t) (h2 : (P.info? t).map (fun i => (i.zero, i.size, i.bytes)) = some (some z, size, bytes)) {vs : List Value} (h3 : zvals zero = some vs) (h4 : z.cells = vs.toArray) : TI.Is P t ⟨k, size, bytes, zero⟩ := by
  refine ⟨h1, ?_⟩
  cases hi : P.info? t with
  | none => rw [hi] at h2; cases h2
  | some I =>
    rw [hi] at h2
    simp at h2
    obtain ⟨h5, h6⟩ := zvals_holds h3
    refine ⟨I, rfl, h2.2.1, h2.2.2, z, h2.1, by rw [h4]; simpa using h5, fun R w j d v a b => h6 R w j d v a (by rw [h4] at b; simpa using b)⟩

theorem CallOK.of {P : Program} {f : FuncId} {fn : Func} (hf : P.funcs[f]? = some fn) (hn : (fn.name == "runtime.NumGoroutine") = false) (hb : fn.body.isNone = false) : CallOK P f := fun args w => by
  simp only [callFunc, Sem.run_bind, run_program, Result.andThen_ok, hf, hn, hb, Bool.false_eq_true, if_false]
  rfl

/-- what an operand reads as, computed -/
def inRb (k : IntKind) (n : Int) : Bool := decide (k.min ≤ n) && decide (n ≤ k.max)
def St.rd (s : St) : Operand → Option TD
  | .tmp t => s.t t
  | .const (.int k n) => match inRb k n with
    | true => some (.val (.int k n))
    | false => none
  | .const (.bool b) => some (.val (.bool b))
  | .const (.string l) => match Nat.ble l.size 9223372036854775807 with
    | true => some (.val (.str l.data.toList))
    | false => none
  | _ => none
theorem Rd.of {s : St} {x : Operand} {td : TD} (h : s.rd x = some td) : Rd s x td := by
  unfold St.rd at h
  split at h
  · exact .tmp h
  · split at h
    · rename_i hb
      cases h
      simp only [inRb, Bool.and_eq_true, decide_eq_true_eq] at hb
      exact .int hb
    · cases h
  · cases h; exact .bool
  · split at h
    · rename_i hb
      cases h
      exact .str (Nat.le_of_ble_eq_true hb)
    · cases h
  · cases h

/-- a nil slice, by its type -/
def Tys.nil {P : Program} (τ : Tys P) (T : Nat) : Option D :=
  match get τ.tab T with
  | some i => match i.k with
    | .slice e => match get τ.tab e with
      | some j => match j.k with
        | .int k => some (.ints k [])
        | _ => some (.sl j.size [])
      | none => none
    | _ => none
  | none => none
theorem Tys.nil_holds {P : Program} {τ : Tys P} {T : Nat} {e : D} (h : τ.nil T = some e) (R : Nat → Prop) (w : World) : Holds R w e (.slice none 0 0) := by
  unfold Tys.nil at h
  split at h
  · split at h
    · split at h
      · split at h
        · cases h; exact .intsNil _
        · cases h; exact .slNil _
      · cases h
    · cases h
  · cases h

def Tys.rdT {P : Program} (τ : Tys P) (s : St) (T : Nat) : Operand → Option TD
  | .const (.slice none 0 0) => match τ.nil T with
    | some e => some (.val e)
    | none => none
  | x => s.rd x
theorem Rd.ofT {P : Program} {τ : Tys P} {s : St} {x : Operand} {td : TD} {T : Nat} (h : τ.rdT s T x = some td) : Rd s x td := by
  unfold Tys.rdT at h
  split at h
  · split at h
    · rename_i e he
      cases h
      exact .const fun R w => Tys.nil_holds he R w
    · cases h
  · exact .of h

def Tys.rdAll {P : Program} (τ : Tys P) (s : St) : List Operand → List TypeId → Option (List D)
  | [], [] => some []
  | x :: xs, T :: Ts => match τ.rdT s T x, τ.rdAll s xs Ts with
    | some (.val e), some ds => some (e :: ds)
    | _, _ => none
  | _, _ => none
theorem RdAll.of {P : Program} {τ : Tys P} {s : St} : ∀ {xs : List Operand} {Ts : List TypeId} {ds : List D}, τ.rdAll s xs Ts = some ds → RdAll s xs ds
  | [], [], ds, h => by simp only [Tys.rdAll] at h; cases h; exact .nil
  | x :: xs, T :: Ts, ds, h => by
    simp only [Tys.rdAll] at h
    split at h
    · rename_i e ds' h1 h2
      cases h
      exact .cons (Rd.ofT h1) (RdAll.of h2)
    · cases h
  | [], _ :: _, ds, h => by simp [Tys.rdAll] at h
  | _ :: _, [], ds, h => by simp [Tys.rdAll] at h

section
variable {P : Program} {τ : Tys P} {B : Base} {s : St} {d : Nat} {ty : TypeId} {pos : String} {af : Array Edge} {gd : Option (Nat × Bool)}
theorem op_ev {f : FuncId} {args : Array Operand} {ats : Array TypeId} {ds : List D} {e : D} (hx : τ.rdAll s args.toList ats.toList = some ds) (he : Evals P f ds e) (hN : Nat.blt d B.N = true) :
    OpDo P B ⟨some d, .call ⟨.value (.func f), args, ats⟩, ty, pos, af, gd⟩ s (s.setT d (.val e)) := op_call rfl (RdAll.of hx) he hN
theorem op_assignT {x : Operand} {td : TD} (hx : τ.rdT s ty x = some td) (hN : Nat.blt d B.N = true) : OpDo P B ⟨some d, .assign x, ty, pos, af, gd⟩ s (s.setT d td) := op_assign (Rd.ofT hx) hN
end

/-- an operation whose guard is known to say yes is one without a guard -/
theorem RunL.on {P : Program} {B : Base} {ops : Array Oper} {o : Oper} {r : List Oper} {K : St → Prop} {s : St} {j g : Nat} {b c : Bool} {oj : Oper} (hg : o.guard = some (j, c)) (ho : ops[j]? = some oj) (hd : oj.dst = some g)
    (hs : s.t g = some (.val (.bool b))) (hb : b = c) (hr : RunL P B ops (⟨o.dst, o.op, o.type, o.pos, o.after, none⟩ :: r) K s) : RunL P B ops (o :: r) K s := by
  cases hr with
  | @cons _ _ _ _ s' h1 h2 =>
  refine .cons (s' := s') (fun a w hgd KK QQ hk => ?_) h2
  have h3 := h1 a w hgd KK QQ hk
  rw [if_pos (by simp [Region.wanted])] at h3
  have : Region.wanted o (yielded ops a.tmps) = true := by simp [Region.wanted, hg, yielded_of hgd ho hd hs, hb]
  rw [if_pos this]
  exact h3
theorem RunL.split {P : Program} {B : Base} {ops : Array Oper} {o : Oper} {r : List Oper} {K : St → Prop} {s : St} {j g : Nat} {b c : Bool} {oj : Oper} (hg : o.guard = some (j, c)) (ho : ops[j]? = some oj) (hd : oj.dst = some g)
    (hs : s.t g = some (.val (.bool b))) (h1 : b = c → RunL P B ops (o :: r) K s) (h2 : b = !c → RunL P B ops (o :: r) K s) : RunL P B ops (o :: r) K s := by
  by_cases h : b = c
  · exact h1 h
  · exact h2 (by cases b <;> cases c <;> simp_all)

theorem wrap_i64' {x : Int} (h : -9223372036854775808 ≤ x ∧ x < 9223372036854775808) : IntKind.i64.wrap x = x := by rw [IntKind.wrap_i64]; omega
theorem wrap_u64' {x : Int} (h : 0 ≤ x ∧ x < 18446744073709551616) : IntKind.u64.wrap x = x := by simp [IntKind.wrap, IntKind.bits, IntKind.signed]; omega
theorem wrap_u32' {x : Int} (h : 0 ≤ x ∧ x < 4294967296) : IntKind.u32.wrap x = x := by rw [IntKind.wrap_u32]; omega
theorem wrap_u8' {x : Int} (h : 0 ≤ x ∧ x < 256) : IntKind.u8.wrap x = x := by rw [IntKind.wrap_u8]; omega
end Go.Proofs.YtffcpgebgoineaaDoor.K
