/- The operations' lemmas in the form that a region that draws its order takes. Written by gen_loc.py out of XOps and XMem. -/
import Derived.Test.YtffcpgebgoineaaDoorDraw
namespace Go.Proofs.YtffcpgebgoineaaDoor.K
open Go Go.RowKit
set_option linter.unusedVariables false
set_option linter.unusedSimpArgs false

theorem Rd.ag {s s' : St} {x : Operand} {td : TD} (h : Rd s x td) (ha : ∀ t, x = .tmp t → s'.t t = s.t t) : Rd s' x td := by
  cases h with
  | tmp h => exact .tmp ((ha _ rfl).trans h)
  | int h => exact .int h
  | bool => exact .bool
  | str h => exact .str h
  | nilInts => exact .nilInts
  | nilSl => exact .nilSl
  | const h => exact .const h
  | weak => exact .weak
theorem Bd.ag {s s' : St} {o : Option Operand} {dflt m : Nat} (h : Bd s o dflt m) (ha : ∀ t, o = Option.some (.tmp t) → s'.t t = s.t t) : Bd s' o dflt m := by
  rcases h with h | ⟨x, kk, rfl, h⟩
  · exact .inl h
  · exact .inr ⟨x, kk, rfl, h.ag fun t e => ha t (by rw [e])⟩
theorem rd_ag {s s' : St} {x : Operand} (ha : ∀ t, x = .tmp t → s'.t t = s.t t) : s'.rd x = s.rd x := by
  cases x with
  | tmp t => exact ha t rfl
  | const v => cases v <;> rfl
  | global g => rfl
  | func f => rfl
theorem rdT_ag {P : Program} {τ : Tys P} {s s' : St} {T : Nat} {x : Operand} (ha : ∀ t, x = .tmp t → s'.t t = s.t t) : τ.rdT s' T x = τ.rdT s T x := by
  unfold Tys.rdT
  split
  · rfl
  · exact rd_ag ha
theorem rdAll_ag {P : Program} {τ : Tys P} {s s' : St} : ∀ {xs : List Operand} {Ts : List TypeId}, (∀ x ∈ xs, ∀ t, x = .tmp t → s'.t t = s.t t) → τ.rdAll s' xs Ts = τ.rdAll s xs Ts
  | [], [], _ => by simp only [Tys.rdAll]
  | x :: xs, T :: Ts, h => by
    simp only [Tys.rdAll]
    rw [rdT_ag (h x (by simp)), rdAll_ag (fun y hy => h y (by simp [hy]))]
  | [], _ :: _, _ => by simp only [Tys.rdAll]
  | _ :: _, [], _ => by simp only [Tys.rdAll]

section
variable {P : Program} {τ : Tys P} {B : Base} {ops : Array Oper} {s : St} {d : Nat} {ty : TypeId} {pos : String} {af : Array Edge}

theorem ag_of {o : Oper} {s' : St} (hT : ∀ t ∈ tmpsOf ops o, s'.t t = s.t t) {x : Operand} (hx : x ∈ o.op.operands) : ∀ t, x = .tmp t → s'.t t = s.t t := fun t e => hT t (by
  subst e
  simp only [tmpsOf, List.mem_append, List.mem_filterMap]
  exact .inl ⟨.tmp t, by simpa using hx, rfl⟩)

theorem OpLoc.pure {o : Oper} {rb : List Nat} {td : TD} (hd : o.dst = some d) (hg : o.guard = none) (h : ∀ s' : St, (∀ t ∈ tmpsOf ops o, s'.t t = s.t t) → (∀ k ∈ rb, s'.b k = s.b k) → OpDo P B o s' (s'.setT d td)) : OpLoc P B ops o s rb ⟨td, none⟩ :=
  ⟨fun s' hT hB _ _ a w hgd KK QQ hk => by
    have : Region.wanted o (yielded ops a.tmps) = true := by simp [Region.wanted, hg]
    rw [if_pos this]
    exact (h s' hT hB).run a w hgd KK QQ (by simpa [Eff.app, hd, St.setT] using hk)⟩
theorem OpLoc.store {o : Oper} {rb : List Nat} {p : Nat × Bx} (hd : o.dst = none) (hg : o.guard = none) (h : ∀ s' : St, (∀ t ∈ tmpsOf ops o, s'.t t = s.t t) → (∀ k ∈ rb, s'.b k = s.b k) → (∀ k, noVec k s.tm = true → noVec k s'.tm = true) → OpDo P B o s' (s'.setB p.1 p.2)) : OpLoc P B ops o s rb ⟨.un, some p⟩ :=
  ⟨fun s' hT hB hV hI a w hgd KK QQ hk => by
    have : Region.wanted o (yielded ops a.tmps) = true := by simp [Region.wanted, hg]
    rw [if_pos this]
    exact (h s' hT hB hV).run a w hgd KK QQ (by simpa [Eff.app, hd, St.setB] using hk)⟩
/-- an operation whose guard says yes -/
theorem OpLoc.on {o : Oper} {rb : List Nat} {e : Eff} {j g : Nat} {b c : Bool} {oj : Oper} (hg : o.guard = some (j, c)) (ho : ops[j]? = some oj) (hd : oj.dst = some g) (hs : s.t g = some (.val (.bool b))) (hb : b = c) (h : OpLoc P B ops ⟨o.dst, o.op, o.type, o.pos, o.after, none⟩ s rb e) : OpLoc P B ops o s rb e :=
  ⟨fun s' hT hB hV hI a w hgd KK QQ hk => by
    have hT' : ∀ t ∈ tmpsOf ops ⟨o.dst, o.op, o.type, o.pos, o.after, none⟩, s'.t t = s.t t := fun t ht => hT t (by
      simp only [tmpsOf, List.mem_append] at ht ⊢
      rcases ht with ht | ht
      · exact .inl ht
      · cases ht)
    have h1 := h.run s' hT' hB hV hI a w hgd KK QQ hk
    rw [if_pos (by simp [Region.wanted])] at h1
    have hs' : s'.t g = some (.val (.bool b)) := by
      rw [hT g (by simp [tmpsOf, hg, ho, hd])]; exact hs
    have : Region.wanted o (yielded ops a.tmps) = true := by simp [Region.wanted, hg, yielded_of hgd ho hd hs', hb]
    rw [if_pos this]
    exact h1⟩
/-- an operation whose guard says no -/
theorem OpLoc.off {o : Oper} {j g : Nat} {b c : Bool} {oj : Oper} (hg : o.guard = some (j, c)) (ho : ops[j]? = some oj) (hd : oj.dst = some g) (hs : s.t g = some (.val (.bool b))) (hb : b = !c) (hdst : o.dst = some d) (hN : Nat.blt d B.N = true) : OpLoc P B ops o s [] ⟨.off, none⟩ :=
  ⟨fun s' hT hB hV hI a w hgd KK QQ hk => by
    have hs' : s'.t g = some (.val (.bool b)) := by
      rw [hT g (by simp [tmpsOf, hg, ho, hd])]; exact hs
    have : Region.wanted o (yielded ops a.tmps) = false := by simp [Region.wanted, hg, yielded_of hgd ho hd hs', hb]
    rw [if_neg (by simp [this]), hdst]
    exact hk _ _ (by simpa [Eff.app, hdst, St.setT] using hgd.putOff hN)⟩
/-- an operation whose guard looks at one that was not asked for -/
theorem OpLoc.offU {o : Oper} {j g : Nat} {c : Bool} {oj : Oper} (hg : o.guard = some (j, c)) (ho : ops[j]? = some oj) (hd : oj.dst = some g) (hs : s.t g = some .off) (hdst : o.dst = some d) (hN : Nat.blt d B.N = true) : OpLoc P B ops o s [] ⟨.off, none⟩ :=
  ⟨fun s' hT hB hV hI a w hgd KK QQ hk => by
    have hs' : s'.t g = some .off := by
      rw [hT g (by simp [tmpsOf, hg, ho, hd])]; exact hs
    have : Region.wanted o (yielded ops a.tmps) = false := by simp [Region.wanted, hg, yielded_off hgd ho hd hs']
    rw [if_neg (by simp [this]), hdst]
    exact hk _ _ (by simpa [Eff.app, hdst, St.setT] using hgd.putOff hN)⟩

theorem ol_move {x : Operand} {td : TD} (hx : Rd s x td) (hN : Nat.blt d B.N = true) : OpLoc P B ops ⟨some d, .move x, ty, pos, af, none⟩ s [] ⟨td, none⟩ :=
  .pure rfl rfl fun s' gT gB => op_move (hx.ag (ag_of gT (x := x) (by simp [Op.operands, Call.operands]))) hN
theorem ol_assign {x : Operand} {td : TD} (hx : Rd s x td) (hN : Nat.blt d B.N = true) : OpLoc P B ops ⟨some d, .assign x, ty, pos, af, none⟩ s [] ⟨td, none⟩ :=
  .pure rfl rfl fun s' gT gB => op_assign (hx.ag (ag_of gT (x := x) (by simp [Op.operands, Call.operands]))) hN
theorem ol_pick {c x y : Operand} {b : Bool} {td : TD} (hc : Rd s c (.val (.bool b))) (h : (b = true ∧ Rd s x td) ∨ (b = false ∧ Rd s y td)) (hN : Nat.blt d B.N = true) : OpLoc P B ops ⟨some d, .pick c x y, ty, pos, af, none⟩ s [] ⟨td, none⟩ :=
  .pure rfl rfl fun s' gT gB => op_pick (hc.ag (ag_of gT (x := c) (by simp [Op.operands, Call.operands]))) (h.imp (fun h => ⟨h.1, h.2.ag (ag_of gT (x := x) (by simp [Op.operands]))⟩) (fun h => ⟨h.1, h.2.ag (ag_of gT (x := y) (by simp [Op.operands]))⟩)) hN
theorem ol_add {T T' : TypeId} {x y : Operand} {k : IntKind} {m n r : Int} (hx : Rd s x (.val (.int k m))) (hy : Rd s y (.val (.int k n))) (hr : k.wrap (m + n) = r) (hN : Nat.blt d B.N = true) : OpLoc P B ops ⟨some d, .binOp .add T x y T', ty, pos, af, none⟩ s [] ⟨.val (.int k r), none⟩ :=
  .pure rfl rfl fun s' gT gB => op_add (hx.ag (ag_of gT (x := x) (by simp [Op.operands, Call.operands]))) (hy.ag (ag_of gT (x := y) (by simp [Op.operands, Call.operands]))) hr hN
theorem ol_sub {T T' : TypeId} {x y : Operand} {k : IntKind} {m n r : Int} (hx : Rd s x (.val (.int k m))) (hy : Rd s y (.val (.int k n))) (hr : k.wrap (m - n) = r) (hN : Nat.blt d B.N = true) : OpLoc P B ops ⟨some d, .binOp .sub T x y T', ty, pos, af, none⟩ s [] ⟨.val (.int k r), none⟩ :=
  .pure rfl rfl fun s' gT gB => op_sub (hx.ag (ag_of gT (x := x) (by simp [Op.operands, Call.operands]))) (hy.ag (ag_of gT (x := y) (by simp [Op.operands, Call.operands]))) hr hN
theorem ol_mul {T T' : TypeId} {x y : Operand} {k : IntKind} {m n r : Int} (hx : Rd s x (.val (.int k m))) (hy : Rd s y (.val (.int k n))) (hr : k.wrap (m * n) = r) (hN : Nat.blt d B.N = true) : OpLoc P B ops ⟨some d, .binOp .mul T x y T', ty, pos, af, none⟩ s [] ⟨.val (.int k r), none⟩ :=
  .pure rfl rfl fun s' gT gB => op_mul (hx.ag (ag_of gT (x := x) (by simp [Op.operands, Call.operands]))) (hy.ag (ag_of gT (x := y) (by simp [Op.operands, Call.operands]))) hr hN
theorem ol_quo {T T' : TypeId} {x y : Operand} {k : IntKind} {m n : Int} (hx : Rd s x (.val (.int k m))) (hy : Rd s y (.val (.int k n))) (h0 : 0 < n) (hm : 0 ≤ m) (hN : Nat.blt d B.N = true) : OpLoc P B ops ⟨some d, .binOp .quo T x y T', ty, pos, af, none⟩ s [] ⟨.val (.int k (m / n)), none⟩ :=
  .pure rfl rfl fun s' gT gB => op_quo (hx.ag (ag_of gT (x := x) (by simp [Op.operands, Call.operands]))) (hy.ag (ag_of gT (x := y) (by simp [Op.operands, Call.operands]))) h0 hm hN
theorem ol_rem {T T' : TypeId} {x y : Operand} {k : IntKind} {m n : Int} (hx : Rd s x (.val (.int k m))) (hy : Rd s y (.val (.int k n))) (h0 : 0 < n) (hm : 0 ≤ m) (hN : Nat.blt d B.N = true) : OpLoc P B ops ⟨some d, .binOp .rem T x y T', ty, pos, af, none⟩ s [] ⟨.val (.int k (m % n)), none⟩ :=
  .pure rfl rfl fun s' gT gB => op_rem (hx.ag (ag_of gT (x := x) (by simp [Op.operands, Call.operands]))) (hy.ag (ag_of gT (x := y) (by simp [Op.operands, Call.operands]))) h0 hm hN
theorem ol_shl {T T' : TypeId} {x y : Operand} {k k' : IntKind} {m n r : Int} {c : Nat} (hx : Rd s x (.val (.int k m))) (hy : Rd s y (.val (.int k' n))) (h0 : 0 ≤ n) (hc : min n.toNat k.bits = c) (hr : k.wrap (m * 2 ^ c) = r) (hN : Nat.blt d B.N = true) : OpLoc P B ops ⟨some d, .binOp .shl T x y T', ty, pos, af, none⟩ s [] ⟨.val (.int k r), none⟩ :=
  .pure rfl rfl fun s' gT gB => op_shl (hx.ag (ag_of gT (x := x) (by simp [Op.operands, Call.operands]))) (hy.ag (ag_of gT (x := y) (by simp [Op.operands, Call.operands]))) h0 hc hr hN
theorem ol_shr {T T' : TypeId} {x y : Operand} {k k' : IntKind} {m n r : Int} {c : Nat} (hx : Rd s x (.val (.int k m))) (hy : Rd s y (.val (.int k' n))) (h0 : 0 ≤ n) (hm : 0 ≤ m) (hc : min n.toNat k.bits = c) (hr : m / 2 ^ c = r) (hN : Nat.blt d B.N = true) : OpLoc P B ops ⟨some d, .binOp .shr T x y T', ty, pos, af, none⟩ s [] ⟨.val (.int k r), none⟩ :=
  .pure rfl rfl fun s' gT gB => op_shr (hx.ag (ag_of gT (x := x) (by simp [Op.operands, Call.operands]))) (hy.ag (ag_of gT (x := y) (by simp [Op.operands, Call.operands]))) h0 hm hc hr hN
theorem ol_bits {op : BinOp} {T T' : TypeId} {x y : Operand} {k : IntKind} {m n r : Int} (hop : op = .and ∨ op = .or) (hx : Rd s x (.val (.int k m))) (hy : Rd s y (.val (.int k n))) (hr : bitsOf op k m n = r) (hN : Nat.blt d B.N = true) : OpLoc P B ops ⟨some d, .binOp op T x y T', ty, pos, af, none⟩ s [] ⟨.val (.int k r), none⟩ :=
  .pure rfl rfl fun s' gT gB => op_bits hop (hx.ag (ag_of gT (x := x) (by simp [Op.operands, Call.operands]))) (hy.ag (ag_of gT (x := y) (by simp [Op.operands, Call.operands]))) hr hN
theorem ol_cmp {op : BinOp} {T T' : TypeId} {x y : Operand} {k : IntKind} {m n : Int} {b : Bool} (hop : isCmp op = true) (hx : Rd s x (.val (.int k m))) (hy : Rd s y (.val (.int k n))) (hb : cmpOf op m n = b) (hN : Nat.blt d B.N = true) : OpLoc P B ops ⟨some d, .binOp op T x y T', ty, pos, af, none⟩ s [] ⟨.val (.bool b), none⟩ :=
  .pure rfl rfl fun s' gT gB => op_cmp hop (hx.ag (ag_of gT (x := x) (by simp [Op.operands, Call.operands]))) (hy.ag (ag_of gT (x := y) (by simp [Op.operands, Call.operands]))) hb hN
theorem ol_not {T : TypeId} {x : Operand} {b : Bool} (hx : Rd s x (.val (.bool b))) (hN : Nat.blt d B.N = true) : OpLoc P B ops ⟨some d, .unOp .not T x, ty, pos, af, none⟩ s [] ⟨.val (.bool (!b)), none⟩ :=
  .pure rfl rfl fun s' gT gB => op_not (hx.ag (ag_of gT (x := x) (by simp [Op.operands, Call.operands]))) hN
theorem ol_neg {T : TypeId} {x : Operand} {k : IntKind} {n r : Int} (hx : Rd s x (.val (.int k n))) (hr : k.wrap (-n) = r) (hN : Nat.blt d B.N = true) : OpLoc P B ops ⟨some d, .unOp .neg T x, ty, pos, af, none⟩ s [] ⟨.val (.int k r), none⟩ :=
  .pure rfl rfl fun s' gT gB => op_neg (hx.ag (ag_of gT (x := x) (by simp [Op.operands, Call.operands]))) hr hN
theorem ol_eqb {T T' : TypeId} {x y : Operand} {b c : Bool} {i : TI} (hT : get τ.tab T = some i) (hk : i.k = .bool) (hx : Rd s x (.val (.bool b))) (hy : Rd s y (.val (.bool c))) (hN : Nat.blt d B.N = true) : OpLoc P B ops ⟨some d, .binOp .eql T x y T', ty, pos, af, none⟩ s [] ⟨.val (.bool (b == c)), none⟩ :=
  .pure rfl rfl fun s' gT gB => op_eqb (τ := τ) hT hk (hx.ag (ag_of gT (x := x) (by simp [Op.operands, Call.operands]))) (hy.ag (ag_of gT (x := y) (by simp [Op.operands, Call.operands]))) hN
theorem ol_neb {T T' : TypeId} {x y : Operand} {b c : Bool} {i : TI} (hT : get τ.tab T = some i) (hk : i.k = .bool) (hx : Rd s x (.val (.bool b))) (hy : Rd s y (.val (.bool c))) (hN : Nat.blt d B.N = true) : OpLoc P B ops ⟨some d, .binOp .neq T x y T', ty, pos, af, none⟩ s [] ⟨.val (.bool (!(b == c))), none⟩ :=
  .pure rfl rfl fun s' gT gB => op_neb (τ := τ) hT hk (hx.ag (ag_of gT (x := x) (by simp [Op.operands, Call.operands]))) (hy.ag (ag_of gT (x := y) (by simp [Op.operands, Call.operands]))) hN
theorem ol_conv {T T' : TypeId} {x : Operand} {k k' : IntKind} {n r : Int} {i j : TI} (hT : get τ.tab T = some i) (hk : i.k = .int k) (hT' : get τ.tab T' = some j) (hk' : j.k = .int k') (hx : Rd s x (.val (.int k n))) (hr : k'.wrap n = r) (hN : Nat.blt d B.N = true) : OpLoc P B ops ⟨some d, .convert T T' x, ty, pos, af, none⟩ s [] ⟨.val (.int k' r), none⟩ :=
  .pure rfl rfl fun s' gT gB => op_conv (τ := τ) hT hk hT' hk' (hx.ag (ag_of gT (x := x) (by simp [Op.operands, Call.operands]))) hr hN
theorem ol_convs {T T' : TypeId} {x : Operand} {l : List UInt8} {i j : TI} (hT : get τ.tab T = some i) (hk : i.k = .str) (hT' : get τ.tab T' = some j) (hk' : j.k = .str) (hx : Rd s x (.val (.str l))) (hN : Nat.blt d B.N = true) : OpLoc P B ops ⟨some d, .convert T T' x, ty, pos, af, none⟩ s [] ⟨.val (.str l), none⟩ :=
  .pure rfl rfl fun s' gT gB => op_convs (τ := τ) hT hk hT' hk' (hx.ag (ag_of gT (x := x) (by simp [Op.operands, Call.operands]))) hN
theorem ol_cmps {op : BinOp} {T T' : TypeId} {x y : Operand} {m n : List UInt8} {b : Bool} (hop : isCmp op = true) (hx : Rd s x (.val (.str m))) (hy : Rd s y (.val (.str n))) (hb : cmpStr op m n = b) (hN : Nat.blt d B.N = true) : OpLoc P B ops ⟨some d, .binOp op T x y T', ty, pos, af, none⟩ s [] ⟨.val (.bool b), none⟩ :=
  .pure rfl rfl fun s' gT gB => op_cmps hop (hx.ag (ag_of gT (x := x) (by simp [Op.operands, Call.operands]))) (hy.ag (ag_of gT (x := y) (by simp [Op.operands, Call.operands]))) hb hN
theorem ol_cat {T T' : TypeId} {x y : Operand} {m n : List UInt8} (hx : Rd s x (.val (.str m))) (hy : Rd s y (.val (.str n))) (hl : m.length + n.length ≤ maxLen) (hN : Nat.blt d B.N = true) : OpLoc P B ops ⟨some d, .binOp .add T x y T', ty, pos, af, none⟩ s [] ⟨.val (.str (m ++ n)), none⟩ :=
  .pure rfl rfl fun s' gT gB => op_cat (hx.ag (ag_of gT (x := x) (by simp [Op.operands, Call.operands]))) (hy.ag (ag_of gT (x := y) (by simp [Op.operands, Call.operands]))) hl hN
theorem ol_extract {x : Operand} {n : Nat} {ds : List D} {e : D} (hx : Rd s x (.val (.tup ds))) (he : ds[n]? = some e) (hN : Nat.blt d B.N = true) : OpLoc P B ops ⟨some d, .extract x n, ty, pos, af, none⟩ s [] ⟨.val e, none⟩ :=
  .pure rfl rfl fun s' gT gB => op_extract (hx.ag (ag_of gT (x := x) (by simp [Op.operands, Call.operands]))) he hN
theorem ol_len {T : TypeId} {x : Operand} {td : TD} {n : Int} {i : TI} {ty : TypeId} (hT : get τ.tab T = some i) (hx : Rd s x td) (h : (∃ e k l, i.k = .slice e ∧ td = .val (.ints k l) ∧ n = (l.length : Int)) ∨ (∃ e z l, i.k = .slice e ∧ td = .val (.sl z l) ∧ n = (l.length : Int)) ∨ (∃ e k off len cap, i.k = .slice e ∧ td = .sb k off len cap ∧ n = (len : Int)) ∨ (∃ e k T z l, i.k = .slice e ∧ td = .vec k T z l ∧ n = (l.length : Int)) ∨ (∃ l, i.k = .str ∧ td = .val (.str l) ∧ n = (l.length : Int))) (hN : Nat.blt d B.N = true) : OpLoc P B ops ⟨some d, .call ⟨.builtin .len, #[x], #[T]⟩, ty, pos, af, none⟩ s [] ⟨.val (.int .i64 n), none⟩ :=
  .pure rfl rfl fun s' gT gB => op_len (τ := τ) hT (hx.ag (ag_of gT (x := x) (by simp [Op.operands, Call.operands]))) h hN
theorem ol_max {x y : Operand} {ats : Array TypeId} {k : IntKind} {m n r : Int} (hx : Rd s x (.val (.int k m))) (hy : Rd s y (.val (.int k n))) (hr : max m n = r) (hN : Nat.blt d B.N = true) : OpLoc P B ops ⟨some d, .call ⟨.builtin .max, #[x, y], ats⟩, ty, pos, af, none⟩ s [] ⟨.val (.int k r), none⟩ :=
  .pure rfl rfl fun s' gT gB => op_max (hx.ag (ag_of gT (x := x) (by simp [Op.operands, Call.operands]))) (hy.ag (ag_of gT (x := y) (by simp [Op.operands, Call.operands]))) hr hN
theorem ol_min {x y : Operand} {ats : Array TypeId} {k : IntKind} {m n r : Int} (hx : Rd s x (.val (.int k m))) (hy : Rd s y (.val (.int k n))) (hr : min m n = r) (hN : Nat.blt d B.N = true) : OpLoc P B ops ⟨some d, .call ⟨.builtin .min, #[x, y], ats⟩, ty, pos, af, none⟩ s [] ⟨.val (.int k r), none⟩ :=
  .pure rfl rfl fun s' gT gB => op_min (hx.ag (ag_of gT (x := x) (by simp [Op.operands, Call.operands]))) (hy.ag (ag_of gT (x := y) (by simp [Op.operands, Call.operands]))) hr hN
theorem ol_lenI {T : TypeId} {x : Operand} {i : TI} {e : Nat} {k : IntKind} {l : List Int} (hT : get τ.tab T = some i) (hk : i.k = .slice e) (hx : Rd s x (.val (.ints k l))) (hN : Nat.blt d B.N = true) : OpLoc P B ops ⟨some d, .call ⟨.builtin .len, #[x], #[T]⟩, ty, pos, af, none⟩ s [] ⟨.val (.int .i64 l.length), none⟩ :=
  .pure rfl rfl fun s' gT gB => op_lenI (τ := τ) hT hk (hx.ag (ag_of gT (x := x) (by simp [Op.operands, Call.operands]))) hN
theorem ol_lenS {T : TypeId} {x : Operand} {i : TI} {e z : Nat} {l : List (List D)} (hT : get τ.tab T = some i) (hk : i.k = .slice e) (hx : Rd s x (.val (.sl z l))) (hN : Nat.blt d B.N = true) : OpLoc P B ops ⟨some d, .call ⟨.builtin .len, #[x], #[T]⟩, ty, pos, af, none⟩ s [] ⟨.val (.int .i64 l.length), none⟩ :=
  .pure rfl rfl fun s' gT gB => op_lenS (τ := τ) hT hk (hx.ag (ag_of gT (x := x) (by simp [Op.operands, Call.operands]))) hN
theorem ol_lenB {T : TypeId} {x : Operand} {i : TI} {e k off len cap : Nat} (hT : get τ.tab T = some i) (hk : i.k = .slice e) (hx : Rd s x (.sb k off len cap)) (hN : Nat.blt d B.N = true) : OpLoc P B ops ⟨some d, .call ⟨.builtin .len, #[x], #[T]⟩, ty, pos, af, none⟩ s [] ⟨.val (.int .i64 len), none⟩ :=
  .pure rfl rfl fun s' gT gB => op_lenB (τ := τ) hT hk (hx.ag (ag_of gT (x := x) (by simp [Op.operands, Call.operands]))) hN
theorem ol_lenV {T T' : TypeId} {x : Operand} {i : TI} {e k z : Nat} {l : List (List D)} (hT : get τ.tab T = some i) (hk : i.k = .slice e) (hx : Rd s x (.vec k T' z l)) (hN : Nat.blt d B.N = true) : OpLoc P B ops ⟨some d, .call ⟨.builtin .len, #[x], #[T]⟩, ty, pos, af, none⟩ s [] ⟨.val (.int .i64 l.length), none⟩ :=
  .pure rfl rfl fun s' gT gB => op_lenV (τ := τ) hT hk (hx.ag (ag_of gT (x := x) (by simp [Op.operands, Call.operands]))) hN
theorem ol_lenStr {T : TypeId} {x : Operand} {i : TI} {l : List UInt8} (hT : get τ.tab T = some i) (hk : i.k = .str) (hx : Rd s x (.val (.str l))) (hN : Nat.blt d B.N = true) : OpLoc P B ops ⟨some d, .call ⟨.builtin .len, #[x], #[T]⟩, ty, pos, af, none⟩ s [] ⟨.val (.int .i64 l.length), none⟩ :=
  .pure rfl rfl fun s' gT gB => op_lenStr (τ := τ) hT hk (hx.ag (ag_of gT (x := x) (by simp [Op.operands, Call.operands]))) hN
theorem ol_loadA {T : TypeId} {x : Operand} {k off : Nat} {b : Bx} {i : TI} (hT : get τ.tab T = some i) (hk : i.k.isAgg = some true) (hx : Rd s x (.pb k off)) (hb : s.b k = some b) (hle : Nat.ble (off + i.size) b.ds.length = true) (hN : Nat.blt d B.N = true) : OpLoc P B ops ⟨some d, .load T x, ty, pos, af, none⟩ s [k] ⟨.val (.agg ((b.ds.drop off).take i.size)), none⟩ :=
  .pure rfl rfl fun s' gT gB => op_loadA (τ := τ) hT hk (hx.ag (ag_of gT (x := x) (by simp [Op.operands, Call.operands]))) ((gB k (by simp)).trans hb) hle hN
theorem ol_load1 {T : TypeId} {x : Operand} {k off : Nat} {b : Bx} {i : TI} {e : D} (hT : get τ.tab T = some i) (hk : i.k.isAgg = some false) (hx : Rd s x (.pb k off)) (hb : s.b k = some b) (he : b.ds[off]? = some e) (hN : Nat.blt d B.N = true) : OpLoc P B ops ⟨some d, .load T x, ty, pos, af, none⟩ s [k] ⟨.val e, none⟩ :=
  .pure rfl rfl fun s' gT gB => op_load1 (τ := τ) hT hk (hx.ag (ag_of gT (x := x) (by simp [Op.operands, Call.operands]))) ((gB k (by simp)).trans hb) he hN
theorem ol_loadRow {T T' : TypeId} {x : Operand} {k off : Nat} {kk : IntKind} {l : List Int} {i : TI} {n : Int} (hT : get τ.tab T = some i) (hk : i.k.isAgg = some false) (hx : Rd s x (.pb k off)) (hb : s.b k = some (.row T' kk l)) (he : l[off]? = some n) (hN : Nat.blt d B.N = true) : OpLoc P B ops ⟨some d, .load T x, ty, pos, af, none⟩ s [k] ⟨.val (.int kk n), none⟩ :=
  .pure rfl rfl fun s' gT gB => op_loadRow (τ := τ) hT hk (hx.ag (ag_of gT (x := x) (by simp [Op.operands, Call.operands]))) ((gB k (by simp)).trans hb) he hN
theorem ol_loadRA {T : TypeId} {x : Operand} {i : TI} {ds : List D} (hT : get τ.tab T = some i) (hk : i.k.isAgg = some true) (hx : Rd s x (.val (.ref ds))) (hn : i.size = ds.length) (hN : Nat.blt d B.N = true) : OpLoc P B ops ⟨some d, .load T x, ty, pos, af, none⟩ s [] ⟨.val (.agg ds), none⟩ :=
  .pure rfl rfl fun s' gT gB => op_loadRA (τ := τ) hT hk (hx.ag (ag_of gT (x := x) (by simp [Op.operands, Call.operands]))) hn hN
theorem ol_loadR1 {T : TypeId} {x : Operand} {i : TI} {e : D} (hT : get τ.tab T = some i) (hk : i.k.isAgg = some false) (hx : Rd s x (.val (.ref [e]))) (hN : Nat.blt d B.N = true) : OpLoc P B ops ⟨some d, .load T x, ty, pos, af, none⟩ s [] ⟨.val e, none⟩ :=
  .pure rfl rfl fun s' gT gB => op_loadR1 (τ := τ) hT hk (hx.ag (ag_of gT (x := x) (by simp [Op.operands, Call.operands]))) hN
theorem ol_storeC {T T' : TypeId} {ax xx : Operand} {k off : Nat} {ds : List D} {i : TI} {e : D} (hT : get τ.tab T = some i) (hx : Rd s ax (.pb k off)) (hv : Rd s xx (.val e)) (hb : s.b k = some (.cells T' ds)) (hn : i.size = e.cells.length) (hle : Nat.ble (off + e.cells.length) ds.length = true) (hf : flat1 e.cells = true) (hnv : noVec k s.tm = true) : OpLoc P B ops ⟨none, .store T ax xx, ty, pos, af, none⟩ s [k] ⟨.un, some (k, .cells T' (ds.take off ++ e.cells ++ ds.drop (off + e.cells.length)))⟩ :=
  .store rfl rfl fun s' gT gB gV => op_storeC (τ := τ) hT (hx.ag (ag_of gT (x := ax) (by simp [Op.operands, Call.operands]))) (hv.ag (ag_of gT (x := xx) (by simp [Op.operands, Call.operands]))) ((gB k (by simp)).trans hb) hn hle hf (gV _ hnv)
theorem ol_storeRow {T T' : TypeId} {ax xx : Operand} {k off : Nat} {kk : IntKind} {l : List Int} {i : TI} {n : Int} (hT : get τ.tab T = some i) (hn : i.size = 1) (hx : Rd s ax (.pb k off)) (hv : Rd s xx (.val (.int kk n))) (hb : s.b k = some (.row T' kk l)) (hle : off < l.length) (hnv : noVec k s.tm = true) : OpLoc P B ops ⟨none, .store T ax xx, ty, pos, af, none⟩ s [k] ⟨.un, some (k, .row T' kk (l.set off n))⟩ :=
  .store rfl rfl fun s' gT gB gV => op_storeRow (τ := τ) hT hn (hx.ag (ag_of gT (x := ax) (by simp [Op.operands, Call.operands]))) (hv.ag (ag_of gT (x := xx) (by simp [Op.operands, Call.operands]))) ((gB k (by simp)).trans hb) hle (gV _ hnv)
theorem ol_fieldAddr {T f fo ft : Nat} {x : Operand} {k off : Nat} {i j : TI} {fs : List (Nat × Nat)} (hT : get τ.tab T = some i) (hk : i.k = .struct fs) (hf : fs[f]? = some (fo, ft)) (hj : get τ.tab ft = some j) (hz : Nat.blt 0 j.size = true) (hx : Rd s x (.pb k off)) (hN : Nat.blt d B.N = true) : OpLoc P B ops ⟨some d, .fieldAddr T x f, ty, pos, af, none⟩ s [] ⟨.pb k (off + fo), none⟩ :=
  .pure rfl rfl fun s' gT gB => op_fieldAddr (τ := τ) hT hk hf hj hz (hx.ag (ag_of gT (x := x) (by simp [Op.operands, Call.operands]))) hN
theorem ol_fieldAddrR {T f fo ft : Nat} {x : Operand} {ds : List D} {i j : TI} {fs : List (Nat × Nat)} (hT : get τ.tab T = some i) (hk : i.k = .struct fs) (hf : fs[f]? = some (fo, ft)) (hj : get τ.tab ft = some j) (hz : Nat.blt 0 j.size = true) (hx : Rd s x (.val (.ref ds))) (hN : Nat.blt d B.N = true) : OpLoc P B ops ⟨some d, .fieldAddr T x f, ty, pos, af, none⟩ s [] ⟨.val (.ref ((ds.drop fo).take j.size)), none⟩ :=
  .pure rfl rfl fun s' gT gB => op_fieldAddrR (τ := τ) hT hk hf hj hz (hx.ag (ag_of gT (x := x) (by simp [Op.operands, Call.operands]))) hN
theorem ol_fieldA {T f fo ft : Nat} {x : Operand} {ds : List D} {i j : TI} {fs : List (Nat × Nat)} (hT : get τ.tab T = some i) (hk : i.k = .struct fs) (hf : fs[f]? = some (fo, ft)) (hj : get τ.tab ft = some j) (hg : j.k.isAgg = some true) (hx : Rd s x (.val (.agg ds))) (hle : Nat.ble (fo + j.size) ds.length = true) (hN : Nat.blt d B.N = true) : OpLoc P B ops ⟨some d, .field T x f, ty, pos, af, none⟩ s [] ⟨.val (.agg ((ds.drop fo).take j.size)), none⟩ :=
  .pure rfl rfl fun s' gT gB => op_fieldA (τ := τ) hT hk hf hj hg (hx.ag (ag_of gT (x := x) (by simp [Op.operands, Call.operands]))) hle hN
theorem ol_field1 {T f fo ft : Nat} {x : Operand} {ds : List D} {i j : TI} {fs : List (Nat × Nat)} {e : D} (hT : get τ.tab T = some i) (hk : i.k = .struct fs) (hf : fs[f]? = some (fo, ft)) (hj : get τ.tab ft = some j) (hg : j.k.isAgg = some false) (hx : Rd s x (.val (.agg ds))) (he : ds[fo]? = some e) (hN : Nat.blt d B.N = true) : OpLoc P B ops ⟨some d, .field T x f, ty, pos, af, none⟩ s [] ⟨.val e, none⟩ :=
  .pure rfl rfl fun s' gT gB => op_field1 (τ := τ) hT hk hf hj hg (hx.ag (ag_of gT (x := x) (by simp [Op.operands, Call.operands]))) he hN
theorem ol_iaI {T e : Nat} {x y : Operand} {k kk : IntKind} {l : List Int} {m r : Int} {i j : TI} (hT : get τ.tab T = some i) (hk : i.k = .slice e) (he : get τ.tab e = some j) (hz : j.size = 1) (hx : Rd s x (.val (.ints k l))) (hy : Rd s y (.val (.int kk m))) (h0 : 0 ≤ m) (hr : l[m.toNat]? = some r) (hN : Nat.blt d B.N = true) : OpLoc P B ops ⟨some d, .indexAddr T x y, ty, pos, af, none⟩ s [] ⟨.val (.ref [.int k r]), none⟩ :=
  .pure rfl rfl fun s' gT gB => op_iaI (τ := τ) hT hk he hz (hx.ag (ag_of gT (x := x) (by simp [Op.operands, Call.operands]))) (hy.ag (ag_of gT (x := y) (by simp [Op.operands, Call.operands]))) h0 hr hN
theorem ol_iaS {T e z : Nat} {x y : Operand} {kk : IntKind} {l : List (List D)} {m : Int} {r : List D} {i j : TI} (hT : get τ.tab T = some i) (hk : i.k = .slice e) (he : get τ.tab e = some j) (hz : j.size = z) (hx : Rd s x (.val (.sl z l))) (hy : Rd s y (.val (.int kk m))) (h0 : 0 ≤ m) (hr : l[m.toNat]? = some r) (hN : Nat.blt d B.N = true) : OpLoc P B ops ⟨some d, .indexAddr T x y, ty, pos, af, none⟩ s [] ⟨.val (.ref r), none⟩ :=
  .pure rfl rfl fun s' gT gB => op_iaS (τ := τ) hT hk he hz (hx.ag (ag_of gT (x := x) (by simp [Op.operands, Call.operands]))) (hy.ag (ag_of gT (x := y) (by simp [Op.operands, Call.operands]))) h0 hr hN
theorem ol_iaB {T e : Nat} {x y : Operand} {kk : IntKind} {k off len cap : Nat} {m : Int} {i j : TI} (hT : get τ.tab T = some i) (hk : i.k = .slice e) (he : get τ.tab e = some j) (hz : j.size = 1) (hx : Rd s x (.sb k off len cap)) (hy : Rd s y (.val (.int kk m))) (h0 : 0 ≤ m) (hr : m < (len : Int)) (hN : Nat.blt d B.N = true) : OpLoc P B ops ⟨some d, .indexAddr T x y, ty, pos, af, none⟩ s [] ⟨.pb k (off + m.toNat), none⟩ :=
  .pure rfl rfl fun s' gT gB => op_iaB (τ := τ) hT hk he hz (hx.ag (ag_of gT (x := x) (by simp [Op.operands, Call.operands]))) (hy.ag (ag_of gT (x := y) (by simp [Op.operands, Call.operands]))) h0 hr hN
theorem ol_index {T : Nat} {x y : Operand} {kk : IntKind} {l : List UInt8} {m : Int} {c : UInt8} {i : TI} (hT : get τ.tab T = some i) (hk : i.k = .str) (hx : Rd s x (.val (.str l))) (hy : Rd s y (.val (.int kk m))) (h0 : 0 ≤ m) (hr : l[m.toNat]? = some c) (hN : Nat.blt d B.N = true) : OpLoc P B ops ⟨some d, .index T x y, ty, pos, af, none⟩ s [] ⟨.val (.int .u8 (c.toNat : Int)), none⟩ :=
  .pure rfl rfl fun s' gT gB => op_index (τ := τ) hT hk (hx.ag (ag_of gT (x := x) (by simp [Op.operands, Call.operands]))) (hy.ag (ag_of gT (x := y) (by simp [Op.operands, Call.operands]))) h0 hr hN
theorem ol_sliceI {T e : Nat} {x : Operand} {lo hi' : Option Operand} {k : IntKind} {l : List Int} {m n : Nat} {i j : TI} (hT : get τ.tab T = some i) (hk : i.k = .slice e) (he : get τ.tab e = some j) (hz : j.size = 1) (hx : Rd s x (.val (.ints k l))) (hl : Bd s lo 0 m) (hh : Bd s hi' l.length n) (h1 : m ≤ n) (h2 : n ≤ l.length) (hN : Nat.blt d B.N = true) : OpLoc P B ops ⟨some d, .slice T x lo hi' none, ty, pos, af, none⟩ s [] ⟨.val (.ints k ((l.take n).drop m)), none⟩ :=
  .pure rfl rfl fun s' gT gB => op_sliceI (τ := τ) hT hk he hz (hx.ag (ag_of gT (x := x) (by simp [Op.operands, Call.operands]))) (hl.ag (fun t e => gT t (by simp [tmpsOf, Op.operands, e]))) (hh.ag (fun t e => gT t (by simp [tmpsOf, Op.operands, e]))) h1 h2 hN
theorem ol_sliceB {T e : Nat} {x : Operand} {lo hi' : Option Operand} {k off len cap m n : Nat} {i j : TI} (hT : get τ.tab T = some i) (hk : i.k = .slice e) (he : get τ.tab e = some j) (hz : j.size = 1) (hx : Rd s x (.sb k off len cap)) (hl : Bd s lo 0 m) (hh : Bd s hi' len n) (h1 : m ≤ n) (h2 : n ≤ cap) (h3 : m < cap) (hN : Nat.blt d B.N = true) : OpLoc P B ops ⟨some d, .slice T x lo hi' none, ty, pos, af, none⟩ s [] ⟨.sb k (off + m) (n - m) (cap - m), none⟩ :=
  .pure rfl rfl fun s' gT gB => op_sliceB (τ := τ) hT hk he hz (hx.ag (ag_of gT (x := x) (by simp [Op.operands, Call.operands]))) (hl.ag (fun t e => gT t (by simp [tmpsOf, Op.operands, e]))) (hh.ag (fun t e => gT t (by simp [tmpsOf, Op.operands, e]))) h1 h2 h3 hN
theorem ol_sliceStr {T : Nat} {x : Operand} {lo hi' : Option Operand} {l : List UInt8} {m n : Nat} {i : TI} (hT : get τ.tab T = some i) (hk : i.k = .str) (hx : Rd s x (.val (.str l))) (hl : Bd s lo 0 m) (hh : Bd s hi' l.length n) (h1 : m ≤ n) (h2 : n ≤ l.length) (hN : Nat.blt d B.N = true) : OpLoc P B ops ⟨some d, .slice T x lo hi' none, ty, pos, af, none⟩ s [] ⟨.val (.str ((l.take n).drop m)), none⟩ :=
  .pure rfl rfl fun s' gT gB => op_sliceStr (τ := τ) hT hk (hx.ag (ag_of gT (x := x) (by simp [Op.operands, Call.operands]))) (hl.ag (fun t e => gT t (by simp [tmpsOf, Op.operands, e]))) (hh.ag (fun t e => gT t (by simp [tmpsOf, Op.operands, e]))) h1 h2 hN
theorem ol_ev {f : FuncId} {args : Array Operand} {ats : Array TypeId} {ds : List D} {e : D} (hx : τ.rdAll s args.toList ats.toList = some ds) (he : Evals P f ds e) (hN : Nat.blt d B.N = true) : OpLoc P B ops ⟨some d, .call ⟨.value (.func f), args, ats⟩, ty, pos, af, none⟩ s [] ⟨.val e, none⟩ :=
  .pure rfl rfl fun s' gT gB => op_ev (τ := τ) ((rdAll_ag (fun x hx => ag_of gT (by simp [Op.operands, Call.operands]; exact .inr (by simpa using hx)))).trans hx) he hN
theorem ol_assignT {x : Operand} {td : TD} (hx : τ.rdT s ty x = some td) (hN : Nat.blt d B.N = true) : OpLoc P B ops ⟨some d, .assign x, ty, pos, af, none⟩ s [] ⟨td, none⟩ :=
  .pure rfl rfl fun s' gT gB => op_assignT (τ := τ) ((rdT_ag (ag_of gT (x := x) (by simp [Op.operands]))).trans hx) hN
theorem OpLoc.box {o : Oper} {rb : List Nat} {x : Bx} {td : TD} (hd : o.dst = some d) (hg : o.guard = none) (hid : noId d s.tm = true) (h : ∀ s' : St, (∀ t ∈ tmpsOf ops o, s'.t t = s.t t) → (∀ k ∈ rb, s'.b k = s.b k) → noId d s'.tm = true → OpDo P B o s' ((s'.setB d x).setT d td)) : OpLoc P B ops o s rb ⟨td, some (d, x)⟩ :=
  ⟨fun s' hT hB _ hI a w hgd KK QQ hk => by
    have : Region.wanted o (yielded ops a.tmps) = true := by simp [Region.wanted, hg]
    rw [if_pos this]
    exact (h s' hT hB (hI d hd hid)).run a w hgd KK QQ (by simpa [Eff.app, hd, St.setT, St.setB] using hk)⟩
theorem ol_alloc {T : TypeId} {i : TI} (hT : get τ.tab T = some i) (hid : noId d s.tm = true) (hd0 : Nat.blt 0 d = true ∨ B.ex = fun _ => False) (hN : Nat.blt d B.N = true) : OpLoc P B ops ⟨some d, .alloc T, ty, pos, af, none⟩ s [] ⟨.pb d 0, some (d, .cells T i.zero)⟩ :=
  .box rfl rfl hid fun s' gT gB gI => op_alloc hT gI hd0 hN
theorem ol_box {T : TypeId} {x : Operand} {e : D} (hx : Rd s x (.val e)) (hid : noId d s.tm = true) (hd0 : Nat.blt 0 d = true ∨ B.ex = fun _ => False) (hN : Nat.blt d B.N = true) : OpLoc P B ops ⟨some d, .box T x, ty, pos, af, none⟩ s [] ⟨.pb d 0, some (d, .cells T e.cells)⟩ :=
  .box rfl rfl hid fun s' gT gB gI => op_box (hx.ag (ag_of gT (x := x) (by simp [Op.operands]))) gI hd0 hN
end
end Go.Proofs.YtffcpgebgoineaaDoor.K
