/- A region that draws its order: whatever order its edges allow, what is known behind it is what is known behind the order of its text. -/
import Derived.Test.YtffcpgebgoineaaDoorMem
namespace Go.Proofs.YtffcpgebgoineaaDoor.K
open Go Go.RowKit
set_option linter.unusedVariables false
set_option linter.unusedSimpArgs false

/-- what an operation reads and writes of own memory, and the memory that its temporary speaks of behind it -/
abbrev RW := List Nat × Option Nat × Option Nat
/-- a temporary may hold this within a region that draws: one memory number at most, and a slice that is appended to only where another temporary speaks of it already -/
def TD.okV (x : TD) (l : List (Nat × TD)) : Bool := match x with
  | .vec k _ _ _ => !(noVec k l)
  | .psb .. => false
  | .pvec .. => false
  | .pbs .. => false
  | .clo .. => false
  | .pin .. => false
  | _ => true
theorem TD.okV_vof {x : TD} {l : List (Nat × TD)} (h : x.okV l = true) {k : Nat} (hk : noVec k l = true) : x.vof k = false := by
  cases x with
  | vec j T z m =>
    simp only [TD.okV, Bool.not_eq_true'] at h
    simp only [TD.vof]
    by_cases e : j = k
    · subst e; rw [h] at hk; cases hk
    · exact beq_false e
  | psb => cases h
  | pvec => cases h
  | pbs => cases h
  | clo => cases h
  | pin => cases h
  | _ => rfl
theorem TD.okV_has {x : TD} {l : List (Nat × TD)} (h : x.okV l = true) (k : Nat) : x.has k = false ↔ x.id ≠ some k := by
  have key : ∀ j : Nat, Nat.beq j k = false ↔ some j ≠ some k := fun j => by
    by_cases e : j = k
    · subst e; simp [Nat.beq_refl]
    · simp [beq_false e, e]
  cases x with
  | val d => simp [TD.has, TD.id]
  | un => simp [TD.has, TD.id]
  | nv n d => simp [TD.has, TD.id]
  | pb j off => exact key j
  | sb j off len cap => exact key j
  | vec j T z m => exact key j
  | _ => cases h

/-- one operation's effect: what its temporary holds behind it, and the memory of the call's own that it writes -/
structure Eff where
  td : TD
  bw : Option (Nat × Bx)

def Eff.app (e : Eff) (dst : Option Nat) (s : St) : St :=
  ⟨match dst with | some d => (d, e.td) :: s.tm | none => s.tm, match e.bw with | some p => p :: s.bx | none => s.bx⟩

/-- the temporaries that an operation looks at -/
def tmpsOf (ops : Array Oper) (o : Oper) : List Nat :=
  (o.op.operands.toList.filterMap fun | .tmp t => some t | _ => none) ++ (match o.guard with | some (j, _) => ((ops[j]?).bind (·.dst)).toList | none => [])

/-- what an operation does, out of what it looks at alone -/
structure OpLoc (P : Program) (B : Base) (ops : Array Oper) (o : Oper) (s : St) (rb : List Nat) (e : Eff) : Prop where
  run : ∀ s' : St, (∀ t ∈ tmpsOf ops o, s'.t t = s.t t) → (∀ k ∈ rb, s'.b k = s.b k) → (∀ k, noVec k s.tm = true → noVec k s'.tm = true) → (∀ k, o.dst = some k → noId k s.tm = true → noId k s'.tm = true) → OpOK P B ops o s' (e.app o.dst s')

/-- a text-order run: the reads and writes of own memory, and the effects -/
inductive Chain (P : Program) (B : Base) (ops : Array Oper) : List Oper → St → List RW → List Eff → Prop where
  | nil {s : St} : Chain P B ops [] s [] []
  | cons {o : Oper} {r : List Oper} {s : St} {rb : List Nat} {bs : List RW} {e : Eff} {es : List Eff} (h : OpLoc P B ops o s rb e) (hv : e.td.okV s.tm = true) (hr : Chain P B ops r (e.app o.dst s) bs es) :
      Chain P B ops (o :: r) s ((rb, e.bw.map (·.1), e.td.id) :: bs) (e :: es)

def finalSt : List Oper → List Eff → St → St
  | o :: r, e :: es, s => finalSt r es (e.app o.dst s)
  | _, _, s => s

/- the order's check -/
def bitAt (m i : Nat) : Bool := Nat.beq (m / 2 ^ i % 2) 1
def maskOf (acc : List Nat) (o : Oper) : Nat := o.after.toList.foldl (fun s e => if Region.binds .any e then s ||| 2 ^ e.on ||| acc.getD e.on 0 else s) 0
def masks : List Oper → List Nat → List Nat
  | [], acc => acc
  | o :: r, acc => masks r (acc ++ [maskOf acc o])

def hits (a : Option Nat) (l : List Nat) : Bool := match a with | some d => l.any (Nat.beq d) | none => false
def same (a b : Option Nat) : Bool := match a, b with | some c, some d => Nat.beq c d | _, _ => false

/-- two operations that may not change places -/
def clash (ops : Array Oper) (x y : Oper) (bx bY : RW) : Bool :=
  hits x.dst (tmpsOf ops y) || hits y.dst (tmpsOf ops x) || same x.dst y.dst || hits bx.2.1 bY.1 || hits bY.2.1 bx.1 || same bx.2.1 bY.2.1 || same x.dst bY.2.2 || same y.dst bx.2.2

/-- row i against all rows behind it -/
def rowOk (ops : Array Oper) (i : Nat) (x : Oper) (bx : RW) : List Oper → List RW → List Nat → Bool
  | y :: ys, b :: bs, m :: ms => (!clash ops x y bx b || bitAt m i) && rowOk ops i x bx ys bs ms
  | _, _, _ => true
def allOk (ops : Array Oper) : Nat → List Oper → List RW → List Nat → Bool
  | i, x :: xs, b :: bs, m :: ms => x.after.toList.all (fun e => !Region.binds .any e || Nat.blt e.on i) && rowOk ops i x b xs bs ms && allOk ops (i + 1) xs bs ms
  | _, _, _, _ => true
def drawOk (P : Program) (ops : Array Oper) (bs : List RW) : Bool := (P.follows .mixedOrders || !Region.departs ops) && allOk ops 0 ops.toList bs (masks ops.toList [])

/- the plain law of writes -/
section
variable {V : Type}
def ev (f : Nat → Option V) (W : Nat → Option (Nat × V)) (S : Nat → Bool) : Nat → Nat → Option V
  | 0, l => f l
  | n + 1, l => match S n, W n with
    | true, some p => if p.1 = l then some p.2 else ev f W S n l
    | _, _ => ev f W S n l
theorem ev_congr {f : Nat → Option V} {W : Nat → Option (Nat × V)} {S S' : Nat → Bool} {l : Nat} : ∀ n, (∀ j, j < n → ∀ v, W j = some (l, v) → S j = S' j) → ev f W S n l = ev f W S' n l := by
  intro n
  induction n with
  | zero => intro _; rfl
  | succ n ih =>
    intro h
    have ih := ih (fun j hj => h j (by omega))
    simp only [ev]
    cases hW : W n with
    | none => cases S n <;> cases S' n <;> simp [ih]
    | some p =>
      by_cases e : p.1 = l
      · have := h n (by omega) p.2 (by rw [hW, ← e])
        rw [this]
        cases S' n <;> simp [e, ih]
      · cases S n <;> cases S' n <;> simp [e, ih]
theorem ev_none {f : Nat → Option V} {W : Nat → Option (Nat × V)} {S : Nat → Bool} {l : Nat} : ∀ n, (∀ j, j < n → ∀ v, W j = some (l, v) → S j = false) → ev f W S n l = f l := by
  intro n h
  rw [ev_congr (S' := fun _ => false) n h]
  clear h
  induction n with
  | zero => rfl
  | succ n ih => simpa [ev] using ih
theorem ev_last {f : Nat → Option V} {W : Nat → Option (Nat × V)} {S : Nat → Bool} {l i : Nat} {v : V} (hS : S i = true) (hW : W i = some (l, v)) : ∀ n, i < n → (∀ j, i < j → j < n → ∀ u, W j = some (l, u) → S j = false) → ev f W S n l = some v := by
  intro n
  induction n with
  | zero => intro h; omega
  | succ n ih =>
    intro hn h
    by_cases e : i = n
    · subst e; simp [ev, hS, hW]
    · have ih := ih (by omega) (fun j h1 h2 => h j h1 (by omega))
      simp only [ev]
      cases hWn : W n with
      | none => cases S n <;> simpa using ih
      | some p =>
        by_cases e2 : p.1 = l
        · have := h n (by omega) (by omega) p.2 (by rw [hWn, ← e2])
          rw [this]; simpa using ih
        · cases S n <;> simp [e2, ih]
theorem ev_upto {f : Nat → Option V} {W : Nat → Option (Nat × V)} {l i : Nat} : ∀ n, i ≤ n → ev f W (fun j => decide (j < i)) n l = ev f W (fun _ => true) i l := by
  intro n hn
  induction n with
  | zero => have : i = 0 := by omega
            subst this; rfl
  | succ n ih =>
    by_cases e : i = n + 1
    · subst e
      exact ev_congr (n + 1) (fun j hj v _ => by simp [hj])
    · rw [← ih (by omega)]
      have : ¬ n < i := by omega
      simp [ev, this]
end

/- the text-order states -/
def stAt (l : List Oper) (es : List Eff) (s : St) (i : Nat) : St := finalSt (l.take i) (es.take i) s
def WT (l : List Oper) (es : List Eff) (i : Nat) : Option (Nat × TD) := match l[i]?, es[i]? with
  | some o, some e => o.dst.map fun d => (d, e.td)
  | _, _ => none
def WB (es : List Eff) (i : Nat) : Option (Nat × Bx) := match es[i]? with
  | some e => e.bw
  | none => none

theorem get_cons {α : Type} (k : Nat) (v : α) (l : List (Nat × α)) (n : Nat) : get ((k, v) :: l) n = if k = n then some v else get l n := by
  simp only [get]
  by_cases h : k = n
  · subst h; simp [Nat.beq_refl]
  · simp [beq_false h, h]

theorem app_t (e : Eff) (dst : Option Nat) (s : St) (n : Nat) : (e.app dst s).t n = match dst with | some d => if d = n then some e.td else s.t n | none => s.t n := by
  cases dst with
  | none => rfl
  | some d => exact get_cons d e.td s.tm n
theorem app_b (e : Eff) (dst : Option Nat) (s : St) (n : Nat) : (e.app dst s).b n = match e.bw with | some p => if p.1 = n then some p.2 else s.b n | none => s.b n := by
  unfold Eff.app St.b
  cases e.bw with
  | none => rfl
  | some p => exact get_cons p.1 p.2 s.bx n

theorem finalSt_append : ∀ (l l' : List Oper) (es es' : List Eff) (s : St), l.length = es.length → finalSt (l ++ l') (es ++ es') s = finalSt l' es' (finalSt l es s)
  | [], l', [], es', s, _ => rfl
  | o :: l, l', e :: es, es', s, h => by simp only [List.cons_append, finalSt]; exact finalSt_append l l' es es' _ (by simpa using h)

theorem stAt_succ {l : List Oper} {es : List Eff} {s : St} {i : Nat} {o : Oper} {e : Eff} (hl : l.length = es.length) (ho : l[i]? = some o) (he : es[i]? = some e) : stAt l es s (i + 1) = e.app o.dst (stAt l es s i) := by
  unfold stAt
  have hi := (List.getElem?_eq_some_iff.1 ho).1
  rw [List.take_add_one, List.take_add_one, ho, he, finalSt_append _ _ _ _ _ (by simp; omega)]
  rfl

theorem stAt_t {l : List Oper} {es : List Eff} {s : St} (hl : l.length = es.length) : ∀ i, i ≤ l.length → ∀ t, (stAt l es s i).t t = ev s.t (WT l es) (fun _ => true) i t := by
  intro i
  induction i with
  | zero => intro _ t; simp [stAt, finalSt, ev]
  | succ i ih =>
    intro hi t
    have ho := List.getElem?_eq_getElem (l := l) (i := i) (by omega)
    have he := List.getElem?_eq_getElem (l := es) (i := i) (by omega)
    rw [stAt_succ hl ho he, app_t, ih (by omega)]
    simp only [ev, WT, ho, he]
    cases l[i].dst <;> simp
theorem stAt_b {l : List Oper} {es : List Eff} {s : St} (hl : l.length = es.length) : ∀ i, i ≤ l.length → ∀ t, (stAt l es s i).b t = ev s.b (WB es) (fun _ => true) i t := by
  intro i
  induction i with
  | zero => intro _ t; simp [stAt, finalSt, ev]
  | succ i ih =>
    intro hi t
    have ho := List.getElem?_eq_getElem (l := l) (i := i) (by omega)
    have he := List.getElem?_eq_getElem (l := es) (i := i) (by omega)
    rw [stAt_succ hl ho he, app_b, ih (by omega)]
    simp only [ev, WB, he]
    cases es[i].bw <;> simp

theorem Chain.lens {P : Program} {B : Base} {ops : Array Oper} {l : List Oper} {s : St} {bs : List RW} {es : List Eff} (h : Chain P B ops l s bs es) : l.length = es.length ∧ l.length = bs.length := by
  induction h with
  | nil => exact ⟨rfl, rfl⟩
  | cons _ _ _ ih => simp [ih.1]; omega
theorem noVec_app {k : Nat} {e : Eff} {dst : Option Nat} {s : St} (hv : e.td.vof k = false) (h : noVec k s.tm = true) : noVec k (e.app dst s).tm = true := by
  unfold Eff.app
  cases dst with
  | none => exact h
  | some d =>
    simp only [noVec, Bool.and_eq_true]
    exact ⟨by rw [hv]; rfl, h⟩
theorem Chain.okV {P : Program} {B : Base} {ops : Array Oper} {l : List Oper} {s : St} {bs : List RW} {es : List Eff} (h : Chain P B ops l s bs es) {i : Nat} {e : Eff} (he : es[i]? = some e) : ∃ m, e.td.okV m = true := by
  induction h generalizing i with
  | nil => simp at he
  | cons h hv hr ih =>
    cases i with
    | zero => simp at he; subst he; exact ⟨_, hv⟩
    | succ i => exact ih (by simpa using he)
theorem Chain.vof {P : Program} {B : Base} {ops : Array Oper} {l : List Oper} {s : St} {bs : List RW} {es : List Eff} (h : Chain P B ops l s bs es) {k : Nat} (hk : noVec k s.tm = true) {i : Nat} {e : Eff} (he : es[i]? = some e) : e.td.vof k = false := by
  induction h generalizing i with
  | nil => simp at he
  | cons h hv hr ih =>
    cases i with
    | zero => simp at he; subst he; exact TD.okV_vof hv hk
    | succ i => exact ih (noVec_app (TD.okV_vof hv hk) hk) (by simpa using he)
theorem Chain.at {P : Program} {B : Base} {ops : Array Oper} {l : List Oper} {s : St} {bs : List RW} {es : List Eff} (h : Chain P B ops l s bs es) : ∀ i o, l[i]? = some o → ∃ b e, bs[i]? = some b ∧ es[i]? = some e ∧ OpLoc P B ops o (stAt l es s i) b.1 e ∧ b.2.1 = e.bw.map (·.1) ∧ b.2.2 = e.td.id := by
  induction h with
  | nil => intro i o h; simp at h
  | @cons o r s rb bs e es h hv hr ih =>
    intro i o' ho
    cases i with
    | zero => simp at ho; subst ho; exact ⟨_, _, rfl, rfl, by simpa [stAt, finalSt] using h, rfl, rfl⟩
    | succ i =>
      obtain ⟨b, e', h1, h2, h3, h4, h5⟩ := ih i o' (by simpa using ho)
      exact ⟨b, e', by simpa using h1, by simpa using h2, by simpa [stAt, finalSt] using h3, h4, h5⟩


theorem bitAt_eq (m i : Nat) : bitAt m i = m.testBit i := by
  rw [Nat.testBit_eq_decide_div_mod_eq]
  unfold bitAt
  by_cases h : m / 2 ^ i % 2 = 1
  · rw [h]; rfl
  · rw [beq_false h]; simp [h]

theorem maskOf_bit {acc : List Nat} {o : Oper} {i : Nat} (h : (maskOf acc o).testBit i = true) : ∃ e ∈ o.after.toList, Region.binds .any e = true ∧ (e.on = i ∨ (acc.getD e.on 0).testBit i = true) := by
  unfold maskOf at h
  have key : ∀ (l : List Edge) (s : Nat), (l.foldl (fun s e => if Region.binds .any e then s ||| 2 ^ e.on ||| acc.getD e.on 0 else s) s).testBit i = true → s.testBit i = true ∨ ∃ e ∈ l, Region.binds .any e = true ∧ (e.on = i ∨ (acc.getD e.on 0).testBit i = true) := by
    intro l
    induction l with
    | nil => intro s h; exact .inl h
    | cons e l ih =>
      intro s h
      simp only [List.foldl_cons] at h
      rcases ih _ h with h | ⟨e', h1, h2⟩
      · split at h
        · rename_i hb
          simp only [Nat.testBit_or, Bool.or_eq_true, Nat.testBit_two_pow, decide_eq_true_eq] at h
          rcases h with (h | h) | h
          · exact .inl h
          · exact .inr ⟨e, by simp, hb, .inl h⟩
          · exact .inr ⟨e, by simp, hb, .inr h⟩
        · exact .inl h
      · exact .inr ⟨e', by simp [h1], h2⟩
  rcases key _ _ h with h | h
  · simp at h
  · exact h

theorem masks_length : ∀ (l : List Oper) (acc : List Nat), (masks l acc).length = acc.length + l.length
  | [], acc => by simp [masks]
  | o :: r, acc => by simp only [masks]; rw [masks_length r]; simp; omega
theorem masks_acc : ∀ (l : List Oper) (acc : List Nat) (j : Nat), j < acc.length → (masks l acc)[j]? = acc[j]?
  | [], acc, j, h => rfl
  | o :: r, acc, j, h => by
    simp only [masks]
    rw [masks_acc r _ j (by simp; omega), List.getElem?_append_left h]
theorem masks_at : ∀ (l : List Oper) (acc : List Nat) (i : Nat) (o : Oper), l[i]? = some o → (masks l acc)[acc.length + i]? = some (maskOf ((masks l acc).take (acc.length + i)) o)
  | [], acc, i, o, h => by simp at h
  | x :: r, acc, 0, o, h => by
    simp at h
    subst h
    simp only [masks, Nat.add_zero]
    have e : (masks r (acc ++ [maskOf acc x])).take acc.length = acc := by
      apply List.ext_getElem?
      intro j
      rw [List.getElem?_take]
      split
      · rename_i hj
        rw [masks_acc r _ j (by simp; omega), List.getElem?_append_left hj]
      · rename_i hj; rw [List.getElem?_eq_none (by omega)]
    rw [e, masks_acc r _ _ (by simp), List.getElem?_append_right (by omega)]
    simp
  | x :: r, acc, i + 1, o, h => by
    simp only [masks]
    have := masks_at r (acc ++ [maskOf acc x]) i o (by simpa using h)
    simpa [Nat.add_assoc, Nat.add_comm 1] using this

/-- what is listed is closed towards what its edges name -/
def Closed (l : List Oper) (S : Nat → Bool) : Prop := ∀ j o, l[j]? = some o → S j = true → ∀ e ∈ o.after.toList, Region.binds .any e = true → S e.on = true

theorem closed_mask {l : List Oper} {S : Nat → Bool} (hS : Closed l S) : ∀ j, S j = true → ∀ m, (masks l [])[j]? = some m → ∀ i, m.testBit i = true → S i = true := by
  intro j
  induction j using Nat.strongRecOn with
  | _ j ih =>
    intro hj m hm i hi
    have hlen := (List.getElem?_eq_some_iff.1 hm).1
    rw [masks_length] at hlen
    have ho := List.getElem?_eq_getElem (l := l) (i := j) (by simpa using hlen)
    have h1 := masks_at l [] j _ ho
    simp only [List.length_nil, Nat.zero_add] at h1
    rw [hm] at h1
    cases h1
    obtain ⟨e, he, hb, h2⟩ := maskOf_bit hi
    have hon := hS j _ ho hj e he hb
    rcases h2 with h2 | h2
    · exact h2 ▸ hon
    · rw [List.getD_eq_getElem?_getD, List.getElem?_take] at h2
      split at h2
      · rename_i hlt
        cases hme : (masks l [])[e.on]? with
        | none => rw [hme] at h2; simp at h2
        | some m' => rw [hme] at h2; exact ih e.on hlt hon m' hme i (by simpa using h2)
      · simp at h2

theorem rowOk_spec {ops : Array Oper} {i : Nat} {x : Oper} {bx : RW} : ∀ {ys : List Oper} {bs : List RW} {ms : List Nat}, rowOk ops i x bx ys bs ms = true → ∀ (k : Nat) (y : Oper) (b : RW) (m : Nat), ys[k]? = some y → bs[k]? = some b → ms[k]? = some m → clash ops x y bx b = true → bitAt m i = true
  | [], _, _, _, k, y, b, m, h, _, _, _ => by simp at h
  | y :: ys, [], _, _, k, y', b, m, _, h, _, _ => by simp at h
  | y :: ys, b :: bs, [], _, k, y', b', m, _, _, h, _ => by simp at h
  | y :: ys, b :: bs, m :: ms, h, k, y', b', m', h1, h2, h3, h4 => by
    simp only [rowOk, Bool.and_eq_true] at h
    cases k with
    | zero => simp at h1 h2 h3; subst h1 h2 h3; simpa [h4] using h.1
    | succ k => exact rowOk_spec h.2 k y' b' m' (by simpa using h1) (by simpa using h2) (by simpa using h3) h4

theorem allOk_spec {ops : Array Oper} : ∀ {xs : List Oper} {bs : List RW} {ms : List Nat} {i0 : Nat}, allOk ops i0 xs bs ms = true → xs.length = bs.length → xs.length = ms.length →
    (∀ (i : Nat) (x : Oper), xs[i]? = some x → ∀ e ∈ x.after.toList, Region.binds .any e = true → e.on < i0 + i) ∧
    ∀ (i j : Nat) (x y : Oper) (b c : RW) (m : Nat), i < j → xs[i]? = some x → xs[j]? = some y → bs[i]? = some b → bs[j]? = some c → ms[j]? = some m → clash ops x y b c = true → bitAt m (i0 + i) = true
  | [], _, _, _, _, _, _ => ⟨fun i x h => by simp at h, fun i j x y b c m _ h => by simp at h⟩
  | x :: xs, [], _, _, _, h, _ => by simp at h
  | x :: xs, b :: bs, [], _, _, _, h => by simp at h
  | x :: xs, b :: bs, m :: ms, i0, h, h1, h2 => by
    simp only [allOk, Bool.and_eq_true] at h
    obtain ⟨⟨ha, hr⟩, ht⟩ := h
    obtain ⟨i1, i2⟩ := allOk_spec ht (by simpa using h1) (by simpa using h2)
    constructor
    · intro i y hy e he hb
      cases i with
      | zero =>
        simp at hy; subst hy
        have := (List.all_eq_true.1 ha) e he
        simp [hb] at this
        omega
      | succ i => have := i1 i y (by simpa using hy) e he hb; omega
    · intro i j y z c d n hij hy hz hc hd hn hcl
      cases i with
      | zero =>
        simp at hy hc; subst hy hc
        obtain ⟨j, rfl⟩ : ∃ k, j = k + 1 := ⟨j - 1, by omega⟩
        exact rowOk_spec hr j z d n (by simpa using hz) (by simpa using hd) (by simpa using hn) hcl
      | succ i =>
        obtain ⟨j, rfl⟩ : ∃ k, j = k + 1 := ⟨j - 1, by omega⟩
        have := i2 i j y z c d n (by omega) (by simpa using hy) (by simpa using hz) (by simpa using hc) (by simpa using hd) (by simpa using hn) hcl
        rwa [show i0 + 1 + i = i0 + (i + 1) by omega] at this

theorem same_spec {a b : Option Nat} {d : Nat} (ha : a = some d) (hb : b = some d) : same a b = true := by subst ha hb; simp [same, Nat.beq_refl]
theorem hits_spec {a : Option Nat} {l : List Nat} {d : Nat} (ha : a = some d) (hl : d ∈ l) : hits a l = true := by
  subst ha
  simp only [hits, List.any_eq_true]
  exact ⟨d, hl, Nat.beq_refl d⟩

section
variable {P : Program} {B : Base} {ops : Array Oper} {s : St} {bs : List RW} {es : List Eff}

/-- the state behind the listed operations -/
structure Mid (ops : Array Oper) (s : St) (es : List Eff) (S : Nat → Bool) (s' : St) : Prop where
  t : ∀ t, s'.t t = ev s.t (WT ops.toList es) S ops.size t
  b : ∀ k, s'.b k = ev s.b (WB es) S ops.size k
  v : ∀ k, noVec k s.tm = true → noVec k s'.tm = true
  n : ∀ k, noId k s.tm = true → (∀ j oj e, ops.toList[j]? = some oj → es[j]? = some e → S j = true → oj.dst ≠ none → e.td.id ≠ some k) → noId k s'.tm = true

theorem noId_app {k : Nat} {e : Eff} {dst : Option Nat} {s : St} (hv : ∃ m, e.td.okV m = true) : noId k (e.app dst s).tm = true ↔ (dst ≠ none → e.td.id ≠ some k) ∧ noId k s.tm = true := by
  unfold Eff.app
  cases dst with
  | none => simp
  | some d =>
    simp only [noId, Bool.and_eq_true]
    refine and_congr ?_ Iff.rfl
    rw [Bool.not_eq_true', TD.okV_has hv.choose_spec k]
    simp
theorem noId_stAt (h : Chain P B ops ops.toList s bs es) (k : Nat) : ∀ i, i ≤ ops.size → noId k (stAt ops.toList es s i).tm = true → noId k s.tm = true ∧ ∀ j oj e, j < i → ops.toList[j]? = some oj → es[j]? = some e → oj.dst ≠ none → e.td.id ≠ some k := by
  intro i
  induction i with
  | zero => intro _ h; exact ⟨by simpa [stAt, finalSt] using h, fun j oj e hj => by omega⟩
  | succ i ih =>
    intro hi hk
    have ho := List.getElem?_eq_getElem (l := ops.toList) (i := i) (by simp; omega)
    obtain ⟨b, e, h1, h2, _⟩ := h.at i _ ho
    rw [stAt_succ h.lens.1 ho h2, noId_app (h.okV h2)] at hk
    obtain ⟨h3, h4⟩ := ih (by omega) hk.2
    refine ⟨h3, fun j oj e' hj hoj he' hd => ?_⟩
    by_cases e1 : j = i
    · subst e1
      rw [ho] at hoj; cases hoj
      rw [h2] at he'; cases he'
      exact hk.1 hd
    · exact h4 j oj e' (by omega) hoj he' hd

theorem noVec_stAt (h : Chain P B ops ops.toList s bs es) : ∀ i, i ≤ ops.size → ∀ k, noVec k (stAt ops.toList es s i).tm = true → noVec k s.tm = true := by
  intro i
  induction i with
  | zero => intro _ k h; simpa [stAt, finalSt] using h
  | succ i ih =>
    intro hi k hk
    have ho := List.getElem?_eq_getElem (l := ops.toList) (i := i) (by simp; omega)
    obtain ⟨b, e, h1, h2, _⟩ := h.at i _ ho
    rw [stAt_succ h.lens.1 ho h2] at hk
    refine ih (by omega) k ?_
    unfold Eff.app at hk
    cases hd : (ops.toList[i]'(by simp; omega)).dst with
    | none => rw [hd] at hk; exact hk
    | some d => rw [hd] at hk; simp only [noVec, Bool.and_eq_true] at hk; exact hk.2

theorem draw_step (hok : drawOk P ops bs = true) (h : Chain P B ops ops.toList s bs es) {S : Nat → Bool} (hS : Closed ops.toList S) {i : Nat} {o : Oper} (ho : ops.toList[i]? = some o) (hi : S i = false) (hr : ∀ e ∈ o.after.toList, Region.binds .any e = true → S e.on = true) {s' : St} (hm : Mid ops s es S s') :
    ∃ e : Eff, OpOK P B ops o s' (e.app o.dst s') ∧ Mid ops s es (fun j => if j = i then true else S j) (e.app o.dst s') := by
  simp only [drawOk, Bool.and_eq_true] at hok
  obtain ⟨hl1, hl2⟩ := h.lens
  obtain ⟨_, hcl⟩ := allOk_spec hok.2 hl2 (by rw [masks_length]; simp)
  obtain ⟨b, e, hb, he, hloc, hbw, hbi⟩ := h.at i o ho
  have hlt : i < ops.size := by have := (List.getElem?_eq_some_iff.1 ho).1; simpa using this
  have hml : (masks ops.toList []).length = ops.size := by rw [masks_length]; simp
  -- listed: what clashes with i and stands before it; not listed: what clashes with it and stands behind it
  have hbefore : ∀ j, j < i → ∀ oj bj, ops.toList[j]? = some oj → bs[j]? = some bj → clash ops oj o bj b = true → S j = true := by
    intro j hj oj bj hoj hbj hc
    have hm' := List.getElem?_eq_getElem (l := masks ops.toList []) (i := i) (by omega)
    have := hcl j i oj o bj b _ hj hoj ho hbj hb hm' hc
    rw [Nat.zero_add, bitAt_eq] at this
    have h1 := masks_at ops.toList [] i o ho
    simp only [List.length_nil, Nat.zero_add] at h1
    rw [hm'] at h1
    have h1' := Option.some.inj h1
    rw [h1'] at this
    obtain ⟨e', he', hbi, h2⟩ := maskOf_bit this
    have hon := hr e' he' hbi
    rcases h2 with h2 | h2
    · exact h2 ▸ hon
    · rw [List.getD_eq_getElem?_getD, List.getElem?_take] at h2
      split at h2
      · cases hme : (masks ops.toList [])[e'.on]? with
        | none => rw [hme] at h2; simp at h2
        | some m' => rw [hme] at h2; exact closed_mask hS e'.on hon m' hme j (by simpa using h2)
      · simp at h2
  have hbehind : ∀ j, i < j → ∀ oj bj, ops.toList[j]? = some oj → bs[j]? = some bj → clash ops o oj b bj = true → S j = false := by
    intro j hj oj bj hoj hbj hc
    cases hSj : S j with
    | false => rfl
    | true =>
      have hjl : j < ops.size := by have := (List.getElem?_eq_some_iff.1 hoj).1; simpa using this
      have hm' := List.getElem?_eq_getElem (l := masks ops.toList []) (i := j) (by omega)
      have := hcl i j o oj b bj _ hj ho hoj hb hbj hm' hc
      rw [Nat.zero_add, bitAt_eq] at this
      have := closed_mask hS j hSj _ hm' i this
      rw [hi] at this; cases this
  have clashT : ∀ j oj bj t v, j ≠ i → ops.toList[j]? = some oj → bs[j]? = some bj → WT ops.toList es j = some (t, v) → (t ∈ tmpsOf ops o ∨ o.dst = some t) → clash ops oj o bj b = true ∧ clash ops o oj b bj = true := by
    intro j oj bj t v hne hoj hbj hW ht
    have hd : oj.dst = some t := by
      simp only [WT, hoj] at hW
      split at hW
      · rename_i o' e' h3 h4
        cases h3
        cases hdd : oj.dst with
        | none => rw [hdd] at hW; simp at hW
        | some d => rw [hdd] at hW; simp at hW; rw [hW.1]
      · cases hW
    rcases ht with ht | ht
    · have := hits_spec hd ht
      exact ⟨by simp [clash, this], by simp [clash, this]⟩
    · have h5 := same_spec hd ht
      have h6 := same_spec ht hd
      exact ⟨by simp [clash, h5], by simp [clash, h6]⟩
  have clashB : ∀ j oj bj k v, j ≠ i → ops.toList[j]? = some oj → bs[j]? = some bj → WB es j = some (k, v) → (k ∈ b.1 ∨ b.2.1 = some k) → clash ops oj o bj b = true ∧ clash ops o oj b bj = true := by
    intro j oj bj k v hne hoj hbj hW ht
    obtain ⟨bj', ej, g1, g2, _, g4, _⟩ := h.at j oj hoj
    rw [hbj] at g1; cases g1
    have hd : bj.2.1 = some k := by
      simp only [WB, g2] at hW
      rw [g4, hW]; rfl
    rcases ht with ht | ht
    · have := hits_spec hd ht
      exact ⟨by simp [clash, this], by simp [clash, this]⟩
    · have h5 := same_spec hd ht
      have h6 := same_spec ht hd
      exact ⟨by simp [clash, h5], by simp [clash, h6]⟩
  have lookT : ∀ t, (t ∈ tmpsOf ops o ∨ o.dst = some t) → ev s.t (WT ops.toList es) S ops.size t = ev s.t (WT ops.toList es) (fun _ => true) i t := by
    intro t ht
    rw [← ev_upto ops.size (Nat.le_of_lt hlt)]
    refine ev_congr _ fun j hj v hW => ?_
    have hoj := List.getElem?_eq_getElem (l := ops.toList) (i := j) (by simpa using hj)
    obtain ⟨bj, _, hbj, _⟩ := h.at j _ hoj
    by_cases e1 : j = i
    · subst e1; simp [hi]
    · obtain ⟨c1, c2⟩ := clashT j _ bj t v e1 hoj hbj hW ht
      by_cases e2 : j < i
      · simp [e2, hbefore j e2 _ bj hoj hbj c1]
      · simp [e2, hbehind j (by omega) _ bj hoj hbj c2]
  have lookB : ∀ k, (k ∈ b.1 ∨ b.2.1 = some k) → ev s.b (WB es) S ops.size k = ev s.b (WB es) (fun _ => true) i k := by
    intro t ht
    rw [← ev_upto ops.size (Nat.le_of_lt hlt)]
    refine ev_congr _ fun j hj v hW => ?_
    have hoj := List.getElem?_eq_getElem (l := ops.toList) (i := j) (by simpa using hj)
    obtain ⟨bj, _, hbj, _⟩ := h.at j _ hoj
    by_cases e1 : j = i
    · subst e1; simp [hi]
    · obtain ⟨c1, c2⟩ := clashB j _ bj t v e1 hoj hbj hW ht
      by_cases e2 : j < i
      · simp [e2, hbefore j e2 _ bj hoj hbj c1]
      · simp [e2, hbehind j (by omega) _ bj hoj hbj c2]
  have hle : i ≤ ops.toList.length := by simp; omega
  refine ⟨e, hloc.run s' (fun t ht => ?_) (fun k hk => ?_) (fun k hk => ?_) (fun k hd hk => ?_), ⟨fun t => ?_, fun k => ?_, fun k hk => noVec_app (h.vof hk he) (hm.v k hk), fun k hk hne => ?_⟩⟩
  · rw [hm.t, lookT t (.inl ht), stAt_t hl1 i hle]
  · rw [hm.b, lookB k (.inl hk), stAt_b hl1 i hle]
  · exact hm.v k (noVec_stAt h i (by omega) k hk)
  · obtain ⟨h3, h4⟩ := noId_stAt h k i (by omega) hk
    refine hm.n k h3 fun j oj e' hoj he' hSj hdj hid => ?_
    have e1 : j ≠ i := fun e1 => by subst e1; rw [hi] at hSj; cases hSj
    by_cases e2 : j < i
    · exact h4 j oj e' e2 hoj he' hdj hid
    · obtain ⟨bj, ej, g1, g2, _, _, g5⟩ := h.at j oj hoj
      rw [he'] at g2; cases g2
      have := hbehind j (by omega) oj bj hoj g1 (by simp [clash, same_spec hd (g5.trans hid)])
      rw [hSj] at this; cases this
  · rw [app_t]
    have hWi : ∀ d, o.dst = some d → WT ops.toList es i = some (d, e.td) := fun d hd => by simp [WT, ho, he, hd]
    have other : (∀ v, WT ops.toList es i ≠ some (t, v)) → ev s.t (WT ops.toList es) (fun j => if j = i then true else S j) ops.size t = s'.t t := fun hne => by
      rw [hm.t]
      refine ev_congr _ fun j hj v hW => ?_
      by_cases e1 : j = i
      · subst e1; exact absurd hW (hne v)
      · simp [e1]
    cases hd : o.dst with
    | none => exact (other (fun v => by simp [WT, ho, he, hd])).symm
    | some d =>
      by_cases e1 : d = t
      · subst e1
        simp only [if_true]
        refine (ev_last (S := fun j => if j = i then true else S j) (i := i) (by simp) (hWi d hd) _ hlt fun j h1 h2 u hW => ?_).symm
        have hoj := List.getElem?_eq_getElem (l := ops.toList) (i := j) (by simpa using h2)
        obtain ⟨bj, _, hbj, _⟩ := h.at j _ hoj
        have := hbehind j h1 _ bj hoj hbj (clashT j _ bj d u (by omega) hoj hbj hW (.inr hd)).2
        simp [this]; omega
      · simp only [e1, if_false]
        exact (other (fun v hW => by rw [hWi d hd] at hW; cases hW; exact e1 rfl)).symm
  · rw [app_b]
    have other : (∀ v, WB es i ≠ some (k, v)) → ev s.b (WB es) (fun j => if j = i then true else S j) ops.size k = s'.b k := fun hne => by
      rw [hm.b]
      refine ev_congr _ fun j hj v hW => ?_
      by_cases e1 : j = i
      · subst e1; exact absurd hW (hne v)
      · simp [e1]
    cases hd : e.bw with
    | none => exact (other (fun v => by simp [WB, he, hd])).symm
    | some p =>
      have hWi : WB es i = some p := by simp [WB, he, hd]
      by_cases e1 : p.1 = k
      · subst e1
        simp only [if_true]
        refine (ev_last (S := fun j => if j = i then true else S j) (i := i) (by simp) (by rw [hWi]) _ hlt fun j h1 h2 u hW => ?_).symm
        have hoj := List.getElem?_eq_getElem (l := ops.toList) (i := j) (by simpa using h2)
        obtain ⟨bj, _, hbj, _⟩ := h.at j _ hoj
        have := hbehind j h1 _ bj hoj hbj (clashB j _ bj p.1 u (by omega) hoj hbj hW (.inr (by rw [hbw, hd]; rfl))).2
        simp [this]; omega
      · simp only [e1, if_false]
        exact (other (fun v hW => by rw [hWi] at hW; cases hW; exact e1 rfl)).symm
  · rw [noId_app (h.okV he)]
    refine ⟨fun hd => hne i o e ho he (by simp) hd, hm.n k hk fun j oj e' hoj he' hSj hdj => hne j oj e' hoj he' (by simp [hSj]) hdj⟩


theorem Good.drew {a : Act} {w : World} (h : Good B s a w) : Good B s a { w with drawn := w.drawn + 1 } := by
  obtain ⟨R, ad, h⟩ := h
  refine ⟨R, ad, ⟨h.df, h.sz, h.R0, h.Rn, h.below.trans ⟨rfl, rfl, rfl, Nat.le_refl _, fun _ _ _ => rfl⟩, h.gm, h.gx, h.adn, h.adi, h.ax, fun k x hk => ?_, fun t x ht => ?_⟩⟩
  · obtain ⟨b, h1, h2⟩ := h.bx k x hk
    exact ⟨b, h1, h2.world (fun _ h => h) (fun _ _ => rfl) rfl⟩
  · obtain ⟨v, h1, h2⟩ := h.tm t x ht
    exact ⟨v, h1, h2.world (fun _ h => h) (fun _ _ => rfl) (fun _ _ _ => rfl)⟩

theorem any_of {Q : Post} (hok : drawOk P ops bs = true) (h : Chain P B ops ops.toList s bs es) (hq : Q.norm (finalSt ops.toList es s)) : ∀ (fuel : Nat) (listed : Array Bool) (a : Act) (w : World) (s' : St),
    listed.size = ops.size → listed.toList.count false ≤ fuel → Closed ops.toList (fun j => listed.getD j false) → Mid ops s es (fun j => listed.getD j false) s' → Good B s' a w → wpAny P .any ops (Q.at B) fuel listed a w := by
  have hok' := hok
  simp only [drawOk, Bool.and_eq_true] at hok'
  obtain ⟨hl1, hl2⟩ := h.lens
  obtain ⟨hback, _⟩ := allOk_spec hok'.2 hl2 (by rw [masks_length]; simp)
  have full : ∀ (listed : Array Bool), listed.size = ops.size → Region.ready .any ops listed = [] → ∀ i, i < ops.size → listed.getD i false = true := by
    intro listed hsz hr i
    induction i using Nat.strongRecOn with
    | _ i ih =>
      intro hi
      cases hc : listed.getD i false with
      | true => rfl
      | false =>
        exfalso
        have ho : ops[i]? = some ops[i] := by simp [hi]
        have : i ∈ Region.ready .any ops listed := by
          simp only [Region.ready, List.mem_filter, List.mem_range, Bool.and_eq_true, ho]
          refine ⟨hi, ?_, ?_⟩
          · have hi' : i < listed.size := by omega
            simp [hi'] at hc ⊢
            exact hc
          · simp only [Option.map_some, Option.getD_some, Array.all_eq_true_iff_forall_mem]
            intro e he
            cases hb : Region.binds .any e with
            | false => rfl
            | true =>
              have := hback i ops[i] (by simp [hi]) e (by simpa using he) hb
              simp [ih e.on (by omega) (by omega)]
        rw [hr] at this
        cases this
  have fin : ∀ (listed : Array Bool) (a : Act) (w : World) (s' : St), listed.size = ops.size → Region.ready .any ops listed = [] → Mid ops s es (fun j => listed.getD j false) s' → Good B s' a w → Q.at B .normal a w := by
    intro listed a w s' hsz hr hm hg
    have hf := full listed hsz hr
    refine ⟨_, hq, hg.le ⟨fun t x ht => ?_, fun k x hk => ?_⟩⟩
    · rw [hm.t, ev_congr (S' := fun _ => true) _ (fun j hj v _ => hf j hj)]
      have := stAt_t (s := s) hl1 ops.size (by simp) t
      rw [← this, ← ht]
      simp [stAt, List.take_of_length_le, ← hl1]
    · rw [hm.b, ev_congr (S' := fun _ => true) _ (fun j hj v _ => hf j hj)]
      have := stAt_b (s := s) hl1 ops.size (by simp) k
      rw [← this, ← hk]
      simp [stAt, List.take_of_length_le, ← hl1]
  intro fuel
  induction fuel with
  | zero =>
    intro listed a w s' hsz hc hcl hm hg
    have hr : Region.ready .any ops listed = [] := by
      have h0 : listed.toList.count false = 0 := by omega
      rw [List.count_eq_zero] at h0
      cases hrr : Region.ready .any ops listed with
      | nil => rfl
      | cons i l =>
        exfalso
        have : i ∈ Region.ready .any ops listed := by rw [hrr]; simp
        simp only [Region.ready, List.mem_filter, List.mem_range, Bool.and_eq_true] at this
        obtain ⟨h1, h2, _⟩ := this
        have hi : i < listed.size := by omega
        apply h0
        simp [hi] at h2
        rw [← h2]
        simp
    exact ⟨hr, fin listed a w s' hsz hr hm hg⟩
  | succ fuel ih =>
    intro listed a w s' hsz hc hcl hm hg
    refine ⟨fun hr => fin listed a w s' hsz hr hm hg, fun i hi => ?_⟩
    simp only [Region.ready, List.mem_filter, List.mem_range, Bool.and_eq_true] at hi
    obtain ⟨hlt, hun, haft⟩ := hi
    have hil : i < listed.size := by omega
    have ho : ops[i]? = some ops[i] := by simp [hlt]
    have hun' : listed[i] = false := by simpa [hil] using hun
    rw [ho] at haft
    simp only [Option.map_some, Option.getD_some, Array.all_eq_true_iff_forall_mem] at haft
    have haft' : ∀ e ∈ ops[i].after.toList, Region.binds .any e = true → listed.getD e.on false = true := fun e he hb => by
      have := haft e (by simpa using he)
      simpa [hb] using this
    obtain ⟨e, hok2, hm2⟩ := draw_step hok h hcl (i := i) (o := ops[i]) (by simp [hlt]) (by simp [hil, hun']) haft' hm
    have hS : (fun j => if j = i then true else listed.getD j false) = fun j => (listed.setIfInBounds i true).getD j false := by
      funext j
      by_cases e1 : j = i
      · subst e1; simp [hil]
      · have : ¬ i = j := fun h => e1 h.symm
        simp [e1, Array.getElem?_setIfInBounds, this]
    rw [hS] at hm2
    have hsz' : (listed.setIfInBounds i true).size = ops.size := by simpa using hsz
    have hcount : (listed.setIfInBounds i true).toList.count false ≤ fuel := by
      rw [Array.toList_setIfInBounds, List.count_set (by simpa using hil)]
      have hpos : 0 < listed.toList.count false := by
        rw [List.count_pos_iff]
        rw [← hun']; simp
      simp [hun']
      simp at hc hpos
      omega
    have hcl2 : Closed ops.toList (fun j => (listed.setIfInBounds i true).getD j false) := by
      rw [← hS]
      intro j o hj hSj e' he' hb
      by_cases e1 : j = i
      · subst e1
        have : o = ops[j] := by simp [hlt] at hj; exact hj.symm
        subst this
        have := haft' e' he' hb
        simp [this]
      · simp only [e1, if_false] at hSj
        have := hcl j o hj hSj e' he' hb
        simp only at this ⊢
        split
        · rfl
        · exact this
    have hgo := hok2 a w hg (wpAny P .any ops (Q.at B) fuel (listed.setIfInBounds i true)) (Q.at B) fun a' w' hg' => ih _ a' w' _ hsz' hcount hcl2 hm2 hg'
    unfold wpOp
    rw [ho]
    simp only
    split
    · rename_i hw; rw [if_pos hw] at hgo; exact .inl hgo
    · rename_i hw; rw [if_neg hw] at hgo; exact hgo

theorem AWP.draw {id : Nat} {Q : Post} (h : Chain P B ops ops.toList s bs es) (hok : drawOk P ops bs = true) (hq : Q.norm (finalSt ops.toList es s)) : AWP P B (.region id ops true) Q s := .mk fun a w hg => by
  refine wp_region_draw fun t => ?_
  have hok' := hok
  simp only [drawOk, Bool.and_eq_true] at hok'
  have hs : Region.schedule (P.follows .mixedOrders) ops t = Region.linearise .any ops t := by
    unfold Region.schedule
    rw [if_pos hok'.1]
  rw [hs]
  refine wpAny_sound ops.size t _ a _ (any_of hok h hq ops.size _ a _ s (by simp) (by simp) ?_ ⟨fun t => ?_, fun k => ?_, fun k h => h, fun k h _ => h⟩ hg.drew)
  · intro j o hj hS
    simp [Array.getElem?_replicate] at hS
    split at hS <;> simp at hS
  · refine (ev_none _ fun j hj v _ => ?_).symm
    simp [hj]
  · refine (ev_none _ fun j hj v _ => ?_).symm
    simp [hj]
end
end Go.Proofs.YtffcpgebgoineaaDoor.K
