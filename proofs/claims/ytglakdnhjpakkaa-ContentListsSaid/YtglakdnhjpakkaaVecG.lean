/- Slices of records that a call appends to; arrays of the call's own. -/
import Derived.Test.YtglakdnhjpakkaaVec
import Derived.Scope
namespace Go.Proofs.Ytglakdnhjpakkaa.K
open Go Go.RowKit
set_option linter.unusedVariables false
set_option linter.unusedSimpArgs false

/-- a datum of one cell -/
def D.one : D → Bool
  | .agg _ => false
  | .tup _ => false
  | _ => true
theorem Holds.oneG {R : Nat → Prop} {w : World} {d : D} {v : Value} (h : Holds R w d v) (h1 : d.one = true) : v.oneCell' = true := by
  cases h <;> first | rfl | (rename_i h; cases v <;> first | rfl | cases h) | (simp [D.one] at h1)
def oneAll (L : List (List D)) : Bool := L.all fun ds => ds.all D.one
theorem oneAll_get {L : List (List D)} (h : oneAll L = true) {i : Nat} {ds : List D} {j : Nat} {d : D} (h1 : L[i]? = some ds) (h2 : ds[j]? = some d) : d.one = true :=
  List.all_eq_true.1 (List.all_eq_true.1 h ds (List.mem_of_getElem? h1)) d (List.mem_of_getElem? h2)

theorem own_of_vecG {R : Nat → Prop} {ad : Nat → Option Nat} {w : World} {k T z : Nat} {L : List (List D)} {v : Value} (h : HoldsT R ad w (.vec k T z L) v) : ∃ xs : List Value, w.ownsRow 0 T z v L.length xs ∧ v.ownBlock = ad k ∧ L.length ≤ maxLen ∧ (∀ ds ∈ L, ds.length = z) ∧
    ∀ (i : Nat) (ds : List D) (j : Nat) (d : D) (u : Value), L[i]? = some ds → ds[j]? = some d → xs[i * z + j]? = some u → Holds R w d u := by
  rcases h with ⟨h1, rfl, h2⟩ | ⟨b, cap, h1, rfl, cs, h2, h3, h4, h5, h6, h7⟩
  · subst h2
    exact ⟨[], World.ownsRow_nil _ _ _ _, h1.symm, Nat.zero_le _, by simp, fun i ds j d u a => by simp at a⟩
  · have hle : L.length * z ≤ cs.size := by rw [h3]; exact Nat.mul_le_mul_right _ h4
    refine ⟨cs.toList.take (L.length * z), ⟨by simp; omega, .inr ⟨b, cap, cs, rfl, Nat.zero_le _, h2, h4, h5, h3, rfl⟩⟩, h1.symm, by omega, h6, fun i ds j d u a1 a2 a3 => ?_⟩
    rw [List.getElem?_take] at a3
    split at a3
    · rw [Array.getElem?_toList] at a3
      exact h7 i ds j d u a1 a2 a3
    · cases a3
theorem vec_of_ownG {R : Nat → Prop} {ad : Nat → Option Nat} {w : World} {base k T z : Nat} {L : List (List D)} {v : Value} {xs : List Value} (h : w.ownsRow base T z v L.length xs) (hk : ad k = v.ownBlock) (hz : ∀ ds ∈ L, ds.length = z)
    (hh : ∀ (i : Nat) (ds : List D) (j : Nat) (d : D) (u : Value), L[i]? = some ds → ds[j]? = some d → xs[i * z + j]? = some u → Holds R w d u) : HoldsT R ad w (.vec k T z L) v := by
  rcases h.2 with ⟨rfl, h1⟩ | ⟨g, cap, cur, rfl, h1, h2, h3, h4, h5, h6⟩
  · exact .inl ⟨hk, rfl, List.eq_nil_of_length_eq_zero h1⟩
  · refine .inr ⟨g, cap, hk, rfl, cur, h2, h5, h3, h4, hz, fun i ds j d u a1 a2 a3 => hh i ds j d u a1 a2 ?_⟩
    rw [← h6, List.getElem?_take]
    have hi := (List.getElem?_eq_some_iff.1 a1).1
    have hj := (List.getElem?_eq_some_iff.1 a2).1
    rw [hz ds (List.mem_of_getElem? a1)] at hj
    have : (i + 1) * z ≤ L.length * z := Nat.mul_le_mul_right _ hi
    rw [Nat.add_mul, Nat.one_mul] at this
    rw [if_pos (by omega), Array.getElem?_toList]
    exact a3

section
variable {P : Program} {τ : Tys P} {B : Base} {s : St} {d : Nat} {ty : TypeId} {pos : String} {af : Array Edge} {gd : Option (Nat × Bool)}
/-- a nil slice that will be appended to -/
theorem op_nilG (T z : Nat) (h0 : Nat.blt 0 d = true ∨ B.ex = fun _ => False) (hN : Nat.blt d B.N = true) :
    OpDo P B ⟨some d, .assign (.const (.slice none 0 0)), ty, pos, af, gd⟩ s ((s.forget d).setT d (.vec d T z [])) := .value fun R ad a w hi => by
  refine ⟨.slice none 0 0, w, ?_, R, _, (hi.reown (k := d) (o := none) (grownBy_refl _ _) (fun b hb => by cases hb) h0).put hN (.inl ⟨by simp, rfl, rfl⟩)⟩
  simp [execOp, Act.eval]
/-- an empty literal that will be appended to -/
theorem op_buildEG {T e z : Nat} {i j : TI} (hT : get τ.tab T = some i) (hk : i.k = .slice e) (he : get τ.tab e = some j) (hz : j.size = z) (h0 : Nat.blt 0 d = true ∨ B.ex = fun _ => False) (hN : Nat.blt d B.N = true) :
    OpDo P B ⟨some d, .buildSlice T 0 #[], ty, pos, af, gd⟩ s ((s.forget d).setT d (.vec d e z [])) := .value fun R ad a w hi => by
  let o : Obj := .cells #[] e
  refine ⟨.slice (some ⟨w.heap.size, 0, none⟩) 0 0, w.alloc o, ?_, R, _, (hi.reown (k := d) (o := some w.heap.size) (World.grownBy_alloc w _ _) (fun b hb => .inr (by cases hb; exact ⟨Nat.le_refl _, by simp⟩)) h0).put hN (.inr ⟨w.heap.size, 0, by simp, rfl, #[], by unfold World.alloc; simp [o], by simp, Nat.le_refl _, Nat.zero_le _, by simp, fun i ds j d u a => by simp at a⟩)⟩
  have e0 : Array.range 0 = #[] := Array.ext' (by simp)
  simp [execOp, Instr.buildSlice, Sem.run_bind, run_underlying (Tys.slice hT hk), Tys.size he, Instr.fill, newRow, o, e0]
/-- appending records -/
theorem op_appendG {T e k z : Nat} {x y : Operand} {L M : List (List D)} {i j : TI} (hT : get τ.tab T = some i) (hk : i.k = .slice e) (he : get τ.tab e = some j) (hz : j.size = z) (hz0 : Nat.blt 0 z = true) (hzl : j.zero.length = z) (hx : Rd s x (.vec k e z L)) (hy : Rd s y (.val (.sl z M)))
    (hm : 0 < M.length) (hone : oneAll M = true) (hl : (L.length + M.length) * j.bytes ≤ 140737488355328) (hb : Nat.blt 0 j.bytes = true) (h0 : Nat.blt 0 k = true ∨ B.ex = fun _ => False) (hN : Nat.blt d B.N = true) :
    OpDo P B ⟨some d, .call ⟨.builtin .append, #[x, y], #[T, T]⟩, ty, pos, af, gd⟩ s ((s.forget k).setT d (.vec k e z (L ++ M))) := .value fun R ad a w hi => by
  have hxv := hx.holds hi
  have hyv := hy.holds hi
  obtain ⟨xs, o1, o2, o3, o4, o5⟩ := own_of_vecG hxv
  have hu := Tys.slice hT hk
  obtain ⟨_, I, i1, i2, i3, zv, i4, i5, i6⟩ := τ.is he
  have hb' : 1 ≤ j.bytes := Nat.le_of_ble_eq_true hb
  have hz1 : 0 < z := Nat.le_of_ble_eq_true hz0
  have hlen : L.length + M.length ≤ 140737488355328 := by
    have : (L.length + M.length) * 1 ≤ (L.length + M.length) * j.bytes := Nat.mul_le_mul_left _ hb'
    omega
  simp only [HoldsT] at hyv
  generalize hv : a.eval y = v at hyv
  cases hyv with
  | slNil => simp at hm
  | slE => simp at hm
  | sl z M b off cap vs hR hcap hmax hzm hc hh =>
    have key : ∀ n, n < M.length * z → ∃ ds d, M[n / z]? = some ds ∧ ds[n % z]? = some d ∧ Holds R w d (vs n) := fun n hn => by
      have h1 : n / z < M.length := Nat.div_lt_of_lt_mul (by rwa [Nat.mul_comm])
      have h2 : n % z < z := Nat.mod_lt _ hz1
      have h3 : M[n / z]? = some M[n / z] := by simp [h1]
      have h4 : M[n / z].length = z := hzm _ (List.getElem_mem _)
      have h5 : (M[n / z])[n % z]? = some ((M[n / z])[n % z]'(by omega)) := by simp [h4, h2]
      refine ⟨_, _, h3, h5, ?_⟩
      have := hh _ _ _ _ h3 h5
      rwa [Nat.mul_comm, Nat.div_add_mod] at this
    obtain ⟨v', w', r1, r2, r3, r4, r5⟩ := run_append_own_at (P := P) w 0 T ty e I zv z j.bytes hu i1 i4 (by rw [i2, hz]) i3 (by rw [i5, hzl]) hz1 (a.eval x) L.length xs o1 ⟨b, off, none⟩ M.length cap ((List.range (M.length * z)).map vs) (by simp) (fun n u hn => by
      rw [add_lit]
      simp only [List.getElem?_map, Option.map_eq_some_iff] at hn
      obtain ⟨m, hm', rfl⟩ := hn
      obtain ⟨h1, h2⟩ := List.getElem?_eq_some_iff.1 hm'
      simp only [List.getElem_range] at h2
      subst h2
      exact hc n (by simpa using h1)) (fun u hu => by
      obtain ⟨n, hn, rfl⟩ := List.mem_map.1 hu
      obtain ⟨ds, d, k1, k2, k3⟩ := key n (by simpa using hn)
      exact k3.oneG (oneAll_get hone k1 k2)) (by simp only [maxLen]; omega) hl (Nat.zero_le _)
    rw [o2] at r3
    have hRR : ∀ c, R c → w'.heap[c]? = w.heap[c]? := fun c hc => r3.block c (hi.Rn c hc).2 (fun e => (hi.adn k c e.symm).2.2 hc)
    have hxl : xs.length = L.length * z := o1.1
    refine ⟨v', w', ?_, R, _, (hi.reown (k := k) (o := v'.ownBlock) r3 (fun c hc => ?_) h0).put hN (vec_of_ownG (base := 0) (xs := xs ++ (List.range (M.length * z)).map vs) (by rw [List.length_append]; exact r2) (by simp) (fun ds hds => ?_) (fun i ds j d u a1 a2 a3 => ?_))⟩
    · simp [execOp, resolve, invoke, builtin, hv, r1]
    · rcases r5 with r5 | r5
      · exact .inl (by rw [← o2, ← r5, hc])
      · have h1 := (r2.lt c hc).2
        rw [r5] at hc
        cases hc
        exact .inr ⟨Nat.le_refl _, h1⟩
    · rcases List.mem_append.1 hds with h1 | h1
      · exact o4 ds h1
      · exact hzm ds h1
    · have hj : j < z := by
        have := (List.getElem?_eq_some_iff.1 a2).1
        rcases List.mem_append.1 (List.mem_of_getElem? a1) with h1 | h1
        · rwa [o4 ds h1] at this
        · rwa [hzm ds h1] at this
      by_cases hL : i < L.length
      · rw [List.getElem?_append_left hL] at a1
        have h1 : (i + 1) * z ≤ L.length * z := Nat.mul_le_mul_right _ hL
        rw [Nat.add_mul, Nat.one_mul] at h1
        rw [List.getElem?_append_left (by omega)] at a3
        exact (o5 i ds j d u a1 a2 a3).mono (fun _ h => h) hRR
      · rw [List.getElem?_append_right (by omega)] at a1
        obtain ⟨i', rfl⟩ := Nat.exists_eq_add_of_le (show L.length ≤ i by omega)
        rw [Nat.add_sub_cancel_left] at a1
        rw [List.getElem?_append_right (by rw [hxl, Nat.add_mul]; omega), hxl, Nat.add_mul, Nat.add_assoc, Nat.add_sub_cancel_left] at a3
        have hi' := (List.getElem?_eq_some_iff.1 a1).1
        have h1 : (i' + 1) * z ≤ M.length * z := Nat.mul_le_mul_right _ hi'
        rw [Nat.add_mul, Nat.one_mul] at h1
        simp only [List.getElem?_map] at a3
        rw [List.getElem?_range (by omega)] at a3
        simp only [Option.map_some, Option.some.injEq] at a3
        subst a3
        exact (hh i' ds j d a1 a2).mono (fun _ h => h) hRR
theorem Inv.freezeG {R : Nat → Prop} {ad : Nat → Option Nat} {a : Act} {w : World} (h : Inv B R ad s a w) {t k T z : Nat} {L : List (List D)} (hs : s.t t = some (.vec k T z L)) (hx : B.ex = fun _ => False) :
    Good B ((s.forget k).setT t (.val (.sl z L))) a w := by
  obtain ⟨v, g1, g2⟩ := h.tm t _ hs
  obtain ⟨xs, o1, o2, o3, o4, o5⟩ := own_of_vecG g2
  have h1 := h.reown (k := k) (o := none) (grownBy_refl w _) (fun b hb => by cases hb) (.inr hx)
  rcases o1.2 with ⟨rfl, h2⟩ | ⟨g, cap, cur, rfl, _, h2, h3, h4, h5, h6⟩
  · have hl : L = [] := List.eq_nil_of_length_eq_zero h2
    subst hl
    exact ⟨R, _, h1.know g1 (.slNil z)⟩
  · have hk : ad k = some g := by rw [← o2]; rfl
    have hg := h.adn k g hk
    have hg1 : B.w0.heap.size ≤ g := by
      rcases hg.1 with h9 | h9
      · exact h9
      · rw [hx] at h9; exact h9.elim
    have h7 := h1.addR (g := g) hg1 ⟨_, _, h2⟩ hg.2.1 (fun j hj => by
      split at hj
      · cases hj
      · rename_i e; exact e (h.adi j k g hj hk))
    have hle : L.length * z ≤ cur.size := by rw [h5]; exact Nat.mul_le_mul_right _ h3
    refine ⟨_, _, h7.know g1 (.sl z L g 0 cap (fun n => cur[n]?.getD undef) (.inr rfl) h3 o3 o4 (fun i hi => ?_) (fun i ds j d a1 a2 => ?_))⟩
    · rw [cells_of_row h2, Nat.zero_add]
      simp [show i < cur.size by omega]
    · have hi := (List.getElem?_eq_some_iff.1 a1).1
      have hj := (List.getElem?_eq_some_iff.1 a2).1
      rw [o4 ds (List.mem_of_getElem? a1)] at hj
      have h9 : (i + 1) * z ≤ L.length * z := Nat.mul_le_mul_right _ hi
      rw [Nat.add_mul, Nat.one_mul] at h9
      have hc : cur[i * z + j]? = some (cur[i * z + j]'(by omega)) := by simp [show i * z + j < cur.size by omega]
      rw [hc]
      refine (o5 i ds j d _ a1 a2 ?_).mono (fun _ h => .inl h) (fun _ _ => rfl)
      rw [← h6, List.getElem?_take, if_pos (by omega), Array.getElem?_toList, hc]
      rfl
theorem AWP.freezeG {c : Code} {Q : Post} (t : Nat) {k T z : Nat} {L : List (List D)} (hs : s.t t = some (.vec k T z L)) (hx : B.ex = fun _ => False)
    (h : AWP P B c Q ((s.forget k).setT t (.val (.sl z L)))) : AWP P B c Q s :=
  ⟨fun a w ⟨R, ad, hi⟩ => h.run a w (hi.freezeG hs hx)⟩
/-- an element of an array of the call's own -/
theorem op_iaArr {T n e z : Nat} {x y : Operand} {kk : IntKind} {k off : Nat} {m : Int} {i j : TI} (hT : get τ.tab T = some i) (hk : i.k = .array n e) (he : get τ.tab e = some j) (hz : j.size = z) (hx : Rd s x (.pb k off)) (hy : Rd s y (.val (.int kk m))) (h0 : 0 ≤ m) (hr : m < (n : Int)) (hN : Nat.blt d B.N = true) :
    OpDo P B ⟨some d, .indexAddr T x y, ty, pos, af, gd⟩ s (s.setT d (.pb k (off + m.toNat * z))) :=
  .pure hN fun R ad a w hi => by
    obtain ⟨b, h1, hv⟩ := hx.holds hi
    have hu := Tys.array hT hk
    exact ⟨.pointer (some ⟨b, off + m.toNat * z, none⟩), by simp [execOp, Instr.indexAt, hv, (hy.int_inv hi).1, asIntOf, run_underlying hu, h0, hr, Tys.size he, hz, add_lit, Instr.sureAddr], b, h1, rfl⟩
/-- the first cells of an array of the call's own, as a slice -/
theorem op_sliceArr {T n e z : Nat} {x : Operand} {hi' : Option Operand} {k off m : Nat} {i j : TI} (hT : get τ.tab T = some i) (hk : i.k = .array n e) (he : get τ.tab e = some j) (hz : j.size = z) (hx : Rd s x (.pb k off)) (hh : Bd s hi' n m) (h1 : m ≤ n) (hn : n ≤ maxLen) (hN : Nat.blt d B.N = true) :
    OpDo P B ⟨some d, .slice T x none hi' none, ty, pos, af, gd⟩ s (s.setT d (.sb k off m n)) :=
  .pure hN fun R ad a w hi => by
    obtain ⟨b, g1, hv⟩ := hx.holds hi
    have hu := Tys.array hT hk
    have hb := run_bounds (P := P) (isS := false) (lo := none) (len := n) (cap := n) hi Bd.none hh (Nat.zero_le _) h1
    simp only [Option.map_none] at hb
    refine ⟨.slice (some ⟨b, off, none⟩) m n, ?_, ⟨b, g1, rfl⟩, h1, hn⟩
    simp [execOp, Instr.sliceAt, hv, run_underlying hu, hb, Tys.size he, hz, add_lit, Instr.sureAddr]
/-- a part of a slice of records -/
theorem op_sliceS {T e z : Nat} {x : Operand} {lo hi' : Option Operand} {l : List (List D)} {m n : Nat} {i j : TI} (hT : get τ.tab T = some i) (hk : i.k = .slice e) (he : get τ.tab e = some j) (hz : j.size = z) (hx : Rd s x (.val (.sl z l))) (hl : Bd s lo 0 m) (hh : Bd s hi' l.length n) (h1 : m ≤ n) (h2 : n ≤ l.length) (hN : Nat.blt d B.N = true) :
    OpDo P B ⟨some d, .slice T x lo hi' none, ty, pos, af, gd⟩ s (s.setT d (.val (.sl z ((l.take n).drop m)))) :=
  .pure hN fun R ad a w hi => by
    have h := hx.holds hi
    have hu := Tys.slice hT hk
    simp only [HoldsT] at h
    generalize hv : a.eval x = v at h
    cases h with
    | slNil =>
      simp only [List.length_nil, Nat.le_zero] at h2
      subst h2
      have hm : m = 0 := by omega
      subst hm
      have hb := run_bounds (P := P) (isS := true) (cap := 0) hi hl hh (Nat.le_refl _) (Nat.le_refl _)
      simp only [List.length_nil] at hb
      refine ⟨.slice none 0 0, ?_, ?_⟩
      · simp [execOp, Instr.sliceAt, Instr.slice, hv, run_underlying hu, hb, Tys.size he, hz]
      · show Holds R w _ _
        simpa using Holds.slNil z
    | slE z ad0 =>
      simp only [List.length_nil, Nat.le_zero] at h2
      subst h2
      have hm : m = 0 := by omega
      subst hm
      have hb := run_bounds (P := P) (isS := true) (cap := 0) hi hl hh (Nat.le_refl _) (Nat.le_refl _)
      simp only [List.length_nil] at hb
      refine ⟨.slice (some ad0) 0 0, ?_, ?_⟩
      · simp [execOp, Instr.sliceAt, Instr.slice, hv, run_underlying hu, hb, Tys.size he, hz]
      · show Holds R w _ _
        simpa using Holds.slE z ad0
    | sl z l b off cap vs hR h3 h4 h5 h6 h7 =>
      have hb := run_bounds (P := P) (isS := true) (cap := cap) hi hl hh h1 (by omega)
      have hlen : ((l.take n).drop m).length = n - m := by simp; omega
      have hzr : ∀ ds ∈ (l.take n).drop m, ds.length = z := fun ds hd => h5 ds (List.mem_of_mem_take (List.mem_of_mem_drop hd))
      have cell : ∀ t, t < ((l.take n).drop m).length * z → w.cell? ⟨b, off + m * z + t, none⟩ = some (vs (m * z + t)) := fun t ht => by
        rw [Nat.add_assoc]
        refine h6 _ ?_
        rw [hlen] at ht
        calc m * z + t < m * z + (n - m) * z := by omega
          _ = n * z := by rw [← Nat.add_mul]; congr 1; omega
          _ ≤ l.length * z := Nat.mul_le_mul_right _ h2
      have hold : ∀ (p : Nat) (ds : List D) (q : Nat) (dd : D), ((l.take n).drop m)[p]? = some ds → ds[q]? = some dd → Holds R w dd (vs (m * z + (p * z + q))) := fun p ds q dd a1 a2 => by
        rw [List.getElem?_drop, List.getElem?_take] at a1
        split at a1
        · have := h7 _ _ _ _ a1 a2
          rwa [Nat.add_mul, Nat.add_assoc] at this
        · cases a1
      by_cases hc : cap = m
      · have hnil : (l.take n).drop m = [] := List.eq_nil_of_length_eq_zero (by rw [hlen]; omega)
        refine ⟨.slice (some ⟨b, off, none⟩) (n - m) (cap - m), ?_, ?_⟩
        · rw [hc] at hb
          simp [execOp, Instr.sliceAt, Instr.slice, hv, run_underlying hu, hb, Tys.size he, hz, hc]
        · rw [hnil, show n - m = 0 by omega, show cap - m = 0 by omega]
          exact .slE z _
      · refine ⟨.slice (some ⟨b, off + m * z, none⟩) (n - m) (cap - m), ?_, ?_⟩
        · simp [execOp, Instr.sliceAt, Instr.slice, hv, run_underlying hu, hb, Tys.size he, hz, hc, add_lit]
        · rw [← hlen]
          exact .sl z _ b (off + m * z) (cap - m) (fun t => vs (m * z + t)) hR (by rw [hlen]; omega) (by rw [hlen]; omega) hzr cell hold
theorem ResOK.cellArr {t T T' k n e : Nat} {i : TI} {ds : List D} (hT : get τ.tab T = some i) (hk : i.k = .array n e) (h : s.t t = some (.pb k 0)) (hb : s.b k = some (.cells T' ds)) (hn : i.size = ds.length) : ResOK P s (.cell t T) (.agg ds) := by
  obtain ⟨h1, I, h2, h3, _⟩ := τ.is hT
  rw [hk] at h1
  exact .agg (n := i.size) ⟨_, h1, rfl, by rw [h2]; simp [h3]⟩ h hb rfl hn.symm
theorem AWP.label {l : Nat} {Q : Post} (h : Q.norm s) : AWP P B (.label l) Q s := ⟨fun _ _ hg => wp_label ⟨s, h, hg⟩⟩
theorem AWP.scope {c : Code} {Q : Post} (h : AWP P B c Q s) : AWP P B (.scope c) Q s := .mk fun a w hg => by
  refine wp_scope_straight (wp_mono (h.run a w hg) fun e a' w' hq => ?_)
  cases e <;> first | exact hq | exact hq.elim
end
end Go.Proofs.Ytglakdnhjpakkaa.K
