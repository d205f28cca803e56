/- What the row says of the bytes of strings within the elements of a slice. Nothing of any program stands here. -/
import Derived.Test.YtglakdnhjpakkaaPost2
namespace Go.Proofs.Ytglakdnhjpakkaa.K
open Go Go.RowKit Go.ChangeShapes
set_option linter.unusedVariables false
set_option linter.unusedSimpArgs false

def NestOk (P : Program) (t : TypeId) (d : D) : Prop := ∀ z l, d = .sl z l → ∀ e, P.underlying t = some (.slice e) → z = P.cellsOf e → ∀ (i : Nat) (row : List D), l[i]? = some row →
  (∀ d0, row[0]? = some d0 → SizeOk1 P e d0) ∧ ∀ fs, P.underlying e = some (.struct fs) → ∀ (j : Nat) (f : Field), fs[j]? = some f → ∀ d', row[f.offset]? = some d' → SizeOk1 P f.type d'
def NestOks (P : Program) (ts : List TypeId) (es : List D) : Prop := ∀ (i : Nat) (t : TypeId) (e : D), ts[i]? = some t → es[i]? = some e → NestOk P t e

section
variable {H : Type} {enc : TypeId × Value → H} {P : Program} {W : World}
theorem add_lit3 (b off n : Nat) : (⟨b, off, none⟩ : Addr).add n = ⟨b, off + n, none⟩ := by unfold Addr.add; split <;> simp_all
theorem size_fields {t : TypeId} {cs : List Value} {fuel : Nat} {x : DataW H × List MemPlace} {ds : List D} {R : Nat → Prop} (hd : DataW.trod enc P W 0 (fun _ => true) true fuel t cs = some x) (hw : ∀ y ∈ x.1.weights P t, y ≤ reachBytes) (hlen : cs.length = ds.length)
    (hh : ∀ (j : Nat) (e : D) (u : Value), ds[j]? = some e → cs[j]? = some u → Holds R W e u) : ∀ fs, P.underlying t = some (.struct fs) → ∀ (i : Nat) (f : Field), fs[i]? = some f → ∀ e, ds[f.offset]? = some e → SizeOk1 P f.type e := by
  intro fs hfs i f hf e' he'
  obtain ⟨xs, m, hfu, hx, hc, hxl, hel⟩ := DataW.trod_struct hfs hd
  have h1 := hel i f hf
  have hi : i < xs.length := by
    have := (Array.getElem?_eq_some_iff.1 hf).1
    omega
  rw [List.getElem?_eq_getElem hi] at h1
  have hlt : f.offset < cs.length := by
    have := (List.getElem?_eq_some_iff.1 he').1
    omega
  have hoff : cs[f.offset]? = some cs[f.offset] := List.getElem?_eq_getElem hlt
  by_cases hz : P.cellsOf f.type = 0
  · cases e' with
    | str s =>
      intro hu
      rw [hz, List.take_zero] at h1
      obtain ⟨_, h2, _⟩ := DataW.trod_string hu h1
      cases h2
    | ints k l =>
      intro q hu
      rw [hz, List.take_zero] at h1
      rcases DataW.trod_slice hu h1 with ⟨h2, _⟩ | ⟨_, _, _, _, _, _, _, h2, _⟩ <;> cases h2
    | sl z l =>
      intro q hu
      rw [hz, List.take_zero] at h1
      rcases DataW.trod_slice hu h1 with ⟨h2, _⟩ | ⟨_, _, _, _, _, _, _, h2, _⟩ <;> cases h2
    | _ => trivial
  · refine size_cell (u := cs[f.offset]) h1 (fun y hy => hw y ?_) ?_ (hh f.offset e' _ he' hoff)
    · rw [hx]
      simp only [DataW.weights, hfs]
      exact weights_mem (i := i) (t := f.type) (d := xs[i].1) (by rw [List.getElem?_map]; simp [hf]) (by simp [hi]) hy
    · rw [List.getElem?_take, if_pos (by omega), List.getElem?_drop, Nat.add_zero]
      exact hoff
theorem weightsAll_mem : ∀ {e : TypeId} {ds : List (DataW H)} {i : Nat} {d : DataW H} {y : Nat}, ds[i]? = some d → y ∈ d.weights P e → y ∈ DataW.weightsAll P e ds
  | e, d :: ds, 0, _, y, h2, h => by
    simp at h2; subst h2
    simp only [DataW.weightsAll, List.mem_append]; exact .inl h
  | e, d :: ds, i + 1, _, y, h2, h => by
    simp only [DataW.weightsAll, List.mem_append]; exact .inr (weightsAll_mem (by simpa using h2) h)
  | _, [], _, _, _, h2, _ => by simp at h2
theorem nest_one {t : TypeId} {v : Value} {d : DataW H} {p : List MemPlace} {e : D} {R : Nat → Prop} (hd : DataW.Trod enc P W 0 (fun _ => true) true t v d p) (hw : ∀ x ∈ d.weights P t, x ≤ reachBytes) (hh : Holds R W e v) : NestOk P t e := by
  obtain ⟨fuel, hd⟩ := hd
  intro z l he et hu hz i row hrow
  subst he
  cases hh with
  | slNil => simp at hrow
  | slE => simp at hrow
  | sl z l b off cap vs hR hcap hmax hzz hc hh =>
    have hi := (List.getElem?_eq_some_iff.1 hrow).1
    have hrl : row.length = z := hzz row (List.mem_of_getElem? hrow)
    rcases DataW.trod_slice hu hd with ⟨h1, _⟩ | ⟨a, len, cap', elems, rest, n, _, h1, hx, _, _, _, hlen, hel, _⟩
    · simp [Value.cells] at h1
    · simp only [Value.cells, List.cons.injEq, Value.slice.injEq, Option.some.injEq, and_true] at h1
      obtain ⟨rfl, rfl, rfl⟩ := h1
      have h2 := hel i hi
      have hie : i < elems.length := by omega
      rw [List.getElem?_eq_getElem hie, Option.bind_eq_some_iff] at h2
      obtain ⟨cs, h3, h4⟩ := h2
      obtain ⟨c1, c2⟩ := cells_at h3
      have hwi : ∀ y ∈ elems[i].1.weights P et, y ≤ reachBytes := fun y hy => hw y (by
        simp only [Prod.mk.injEq] at hx
        rw [hx.1]
        simp only [DataW.weights, hu]
        refine List.mem_cons_of_mem _ (List.mem_append_left _ (weightsAll_mem (i := i) (d := elems[i].1) (by simp [hie]) hy)))
      have hcell : ∀ (j : Nat) (e : D) (u : Value), row[j]? = some e → cs[j]? = some u → Holds R W e u := fun j e u hj hu' => by
        have hjl := (List.getElem?_eq_some_iff.1 hj).1
        have h5 := c2 j u hu'
        have h6 := hc (i * z + j) (by
          have : (i + 1) * z ≤ l.length * z := Nat.mul_le_mul_right _ hi
          rw [Nat.add_mul, Nat.one_mul] at this
          omega)
        rw [add_lit3, add_lit3, ← hz, Nat.add_assoc, h6] at h5
        rw [← Option.some.inj h5]
        exact hh i row j e hrow hj
      refine ⟨fun d0 hd0 => ?_, size_fields h4 hwi (by omega) hcell⟩
      have h0 := (List.getElem?_eq_some_iff.1 hd0).1
      exact size_cell (u := cs[0]'(by omega)) h4 hwi (List.getElem?_eq_getElem (by omega)) (hcell 0 d0 _ hd0 (List.getElem?_eq_getElem (by omega)))
theorem nests_all : ∀ {ts us : List TypeId} {vs : List Value} {ds gs : List (DataW H)} {ps : List MemPlace}, DataW.TrodAll enc P W 0 (fun _ => true) true ts vs ds ps → (DataW.weightsEach P (ts ++ us) (ds ++ gs)).all (· ≤ reachBytes) = true →
    ∀ es : List D, (∀ (i : Nat) (e : D) (v : Value), es[i]? = some e → vs[i]? = some v → Holds (· < W.heap.size) W e v) → NestOks P ts es
  | [], us, [], [], gs, _, _, _, es, _ => fun i t e h => by simp at h
  | t :: ts, us, v :: vs, d :: ds, gs, _, ⟨p, q, h1, h2, _⟩, hw, es, hh => fun i t' e a b => by
    simp only [List.cons_append, DataW.weightsEach, List.all_append, Bool.and_eq_true] at hw
    cases i with
    | zero =>
      simp at a; subst a
      exact nest_one h1 (fun x hx => of_decide_eq_true (List.all_eq_true.1 hw.1 x hx)) (hh 0 e v b rfl)
    | succ i => exact nests_all (us := us) (gs := gs) h2 hw.2 (es.drop 1) (fun j e' v' c d => hh (j + 1) e' v' (by rw [List.getElem?_drop] at c; rw [Nat.add_comm]; exact c) (by simpa using d)) i t' e (by simpa using a) (by rw [List.getElem?_drop, Nat.add_comm]; exact b)
  | [], _, [], _ :: _, _, _, h, _, _, _ => h.elim
  | [], _, _ :: _, _, _, _, h, _, _, _ => h.elim
  | _ :: _, _, [], _, _, _, h, _, _, _ => h.elim
  | _ :: _, _, _ :: _, [], _, _, h, _, _, _ => h.elim
theorem law_callsN (S : Sound P) {f : FuncId} {fn : Func} {s : ChangeSpec} {base n : Nat} {args : Array Value} {us : List TypeId} {ds gs : List (DataW H)} {before : List MemPlace} {tb : TypeId} {ash : List AS} (hsh : argShapes P n fn.params.toList = some ash) (hts : ∀ t ∈ fn.params.toList, t < P.types.size)
    (hvars : s.vars = []) (hfn : ∀ ds : List (DataW H), ds.length = fn.params.toList.length → s.fn H ds = { results := [.lit (.bool true)], args := ds }) (hrt : fn.resultTypes = #[tb]) (htb : P.underlying tb = some .bool) (hgam : Gam W)
    (hval : ∀ (j : Nat) t v, fn.params[j]? = some t → args[j]? = some v → Value.okWide P W .any base t v)
    (hW : DataW.Whole enc P fn.params.toList s.vars false W args.toList ds gs before) (hsz : (DataW.weightsEach P (fn.params.toList ++ us) (ds ++ gs)).all (· ≤ reachBytes) = true)
    (ev : ∀ es, ArgOks ash es → SizeOks P fn.params.toList es → NestOks P fn.params.toList es → Evals P f es (.bool true)) :
    Calls P f args W fun e W' => ∃ v, e = .returned v ∧ s.post enc P fn false true false false W args v W' := by
  have hW0 := hW
  obtain ⟨p, q, hA, hV, hpq, hfz, hnd⟩ := hW
  obtain ⟨es, h1, h2, h3, h4⟩ := args_read hA (fun j t v a b => hval j t v (by simpa using a) (by simpa using b)) hsh
  have hlen := trod_len hA
  refine ((ev es h1 (sizes_all hA hsz es h3) (nests_all hA hsz es h3)).run (· < W.heap.size) W args (fun _ h => h) hgam ⟨by simpa using h2.symm, fun i e v a b => h3 i e v a (by simpa using b)⟩).mono ?_
  rintro e W' ⟨v, R', rfl, hb, _, _, hh⟩
  cases hh
  exact ⟨_, rfl, law_post S hts hvars (hfn ds hlen) hrt htb hW0 hb⟩
end
end Go.Proofs.Ytglakdnhjpakkaa.K
