/- Out of 'this law computes true': the law's row, with what the row says of the bytes of each argument. Nothing of any program stands here. -/
import Derived.Test.YtffcpgebgoineaaDoorPost
namespace Go.Proofs.YtffcpgebgoineaaDoor.K
open Go Go.RowKit Go.ChangeShapes
set_option linter.unusedVariables false
set_option linter.unusedSimpArgs false

/-- the bytes of a string or a slice -/
def SizeOk1 (P : Program) (t : TypeId) : D → Prop
  | .str s => P.underlying t = some .string → s.length ≤ reachBytes
  | .ints _ l => ∀ e, P.underlying t = some (.slice e) → l.length * P.bytesOf e ≤ reachBytes
  | .sl _ l => ∀ e, P.underlying t = some (.slice e) → l.length * P.bytesOf e ≤ reachBytes
  | _ => True
/-- of an argument, or of a struct's members -/
def SizeOk (P : Program) (t : TypeId) (d : D) : Prop := SizeOk1 P t d ∧ ∀ ds, d = .agg ds → ∀ fs, P.underlying t = some (.struct fs) → ∀ (i : Nat) (f : Field), fs[i]? = some f → ∀ e, ds[f.offset]? = some e → SizeOk1 P f.type e
def SizeOks (P : Program) (ts : List TypeId) (es : List D) : Prop := ∀ (i : Nat) (t : TypeId) (e : D), ts[i]? = some t → es[i]? = some e → SizeOk P t e

section
variable {H : Type} {enc : TypeId × Value → H} {P : Program} {W : World}
theorem size_cell {t : TypeId} {cs : List Value} {fuel : Nat} {x : DataW H × List MemPlace} {u : Value} {e : D} {R : Nat → Prop} (hd : DataW.trod enc P W 0 (fun _ => true) true fuel t cs = some x) (hw : ∀ y ∈ x.1.weights P t, y ≤ reachBytes) (hu : cs[0]? = some u) (hh : Holds R W e u) : SizeOk1 P t e := by
  have sl : ∀ (n : Nat) (k : TypeId), P.underlying t = some (.slice k) → (∀ a len cap, u = .slice (some a) len cap → n = len) → (u = .slice none 0 0 → n = 0) → n * P.bytesOf k ≤ reachBytes := by
    intro n k hu' h1 h2
    rcases DataW.trod_slice hu' hd with ⟨rfl, hx⟩ | ⟨a, len, cap, elems, rest, m, _, rfl, hx, _, _, _, hlen, _⟩
    · simp at hu; rw [h2 hu.symm]; simp
    · simp at hu
      have hn := h1 _ _ _ hu.symm
      have := hw ((elems.map (·.1)).length * P.bytesOf k + (rest.map (·.1)).length * P.bytesOf k) (by
        rw [hx]
        simp only [DataW.weights, hu', Nat.add_mul]
        simp)
      simp only [List.length_map] at this
      rw [hn, ← hlen]
      omega
  cases hh with
  | str s hs =>
    intro hu'
    obtain ⟨s', rfl, rfl, _⟩ := DataW.trod_string hu' hd
    simp at hu; subst hu
    have := hw s'.data.toList.length (by simp [DataW.weights])
    exact this
  | intsNil k => exact fun e hu => by simp
  | intsE k a => exact fun e hu => by simp
  | slNil z => exact fun e hu => by simp
  | slE z a => exact fun e hu => by simp
  | ints k l b off cap => exact fun e hu => sl _ e hu (fun a len cap h => by simp at h; omega) (fun h => by cases h)
  | sl z l b off cap => exact fun e hu => sl _ e hu (fun a len cap h => by simp at h; omega) (fun h => by cases h)
  | _ => trivial
theorem weights_mem : ∀ {ts : List TypeId} {ds : List (DataW H)} {i : Nat} {t : TypeId} {d : DataW H} {y : Nat}, ts[i]? = some t → ds[i]? = some d → y ∈ d.weights P t → y ∈ DataW.weightsEach P ts ds
  | t :: ts, d :: ds, 0, _, _, y, h1, h2, h => by
    simp at h1 h2; subst h1 h2
    simp only [DataW.weightsEach, List.mem_append]; exact .inl h
  | t :: ts, d :: ds, i + 1, _, _, y, h1, h2, h => by
    simp only [DataW.weightsEach, List.mem_append]; exact .inr (weights_mem (by simpa using h1) (by simpa using h2) h)
  | [], _, _, _, _, _, h1, _, _ => by simp at h1
  | _ :: _, [], _, _, _, _, _, h2, _ => by simp at h2
theorem size_one {t : TypeId} {v : Value} {d : DataW H} {p : List MemPlace} {e : D} {R : Nat → Prop} (hd : DataW.Trod enc P W 0 (fun _ => true) true t v d p) (hw : ∀ x ∈ d.weights P t, x ≤ reachBytes) (hh : Holds R W e v) : SizeOk P t e := by
  obtain ⟨fuel, hd⟩ := hd
  refine ⟨?_, fun ds he fs hfs i f hf e' he' => ?_⟩
  · by_cases hv : ∃ cs, v = .agg cs
    · obtain ⟨cs, rfl⟩ := hv
      cases hh with
      | agg => trivial
      | raw v h => trivial
      | any v h => trivial
    · exact size_cell hd hw (by cases v <;> first | rfl | exact absurd ⟨_, rfl⟩ hv) hh
  · subst he
    cases hh with
    | agg _ cs hs hh =>
      obtain ⟨xs, m, hfu, hx, hc, hxl, hel⟩ := DataW.trod_struct hfs hd
      have h1 := hel i f hf
      have hi : i < xs.length := by
        have := (Array.getElem?_eq_some_iff.1 hf).1
        omega
      rw [List.getElem?_eq_getElem hi] at h1
      have hoff : cs.toList[f.offset]? = some (cs.toList[f.offset]'(by
        have := (List.getElem?_eq_some_iff.1 he').1
        simp; omega)) := List.getElem?_eq_getElem _
      by_cases hz : P.cellsOf f.type = 0
      · cases e' with
        | str s =>
          intro hu
          rw [hz, List.take_zero] at h1
          obtain ⟨_, h2, _⟩ := DataW.trod_string hu h1
          cases h2
        | ints k l =>
          intro q hu
          rw [hz, List.take_zero] at h1
          rcases DataW.trod_slice hu h1 with ⟨h2, _⟩ | ⟨_, _, _, _, _, _, _, h2, _⟩ <;> cases h2
        | sl z l =>
          intro q hu
          rw [hz, List.take_zero] at h1
          rcases DataW.trod_slice hu h1 with ⟨h2, _⟩ | ⟨_, _, _, _, _, _, _, h2, _⟩ <;> cases h2
        | _ => trivial
      · refine size_cell (u := cs.toList[f.offset]'(by
          have := (List.getElem?_eq_some_iff.1 he').1
          simp; omega)) h1 (fun y hy => hw y ?_) ?_ (hh f.offset e' _ he' (by simp))
        · simp only [Prod.mk.injEq] at hx
          rw [hx.1]
          simp only [DataW.weights, hfs]
          exact weights_mem (i := i) (t := f.type) (d := xs[i].1) (by rw [List.getElem?_map]; simp [hf]) (by simp [hi]) hy
        · simp only [Value.cells]
          rw [List.getElem?_take, if_pos (by omega), List.getElem?_drop, Nat.add_zero]
          exact hoff
theorem sizes_all : ∀ {ts us : List TypeId} {vs : List Value} {ds gs : List (DataW H)} {ps : List MemPlace}, DataW.TrodAll enc P W 0 (fun _ => true) true ts vs ds ps → (DataW.weightsEach P (ts ++ us) (ds ++ gs)).all (· ≤ reachBytes) = true →
    ∀ es : List D, (∀ (i : Nat) (e : D) (v : Value), es[i]? = some e → vs[i]? = some v → Holds (· < W.heap.size) W e v) → SizeOks P ts es
  | [], us, [], [], gs, _, _, _, es, _ => fun i t e h => by simp at h
  | t :: ts, us, v :: vs, d :: ds, gs, _, ⟨p, q, h1, h2, _⟩, hw, es, hh => fun i t' e a b => by
    simp only [List.cons_append, DataW.weightsEach, List.all_append, Bool.and_eq_true] at hw
    cases i with
    | zero =>
      simp at a; subst a
      exact size_one h1 (fun x hx => of_decide_eq_true (List.all_eq_true.1 hw.1 x hx)) (hh 0 e v b rfl)
    | succ i => exact sizes_all (us := us) (gs := gs) h2 hw.2 (es.drop 1) (fun j e' v' c d => hh (j + 1) e' v' (by rw [List.getElem?_drop] at c; rw [Nat.add_comm]; exact c) (by simpa using d)) i t' e (by simpa using a) (by rw [List.getElem?_drop, Nat.add_comm]; exact b)
  | [], _, [], _ :: _, _, _, h, _, _, _ => h.elim
  | [], _, _ :: _, _, _, _, h, _, _, _ => h.elim
  | _ :: _, _, [], _, _, _, h, _, _, _ => h.elim
  | _ :: _, _, _ :: _, [], _, _, h, _, _, _ => h.elim

/-- a law that the abstract reading computes to true meets its row's step; the bytes of each argument are bounded -/
theorem law_callsS (S : Sound P) {f : FuncId} {fn : Func} {s : ChangeSpec} {base n : Nat} {args : Array Value} {us : List TypeId} {ds gs : List (DataW H)} {before : List MemPlace} {tb : TypeId} {ash : List AS} (hsh : argShapes P n fn.params.toList = some ash) (hts : ∀ t ∈ fn.params.toList, t < P.types.size)
    (hvars : s.vars = []) (hfn : ∀ ds : List (DataW H), ds.length = fn.params.toList.length → s.fn H ds = { results := [.lit (.bool true)], args := ds }) (hrt : fn.resultTypes = #[tb]) (htb : P.underlying tb = some .bool) (hgam : Gam W)
    (hval : ∀ (j : Nat) t v, fn.params[j]? = some t → args[j]? = some v → Value.okWide P W .any base t v)
    (hW : DataW.Whole enc P fn.params.toList s.vars false W args.toList ds gs before) (hsz : (DataW.weightsEach P (fn.params.toList ++ us) (ds ++ gs)).all (· ≤ reachBytes) = true)
    (ev : ∀ es, ArgOks ash es → SizeOks P fn.params.toList es → Evals P f es (.bool true)) :
    Calls P f args W fun e W' => ∃ v, e = .returned v ∧ s.post enc P fn false true false false W args v W' := by
  have hW0 := hW
  obtain ⟨p, q, hA, hV, hpq, hfz, hnd⟩ := hW
  obtain ⟨es, h1, h2, h3, h4⟩ := args_read hA (fun j t v a b => hval j t v (by simpa using a) (by simpa using b)) hsh
  have hlen := trod_len hA
  have h5 := sizes_all hA hsz es h3
  refine ((ev es h1 h5).run (· < W.heap.size) W args (fun _ h => h) hgam ⟨by simpa using h2.symm, fun i e v a b => h3 i e v a (by simpa using b)⟩).mono ?_
  rintro e W' ⟨v, R', rfl, hb, _, _, hh⟩
  cases hh
  exact ⟨_, rfl, law_post S hts hvars (hfn ds hlen) hrt htb hW0 hb⟩
end
end Go.Proofs.YtffcpgebgoineaaDoor.K
