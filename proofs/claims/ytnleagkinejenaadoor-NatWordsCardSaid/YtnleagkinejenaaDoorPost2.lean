/- Out of 'this law computes true': the law's row, with what the row says of the bytes of each argument. Nothing of any program stands here. -/
import Derived.Test.YtnleagkinejenaaDoorPost
namespace Go.Proofs.YtnleagkinejenaaDoor.K
open Go Go.RowKit Go.ChangeShapes
set_option linter.unusedVariables false
set_option linter.unusedSimpArgs false

/-- the bytes of an argument that is a string or a slice -/
def SizeOk (P : Program) (t : TypeId) : D → Prop
  | .str s => P.underlying t = some .string → s.length ≤ reachBytes
  | .ints _ l => ∀ e, P.underlying t = some (.slice e) → l.length * P.bytesOf e ≤ reachBytes
  | .sl _ l => ∀ e, P.underlying t = some (.slice e) → l.length * P.bytesOf e ≤ reachBytes
  | _ => True
def SizeOks (P : Program) (ts : List TypeId) (es : List D) : Prop := ∀ (i : Nat) (t : TypeId) (e : D), ts[i]? = some t → es[i]? = some e → SizeOk P t e

section
variable {H : Type} {enc : TypeId × Value → H} {P : Program} {W : World}
theorem cells_single {v u : Value} (h : v.cells.toList = [u]) : v = u ∨ v = .agg #[u] := by
  cases v with
  | agg cs => exact .inr (by simp only [Value.cells] at h; congr 1; exact Array.ext' h)
  | _ => simp only [Value.cells] at h; exact .inl (by simpa using h)
theorem size_one {t : TypeId} {v : Value} {d : DataW H} {p : List MemPlace} {e : D} {R : Nat → Prop} (hd : DataW.Trod enc P W 0 (fun _ => true) true t v d p) (hw : ∀ x ∈ d.weights P t, x ≤ reachBytes) (hh : Holds R W e v) : SizeOk P t e := by
  obtain ⟨fuel, hd⟩ := hd
  have sl : ∀ (n : Nat) (k : TypeId), P.underlying t = some (.slice k) → (∀ a len cap, v = .slice (some a) len cap → n = len) → (v = .slice none 0 0 → n = 0) → (∀ cs, v ≠ .agg cs) → n * P.bytesOf k ≤ reachBytes := by
    intro n k hu h1 h2 h3
    rcases DataW.trod_slice hu hd with ⟨hc, hx⟩ | ⟨a, len, cap, elems, rest, m, _, hc, hx, _, _, _, hlen, _⟩
    · rcases cells_single hc with h | h
      · rw [h2 h]; simp
      · exact absurd h (h3 _)
    · rcases cells_single hc with h | h
      · have hn := h1 _ _ _ h
        simp only [Prod.mk.injEq] at hx
        have := hw ((elems.map (·.1)).length * P.bytesOf k + (rest.map (·.1)).length * P.bytesOf k) (by
          rw [hx.1]
          simp only [DataW.weights, hu, Nat.add_mul]
          simp)
        simp only [List.length_map] at this
        rw [hn, ← hlen]
        omega
      · exact absurd h (h3 _)
  cases hh with
  | str s hs =>
    intro hu
    obtain ⟨s', hc, hx, _⟩ := DataW.trod_string hu hd
    have : s' = s := by simp [Value.cells] at hc; exact hc.symm
    subst this
    simp only [Prod.mk.injEq] at hx
    have := hw s'.data.toList.length (by rw [hx.1]; simp [DataW.weights])
    exact this
  | intsNil k => exact fun e hu => by simp
  | intsE k a => exact fun e hu => by simp
  | slNil z => exact fun e hu => by simp
  | slE z a => exact fun e hu => by simp
  | ints k l b off cap => exact fun e hu => sl _ e hu (fun a len cap h => by simp at h; omega) (fun h => by cases h) (fun cs h => by cases h)
  | sl z l b off cap => exact fun e hu => sl _ e hu (fun a len cap h => by simp at h; omega) (fun h => by cases h) (fun cs h => by cases h)
  | _ => trivial
theorem sizes_all : ∀ {ts us : List TypeId} {vs : List Value} {ds gs : List (DataW H)} {ps : List MemPlace}, DataW.TrodAll enc P W 0 (fun _ => true) true ts vs ds ps → (DataW.weightsEach P (ts ++ us) (ds ++ gs)).all (· ≤ reachBytes) = true →
    ∀ es : List D, (∀ (i : Nat) (e : D) (v : Value), es[i]? = some e → vs[i]? = some v → Holds (· < W.heap.size) W e v) → SizeOks P ts es
  | [], us, [], [], gs, _, _, _, es, _ => fun i t e h => by simp at h
  | t :: ts, us, v :: vs, d :: ds, gs, _, ⟨p, q, h1, h2, _⟩, hw, es, hh => fun i t' e a b => by
    simp only [List.cons_append, DataW.weightsEach, List.all_append, Bool.and_eq_true] at hw
    cases i with
    | zero =>
      simp at a; subst a
      exact size_one h1 (fun x hx => of_decide_eq_true (List.all_eq_true.1 hw.1 x hx)) (hh 0 e v b rfl)
    | succ i => exact sizes_all (us := us) (gs := gs) h2 hw.2 (es.drop 1) (fun j e' v' c d => hh (j + 1) e' v' (by rw [List.getElem?_drop] at c; rw [Nat.add_comm]; exact c) (by simpa using d)) i t' e (by simpa using a) (by rw [List.getElem?_drop, Nat.add_comm]; exact b)
  | [], _, [], _ :: _, _, _, h, _, _, _ => h.elim
  | [], _, _ :: _, _, _, _, h, _, _, _ => h.elim
  | _ :: _, _, [], _, _, _, h, _, _, _ => h.elim
  | _ :: _, _, _ :: _, [], _, _, h, _, _, _ => h.elim

/-- a law that the abstract reading computes to true meets its row's step; the bytes of each argument are bounded -/
theorem law_callsS (S : Sound P) {f : FuncId} {fn : Func} {s : ChangeSpec} {base n : Nat} {args : Array Value} {us : List TypeId} {ds gs : List (DataW H)} {before : List MemPlace} {tb : TypeId} {ash : List AS} (hsh : argShapes P n fn.params.toList = some ash) (hts : ∀ t ∈ fn.params.toList, t < P.types.size)
    (hvars : s.vars = []) (hfn : ∀ ds : List (DataW H), ds.length = fn.params.toList.length → s.fn H ds = { results := [.lit (.bool true)], args := ds }) (hrt : fn.resultTypes = #[tb]) (htb : P.underlying tb = some .bool) (hgam : Gam W)
    (hval : ∀ (j : Nat) t v, fn.params[j]? = some t → args[j]? = some v → Value.okWide P W .any base t v)
    (hW : DataW.Whole enc P fn.params.toList s.vars false W args.toList ds gs before) (hsz : (DataW.weightsEach P (fn.params.toList ++ us) (ds ++ gs)).all (· ≤ reachBytes) = true)
    (ev : ∀ es, ArgOks ash es → SizeOks P fn.params.toList es → Evals P f es (.bool true)) :
    Calls P f args W fun e W' => ∃ v, e = .returned v ∧ s.post enc P fn false true false false W args v W' := by
  have hW0 := hW
  obtain ⟨p, q, hA, hV, hpq, hfz, hnd⟩ := hW
  obtain ⟨es, h1, h2, h3, h4⟩ := args_read hA (fun j t v a b => hval j t v (by simpa using a) (by simpa using b)) hsh
  have hlen := trod_len hA
  have h5 := sizes_all hA hsz es h3
  refine ((ev es h1 h5).run (· < W.heap.size) W args (fun _ h => h) hgam ⟨by simpa using h2.symm, fun i e v a b => h3 i e v a (by simpa using b)⟩).mono ?_
  rintro e W' ⟨v, R', rfl, hb, _, _, hh⟩
  cases hh
  exact ⟨_, rfl, law_post S hts hvars (hfn ds hlen) hrt htb hW0 hb⟩
end
end Go.Proofs.YtnleagkinejenaaDoor.K
