/- Out of 'this law computes true': the law's row. Nothing of any program stands here. -/
import Derived.Test.YtffcpgebgoineaaDoorRead
import Derived.WalkKit
namespace Go.Proofs.YtffcpgebgoineaaDoor.K
open Go Go.RowKit Go.ChangeShapes
set_option linter.unusedVariables false
set_option linter.unusedSimpArgs false

/-- the shape of an argument -/
inductive AS where
  | one (s : Sh)
  | agg (ss : List Sh)
def argShape (P : Program) (n : Nat) (t : TypeId) : Option AS :=
  match P.underlying t with
  | some (.struct _) | some (.array _ _) => match shapeOf P n t with
    | some ss => some (.agg ss)
    | none => none
  | _ => match shapeOf P n t with
    | some [s] => some (.one s)
    | _ => none
def argShapes (P : Program) (n : Nat) : List TypeId → Option (List AS)
  | [] => some []
  | t :: ts => match argShape P n t with
    | some a => match argShapes P n ts with
      | some ash => some (a :: ash)
      | none => none
    | none => none
inductive ArgOks : List AS → List D → Prop where
  | nil : ArgOks [] []
  | one {s : Sh} {e : D} {ash : List AS} {es : List D} (h : s.Ok e) (hs : ArgOks ash es) : ArgOks (.one s :: ash) (e :: es)
  | agg {ss : List Sh} {l : List D} {ash : List AS} {es : List D} (h : Oks ss l) (hs : ArgOks ash es) : ArgOks (.agg ss :: ash) (.agg l :: es)
theorem ArgOks.nil_inv {es : List D} (h : ArgOks [] es) : es = [] := by cases h; rfl
theorem ArgOks.one_inv {s : Sh} {ash : List AS} {es : List D} (h : ArgOks (.one s :: ash) es) : ∃ e r, es = e :: r ∧ s.Ok e ∧ ArgOks ash r := by
  cases h with | one h hs => exact ⟨_, _, rfl, h, hs⟩
theorem ArgOks.agg_inv {ss : List Sh} {ash : List AS} {es : List D} (h : ArgOks (.agg ss :: ash) es) : ∃ l r, es = .agg l :: r ∧ Oks ss l ∧ ArgOks ash r := by
  cases h with | agg h hs => exact ⟨_, _, rfl, h, hs⟩
theorem Sh.Ok.int_inv {k : IntKind} {e : D} (h : Sh.Ok (.int k) e) : ∃ n, e = .int k n ∧ InR k n := by cases h; exact ⟨_, rfl, by assumption⟩
theorem Sh.Ok.bool_inv {e : D} (h : Sh.Ok .bool e) : ∃ b, e = .bool b := by cases h; exact ⟨_, rfl⟩
theorem Sh.Ok.str_inv {e : D} (h : Sh.Ok .str e) : ∃ b, e = .str b := by cases h; exact ⟨_, rfl⟩
theorem Sh.Ok.ints_inv {k : IntKind} {e : D} (h : Sh.Ok (.ints k) e) : ∃ l, e = .ints k l := by cases h; exact ⟨_, rfl⟩
theorem Sh.Ok.sl_inv {ss : List Sh} {e : D} (h : Sh.Ok (.sl ss) e) : ∃ l, e = .sl ss.length l ∧ ∀ row ∈ l, Oks ss row := by
  cases h with | sl ss l h1 h2 => exact ⟨_, rfl, fun row hr => ⟨h1 row hr, h2 row hr⟩⟩
theorem uptoBulkAll_append {H : Type} (l r : List (DataW H)) : Rows.uptoBulkAll (l ++ r) = Rows.uptoBulkAll l + Rows.uptoBulkAll r := by
  induction l with
  | nil => simp [Rows.uptoBulkAll]
  | cons x l ih => simp only [List.cons_append, Rows.uptoBulkAll, ih]; omega

def D.parts : D → List D
  | .agg l => l
  | d => [d]
def bulkA : List D → Nat
  | [] => 0
  | e :: r => bulkL e.parts + bulkA r

section
variable {H : Type} {enc : TypeId × Value → H} {P : Program} {W : World}

theorem oneCell_of_ok {r : Reach} {b0 : Nat} {t : TypeId} {v : Value} (hu : (∃ k, P.underlying t = some (.int k)) ∨ P.underlying t = some .bool ∨ P.underlying t = some .string ∨ ∃ e, P.underlying t = some (.slice e)) (h : Value.okWide P W r b0 t v) : v.cells.toList = [v] := by
  rcases hu with ⟨k, hu⟩ | hu | hu | ⟨e, hu⟩ <;> simp only [Value.okWide, hu, Cell.okWide, Cell.ok] at h <;> cases v <;> simp_all [Value.cells]

theorem arg_read {n : Nat} {t : TypeId} {v : Value} {d : DataW H} {p : List MemPlace} {b0 : Nat} {a : AS} (hs : argShape P n t = some a) (hval : Value.okWide P W .any b0 t v) (hd : DataW.Trod enc P W 0 (fun _ => true) true t v d p) :
    ∃ e, ArgOks [a] [e] ∧ Holds (· < W.heap.size) W e v ∧ bulkL e.parts ≤ Rows.uptoBulk d := by
  obtain ⟨fuel, hd⟩ := hd
  have agg : ∀ ss, shapeOf P n t = some ss → a = .agg ss → (∃ cs, v = .agg cs) → ∃ e, ArgOks [a] [e] ∧ Holds (· < W.heap.size) W e v ∧ bulkL e.parts ≤ Rows.uptoBulk d := by
    rintro ss h1 rfl ⟨cs, rfl⟩
    obtain ⟨_, h2⟩ := shape_read (enc := enc) (w := W) (base := 0) (held := true) n t ss h1
    obtain ⟨h3, ds, h4, h5, h6⟩ := h2 _ _ _ hd
    refine ⟨.agg ds, .agg h4 .nil, .agg ds cs ?_ (fun i e u a b => h5 i e u a (by simpa [Value.cells] using b)), by simpa [D.parts] using h6⟩
    rw [h4.1, h3]; simp [Value.cells]
  have one : ∀ s, shapeOf P n t = some [s] → a = .one s → v.cells.toList = [v] → ∃ e, ArgOks [a] [e] ∧ Holds (· < W.heap.size) W e v ∧ bulkL e.parts ≤ Rows.uptoBulk d := by
    rintro s h1 rfl hv
    obtain ⟨_, h2⟩ := shape_read (enc := enc) (w := W) (base := 0) (held := true) n t [s] h1
    rw [hv] at hd
    obtain ⟨h3, ds, h4, h5, h6⟩ := h2 _ _ _ hd
    obtain ⟨e, r, rfl, h7, h8⟩ := h4.cons_inv
    have := h8.nil_inv
    subst this
    refine ⟨e, .one h7 .nil, h5 0 e v rfl rfl, ?_⟩
    cases h7 <;> simpa [D.parts] using h6
  unfold argShape at hs
  split at hs
  · rename_i fs hu
    split at hs
    · rename_i ss h1
      cases hs
      simp only [Value.okWide, hu] at hval
      exact agg ss h1 rfl ⟨_, hval.choose_spec.1⟩
    · cases hs
  · rename_i m e hu
    split at hs
    · rename_i ss h1
      cases hs
      simp only [Value.okWide, hu] at hval
      exact agg ss h1 rfl ⟨_, hval.choose_spec.1⟩
    · cases hs
  · rename_i hu1 hu2
    split at hs
    · rename_i s h1
      cases hs
      refine one s h1 rfl (oneCell_of_ok (P := P) (W := W) ?_ hval)
      cases n with
      | zero => cases h1
      | succ n =>
        simp only [shapeOf] at h1
        obtain ⟨h1, _⟩ := sized_some h1
        split at h1
        · exact .inr (.inl ‹_›)
        · exact .inl ⟨_, ‹_›⟩
        · exact .inr (.inr (.inl ‹_›))
        · exact .inr (.inr (.inr ⟨_, ‹_›⟩))
        · rename_i fs hu; exact absurd hu (hu1 fs)
        · rename_i m e hu; exact absurd hu (hu2 m e)
        · cases h1
    · cases hs

theorem args_read {n b0 : Nat} : ∀ {ts : List TypeId} {vs : List Value} {ds : List (DataW H)} {ps : List MemPlace} {ash : List AS}, DataW.TrodAll enc P W 0 (fun _ => true) true ts vs ds ps →
    (∀ (j : Nat) t v, ts[j]? = some t → vs[j]? = some v → Value.okWide P W .any b0 t v) → argShapes P n ts = some ash →
    ∃ es, ArgOks ash es ∧ es.length = vs.length ∧ (∀ (i : Nat) (e : D) (v : Value), es[i]? = some e → vs[i]? = some v → Holds (· < W.heap.size) W e v) ∧ bulkA es ≤ Rows.uptoBulkAll ds
  | [], [], [], _, ash, h, _, hs => by
    cases hs
    exact ⟨[], .nil, rfl, fun i e v h => by simp at h, by simp [bulkA]⟩
  | t :: ts, v :: vs, d :: ds, _, ash, ⟨p, q, h1, h2, _⟩, hval, hs => by
    simp only [argShapes] at hs
    split at hs
    · rename_i a ha
      split at hs
      · rename_i ash' has
        cases hs
        obtain ⟨e, k1, k2, k3⟩ := arg_read ha (hval 0 t v rfl rfl) h1
        obtain ⟨es, j1, j2, j3, j4⟩ := args_read h2 (fun j t' v' a b => hval (j + 1) t' v' (by simpa using a) (by simpa using b)) has
        refine ⟨e :: es, ?_, by simp [j2], fun i e' v' a b => ?_, by simp only [bulkA, Rows.uptoBulkAll]; omega⟩
        · cases k1 with
          | one h _ => exact .one h j1
          | agg h _ => exact .agg h j1
        · cases i with
          | zero => simp at a b; subst a b; exact k2
          | succ i => exact j3 i e' v' (by simpa using a) (by simpa using b)
      · cases hs
    · cases hs
  | [], [], _ :: _, _, _, h, _, _ => h.elim
  | [], _ :: _, _, _, _, h, _, _ => h.elim
  | _ :: _, [], _, _, _, h, _, _ => h.elim
  | _ :: _, _ :: _, [], _, _, h, _, _ => h.elim

theorem trod_len {w : World} {base : Nat} {sp : Nat → Bool} {held : Bool} : ∀ {ts : List TypeId} {vs : List Value} {ds : List (DataW H)} {ps : List MemPlace}, DataW.TrodAll enc P w base sp held ts vs ds ps → ds.length = ts.length
  | [], [], [], _, _ => rfl
  | _ :: _, _ :: _, _ :: _, _, ⟨_, _, _, h2, _⟩ => by simp [trod_len h2]
  | [], [], _ :: _, _, h => h.elim
  | [], _ :: _, _, _, h => h.elim
  | _ :: _, [], _, _, h => h.elim
  | _ :: _, _ :: _, [], _, h => h.elim

/-- what the program's table of types is to bear -/
structure Sound (P : Program) : Prop where
  laid : laidOutB P = true
  maps : mapsRowed P = true
  full : ((List.range P.types.size).all fun t => match P.underlying t with | some (.slice e) => decide (0 < P.cellsOf e) | _ => true) = true

theorem Sound.again (S : Sound P) {W' : World} {ts : List TypeId} {vs : List Value} {ds : List (DataW H)} {ps : List MemPlace} (hts : ∀ t ∈ ts, t < P.types.size) (h : DataW.TrodAll enc P W 0 (fun _ => true) true ts vs ds ps) (hb : Below W.heap.size W W') {sp : Nat → Bool} (hsp : ∀ p ∈ ps, sp p.block = true) :
    DataW.TrodAll enc P W' 0 sp true ts vs ds ps := by
  have hlt : ∀ p ∈ ps, p.block < W.heap.size := fun p hp => DataW.TrodAll.lt h p hp
  have h2 := DataW.TrodAll.respare (kids_rows S.laid S.maps) (slices_full_of P S.full) hts h hsp
  exact carry h2 fun p hp => same p (hlt p hp)
where
  same (p : MemPlace) (hp : p.block < W.heap.size) : W.sameAt W' p := by
    cases p with
    | cell b off => exact World.cell?_of_block (w := W) (w' := W') (a := ⟨b, off, none⟩) (hb.block b hp)
    | map b => exact hb.block b hp
  carry {sp : Nat → Bool} : ∀ {ts : List TypeId} {vs : List Value} {ds : List (DataW H)} {ps : List MemPlace}, DataW.TrodAll enc P W 0 sp true ts vs ds ps → (∀ p ∈ ps, W.sameAt W' p) → DataW.TrodAll enc P W' 0 sp true ts vs ds ps
    | [], [], [], _, h, _ => h
    | _ :: _, _ :: _, _ :: _, _, ⟨p, q, ⟨n, h1⟩, h2, e⟩, hs => ⟨p, q, ⟨n, DataW.trod_carry n _ _ _ h1 fun x hx => hs x (by rw [e]; exact List.mem_append_left _ hx)⟩, carry h2 fun x hx => hs x (by rw [e]; exact List.mem_append_right _ hx), e⟩
    | [], [], _ :: _, _, h, _ => h.elim
    | [], _ :: _, _, _, h, _ => h.elim
    | _ :: _, [], _, _, h, _ => h.elim
    | _ :: _, _ :: _, [], _, h, _ => h.elim

/-- a law that hands back true, over no listed variable -/
theorem law_post (S : Sound P) {f : Func} {s : ChangeSpec} {W' : World} {args : Array Value} {ds gs : List (DataW H)} {before : List MemPlace} {tb : TypeId} (hts : ∀ t ∈ f.params.toList, t < P.types.size)
    (hvars : s.vars = []) (hfn : s.fn H ds = { results := [.lit (.bool true)], args := ds }) (hrt : f.resultTypes = #[tb]) (htb : P.underlying tb = some .bool)
    (hW : DataW.Whole enc P f.params.toList s.vars false W args.toList ds gs before) (hb : Below W.heap.size W W') : s.post enc P f false true false false W args (.bool true) W' := by
  have hW0 := hW
  obtain ⟨p, q, hA, hV, rfl, hfz, hnd⟩ := hW
  rw [hvars] at hV
  have hg : gs = [] ∧ q = [] := by cases gs <;> simp_all [DataW.TrodVars]
  obtain ⟨rfl, rfl⟩ := hg
  have hlt : ∀ x ∈ p, x.block < W.heap.size := fun x hx => DataW.TrodAll.lt hA x hx
  have hag : DataW.TrodAll enc P W' 0 (fun b => decide (b < W.heap.size)) true f.params.toList args.toList ds p := S.again hts hA hb (fun x hx => by simpa using hlt x hx)
  refine ⟨ds, [], p ++ [], [], p, [], hW0, ?_, ?_, ?_, hb.frame _, fun h => by cases h⟩
  · rw [List.append_nil, hfn, hrt]
    exact ⟨[], [], shut_bool htb true, rfl, rfl⟩
  · rw [List.append_nil, hfn]; exact hag
  · rw [List.append_nil, hfn, hvars]; rfl

theorem gam_nil {W : World} (h : gamList = []) : Gam W := fun p hp => by rw [h] at hp; cases hp
/-- a law that the abstract reading computes to true meets its row's step -/
theorem law_calls (S : Sound P) {f : FuncId} {fn : Func} {s : ChangeSpec} {base n : Nat} {args : Array Value} {ds gs : List (DataW H)} {before : List MemPlace} {tb : TypeId} {ash : List AS} (hsh : argShapes P n fn.params.toList = some ash) (hts : ∀ t ∈ fn.params.toList, t < P.types.size)
    (hvars : s.vars = []) (hfn : ∀ ds : List (DataW H), ds.length = fn.params.toList.length → s.fn H ds = { results := [.lit (.bool true)], args := ds }) (hrt : fn.resultTypes = #[tb]) (htb : P.underlying tb = some .bool) (hgam : Gam W)
    (hval : ∀ (j : Nat) t v, fn.params[j]? = some t → args[j]? = some v → Value.okWide P W .any base t v)
    (hW : DataW.Whole enc P fn.params.toList s.vars false W args.toList ds gs before)
    (ev : ∀ es, ArgOks ash es → bulkA es ≤ Rows.uptoBulkAll ds → Evals P f es (.bool true)) :
    Calls P f args W fun e W' => ∃ v, e = .returned v ∧ s.post enc P fn false true false false W args v W' := by
  have hW0 := hW
  obtain ⟨p, q, hA, hV, hpq, hfz, hnd⟩ := hW
  obtain ⟨es, h1, h2, h3, h4⟩ := args_read hA (fun j t v a b => hval j t v (by simpa using a) (by simpa using b)) hsh
  have hlen := trod_len hA
  refine ((ev es h1 h4).run (· < W.heap.size) W args (fun _ h => h) hgam ⟨by simpa using h2.symm, fun i e v a b => h3 i e v a (by simpa using b)⟩).mono ?_
  rintro e W' ⟨v, R', rfl, hb, _, _, hh⟩
  cases hh
  exact ⟨_, rfl, law_post S hts hvars (hfn ds hlen) hrt htb hW0 hb⟩
end
end Go.Proofs.YtffcpgebgoineaaDoor.K
