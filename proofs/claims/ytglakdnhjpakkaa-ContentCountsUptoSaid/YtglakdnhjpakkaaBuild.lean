/- Struct and slice literals. -/
import Derived.Test.YtglakdnhjpakkaaOwn
namespace Go.Proofs.Ytglakdnhjpakkaa.K
open Go Go.RowKit
set_option linter.unusedVariables false
set_option linter.unusedSimpArgs false

def splice {α : Type} (l : List α) (off : Nat) (m : List α) : List α := l.take off ++ m ++ l.drop (off + m.length)

theorem fold_set (v : Array Value) : ∀ (l : List Value) (j : Nat) (cs : Array Value) (off : Nat), off + j + l.length ≤ cs.size →
    ((l.zipIdx j).foldl (fun cs (p : Value × Nat) => cs.setIfInBounds (off + p.2) p.1) cs).toList = splice cs.toList (off + j) l := by
  intro l
  induction l with
  | nil => intro j cs off h; simp [splice]
  | cons x l ih =>
    intro j cs off h
    simp only [List.zipIdx_cons, List.foldl_cons]
    rw [ih (j + 1) _ off (by simp at h ⊢; omega), Array.toList_setIfInBounds]
    have := list_seg_step cs.toList (off + j) x l (by simp at h ⊢; omega)
    unfold splice
    rw [show off + (j + 1) = off + j + 1 by omega, this]
    simp [Nat.add_assoc]

/-- what a literal's parts make of the zero cells -/
def fillD {P : Program} (τ : Tys P) (s : St) (place : Nat → Option (Nat × Nat × Nat)) : List D → List (Nat × Operand) → Option (List D)
  | z, [] => some z
  | z, (i, x) :: r => match place i with
    | some (off, size, T) => match τ.rdT s T x with
      | some (.val e) => match Nat.beq e.cells.length size && Nat.ble (off + e.cells.length) z.length with
        | true => fillD τ s place (splice z off e.cells) r
        | false => none
      | _ => none
    | none => none

theorem splice_length {α : Type} (l : List α) (off : Nat) (m : List α) (h : off + m.length ≤ l.length) : (splice l off m).length = l.length := by simp [splice]; omega

theorem fill_run {P : Program} {τ : Tys P} {B : Base} {R : Nat → Prop} {ad : Nat → Option Nat} {s : St} {a : Act} {w : World} (hi : Inv B R ad s a w) {place : Nat → Option (Nat × Nat × Nat)} {pl : Nat → Option (Nat × Nat)} (hp : ∀ i o, place i = some o → pl i = some (o.1, o.2.1)) : ∀ (parts : List (Nat × Operand)) (z ds : List D) (cs : Array Value), fillD τ s place z parts = some ds →
    cs.size = z.length → (∀ (i : Nat) (d : D) (v : Value), z[i]? = some d → cs[i]? = some v → Holds R w d v) →
    ∃ cs' : Array Value, Instr.fill pl cs (parts.map fun p => (p.1, a.eval p.2)) = some cs' ∧ cs'.size = ds.length ∧ cs'.size = cs.size ∧ ∀ (i : Nat) (d : D) (v : Value), ds[i]? = some d → cs'[i]? = some v → Holds R w d v := by
  intro parts
  induction parts with
  | nil => intro z ds cs h h1 h2; simp only [fillD] at h; cases h; exact ⟨cs, rfl, h1, rfl, h2⟩
  | cons p r ih =>
    obtain ⟨i, x⟩ := p
    intro z ds cs h h1 h2
    simp only [fillD] at h
    split at h
    · rename_i off size T ho
      split at h
      · rename_i e he
        split at h
        · rename_i hb
          simp only [Bool.and_eq_true] at hb
          have hsz := Nat.eq_of_beq_eq_true hb.1
          have hle := Nat.le_of_ble_eq_true hb.2
          obtain ⟨h3, h4⟩ := Holds.cells ((Rd.ofT he).holds hi)
          have hfs := fold_set #[] (a.eval x).cells.toList 0 cs off (by simp; omega)
          have hfold : ((a.eval x).cells.zipIdx.foldl (fun cs (p : Value × Nat) => cs.setIfInBounds (off + p.2) p.1) cs).toList = splice cs.toList off (a.eval x).cells.toList := by
            rw [← Array.foldl_toList, Array.toList_zipIdx]
            simpa using hfs
          generalize hcs : (a.eval x).cells.zipIdx.foldl (fun cs (p : Value × Nat) => cs.setIfInBounds (off + p.2) p.1) cs = cs1 at hfold
          have hsize : cs1.size = cs.size := by
            rw [← Array.length_toList, hfold, splice_length _ _ _ (by simp; omega), Array.length_toList]
          obtain ⟨cs', g1, g2, g3, g4⟩ := ih (splice z off e.cells) ds cs1 h (by rw [hsize, h1, splice_length _ _ _ hle]) (fun j d v a1 a2 => by
            have a2' : (splice cs.toList off (a.eval x).cells.toList)[j]? = some v := by rw [← hfold]; simpa using a2
            have hl : (a.eval x).cells.toList.length = e.cells.length := by simpa using h3
            unfold splice at a1 a2'
            rcases splice_get _ _ _ _ _ hle a1 with ⟨b1, b2⟩ | ⟨b1, b2, b3⟩ | ⟨b1, b2⟩ <;> rcases splice_get _ _ _ _ _ (by simp at hl ⊢; omega) a2' with ⟨c1, c2⟩ | ⟨c1, c2, c3⟩ | ⟨c1, c2⟩ <;> first
              | (exfalso; omega)
              | exact h2 j d v b2 (by simpa using c2)
              | exact h4 _ d v b3 (by simpa using c3))
          refine ⟨cs', ?_, g2, by rw [g3, hsize], g4⟩
          simp only [List.map_cons, Instr.fill, hp i _ ho]
          rw [if_neg (by simp; omega)]
          exact Eq.trans (congrArg (fun c => Instr.fill pl c (r.map fun p => (p.1, a.eval p.2))) hcs) g1
        · cases h
      · cases h
    · cases h

section
variable {P : Program} {τ : Tys P} {B : Base} {s : St} {d : Nat} {ty : TypeId} {pos : String} {af : Array Edge} {gd : Option (Nat × Bool)}

/-- the places of a struct's fields -/
def placeS {P : Program} (τ : Tys P) (fs : List (Nat × Nat)) (f : Nat) : Option (Nat × Nat × Nat) := match fs[f]? with
  | some (off, T) => match get τ.tab T with
    | some j => some (off, j.size, T)
    | none => none
  | none => none

def Tys.allIn {P : Program} (τ : Tys P) : List (Nat × Nat) → Bool
  | [] => true
  | (_, T) :: r => (get τ.tab T).isSome && τ.allIn r

theorem run_places {F : List Field} : ∀ (l : List Field), τ.allIn (l.map fun (f : Field) => (f.offset, f.type)) = true → ∀ w,  ∃ ps, (l.mapM fun (f : Field) => (do pure (f.offset, ← sizeOf f.type) : Sem (Nat × Nat))).run P w = .ok ps w ∧ ∀ (i : Nat) (f : Field), l[i]? = some f → ∃ j, get τ.tab f.type = some j ∧ ps[i]? = some (f.offset, j.size)
  | [], _, w => ⟨[], by simp, fun i f h => by simp at h⟩
  | f :: l, h, w => by
    simp only [List.map_cons, Tys.allIn, Bool.and_eq_true] at h
    obtain ⟨ps, h1, h2⟩ := run_places (F := F) l h.2 w
    obtain ⟨j, hj⟩ := Option.isSome_iff_exists.1 h.1
    refine ⟨(f.offset, j.size) :: ps, ?_, fun i f' hf => ?_⟩
    · rw [List.mapM_cons]
      simp only [Sem.run_bind, Sem.run_pure, Tys.size hj, Result.andThen_ok, h1]
    · cases i with
      | zero => simp at hf; subst hf; exact ⟨j, hj, rfl⟩
      | succ i => exact h2 i f' (by simpa using hf)

theorem op_build {T : TypeId} {parts : Array (Nat × Operand)} {i : TI} {fs : List (Nat × Nat)} {ds : List D} (hT : get τ.tab T = some i) (hk : i.k = .struct fs) (hall : τ.allIn fs = true) (hf : fillD τ s (placeS τ fs) i.zero parts.toList = some ds) (hN : Nat.blt d B.N = true) :
    OpDo P B ⟨some d, .build T parts, ty, pos, af, gd⟩ s (s.setT d (.val (.agg ds))) :=
  .pure hN fun R ad a w hi => by
    have h := (τ.is hT).1
    rw [hk] at h
    obtain ⟨F, h1, h2⟩ := h
    obtain ⟨z, hz1, hz2, hz3⟩ := Tys.zero hT w
    rw [← h2] at hall
    obtain ⟨ps, hp1, hp2⟩ := run_places (P := P) (τ := τ) (F := []) F.toList hall w
    obtain ⟨cs', g1, g2, g3, g4⟩ := fill_run (τ := τ) hi (place := placeS τ fs) (pl := (ps.toArray[·]?)) (fun k o ho => by
      unfold placeS at ho
      rw [← h2] at ho
      split at ho
      · rename_i off T' hoff
        simp only [List.getElem?_map, Option.map_eq_some_iff] at hoff
        obtain ⟨f, hf1, hf2⟩ := hoff
        obtain ⟨j, hj1, hj2⟩ := hp2 k f hf1
        cases hf2
        rw [hj1] at ho
        cases ho
        simpa using hj2
      · cases ho) parts.toList i.zero ds z.cells hf hz2 (fun j d v a b => hz3 R w j d v a b)
    refine ⟨.agg cs', ?_, .agg ds cs' g2 g4⟩
    have hm : (F.mapM fun (f : Field) => (do pure (f.offset, ← sizeOf f.type) : Sem (Nat × Nat))).run P w = .ok ps.toArray w := by
      rw [Array.mapM_eq_mapM_toList]
      simp only [Sem.run_map, hp1, Result.andThen_ok]
    have hparts : (parts.map fun (i, x) => (i, a.eval x)).toList = parts.toList.map fun p => (p.1, a.eval p.2) := by simp
    simp only [execOp, Instr.build, Sem.run_bind, hz1, Result.andThen_ok, run_underlying h1, hm, hparts, g1, Sem.run_pure]

/-- a slice literal of whole numbers -/
def placeI (n k : Nat) (i : Nat) : Option (Nat × Nat × Nat) := some (i * n, n, k)

theorem op_buildSlice {T e len : Nat} {parts : Array (Nat × Operand)} {i j : TI} {ds : List D} (hT : get τ.tab T = some i) (hk : i.k = .slice e) (he : get τ.tab e = some j) (hlen : Nat.ble (len * j.size) 65536 = true) (hz0 : Nat.blt 0 (len * j.size) = true) (hzp : Nat.blt 0 j.zero.length = true)
    (hf : fillD τ s (placeI j.size e) ((List.range (len * j.size)).map fun n => j.zero.getD (n % j.zero.length) (.bool false)) parts.toList = some ds) (td : D) (htd : ∀ R w b, R b → (∀ n, n < ds.length → ∃ v, w.cell? ⟨b, n, none⟩ = some v ∧ ∀ e, ds[n]? = some e → Holds R w e v) → Holds R w td (.slice (some ⟨b, 0, none⟩) len len)) (hN : Nat.blt d B.N = true) :
    OpDo P B ⟨some d, .buildSlice T len parts, ty, pos, af, gd⟩ s (s.setT d (.val td)) :=
  .value fun R ad a w hi => by
    have hle := Nat.le_of_ble_eq_true hlen
    have h0 : 0 < len * j.size := Nat.le_of_ble_eq_true hz0
    obtain ⟨z, hz1, hz2, hz3⟩ := Tys.zero he w
    obtain ⟨_, I, hI1, hI2, _, z', hz4, hz5, _⟩ := τ.is he
    have hne : ¬ len * j.size = 0 := by omega
    let cs0 : Array Value := (Array.range (len * j.size)).map (z.cells[· % z.cells.size]!)
    have hcs0 : cs0.size = len * j.size := by simp [cs0]
    obtain ⟨cs', g1, g2, g3, g4⟩ := fill_run (τ := τ) hi (place := placeI j.size e) (pl := fun i => some (i * j.size, j.size)) (fun k o ho => by unfold placeI at ho; cases ho; rfl) parts.toList _ ds cs0 hf (by simp [cs0]) (fun n dd v a1 a2 => by
      simp only [List.getElem?_map, Option.map_eq_some_iff] at a1
      obtain ⟨m, hm1, hm2⟩ := a1
      have hn : n < len * j.size := by
        have := (List.getElem?_eq_some_iff.1 hm1).1
        simpa using this
      have hmn : m = n := by
        rw [List.getElem?_range hn] at hm1
        exact (Option.some.inj hm1).symm
      subst hmn
      have hzpos : 0 < j.zero.length := Nat.le_of_ble_eq_true hzp
      have hmod : m % j.zero.length < j.zero.length := Nat.mod_lt _ hzpos
      have hv : v = z.cells[m % z.cells.size]! := by simp [cs0, hn] at a2; exact a2.symm
      rw [hz2] at hv
      have hlt : m % j.zero.length < z.cells.size := by omega
      refine hz3 R w (m % j.zero.length) dd v ?_ ?_
      · rw [← hm2, List.getD_eq_getElem?_getD, List.getElem?_eq_getElem hmod]; rfl
      · rw [hv, getElem!_pos z.cells _ hlt]; simp [hlt])
    let o : Obj := .cells cs' e
    have hb : Below w.heap.size w (w.alloc o) := (Below.refl _ _).alloc (Nat.le_refl _) _
    have hparts : (parts.map fun (i, x) => (i, a.eval x)).toList = parts.toList.map fun p => (p.1, a.eval p.2) := by simp
    have h24 : ¬ (2 ^ 24 < len * j.size) := by omega
    refine ⟨.slice (some ⟨w.heap.size, 0, none⟩) len len, w.alloc o, ?_, fun c => R c ∨ c = w.heap.size, ad, ?_⟩
    · simp only [execOp, Instr.buildSlice, Sem.run_bind, run_underlying (Tys.slice hT hk), Result.andThen_ok, Tys.size he, Sem.run_ite, Sem.run_pure, hparts, hne, if_false, hz1]
      rw [if_neg (by omega)]
      rw [show ((Array.range (len * j.size)).map fun x => z.cells[x % z.cells.size]!) = cs0 from rfl, g1]
      simp [newRow, o]
    · refine (hi.grow hb (fun _ h => .inl h) ?_).put hN ?_
      · rintro c (hc | rfl)
        · exact ⟨.inl hc, by have := (hi.Rn c hc).2; simp; omega⟩
        · exact ⟨.inr (Nat.le_refl _), by simp⟩
      · refine htd _ _ _ (.inr rfl) fun n hn => ?_
        have hn' : n < cs'.size := by omega
        refine ⟨cs'[n], by rw [cells_of_row (heap_alloc_new w o)]; simp [hn'], fun e' he' => ?_⟩
        exact (g4 n e' _ he' (by simp [hn'])).mono (fun _ h => .inl h) (fun b hb => heap_alloc_old w _ b (hi.Rn b hb).2)

def intsOf (k : IntKind) : List D → Option (List Int)
  | [] => some []
  | d :: ds => match d, intsOf k ds with
    | .int k' n, some l => match decide (k' = k) with
      | true => some (n :: l)
      | false => none
    | _, _ => none
theorem intsOf_spec {k : IntKind} : ∀ {ds : List D} {l : List Int}, intsOf k ds = some l → ds = l.map (D.int k)
  | [], l, h => by simp only [intsOf] at h; cases h; rfl
  | d :: ds, l, h => by
    simp only [intsOf] at h
    split at h
    · rename_i k' n l' h1
      split at h
      · rename_i hk
        simp only [decide_eq_true_eq] at hk
        cases h
        rw [intsOf_spec h1, hk]; rfl
      · cases h
    · cases h

theorem op_buildE0 {T e : Nat} {i j : TI} (hT : get τ.tab T = some i) (hk : i.k = .slice e) (he : get τ.tab e = some j) (td : D) (htd : ∀ R w (x : Addr), Holds R w td (.slice (some x) 0 0)) (hN : Nat.blt d B.N = true) :
    OpDo P B ⟨some d, .buildSlice T 0 #[], ty, pos, af, gd⟩ s (s.setT d (.val td)) :=
  .value fun R ad a w hi => by
    let o : Obj := .cells #[] e
    have hb : Below w.heap.size w (w.alloc o) := (Below.refl _ _).alloc (Nat.le_refl _) _
    refine ⟨.slice (some ⟨w.heap.size, 0, none⟩) 0 0, w.alloc o, ?_, R, ad, ?_⟩
    · have e0 : Array.range 0 = #[] := Array.ext' (by simp)
      simp [execOp, Instr.buildSlice, Sem.run_bind, run_underlying (Tys.slice hT hk), Tys.size he, Instr.fill, newRow, o, e0]
    · exact (hi.grow hb (fun _ h => h) fun c hc => ⟨.inl hc, by have := (hi.Rn c hc).2; simp; omega⟩).put hN (htd _ _ _)
theorem op_buildE {T e : Nat} {i j : TI} {kz : IntKind} (hT : get τ.tab T = some i) (hk : i.k = .slice e) (he : get τ.tab e = some j) (hjk : j.k = .int kz) (hN : Nat.blt d B.N = true) :
    OpDo P B ⟨some d, .buildSlice T 0 #[], ty, pos, af, gd⟩ s (s.setT d (.val (.ints kz []))) := op_buildE0 (τ := τ) hT hk he _ (fun _ _ _ => .intsE _ _) hN
theorem op_buildESl {T e : Nat} {i j : TI} (hT : get τ.tab T = some i) (hk : i.k = .slice e) (he : get τ.tab e = some j) (hN : Nat.blt d B.N = true) :
    OpDo P B ⟨some d, .buildSlice T 0 #[], ty, pos, af, gd⟩ s (s.setT d (.val (.sl j.size []))) := op_buildE0 (τ := τ) hT hk he _ (fun _ _ _ => .slE _ _) hN
theorem op_buildInts {T e len : Nat} {parts : Array (Nat × Operand)} {i j : TI} {ds : List D} {kz : IntKind} {l : List Int} (hT : get τ.tab T = some i) (hk : i.k = .slice e) (he : get τ.tab e = some j) (hjk : j.k = .int kz) (hlen : Nat.ble (len * j.size) 65536 = true) (hz0 : Nat.blt 0 (len * j.size) = true) (hzp : Nat.blt 0 j.zero.length = true)
    (hf : fillD τ s (placeI j.size e) ((List.range (len * j.size)).map fun n => j.zero.getD (n % j.zero.length) (.bool false)) parts.toList = some ds) (hl : intsOf kz ds = some l) (hll : l.length = len) (hN : Nat.blt d B.N = true) :
    OpDo P B ⟨some d, .buildSlice T len parts, ty, pos, af, gd⟩ s (s.setT d (.val (.ints kz l))) :=
  op_buildSlice (τ := τ) hT hk he hlen hz0 hzp hf (.ints kz l) (fun R w b hR hc => by
    have hds := intsOf_spec hl
    have cell : ∀ n, (hn : n < l.length) → w.cell? ⟨b, n, none⟩ = some (.int kz l[n]) ∧ InR kz l[n] := fun n hn => by
      obtain ⟨v, h1, h2⟩ := hc n (by rw [hds]; simpa using hn)
      have h3 := h2 (.int kz l[n]) (by rw [hds]; simp [hn])
      cases h3
      exact ⟨h1, by assumption⟩
    conv => arg 4; rw [← hll]
    refine .ints kz l b 0 _ hR (Nat.le_refl _) (by have := Nat.le_of_ble_eq_true hlen; have := Nat.le_of_ble_eq_true hz0; simp only [maxLen]; rw [hll]; have : len ≤ len * j.size := Nat.le_mul_of_pos_right _ (Nat.pos_of_ne_zero (fun h => by rw [h] at this; simp at this)); omega) (fun x hx => ?_) (fun n hn => by rw [Nat.zero_add]; exact (cell n hn).1)
    obtain ⟨n, hn, rfl⟩ := List.mem_iff_getElem.1 hx
    exact (cell n hn).2) hN

def chunk {α : Type} (z : Nat) : Nat → List α → List (List α)
  | 0, _ => []
  | n + 1, l => l.take z :: chunk z n (l.drop z)
theorem chunk_length {α : Type} (z : Nat) : ∀ (n : Nat) (l : List α), (chunk z n l).length = n
  | 0, l => rfl
  | n + 1, l => by simp [chunk, chunk_length z n]
theorem chunk_at {α : Type} (z : Nat) : ∀ (n : Nat) (l : List α) (i : Nat) (m : List α), (chunk z n l)[i]? = some m → m = (l.drop (i * z)).take z ∧ i < n
  | 0, l, i, m, h => by simp [chunk] at h
  | n + 1, l, 0, m, h => by simp [chunk] at h; exact ⟨by simp [h], by omega⟩
  | n + 1, l, i + 1, m, h => by
    simp only [chunk] at h
    obtain ⟨h1, h2⟩ := chunk_at z n (l.drop z) i m (by simpa using h)
    refine ⟨?_, by omega⟩
    rw [h1, List.drop_drop]
    congr 2
    rw [Nat.add_mul, Nat.one_mul]; omega

theorem op_buildSl {T e len : Nat} {parts : Array (Nat × Operand)} {i j : TI} {ds : List D} (hT : get τ.tab T = some i) (hk : i.k = .slice e) (he : get τ.tab e = some j) (hlen : Nat.ble (len * j.size) 65536 = true) (hz0 : Nat.blt 0 (len * j.size) = true) (hzp : Nat.blt 0 j.zero.length = true)
    (hf : fillD τ s (placeI j.size e) ((List.range (len * j.size)).map fun n => j.zero.getD (n % j.zero.length) (.bool false)) parts.toList = some ds) (hll : Nat.beq ds.length (len * j.size) = true) (hN : Nat.blt d B.N = true) :
    OpDo P B ⟨some d, .buildSlice T len parts, ty, pos, af, gd⟩ s (s.setT d (.val (.sl j.size (chunk j.size len ds)))) :=
  op_buildSlice (τ := τ) hT hk he hlen hz0 hzp hf (.sl j.size (chunk j.size len ds)) (fun R w b hR hc => by
    have hdl : ds.length = len * j.size := Nat.eq_of_beq_eq_true hll
    have hcl := chunk_length j.size len ds
    have h1 := Nat.le_of_ble_eq_true hlen
    have h2 : 0 < len * j.size := Nat.le_of_ble_eq_true hz0
    have hs0 : 0 < j.size := Nat.pos_of_ne_zero (fun h => by rw [h] at h2; simp at h2)
    have hll' : len ≤ len * j.size := Nat.le_mul_of_pos_right _ hs0
    have hvs : ∃ vs : Nat → Value, ∀ n, n < ds.length → w.cell? ⟨b, n, none⟩ = some (vs n) ∧ ∀ e, ds[n]? = some e → Holds R w e (vs n) := by
      classical
      refine ⟨fun n => if h : n < ds.length then (hc n h).choose else default, fun n hn => ?_⟩
      simp only [hn, dif_pos]
      exact (hc n hn).choose_spec
    obtain ⟨vs, hvs⟩ := hvs
    conv => arg 4; rw [← hcl]
    refine .sl j.size _ b 0 _ vs hR (Nat.le_refl _) (by simp only [maxLen]; omega) (fun m hm => ?_) (fun n hn => ?_) (fun n m k' dd a1 a2 => ?_)
    · obtain ⟨n, hn⟩ := List.mem_iff_getElem?.1 hm
      obtain ⟨h3, h4⟩ := chunk_at _ _ _ _ _ hn
      rw [h3]; simp
      have : (n + 1) * j.size ≤ len * j.size := Nat.mul_le_mul_right _ h4
      rw [Nat.add_mul, Nat.one_mul] at this
      omega
    · rw [Nat.zero_add]; exact (hvs n (by rw [hcl] at hn; omega)).1
    · obtain ⟨h3, h4⟩ := chunk_at _ _ _ _ _ a1
      subst h3
      obtain ⟨h5, h6⟩ := seg_get _ _ _ _ _ a2
      exact (hvs _ (List.getElem?_eq_some_iff.1 h5).1).2 dd h5) hN
end

theorem wrap_u64m (x : Int) : IntKind.u64.wrap x = x % 18446744073709551616 := by simp [IntKind.wrap, IntKind.bits, IntKind.signed]
theorem sh_32 : min (32 : Int).toNat IntKind.u64.bits = 32 := rfl
theorem sh_63 : min (63 : Int).toNat IntKind.u64.bits = 63 := rfl
theorem sh_31 : min (31 : Int).toNat IntKind.i64.bits = 31 := rfl
theorem sh_1 : min (1 : Int).toNat IntKind.u64.bits = 1 := rfl
theorem sh32_16 : min (16 : Int).toNat IntKind.u32.bits = 16 := rfl
theorem sh32_8 : min (8 : Int).toNat IntKind.u32.bits = 8 := rfl
theorem shr_16 (m : Int) : m / 2 ^ 16 = m / 65536 := rfl
theorem shr_8 (m : Int) : m / 2 ^ 8 = m / 256 := rfl
theorem sh_var {k : Nat} (h : k ≤ 63) : min ((k : Int)).toNat IntKind.u64.bits = k := by simp [IntKind.bits]; omega
theorem shr_u64_32 (m : Int) : m / 2 ^ 32 = m / 4294967296 := rfl
theorem shr_u64_63 (m : Int) : m / 2 ^ 63 = m / 9223372036854775808 := rfl
theorem shl_u64_32 {m : Int} (h : 0 ≤ m ∧ m < 4294967296) : IntKind.u64.wrap (m * 2 ^ 32) = m * 4294967296 := by
  show IntKind.u64.wrap (m * 4294967296) = _
  exact wrap_u64' (by omega)
theorem pow2_le {k n : Nat} (h : k ≤ n) : (2 : Int) ^ k ≤ 2 ^ n := by
  have := Nat.pow_le_pow_right (n := 2) (by omega) h
  exact_mod_cast this
theorem pow2_pos (k : Nat) : (0 : Int) < 2 ^ k := Int.pow_pos (by omega)
theorem shl_u64_var {m : Int} {k : Nat} (h : 0 ≤ m ∧ m < 4294967296) (hk : k ≤ 31) : IntKind.u64.wrap (m * 2 ^ k) = m * 2 ^ k := by
  refine wrap_u64' ⟨Int.mul_nonneg h.1 (Int.le_of_lt (pow2_pos k)), ?_⟩
  have h2 : (2 : Int) ^ k ≤ 2 ^ 31 := pow2_le hk
  have h3 : m * 2 ^ k ≤ m * 2 ^ 31 := Int.mul_le_mul_of_nonneg_left h2 h.1
  omega
theorem sh_varI {k : Int} (h : 0 ≤ k ∧ k ≤ 63) : min k.toNat IntKind.u64.bits = k.toNat := by simp [IntKind.bits]; omega
theorem sh32_varI {k : Int} (h : 0 ≤ k ∧ k ≤ 31) : min k.toNat IntKind.u32.bits = k.toNat := by simp [IntKind.bits]; omega
theorem shl_u32_one {k : Nat} (h : k ≤ 31) : IntKind.u32.wrap (1 * 2 ^ k) = 2 ^ k := by
  have h1 := pow2_le h
  have h2 := pow2_pos k
  rw [IntKind.wrap_u32]; omega
theorem or_hi {h l : Int} (hh : 0 ≤ h ∧ h < 4294967296) (hl : 0 ≤ l ∧ l < 4294967296) : bitsOf .or .u64 (h * 4294967296) l = h * 4294967296 + l := by
  obtain ⟨a, rfl⟩ := Int.eq_ofNat_of_zero_le hh.1
  obtain ⟨b, rfl⟩ := Int.eq_ofNat_of_zero_le hl.1
  have ha : a < 2 ^ 32 := by omega
  have hb : b < 2 ^ 32 := by omega
  have e1 : (BitVec.ofInt IntKind.u64.bits ((a : Int) * 4294967296)).toNat = a * 2 ^ 32 := by
    rw [BitVec.toNat_ofInt]; simp only [IntKind.bits]; omega
  have e2 : (BitVec.ofInt IntKind.u64.bits (b : Int)).toNat = b := by
    rw [BitVec.toNat_ofInt]; simp only [IntKind.bits]; omega
  unfold bitsOf
  simp only [BitVec.toNat_or, e1, e2]
  have e3 : a * 2 ^ 32 ||| b = a * 2 ^ 32 + b := by
    rw [Nat.mul_comm]
    exact (Nat.two_pow_add_eq_or_of_lt hb a).symm
  rw [e3, wrap_u64' (by omega)]
  omega
theorem or_lo' {h l : Int} (hh : 0 ≤ h ∧ h < 4294967296) (hl : 0 ≤ l ∧ l < 4294967296) : bitsOf .or .u64 l (h * 4294967296) = l + h * 4294967296 := by
  rw [Int.add_comm, ← or_hi hh hl]
  unfold bitsOf
  simp only [BitVec.or_comm]
theorem rdN {s : St} {x : Operand} {k : IntKind} {m : Int} {n : Nat} (h : Rd s x (.val (.int k m))) (e : m = (n : Int)) : Rd s x (.val (.int k (n : Int))) := e ▸ h
end Go.Proofs.Ytglakdnhjpakkaa.K
