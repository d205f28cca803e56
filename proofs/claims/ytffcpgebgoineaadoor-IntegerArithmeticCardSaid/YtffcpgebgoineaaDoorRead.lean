/- What a reading of an argument as data says in the abstract reading: the shapes of types; a call that writes nothing old meets a law's row. Nothing of any program stands here. -/
import Derived.Test.YtffcpgebgoineaaDoorCore
import Derived.Test.YtffcpgebgoineaaDoorRows
import Derived.ChangeArms
import Derived.OpenShut
import Derived.ReadAgain
import Derived.ChangeSame
import Derived.ProofKit
import Derived.JoinedCond
namespace Go.Proofs.YtffcpgebgoineaaDoor.K
open Go Go.RowKit
set_option linter.unusedVariables false
set_option linter.unusedSimpArgs false

/-- the shape of a cell -/
inductive Sh where
  | int (k : IntKind)
  | bool
  | str
  | ints (k : IntKind)
  | sl (ss : List Sh)

inductive Sh.Ok : Sh → D → Prop where
  | int (k : IntKind) (n : Int) (h : InR k n) : Sh.Ok (.int k) (.int k n)
  | bool (b : Bool) : Sh.Ok .bool (.bool b)
  | str (l : List UInt8) : Sh.Ok .str (.str l)
  | ints (k : IntKind) (l : List Int) : Sh.Ok (.ints k) (.ints k l)
  | sl (ss : List Sh) (l : List (List D)) (h : ∀ row ∈ l, row.length = ss.length) (hh : ∀ row ∈ l, ∀ (i : Nat) (s : Sh) (d : D), ss[i]? = some s → row[i]? = some d → Sh.Ok s d) : Sh.Ok (.sl ss) (.sl ss.length l)

/-- cells, side by side -/
def Oks (ss : List Sh) (ds : List D) : Prop := ds.length = ss.length ∧ ∀ (i : Nat) (s : Sh) (d : D), ss[i]? = some s → ds[i]? = some d → s.Ok d
theorem Oks.append {ss ss' : List Sh} {ds ds' : List D} (h : Oks ss ds) (h' : Oks ss' ds') : Oks (ss ++ ss') (ds ++ ds') := by
  refine ⟨by simp [h.1, h'.1], fun i s d h1 h2 => ?_⟩
  rw [List.getElem?_append] at h1 h2
  rw [h.1] at h2
  split at h1
  · rename_i hi
    rw [if_pos hi] at h2
    exact h.2 i s d h1 h2
  · rename_i hi
    rw [if_neg hi] at h2
    exact h'.2 _ s d h1 h2

theorem Oks.nil_inv {ds : List D} (h : Oks [] ds) : ds = [] := List.eq_nil_of_length_eq_zero h.1
theorem Oks.cons_inv {s : Sh} {ss : List Sh} {ds : List D} (h : Oks (s :: ss) ds) : ∃ d r, ds = d :: r ∧ s.Ok d ∧ Oks ss r := by
  obtain ⟨h1, h2⟩ := h
  cases ds with
  | nil => simp at h1
  | cons d r => exact ⟨d, r, rfl, h2 0 s d rfl rfl, by simpa using h1, fun i s' d' a b => h2 (i + 1) s' d' (by simpa using a) (by simpa using b)⟩


mutual
def D.bulk : D → Nat
  | .int _ _ => 1
  | .bool _ => 1
  | .str s => s.length + 1
  | .ints _ l => l.length + 1
  | .sl _ l => bulkLL l + 1
  | .agg l => bulkL l + 1
  | .tup l => bulkL l + 1
  | .ref l => bulkL l + 1
  | .fn _ l => bulkL l + 1
  | .raw _ => 1
  | .any => 1
def bulkL : List D → Nat
  | [] => 0
  | d :: r => D.bulk d + bulkL r
def bulkLL : List (List D) → Nat
  | [] => 0
  | l :: r => bulkL l + bulkLL r
end
theorem bulkL_append : ∀ (a b : List D), bulkL (a ++ b) = bulkL a + bulkL b
  | [], b => by simp [bulkL]
  | d :: r, b => by simp [bulkL, bulkL_append r b]; omega

def shapeAll (f : TypeId → Option (List Sh)) : List (Nat × TypeId) → Nat → Option (List Sh)
  | [], _ => some []
  | (o, T) :: r, off => match Nat.beq o off with
    | true => match f T with
      | some ss => match shapeAll f r (off + ss.length) with
        | some rs => some (ss ++ rs)
        | none => none
      | none => none
    | false => none
def sliceSh : List Sh → Option (List Sh)
  | [] => none
  | [.int k] => some [.ints k]
  | ss => some [.sl ss]
def sized (n : Nat) : Option (List Sh) → Option (List Sh)
  | some ss => match Nat.beq ss.length n with
    | true => some ss
    | false => none
  | none => none
def shapeOf (P : Program) : Nat → TypeId → Option (List Sh)
  | 0, _ => none
  | n + 1, t => sized (P.cellsOf t) (match P.underlying t with
    | some .bool => some [.bool]
    | some (.int k) => some [.int k]
    | some .string => some [.str]
    | some (.slice e) => match shapeOf P n e with
      | some ss => sliceSh ss
      | none => none
    | some (.struct fs) => shapeAll (shapeOf P n) (fs.toList.map fun f => (f.offset, f.type)) 0
    | some (.array m e) => shapeAll (shapeOf P n) ((List.range m).map fun i => (i * P.cellsOf e, e)) 0
    | _ => none)

theorem sized_some {n : Nat} {o : Option (List Sh)} {ss : List Sh} (h : sized n o = some ss) : o = some ss ∧ ss.length = n := by
  cases o with
  | none => cases h
  | some l =>
    simp only [sized] at h
    split at h
    · rename_i hb
      cases h
      exact ⟨rfl, Nat.eq_of_beq_eq_true hb⟩
    · cases h

section
variable {H : Type} {enc : TypeId × Value → H} {P : Program} {w : World} {base : Nat} {held : Bool}

/-- the cells read as these data -/
def CellsAre (w : World) (ss : List Sh) (cs : List Value) (n : Nat) : Prop :=
  ss.length = cs.length ∧ ∃ ds, Oks ss ds ∧ (∀ (i : Nat) (e : D) (v : Value), ds[i]? = some e → cs[i]? = some v → Holds (· < w.heap.size) w e v) ∧ bulkL ds ≤ n

theorem CellsAre.one {s : Sh} {v : Value} {e : D} {n : Nat} (h : s.Ok e) (hh : Holds (· < w.heap.size) w e v) (hb : e.bulk ≤ n) : CellsAre w [s] [v] n := by
  refine ⟨rfl, [e], ⟨rfl, fun i s' d h1 h2 => ?_⟩, fun i e' v' h1 h2 => ?_, by simp [bulkL, hb]⟩
  · cases i with
    | zero => simp at h1 h2; subst h1 h2; exact h
    | succ i => simp at h1
  · cases i with
    | zero => simp at h1 h2; subst h1 h2; exact hh
    | succ i => simp at h1

theorem shapeAll_read {f : TypeId → Option (List Sh)} {m : Nat} {cs : List Value}
    (ih : ∀ T ss, f T = some ss → ss.length = P.cellsOf T ∧ ∀ cs x, DataW.trod enc P w base (fun _ => true) held m T cs = some x → CellsAre w ss cs (Rows.uptoBulk x.1)) :
    ∀ (ps : List (Nat × TypeId)) (off : Nat) (ss : List Sh) (xs : List (DataW H × List MemPlace)), shapeAll f ps off = some ss → xs.length = ps.length →
      (∀ (i : Nat) (p : Nat × TypeId), ps[i]? = some p → DataW.trod enc P w base (fun _ => true) held m p.2 ((cs.drop p.1).take (P.cellsOf p.2)) = xs[i]?) →
      ∃ ds, Oks ss ds ∧ (∀ (i : Nat) (e : D) (v : Value), ds[i]? = some e → (cs.drop off)[i]? = some v → Holds (· < w.heap.size) w e v) ∧ bulkL ds ≤ Rows.uptoBulkAll (xs.map (·.1)) := by
  intro ps
  induction ps with
  | nil =>
    intro off ss xs hs hl hx
    simp only [shapeAll] at hs
    cases hs
    exact ⟨[], ⟨rfl, fun i s d h => by simp at h⟩, fun i e v h => by simp at h, by simp [bulkL]⟩
  | cons p r ihr =>
    obtain ⟨o, T⟩ := p
    intro off ss xs hs hl hx
    simp only [shapeAll] at hs
    split at hs
    · rename_i ho
      have ho := Nat.eq_of_beq_eq_true ho
      subst ho
      split at hs
      · rename_i s1 h1
        split at hs
        · rename_i s2 h2
          cases hs
          cases xs with
          | nil => simp at hl
          | cons x xs =>
            obtain ⟨hlen, hrd⟩ := ih T s1 h1
            obtain ⟨hc, d1, k1, k2, k3⟩ := hrd _ x (by have := hx 0 (o, T) rfl; simpa using this)
            obtain ⟨d2, j1, j2, j3⟩ := ihr (o + s1.length) s2 xs h2 (by simpa using hl) (fun i q hq => by have := hx (i + 1) q (by simpa using hq); simpa using this)
            refine ⟨d1 ++ d2, k1.append j1, fun i e v h3 h4 => ?_, ?_⟩
            · rw [List.getElem?_append] at h3
              split at h3
              · rename_i hi
                refine k2 i e v h3 ?_
                rw [List.getElem?_take, if_pos (by rw [← hlen, ← k1.1]; exact hi)]
                exact h4
              · rename_i hi
                refine j2 _ e v h3 ?_
                rw [List.getElem?_drop] at h4 ⊢
                rw [← h4, k1.1]
                congr 1
                have := k1.1
                omega
            · rw [bulkL_append]
              simp only [List.map_cons, Rows.uptoBulkAll]
              omega
        · cases hs
      · cases hs
    · cases hs

theorem cells_at {a : Addr} {n : Nat} {cs : List Value} (h : w.cells? base a n = some cs) : cs.length = n ∧ ∀ (j : Nat) (v : Value), cs[j]? = some v → w.cell? (a.add j) = some v := by
  unfold World.cells? at h
  split at h
  · have h1 := mapM_some_length h
    refine ⟨by simpa using h1, fun j v hj => ?_⟩
    have hj' := (List.getElem?_eq_some_iff.1 hj).1
    rw [h1, List.length_range] at hj'
    have := mapM_some_get h (i := j) (x := j) (by rw [List.getElem?_range hj'])
    rw [this, hj]
  · cases h
where mapM_some_get {α β : Type} {f : α → Option β} : ∀ {l : List α} {r : List β}, l.mapM f = some r → ∀ {i : Nat} {x : α}, l[i]? = some x → f x = r[i]? := by
        intro l
        induction l with
        | nil => intro r h i x hx; simp at hx
        | cons y ys ih =>
          intro r h i x hx
          rw [List.mapM_cons] at h
          simp only [Option.bind_eq_bind, Option.bind_eq_some_iff, Option.pure_def, Option.some.injEq] at h
          obtain ⟨b, hb, bs, hbs, rfl⟩ := h
          cases i with
          | zero => simp at hx; subst hx; simpa using hb
          | succ i => simpa using ih hbs (by simpa using hx)

theorem cell_spot {a : Addr} {v : Value} (h : w.cell? a = some v) : a.spot = none ∧ a.block < w.heap.size := by
  refine ⟨?_, World.block_lt_of_cell? w a h⟩
  unfold World.cell? at h
  split at h
  · split at h
    · cases h
    · rename_i hs; cases ho : a.spot <;> simp_all
  · cases h

theorem bulk_rows : ∀ (rows : List (List D)) (xs : List (DataW H)), rows.length = xs.length → (∀ (i : Nat) (r : List D) (x : DataW H), rows[i]? = some r → xs[i]? = some x → bulkL r ≤ Rows.uptoBulk x) → bulkLL rows ≤ Rows.uptoBulkAll xs
  | [], xs, h, _ => by simp [bulkLL]
  | r :: rs, [], h, _ => by simp at h
  | r :: rs, x :: xs, h, hh => by
    have h1 := hh 0 r x rfl rfl
    have h2 := bulk_rows rs xs (by simpa using h) fun i r' x' a b => hh (i + 1) r' x' (by simpa using a) (by simpa using b)
    simp only [bulkLL, Rows.uptoBulkAll]
    omega
theorem choose_list {α : Type} {n : Nat} {p : Nat → α → Prop} (h : ∀ i, i < n → ∃ x, p i x) : ∃ l : List α, l.length = n ∧ ∀ (i : Nat) (x : α), l[i]? = some x → p i x := by
  induction n with
  | zero => exact ⟨[], rfl, fun i x h => by simp at h⟩
  | succ n ih =>
    obtain ⟨l, h1, h2⟩ := ih fun i hi => h i (by omega)
    obtain ⟨x, hx⟩ := h n (by omega)
    refine ⟨l ++ [x], by simp [h1], fun i y hy => ?_⟩
    rw [List.getElem?_append] at hy
    split at hy
    · exact h2 i y hy
    · have : i - l.length = 0 := by
        have := (List.getElem?_eq_some_iff.1 hy).1
        simp at this; omega
      rw [this] at hy
      simp at hy
      subst hy
      rw [show i = n by omega]; exact hx

theorem slice_read {t e : TypeId} {m fuel : Nat} {ss sr : List Sh} (ht : P.underlying t = some (.slice e)) (hss : sliceSh ss = some sr) (hz : ss.length = P.cellsOf e)
    (ih : ∀ m cs x, DataW.trod enc P w base (fun _ => true) held m e cs = some x → CellsAre w ss cs (Rows.uptoBulk x.1)) {cs : List Value} {x : DataW H × List MemPlace}
    (h : DataW.trod enc P w base (fun _ => true) held fuel t cs = some x) : CellsAre w sr cs (Rows.uptoBulk x.1) := by
  have hpos : 0 < ss.length := by
    cases ss with
    | nil => cases hss
    | cons _ _ => simp
  -- out of rows: what is handed back
  have fin : ∀ (v : Value) (n : Nat) (rows : List (List D)), (∀ r ∈ rows, Oks ss r) → bulkLL rows + 1 ≤ n →
      (∀ k l, ss = [.int k] → rows = l.map (fun n => [D.int k n]) → Holds (· < w.heap.size) w (.ints k l) v) → (Holds (· < w.heap.size) w (.sl ss.length rows) v) → CellsAre w sr [v] n := by
    intro v n rows h1 h2 h3 h4
    unfold sliceSh at hss
    split at hss
    · cases hss
    · rename_i k
      cases hss
      have hr : ∃ l : List Int, rows = l.map (fun n => [D.int k n]) := by
        clear h2 h3 h4
        induction rows with
        | nil => exact ⟨[], rfl⟩
        | cons r rs ihr =>
          obtain ⟨l, hl⟩ := ihr fun r hr => h1 r (by simp [hr])
          have := h1 r (by simp)
          obtain ⟨d, rfl⟩ := List.length_eq_one_iff.1 this.1
          have := this.2 0 _ d rfl rfl
          cases this with
          | int k n => exact ⟨n :: l, by simp [hl]⟩
      obtain ⟨l, hl⟩ := hr
      refine .one (.ints k l) (h3 k l rfl hl) ?_
      have : bulkLL rows = l.length := by
        subst hl
        clear h1 h2 h3 h4
        induction l with
        | nil => simp [bulkLL]
        | cons x xs ihx => simp [bulkLL, bulkL, D.bulk, ihx]; omega
      simp only [D.bulk]; omega
    · cases hss
      refine .one (.sl ss rows (fun r hr => (h1 r hr).1) (fun r hr => (h1 r hr).2)) h4 ?_
      simp only [D.bulk]; omega
  rcases DataW.trod_slice ht h with ⟨rfl, rfl⟩ | ⟨a, len, cap, elems, rest, n, rfl, rfl, rfl, hb, hl, hm, hlen, hel, hsp, hns⟩
  · refine fin _ _ [] (fun r hr => by cases hr) (by simp [bulkLL, Rows.uptoBulk]) (fun k l _ hl => ?_) (.slNil _)
    have : l = [] := by cases l <;> simp_all
    subst this; exact .intsNil k
  · obtain ⟨hrl, hr⟩ := hsp rfl
    by_cases h0 : cap = 0
    · have hl0 : len = 0 := by omega
      subst h0 hl0
      refine fin _ _ [] (fun r hr => by cases hr) (by simp [bulkLL, Rows.uptoBulk]) (fun k l _ hl => ?_) (.slE _ a)
      have : l = [] := by cases l <;> simp_all
      subst this; exact .intsE k a
    -- a cell is there
    have hcell : ∃ v, w.cell? a = some v := by
      have key : ∀ y, (w.cells? base (a.add (0 * P.cellsOf e)) (P.cellsOf e)).bind (DataW.trod enc P w base (fun _ => true) held n e) = some y → ∃ v, w.cell? a = some v := by
        intro y hy
        rw [Option.bind_eq_some_iff] at hy
        obtain ⟨cs', hc, _⟩ := hy
        obtain ⟨c1, c2⟩ := cells_at hc
        have : 0 < cs'.length := by omega
        refine ⟨cs'[0], ?_⟩
        have := c2 0 cs'[0] (by simp [this])
        simpa [Addr.add] using this
      by_cases h1 : len = 0
      · have h2 := hr 0 (by omega)
        have h3 : 0 < rest.length := by omega
        rw [h1] at h2
        exact key rest[0] (by rw [Nat.zero_add] at h2; rw [h2]; simp [h3])
      · have h2 := hel 0 (by omega)
        have h3 : 0 < elems.length := by omega
        exact key elems[0] (by rw [h2]; simp [h3])
    obtain ⟨v0, hv0⟩ := hcell
    obtain ⟨hspot, hblk⟩ := cell_spot hv0
    obtain ⟨b, off, sp⟩ := a
    simp only at hspot hblk
    subst hspot
    rw [← hz] at hel
    obtain ⟨rows, hr1, hr2⟩ := choose_list (n := len) (p := fun i (r : List D) => Oks ss r ∧ (∀ (j : Nat) (d : D), r[j]? = some d → ∃ v, w.cell? ⟨b, off + (i * ss.length + j), none⟩ = some v ∧ Holds (· < w.heap.size) w d v) ∧ ∀ y, elems[i]? = some y → bulkL r ≤ Rows.uptoBulk y.1) (fun i hi => by
      have h2 := hel i hi
      have h3 : i < elems.length := by omega
      rw [List.getElem?_eq_getElem h3, Option.bind_eq_some_iff] at h2
      obtain ⟨cs', hc, ht⟩ := h2
      obtain ⟨c1, c2⟩ := cells_at hc
      obtain ⟨g1, ds, g2, g3, g4⟩ := ih n cs' _ ht
      refine ⟨ds, g2, fun j d hj => ?_, fun y hy => ?_⟩
      · have hj' : j < cs'.length := by
          have := (List.getElem?_eq_some_iff.1 hj).1
          rw [g2.1] at this; omega
        refine ⟨cs'[j], ?_, g3 j d _ hj (by simp [hj'])⟩
        have := c2 j cs'[j] (by simp [hj'])
        rw [add_lit', add_lit'] at this
        rw [← Nat.add_assoc]; exact this
      · rw [List.getElem?_eq_getElem h3] at hy
        cases hy; exact g4)
    have hrow : ∀ i, (hi : i < rows.length) → _ := fun i hi => hr2 i rows[i] (by simp [hi])
    refine fin _ _ rows (fun r hr => ?_) ?_ (fun k l hk hl' => ?_) ?_
    · obtain ⟨i, hi, rfl⟩ := List.mem_iff_getElem.1 hr
      exact (hrow i hi).1
    · have := bulk_rows rows (elems.map (·.1)) (by simp; omega) fun i r x h1 h2 => by
        rw [List.getElem?_map, Option.map_eq_some_iff] at h2
        obtain ⟨y, h2, rfl⟩ := h2
        exact (hr2 i r h1).2.2 y h2
      simp only [Rows.uptoBulk]
      omega
    · have hll : l.length = len := by rw [← hr1, hl']; simp
      subst hll
      subst hk
      have cell : ∀ i, (hi : i < l.length) → w.cell? ⟨b, off + i, none⟩ = some (.int k l[i]) ∧ InR k l[i] := fun i hi => by
        have h1 := hr2 i [D.int k l[i]] (by rw [hl']; simp [hi])
        obtain ⟨v, h2, h3⟩ := h1.2.1 0 _ rfl
        simp only [List.length_cons, List.length_nil, Nat.zero_add, Nat.mul_one, Nat.add_zero] at h2
        cases h3 with
        | int _ _ hr => exact ⟨h2, hr⟩
      exact .ints k l b off cap hblk hl (by omega) (fun y hy => by obtain ⟨i, hi, rfl⟩ := List.mem_iff_getElem.1 hy; exact (cell i hi).2) fun i hi => (cell i hi).1
    · have hll : rows.length = len := hr1
      conv => arg 4; rw [← hll]
      refine .sl ss.length rows b off cap (fun m => (w.cell? ⟨b, off + m, none⟩).getD undef) hblk (by omega) (by omega) (fun r hr => ?_) (fun m hm' => ?_) (fun i r j d h1 h2 => ?_)
      · obtain ⟨i, hi, rfl⟩ := List.mem_iff_getElem.1 hr
        exact (hrow i hi).1.1
      · have hi : m / ss.length < rows.length := Nat.div_lt_of_lt_mul (by rw [Nat.mul_comm]; exact hm')
        have hj : m % ss.length < (rows[m / ss.length]).length := by rw [(hrow _ hi).1.1]; exact Nat.mod_lt _ hpos
        obtain ⟨v, h2, _⟩ := (hrow _ hi).2.1 (m % ss.length) _ (List.getElem?_eq_getElem hj)
        rw [Nat.mul_comm, Nat.div_add_mod] at h2
        rw [h2]; rfl
      · obtain ⟨v, h3, h4⟩ := (hr2 i r h1).2.1 j d h2
        rw [h3]; exact h4
where add_lit' {b off n : Nat} : (⟨b, off, none⟩ : Addr).add n = ⟨b, off + n, none⟩ := by unfold Addr.add; split <;> simp_all

theorem shape_read : ∀ (n : Nat) (t : TypeId) (ss : List Sh), shapeOf P n t = some ss → ss.length = P.cellsOf t ∧ ∀ (fuel : Nat) (cs : List Value) (x : DataW H × List MemPlace), DataW.trod enc P w base (fun _ => true) held fuel t cs = some x → CellsAre w ss cs (Rows.uptoBulk x.1) := by
  intro n
  induction n with
  | zero => intro t ss h; cases h
  | succ n ih =>
    intro t ss h
    simp only [shapeOf] at h
    obtain ⟨h, hsz⟩ := sized_some h
    refine ⟨hsz, fun fuel cs x hx => ?_⟩
    split at h
    · rename_i hu
      cases h
      obtain ⟨b, rfl, rfl⟩ := DataW.trod_bool hu hx
      exact .one (.bool b) (.bool b) (by simp [D.bulk, Rows.uptoBulk])
    · rename_i k hu
      cases h
      obtain ⟨m, rfl, rfl, hw⟩ := DataW.trod_int hu hx
      have hr : InR k m := by simpa [Lit.wf, InR] using hw
      exact .one (.int k m hr) (.int k m hr) (by simp [D.bulk, Rows.uptoBulk])
    · rename_i hu
      cases h
      obtain ⟨s, rfl, rfl, hs⟩ := DataW.trod_string hu hx
      exact .one (.str _) (.str s hs) (by simp [D.bulk, Rows.uptoBulk])
    · rename_i e hu
      split at h
      · rename_i s1 h1
        obtain ⟨i1, i2⟩ := ih e s1 h1
        exact slice_read (m := 0) hu h i1 i2 hx
      · cases h
    · rename_i fs hu
      obtain ⟨xs, m, rfl, rfl, hc, hxl, hel⟩ := DataW.trod_struct hu hx
      obtain ⟨ds, g1, g2, g3⟩ := shapeAll_read (m := m) (cs := cs) (fun T s1 h1 => ⟨(ih T s1 h1).1, fun cs x hx => (ih T s1 h1).2 m cs x hx⟩) _ 0 ss xs h (by simp [hxl]) (fun i p hp => by
        rw [List.getElem?_map, Option.map_eq_some_iff] at hp
        obtain ⟨f, hf, rfl⟩ := hp
        exact hel i f (by simpa using hf))
      refine ⟨by rw [hsz, hc], ds, g1, by simpa using g2, ?_⟩
      simp only [Rows.uptoBulk]; omega
    · rename_i q e hu
      obtain ⟨xs, m, rfl, rfl, hc, hxl, hel⟩ := DataW.trod_array hu hx
      obtain ⟨ds, g1, g2, g3⟩ := shapeAll_read (m := m) (cs := cs) (fun T s1 h1 => ⟨(ih T s1 h1).1, fun cs x hx => (ih T s1 h1).2 m cs x hx⟩) _ 0 ss xs h (by simp [hxl]) (fun i p hp => by
        rw [List.getElem?_map, Option.map_eq_some_iff] at hp
        obtain ⟨j, hj, rfl⟩ := hp
        obtain ⟨h2, h3⟩ := List.getElem?_eq_some_iff.1 hj
        simp at h2 h3
        subst h3
        exact hel i h2)
      refine ⟨by rw [hsz, hc], ds, g1, by simpa using g2, ?_⟩
      simp only [Rows.uptoBulk]; omega
    · cases h
end
end Go.Proofs.YtffcpgebgoineaaDoor.K
