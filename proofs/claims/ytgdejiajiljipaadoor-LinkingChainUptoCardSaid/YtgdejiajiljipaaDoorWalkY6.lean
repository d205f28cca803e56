/- Walks: the reference of layer 45: anchors, Mean, Spread, Loss, links, Choose, Chain. -/
import Derived.Test.YtgdejiajiljipaaDoorWalkY
import Derived.Test.YtgdejiajiljipaaDoorPost
namespace Go.Proofs.YtgdejiajiljipaaDoor.K
open Go
set_option linter.unusedVariables false
set_option linter.unusedSimpArgs false

section
variable {s s' : Bool} {l d l' d' : List Int} {A B : Rat} {k m : Nat}
end
end Go.Proofs.YtgdejiajiljipaaDoor.K
namespace Go.Proofs.YtgdejiajiljipaaDoor.K
open Go
set_option linter.unusedVariables false
set_option linter.unusedSimpArgs false

/-- lists of links as arguments -/
theorem rows_lk {L : List (List D)} (h : ∀ row ∈ L, Oks [.bool, .ints .u32, .ints .u32, .bool, .ints .u32, .ints .u32] row) : ∃ M : List Lk, L = M.map rowL := by
  induction L with
  | nil => exact ⟨[], rfl⟩
  | cons r L ih =>
    obtain ⟨M, hM⟩ := ih fun row hr => h row (by simp [hr])
    obtain ⟨_, _, rfl, h1, h2⟩ := Oks.cons_inv (h r (by simp))
    obtain ⟨_, _, rfl, h3, h4⟩ := Oks.cons_inv h2
    obtain ⟨_, _, rfl, h5, h6⟩ := Oks.cons_inv h4
    obtain ⟨_, _, rfl, h7, h8⟩ := Oks.cons_inv h6
    obtain ⟨_, _, rfl, h9, h10⟩ := Oks.cons_inv h8
    obtain ⟨_, _, rfl, h11, h12⟩ := Oks.cons_inv h10
    obtain rfl := Oks.nil_inv h12
    cases h1 with | bool b => cases h3 with | ints _ l => cases h5 with | ints _ d => cases h7 with | bool b' => cases h9 with | ints _ l' => cases h11 with | ints _ d' => exact ⟨((b, l, d), (b', l', d')) :: M, by simp [hM]⟩
theorem HoldsAll.slL {R : Nat → Prop} {w : World} {ds : List D} {vs : Array Value} (i : Nat) {z : Nat} {L : List (List D)} (h : HoldsAll R w ds vs) (hi : ds[i]? = some (.sl z L)) : ∀ (j : Nat) (row : List D), L[j]? = some row → ∃ us, HoldsAll R w row us := by
  have h1 : i < vs.size := by have := (List.getElem?_eq_some_iff.1 hi).1; have := h.1; omega
  have h2 := h.2 i _ vs[i] hi (by simp [h1])
  generalize vs[i] = v at h2
  cases h2 with
  | slNil => exact fun j row hj => by simp at hj
  | slE => exact fun j row hj => by simp at hj
  | sl _ _ b off cap us hR hcap hmax hz hc hh =>
    refine fun j row hj => ⟨Array.ofFn (n := row.length) fun t => us (j * z + t.1), by simp, fun t d v ht hv => ?_⟩
    have ht' := (List.getElem?_eq_some_iff.1 ht).1
    rw [Array.getElem?_ofFn, dif_pos ht'] at hv
    cases hv
    exact hh j row t d hj ht
theorem HoldsAll.links {R : Nat → Prop} {w : World} {ds : List D} {vs : Array Value} (i : Nat) {M : List Lk} (h : HoldsAll R w ds vs) (hi : ds[i]? = some (.sl 6 (M.map rowL))) : ∀ p ∈ M, (Lim p.1.2.1 ∧ Lim p.1.2.2) ∧ Lim p.2.2.1 ∧ Lim p.2.2.2 := fun p hp => by
  have hr := h.slL i hi
  obtain ⟨j, hj, rfl⟩ := List.mem_iff_getElem.1 hp
  obtain ⟨us, hu⟩ := hr j (rowL M[j]) (by simp [hj])
  exact ⟨⟨(hu.nat 1 rfl).2, (hu.nat 2 rfl).2⟩, (hu.nat 4 rfl).2, (hu.nat 5 rfl).2⟩
theorem bulk_links (M : List Lk) : M.length ≤ bulkLL (M.map rowL) ∧ ∀ p ∈ M, (p.1.2.1.length ≤ bulkLL (M.map rowL) ∧ p.1.2.2.length ≤ bulkLL (M.map rowL)) ∧ p.2.2.1.length ≤ bulkLL (M.map rowL) ∧ p.2.2.2.length ≤ bulkLL (M.map rowL) := by
  induction M with
  | nil => simp
  | cons q M ih =>
    simp only [List.map_cons, bulkLL, bulkL, D.bulk, List.length_cons]
    refine ⟨by omega, fun p hp => ?_⟩
    rcases List.mem_cons.1 hp with rfl | hp
    · omega
    · have := ih.2 p hp; omega
theorem LkOK.of {M : List Lk} {K : Nat} {R : Nat → Prop} {w : World} {ds : List D} {vs : Array Value} (i : Nat) (h : HoldsAll R w ds vs) (hi : ds[i]? = some (.sl 6 (M.map rowL))) (hb : bulkLL (M.map rowL) ≤ K) : LkOK M K :=
  ⟨fun p hp => by have := (bulk_links M).2 p hp; omega, h.links i hi⟩
end Go.Proofs.YtgdejiajiljipaaDoor.K
