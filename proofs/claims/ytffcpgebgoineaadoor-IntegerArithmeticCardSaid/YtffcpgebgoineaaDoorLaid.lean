/- What a row's list of laid tables gives: the tables' cells. Nothing of any program stands here. -/
import Derived.Test.YtffcpgebgoineaaDoorCore
import Derived.Lib.LaidTab
namespace Go.Proofs.YtffcpgebgoineaaDoor.K
open Go Go.RowKit
set_option linter.unusedVariables false
set_option linter.unusedSimpArgs false

theorem tabIs_of_mem {P : Program} {W : World} {l : List (String × DataW Unit)} {name : String} {k : IntKind} {zs : List Int} {g : Nat} {t e : TypeId} {n : Nat}
    (hg : P.globalNamed name = some g) (hty : (P.globals[g]?).map (·.type) = some t) (ht : P.underlying t = some (.array n e)) (he : P.underlying e = some (.int k)) (hce : P.cellsOf e = 1) (hct : P.cellsOf t = n)
    (h : laidMet P l W) (hm : (name, Lib.tabData k zs) ∈ l) : Lib.TabIs P W name k zs := by
  obtain ⟨ps, h, hx⟩ := h
  clear hx
  induction l generalizing ps with
  | nil => cases hm
  | cons x l ih =>
    obtain ⟨g', t', cs, fuel, p, q, hg', ht', hvar, hd, hq, _⟩ := h
    rcases List.mem_cons.1 hm with rfl | hm
    · obtain rfl := Option.some.inj (hg.symm.trans hg')
      obtain rfl := Option.some.inj (hty.symm.trans ht')
      unfold Lib.TabIs
      rw [hvar, ← Lib.cells_of_tab ht he hce hct hd]
    · exact ih hm q hq

/-- the facts of a table that one line of the list gives -/
structure TabRow (P : Program) (l : List (String × DataW Unit)) (p : Nat × IntKind × List Int) : Prop where
  mem : ∃ (name : String) (t e : TypeId) (n : Nat), P.globalNamed name = some p.1 ∧ (P.globals[p.1]?).map (·.type) = some t ∧ P.underlying t = some (.array n e) ∧ P.underlying e = some (.int p.2.1) ∧ P.cellsOf e = 1 ∧ P.cellsOf t = n ∧
    (name, Lib.tabData p.2.1 p.2.2) ∈ l

theorem gam_of_laid {P : Program} {W : World} {l : List (String × DataW Unit)} (hn : (l.filter fun x => x.2.handleName?.isSome) = []) (hr : ∀ p ∈ gamList, TabRow P l p) (h : laidMetH P l W) : Gam W := by
  intro p hp
  obtain ⟨name, t, e, m, h1, h2, h3, h4, h5, h6, h7⟩ := (hr p hp).mem
  unfold laidMetH at h
  rw [hn] at h
  have := tabIs_of_mem h1 h2 h3 h4 h5 h6 h h7
  simp only [Lib.TabIs, World.var?, h1, Option.bind_some] at this
  split at this
  · rename_i cs t' fz hh
    cases this
    exact ⟨t', fz, hh⟩
  · cases this
/-- a table that the seat lays, in the kit's words -/
theorem Gam.tabIs {P : Program} {w : World} (h : Gam w) {name : String} {p : Nat × IntKind × List Int} (hp : p ∈ gamList) (hg : P.globalNamed name = some p.1) : Lib.TabIs P w name p.2.1 p.2.2 := by
  obtain ⟨t, fz, h1⟩ := h p hp
  simp [Lib.TabIs, World.var?, hg, h1]
end Go.Proofs.YtffcpgebgoineaaDoor.K
