/-
  DERIVED. GIVEN WITH THE SEED: THE CARDS: each row of YtpolinoaefdobaaDoorRows.lean that lists a variable, with what it lists TIED to the program's text (the seventh form; the later family's looks); each row that meets fmt, with fmt's text TOLD by the authors' own Lean function (tested against real Go, not proved from fmt's source: count such statements apart). THE CARD IS WHAT COUNTS. Prove the row's statement (the work); the ties are given (YtpolinoaefdobaaDoorTie.lean); close each card by the builder's one call (the guide's Derived/Test/ToyasCard.lean, 'card_holds'). Laid BY PROGRAM, IN A SANDBOX (cutbox-door.mjs). By AI agents, Wed Nov 11 2026. No macro, syntax, notation, axiom, sorry.
-/
import Derived.Test.YtpolinoaefdobaaDoorRows
import GoSem.ClaimSeven
namespace Go.Proofs.YtpolinoaefdobaaDoor
namespace Rows

/-- THE TIED CARD OF 'examboardlaw03.RatioUnary'. -/
def ratioUnaryCard : Claim7 := { stood := { row := ratioUnaryRow, standIns := [], harness := (true, "520c9ae35897b9766d69eb55049c386b7ffd4b80a937125b4290b3c38ee14bdf"), looks := false }, kinds := [], alts := [], laidByText := true, laidKinds := [.data, .data, .data], laidTests := true, laidLooks := .later }
def RatioUnaryCardSaid : Prop := Claim7.holds Tryd.pinned (.plain (OpenSpec.ofChange ratioUnarySpec)) ratioUnaryCard

/-- THE SECOND FORM's CARD OF 'examboardlaw03.RatioUnary'. -/
def ratioUnaryUptoCard : Claim7 := { stood := { row := ratioUnaryUptoRow, standIns := [], harness := (true, "520c9ae35897b9766d69eb55049c386b7ffd4b80a937125b4290b3c38ee14bdf"), looks := false }, kinds := [], alts := [], laidByText := true, laidKinds := [.data, .data, .data], laidTests := true, laidLooks := .later }
def RatioUnaryUptoCardSaid : Prop := Claim7.holds Tryd.pinned (.plain (OpenSpec.upto ratioUnarySpec)) ratioUnaryUptoCard
end Rows
end Go.Proofs.YtpolinoaefdobaaDoor
