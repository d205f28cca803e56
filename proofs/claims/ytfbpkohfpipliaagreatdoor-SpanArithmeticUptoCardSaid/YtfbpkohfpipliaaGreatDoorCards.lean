/-
  DERIVED. GIVEN WITH THE SEED: THE CARDS: each row of YtfbpkohfpipliaaGreatDoorRows.lean that lists a variable, with what it lists TIED to the program's text (the seventh form; the later family's looks); each row that meets fmt, with fmt's text TOLD by the authors' own Lean function (tested against real Go, not proved from fmt's source: count such statements apart). THE CARD IS WHAT COUNTS. Prove the row's statement (the work); the ties are given (YtfbpkohfpipliaaGreatDoorTie.lean); close each card by the builder's one call (the guide's Derived/Test/ToyasCard.lean, 'card_holds'). Laid BY PROGRAM, IN A SANDBOX (cutbox-door.mjs). By AI agents, Wed Nov 11 2026. No macro, syntax, notation, axiom, sorry.
-/
import Derived.Test.YtfbpkohfpipliaaGreatDoorRows
import GoSem.ClaimSeven
namespace Go.Proofs.YtfbpkohfpipliaaGreatDoor
namespace Rows

/-- THE TIED CARD OF 'examboardlaw05.SpanArithmetic'. -/
def spanArithmeticCard : Claim7 := { stood := { row := spanArithmeticRow, standIns := [], harness := (true, "ec075cab1e79321a98de664bdbee210de4a770bfefaafec792a6b5a3310cb3e3"), looks := false }, kinds := [], alts := [], laidByText := true, laidKinds := [.data, .data, .data], laidTests := true, laidLooks := .later }
def SpanArithmeticCardSaid : Prop := Claim7.holds Tryz.pinned (.plain (OpenSpec.ofChange spanArithmeticSpec)) spanArithmeticCard

/-- THE SECOND FORM's CARD OF 'examboardlaw05.SpanArithmetic'. -/
def spanArithmeticUptoCard : Claim7 := { stood := { row := spanArithmeticUptoRow, standIns := [], harness := (true, "ec075cab1e79321a98de664bdbee210de4a770bfefaafec792a6b5a3310cb3e3"), looks := false }, kinds := [], alts := [], laidByText := true, laidKinds := [.data, .data, .data], laidTests := true, laidLooks := .later }
def SpanArithmeticUptoCardSaid : Prop := Claim7.holds Tryz.pinned (.plain (OpenSpec.upto spanArithmeticSpec)) spanArithmeticUptoCard
end Rows
end Go.Proofs.YtfbpkohfpipliaaGreatDoor
