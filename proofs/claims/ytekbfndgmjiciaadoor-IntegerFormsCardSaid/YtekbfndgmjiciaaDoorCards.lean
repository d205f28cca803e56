/-
  DERIVED. GIVEN WITH THE SEED: THE CARDS: each row of YtekbfndgmjiciaaDoorRows.lean that lists a variable, with what it lists TIED to the program's text (the seventh form; the later family's looks); each row that meets fmt, with fmt's text TOLD by the authors' own Lean function (tested against real Go, not proved from fmt's source: count such statements apart). THE CARD IS WHAT COUNTS. Prove the row's statement (the work); the ties are given (YtekbfndgmjiciaaDoorTie.lean); close each card by the builder's one call (the guide's Derived/Test/ToyasCard.lean, 'card_holds'). Laid BY PROGRAM, IN A SANDBOX (cutbox-door.mjs). By AI agents, Wed Nov 11 2026. No macro, syntax, notation, axiom, sorry.
-/
import Derived.Test.YtekbfndgmjiciaaDoorRows
import GoSem.ClaimSeven
namespace Go.Proofs.YtekbfndgmjiciaaDoor
namespace Rows

/-- THE TIED CARD OF 'examboardlaw02.IntegerForms'. -/
def integerFormsCard : Claim7 := { stood := { row := integerFormsRow, standIns := [], harness := (true, "2b7a3ad7bc6ff89e25ce60363555f9b222098fd376d6069db344b088d09c1ee1"), looks := false }, kinds := [], alts := [], laidByText := true, laidKinds := [.data, .data, .data], laidTests := true, laidLooks := .later }
def IntegerFormsCardSaid : Prop := Claim7.holds Tryd.pinned (.plain (OpenSpec.ofChange integerFormsSpec)) integerFormsCard

/-- THE TIED CARD OF 'examboardlaw02.IntegerDivision'. -/
def integerDivisionCard : Claim7 := { stood := { row := integerDivisionRow, standIns := [], harness := (true, "2b7a3ad7bc6ff89e25ce60363555f9b222098fd376d6069db344b088d09c1ee1"), looks := false }, kinds := [], alts := [], laidByText := true, laidKinds := [.data, .data, .data], laidTests := true, laidLooks := .later }
def IntegerDivisionCardSaid : Prop := Claim7.holds Tryd.pinned (.plain (OpenSpec.ofChange integerDivisionSpec)) integerDivisionCard

/-- THE TIED CARD OF 'examboardlaw02.IntegerOrder'. -/
def integerOrderCard : Claim7 := { stood := { row := integerOrderRow, standIns := [], harness := (true, "2b7a3ad7bc6ff89e25ce60363555f9b222098fd376d6069db344b088d09c1ee1"), looks := false }, kinds := [], alts := [], laidByText := true, laidKinds := [.data, .data, .data], laidTests := true, laidLooks := .later }
def IntegerOrderCardSaid : Prop := Claim7.holds Tryd.pinned (.plain (OpenSpec.ofChange integerOrderSpec)) integerOrderCard

/-- THE SECOND FORM's CARD OF 'examboardlaw02.IntegerForms'. -/
def integerFormsUptoCard : Claim7 := { stood := { row := integerFormsUptoRow, standIns := [], harness := (true, "2b7a3ad7bc6ff89e25ce60363555f9b222098fd376d6069db344b088d09c1ee1"), looks := false }, kinds := [], alts := [], laidByText := true, laidKinds := [.data, .data, .data], laidTests := true, laidLooks := .later }
def IntegerFormsUptoCardSaid : Prop := Claim7.holds Tryd.pinned (.plain (OpenSpec.upto integerFormsSpec)) integerFormsUptoCard

/-- THE SECOND FORM's CARD OF 'examboardlaw02.IntegerDivision'. -/
def integerDivisionUptoCard : Claim7 := { stood := { row := integerDivisionUptoRow, standIns := [], harness := (true, "2b7a3ad7bc6ff89e25ce60363555f9b222098fd376d6069db344b088d09c1ee1"), looks := false }, kinds := [], alts := [], laidByText := true, laidKinds := [.data, .data, .data], laidTests := true, laidLooks := .later }
def IntegerDivisionUptoCardSaid : Prop := Claim7.holds Tryd.pinned (.plain (OpenSpec.upto integerDivisionSpec)) integerDivisionUptoCard

/-- THE SECOND FORM's CARD OF 'examboardlaw02.IntegerOrder'. -/
def integerOrderUptoCard : Claim7 := { stood := { row := integerOrderUptoRow, standIns := [], harness := (true, "2b7a3ad7bc6ff89e25ce60363555f9b222098fd376d6069db344b088d09c1ee1"), looks := false }, kinds := [], alts := [], laidByText := true, laidKinds := [.data, .data, .data], laidTests := true, laidLooks := .later }
def IntegerOrderUptoCardSaid : Prop := Claim7.holds Tryd.pinned (.plain (OpenSpec.upto integerOrderSpec)) integerOrderUptoCard
end Rows
end Go.Proofs.YtekbfndgmjiciaaDoor
