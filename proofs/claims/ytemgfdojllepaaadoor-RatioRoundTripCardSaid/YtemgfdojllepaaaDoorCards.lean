/-
  DERIVED. GIVEN WITH THE SEED: THE CARDS: each row of YtemgfdojllepaaaDoorRows.lean that lists a variable, with what it lists TIED to the program's text (the seventh form; the later family's looks); each row that meets fmt, with fmt's text TOLD by the authors' own Lean function (tested against real Go, not proved from fmt's source: count such statements apart). THE CARD IS WHAT COUNTS. Prove the row's statement (the work); the ties are given (YtemgfdojllepaaaDoorTie.lean); close each card by the builder's one call (the guide's Derived/Test/ToyasCard.lean, 'card_holds'). Laid BY PROGRAM, IN A SANDBOX (cutbox-door.mjs). By AI agents, Wed Nov 11 2026. No macro, syntax, notation, axiom, sorry.
-/
import Derived.Test.YtemgfdojllepaaaDoorRows
import GoSem.ClaimSeven
namespace Go.Proofs.YtemgfdojllepaaaDoor
namespace Rows

/-- THE TIED CARD OF 'examboardlaw02.IntegerText'. -/
def integerTextCard : Claim7 := { stood := { row := integerTextRow, standIns := [], harness := (true, "891f244af0ac1074caef26c06bb784c2e1dc64b50b546cfce0fce6b5007b0ba4"), looks := false }, kinds := [], alts := [], laidByText := true, laidKinds := [.data, .data, .data], laidTests := true, laidLooks := .later }
def IntegerTextCardSaid : Prop := Claim7.holds Tryd.pinned (.plain (OpenSpec.ofChange integerTextSpec)) integerTextCard

/-- THE TIED CARD OF 'examboardlaw02.IntegerNotation'. -/
def integerNotationCard : Claim7 := { stood := { row := integerNotationRow, standIns := [], harness := (true, "891f244af0ac1074caef26c06bb784c2e1dc64b50b546cfce0fce6b5007b0ba4"), looks := false }, kinds := [], alts := [], laidByText := true, laidKinds := [.data, .data, .data], laidTests := true, laidLooks := .later }
def IntegerNotationCardSaid : Prop := Claim7.holds Tryd.pinned (.plain (OpenSpec.ofChange integerNotationSpec)) integerNotationCard

/-- THE TIED CARD OF 'examboardlaw02.IntegerForms'. -/
def integerFormsCard : Claim7 := { stood := { row := integerFormsRow, standIns := [], harness := (true, "891f244af0ac1074caef26c06bb784c2e1dc64b50b546cfce0fce6b5007b0ba4"), looks := false }, kinds := [], alts := [], laidByText := true, laidKinds := [.data, .data, .data], laidTests := true, laidLooks := .later }
def IntegerFormsCardSaid : Prop := Claim7.holds Tryd.pinned (.plain (OpenSpec.ofChange integerFormsSpec)) integerFormsCard

/-- THE TIED CARD OF 'examboardlaw02.IntegerDivision'. -/
def integerDivisionCard : Claim7 := { stood := { row := integerDivisionRow, standIns := [], harness := (true, "891f244af0ac1074caef26c06bb784c2e1dc64b50b546cfce0fce6b5007b0ba4"), looks := false }, kinds := [], alts := [], laidByText := true, laidKinds := [.data, .data, .data], laidTests := true, laidLooks := .later }
def IntegerDivisionCardSaid : Prop := Claim7.holds Tryd.pinned (.plain (OpenSpec.ofChange integerDivisionSpec)) integerDivisionCard

/-- THE TIED CARD OF 'examboardlaw02.IntegerArithmetic'. -/
def integerArithmeticCard : Claim7 := { stood := { row := integerArithmeticRow, standIns := [], harness := (true, "891f244af0ac1074caef26c06bb784c2e1dc64b50b546cfce0fce6b5007b0ba4"), looks := false }, kinds := [], alts := [], laidByText := true, laidKinds := [.data, .data, .data], laidTests := true, laidLooks := .later }
def IntegerArithmeticCardSaid : Prop := Claim7.holds Tryd.pinned (.plain (OpenSpec.ofChange integerArithmeticSpec)) integerArithmeticCard

/-- THE TIED CARD OF 'examboardlaw02.IntegerRing'. -/
def integerRingCard : Claim7 := { stood := { row := integerRingRow, standIns := [], harness := (true, "891f244af0ac1074caef26c06bb784c2e1dc64b50b546cfce0fce6b5007b0ba4"), looks := false }, kinds := [], alts := [], laidByText := true, laidKinds := [.data, .data, .data], laidTests := true, laidLooks := .later }
def IntegerRingCardSaid : Prop := Claim7.holds Tryd.pinned (.plain (OpenSpec.ofChange integerRingSpec)) integerRingCard

/-- THE TIED CARD OF 'examboardlaw02.IntegerOrder'. -/
def integerOrderCard : Claim7 := { stood := { row := integerOrderRow, standIns := [], harness := (true, "891f244af0ac1074caef26c06bb784c2e1dc64b50b546cfce0fce6b5007b0ba4"), looks := false }, kinds := [], alts := [], laidByText := true, laidKinds := [.data, .data, .data], laidTests := true, laidLooks := .later }
def IntegerOrderCardSaid : Prop := Claim7.holds Tryd.pinned (.plain (OpenSpec.ofChange integerOrderSpec)) integerOrderCard

/-- THE TIED CARD OF 'examboardlaw03.RatioUnary'. -/
def ratioUnaryCard : Claim7 := { stood := { row := ratioUnaryRow, standIns := [], harness := (true, "891f244af0ac1074caef26c06bb784c2e1dc64b50b546cfce0fce6b5007b0ba4"), looks := false }, kinds := [], alts := [], laidByText := true, laidKinds := [.data, .data, .data], laidTests := true, laidLooks := .later }
def RatioUnaryCardSaid : Prop := Claim7.holds Tryd.pinned (.plain (OpenSpec.ofChange ratioUnarySpec)) ratioUnaryCard

/-- THE TIED CARD OF 'examboardlaw03.RatioRoundTrip'. -/
def ratioRoundTripCard : Claim7 := { stood := { row := ratioRoundTripRow, standIns := [], harness := (true, "891f244af0ac1074caef26c06bb784c2e1dc64b50b546cfce0fce6b5007b0ba4"), looks := false }, kinds := [], alts := [], laidByText := true, laidKinds := [.data, .data, .data], laidTests := true, laidLooks := .later }
def RatioRoundTripCardSaid : Prop := Claim7.holds Tryd.pinned (.plain (OpenSpec.ofChange ratioRoundTripSpec)) ratioRoundTripCard

/-- THE SECOND FORM's CARD OF 'examboardlaw02.IntegerText'. -/
def integerTextUptoCard : Claim7 := { stood := { row := integerTextUptoRow, standIns := [], harness := (true, "891f244af0ac1074caef26c06bb784c2e1dc64b50b546cfce0fce6b5007b0ba4"), looks := false }, kinds := [], alts := [], laidByText := true, laidKinds := [.data, .data, .data], laidTests := true, laidLooks := .later }
def IntegerTextUptoCardSaid : Prop := Claim7.holds Tryd.pinned (.plain (OpenSpec.upto integerTextSpec)) integerTextUptoCard

/-- THE SECOND FORM's CARD OF 'examboardlaw02.IntegerNotation'. -/
def integerNotationUptoCard : Claim7 := { stood := { row := integerNotationUptoRow, standIns := [], harness := (true, "891f244af0ac1074caef26c06bb784c2e1dc64b50b546cfce0fce6b5007b0ba4"), looks := false }, kinds := [], alts := [], laidByText := true, laidKinds := [.data, .data, .data], laidTests := true, laidLooks := .later }
def IntegerNotationUptoCardSaid : Prop := Claim7.holds Tryd.pinned (.plain (OpenSpec.upto integerNotationSpec)) integerNotationUptoCard

/-- THE SECOND FORM's CARD OF 'examboardlaw02.IntegerForms'. -/
def integerFormsUptoCard : Claim7 := { stood := { row := integerFormsUptoRow, standIns := [], harness := (true, "891f244af0ac1074caef26c06bb784c2e1dc64b50b546cfce0fce6b5007b0ba4"), looks := false }, kinds := [], alts := [], laidByText := true, laidKinds := [.data, .data, .data], laidTests := true, laidLooks := .later }
def IntegerFormsUptoCardSaid : Prop := Claim7.holds Tryd.pinned (.plain (OpenSpec.upto integerFormsSpec)) integerFormsUptoCard

/-- THE SECOND FORM's CARD OF 'examboardlaw02.IntegerDivision'. -/
def integerDivisionUptoCard : Claim7 := { stood := { row := integerDivisionUptoRow, standIns := [], harness := (true, "891f244af0ac1074caef26c06bb784c2e1dc64b50b546cfce0fce6b5007b0ba4"), looks := false }, kinds := [], alts := [], laidByText := true, laidKinds := [.data, .data, .data], laidTests := true, laidLooks := .later }
def IntegerDivisionUptoCardSaid : Prop := Claim7.holds Tryd.pinned (.plain (OpenSpec.upto integerDivisionSpec)) integerDivisionUptoCard

/-- THE SECOND FORM's CARD OF 'examboardlaw02.IntegerArithmetic'. -/
def integerArithmeticUptoCard : Claim7 := { stood := { row := integerArithmeticUptoRow, standIns := [], harness := (true, "891f244af0ac1074caef26c06bb784c2e1dc64b50b546cfce0fce6b5007b0ba4"), looks := false }, kinds := [], alts := [], laidByText := true, laidKinds := [.data, .data, .data], laidTests := true, laidLooks := .later }
def IntegerArithmeticUptoCardSaid : Prop := Claim7.holds Tryd.pinned (.plain (OpenSpec.upto integerArithmeticSpec)) integerArithmeticUptoCard

/-- THE SECOND FORM's CARD OF 'examboardlaw02.IntegerRing'. -/
def integerRingUptoCard : Claim7 := { stood := { row := integerRingUptoRow, standIns := [], harness := (true, "891f244af0ac1074caef26c06bb784c2e1dc64b50b546cfce0fce6b5007b0ba4"), looks := false }, kinds := [], alts := [], laidByText := true, laidKinds := [.data, .data, .data], laidTests := true, laidLooks := .later }
def IntegerRingUptoCardSaid : Prop := Claim7.holds Tryd.pinned (.plain (OpenSpec.upto integerRingSpec)) integerRingUptoCard

/-- THE SECOND FORM's CARD OF 'examboardlaw02.IntegerOrder'. -/
def integerOrderUptoCard : Claim7 := { stood := { row := integerOrderUptoRow, standIns := [], harness := (true, "891f244af0ac1074caef26c06bb784c2e1dc64b50b546cfce0fce6b5007b0ba4"), looks := false }, kinds := [], alts := [], laidByText := true, laidKinds := [.data, .data, .data], laidTests := true, laidLooks := .later }
def IntegerOrderUptoCardSaid : Prop := Claim7.holds Tryd.pinned (.plain (OpenSpec.upto integerOrderSpec)) integerOrderUptoCard

/-- THE SECOND FORM's CARD OF 'examboardlaw03.RatioUnary'. -/
def ratioUnaryUptoCard : Claim7 := { stood := { row := ratioUnaryUptoRow, standIns := [], harness := (true, "891f244af0ac1074caef26c06bb784c2e1dc64b50b546cfce0fce6b5007b0ba4"), looks := false }, kinds := [], alts := [], laidByText := true, laidKinds := [.data, .data, .data], laidTests := true, laidLooks := .later }
def RatioUnaryUptoCardSaid : Prop := Claim7.holds Tryd.pinned (.plain (OpenSpec.upto ratioUnarySpec)) ratioUnaryUptoCard

/-- THE SECOND FORM's CARD OF 'examboardlaw03.RatioRoundTrip'. -/
def ratioRoundTripUptoCard : Claim7 := { stood := { row := ratioRoundTripUptoRow, standIns := [], harness := (true, "891f244af0ac1074caef26c06bb784c2e1dc64b50b546cfce0fce6b5007b0ba4"), looks := false }, kinds := [], alts := [], laidByText := true, laidKinds := [.data, .data, .data], laidTests := true, laidLooks := .later }
def RatioRoundTripUptoCardSaid : Prop := Claim7.holds Tryd.pinned (.plain (OpenSpec.upto ratioRoundTripSpec)) ratioRoundTripUptoCard
end Rows
end Go.Proofs.YtemgfdojllepaaaDoor
