/-
  DERIVED. GIVEN WITH THE SEED: THE CARDS: each row of YtalaciffklejkaaDoorRows.lean that lists a variable, with what it lists TIED to the program's text (the seventh form; the later family's looks); each row that meets fmt, with fmt's text TOLD by the authors' own Lean function (tested against real Go, not proved from fmt's source: count such statements apart). THE CARD IS WHAT COUNTS. Prove the row's statement (the work); the ties are given (YtalaciffklejkaaDoorTie.lean); close each card by the builder's one call (the guide's Derived/Test/ToyasCard.lean, 'card_holds'). Laid BY PROGRAM, IN A SANDBOX (cutbox-door.mjs). By AI agents, Wed Nov 11 2026. No macro, syntax, notation, axiom, sorry.
-/
import Derived.Test.YtalaciffklejkaaDoorRows
import GoSem.ClaimSeven
namespace Go.Proofs.YtalaciffklejkaaDoor
namespace Rows

/-- THE TIED CARD OF 'examboardlaw01.NatWords'. -/
def natWordsCard : Claim7 := { stood := { row := natWordsRow, standIns := [], harness := (true, "b57f9f05f9e4d568005c58b3bd1ad3a4abb07907f4c6325c6da3cd34f517bb15"), looks := false }, kinds := [], alts := [], laidByText := true, laidKinds := [.data, .data, .data], laidTests := true, laidLooks := .later }
def NatWordsCardSaid : Prop := Claim7.holds Tryd.pinned (.plain (OpenSpec.ofChange natWordsSpec)) natWordsCard

/-- THE TIED CARD OF 'examboardlaw01.NatSums'. -/
def natSumsCard : Claim7 := { stood := { row := natSumsRow, standIns := [], harness := (true, "b57f9f05f9e4d568005c58b3bd1ad3a4abb07907f4c6325c6da3cd34f517bb15"), looks := false }, kinds := [], alts := [], laidByText := true, laidKinds := [.data, .data, .data], laidTests := true, laidLooks := .later }
def NatSumsCardSaid : Prop := Claim7.holds Tryd.pinned (.plain (OpenSpec.ofChange natSumsSpec)) natSumsCard

/-- THE TIED CARD OF 'examboardlaw01.NatQuotients'. -/
def natQuotientsCard : Claim7 := { stood := { row := natQuotientsRow, standIns := [], harness := (true, "b57f9f05f9e4d568005c58b3bd1ad3a4abb07907f4c6325c6da3cd34f517bb15"), looks := false }, kinds := [], alts := [], laidByText := true, laidKinds := [.data, .data, .data], laidTests := true, laidLooks := .later }
def NatQuotientsCardSaid : Prop := Claim7.holds Tryd.pinned (.plain (OpenSpec.ofChange natQuotientsSpec)) natQuotientsCard

/-- THE TIED CARD OF 'examboardlaw01.NatPowers'. -/
def natPowersCard : Claim7 := { stood := { row := natPowersRow, standIns := [], harness := (true, "b57f9f05f9e4d568005c58b3bd1ad3a4abb07907f4c6325c6da3cd34f517bb15"), looks := false }, kinds := [], alts := [], laidByText := true, laidKinds := [.data, .data, .data], laidTests := true, laidLooks := .later }
def NatPowersCardSaid : Prop := Claim7.holds Tryd.pinned (.plain (OpenSpec.ofChange natPowersSpec)) natPowersCard

/-- THE TIED CARD OF 'examboardlaw01.NatTexts'. -/
def natTextsCard : Claim7 := { stood := { row := natTextsRow, standIns := [], harness := (true, "b57f9f05f9e4d568005c58b3bd1ad3a4abb07907f4c6325c6da3cd34f517bb15"), looks := false }, kinds := [], alts := [], laidByText := true, laidKinds := [.data, .data, .data], laidTests := true, laidLooks := .later }
def NatTextsCardSaid : Prop := Claim7.holds Tryd.pinned (.plain (OpenSpec.ofChange natTextsSpec)) natTextsCard

/-- THE TIED CARD OF 'examboardlaw01.NatRing'. -/
def natRingCard : Claim7 := { stood := { row := natRingRow, standIns := [], harness := (true, "b57f9f05f9e4d568005c58b3bd1ad3a4abb07907f4c6325c6da3cd34f517bb15"), looks := false }, kinds := [], alts := [], laidByText := true, laidKinds := [.data, .data, .data], laidTests := true, laidLooks := .later }
def NatRingCardSaid : Prop := Claim7.holds Tryd.pinned (.plain (OpenSpec.ofChange natRingSpec)) natRingCard

/-- THE TIED CARD OF 'examboardlaw01.NatDivisors'. -/
def natDivisorsCard : Claim7 := { stood := { row := natDivisorsRow, standIns := [], harness := (true, "b57f9f05f9e4d568005c58b3bd1ad3a4abb07907f4c6325c6da3cd34f517bb15"), looks := false }, kinds := [], alts := [], laidByText := true, laidKinds := [.data, .data, .data], laidTests := true, laidLooks := .later }
def NatDivisorsCardSaid : Prop := Claim7.holds Tryd.pinned (.plain (OpenSpec.ofChange natDivisorsSpec)) natDivisorsCard

/-- THE TIED CARD OF 'examboardlaw01.NatNotation'. -/
def natNotationCard : Claim7 := { stood := { row := natNotationRow, standIns := [], harness := (true, "b57f9f05f9e4d568005c58b3bd1ad3a4abb07907f4c6325c6da3cd34f517bb15"), looks := false }, kinds := [], alts := [], laidByText := true, laidKinds := [.data, .data, .data], laidTests := true, laidLooks := .later }
def NatNotationCardSaid : Prop := Claim7.holds Tryd.pinned (.plain (OpenSpec.ofChange natNotationSpec)) natNotationCard

/-- THE TIED CARD OF 'examboardlaw01.NatForms'. -/
def natFormsCard : Claim7 := { stood := { row := natFormsRow, standIns := [], harness := (true, "b57f9f05f9e4d568005c58b3bd1ad3a4abb07907f4c6325c6da3cd34f517bb15"), looks := false }, kinds := [], alts := [], laidByText := true, laidKinds := [.data, .data, .data], laidTests := true, laidLooks := .later }
def NatFormsCardSaid : Prop := Claim7.holds Tryd.pinned (.plain (OpenSpec.ofChange natFormsSpec)) natFormsCard

/-- THE SECOND FORM's CARD OF 'examboardlaw01.NatWords'. -/
def natWordsUptoCard : Claim7 := { stood := { row := natWordsUptoRow, standIns := [], harness := (true, "b57f9f05f9e4d568005c58b3bd1ad3a4abb07907f4c6325c6da3cd34f517bb15"), looks := false }, kinds := [], alts := [], laidByText := true, laidKinds := [.data, .data, .data], laidTests := true, laidLooks := .later }
def NatWordsUptoCardSaid : Prop := Claim7.holds Tryd.pinned (.plain (OpenSpec.upto natWordsSpec)) natWordsUptoCard

/-- THE SECOND FORM's CARD OF 'examboardlaw01.NatSums'. -/
def natSumsUptoCard : Claim7 := { stood := { row := natSumsUptoRow, standIns := [], harness := (true, "b57f9f05f9e4d568005c58b3bd1ad3a4abb07907f4c6325c6da3cd34f517bb15"), looks := false }, kinds := [], alts := [], laidByText := true, laidKinds := [.data, .data, .data], laidTests := true, laidLooks := .later }
def NatSumsUptoCardSaid : Prop := Claim7.holds Tryd.pinned (.plain (OpenSpec.upto natSumsSpec)) natSumsUptoCard

/-- THE SECOND FORM's CARD OF 'examboardlaw01.NatQuotients'. -/
def natQuotientsUptoCard : Claim7 := { stood := { row := natQuotientsUptoRow, standIns := [], harness := (true, "b57f9f05f9e4d568005c58b3bd1ad3a4abb07907f4c6325c6da3cd34f517bb15"), looks := false }, kinds := [], alts := [], laidByText := true, laidKinds := [.data, .data, .data], laidTests := true, laidLooks := .later }
def NatQuotientsUptoCardSaid : Prop := Claim7.holds Tryd.pinned (.plain (OpenSpec.upto natQuotientsSpec)) natQuotientsUptoCard

/-- THE SECOND FORM's CARD OF 'examboardlaw01.NatPowers'. -/
def natPowersUptoCard : Claim7 := { stood := { row := natPowersUptoRow, standIns := [], harness := (true, "b57f9f05f9e4d568005c58b3bd1ad3a4abb07907f4c6325c6da3cd34f517bb15"), looks := false }, kinds := [], alts := [], laidByText := true, laidKinds := [.data, .data, .data], laidTests := true, laidLooks := .later }
def NatPowersUptoCardSaid : Prop := Claim7.holds Tryd.pinned (.plain (OpenSpec.upto natPowersSpec)) natPowersUptoCard

/-- THE SECOND FORM's CARD OF 'examboardlaw01.NatTexts'. -/
def natTextsUptoCard : Claim7 := { stood := { row := natTextsUptoRow, standIns := [], harness := (true, "b57f9f05f9e4d568005c58b3bd1ad3a4abb07907f4c6325c6da3cd34f517bb15"), looks := false }, kinds := [], alts := [], laidByText := true, laidKinds := [.data, .data, .data], laidTests := true, laidLooks := .later }
def NatTextsUptoCardSaid : Prop := Claim7.holds Tryd.pinned (.plain (OpenSpec.upto natTextsSpec)) natTextsUptoCard

/-- THE SECOND FORM's CARD OF 'examboardlaw01.NatRing'. -/
def natRingUptoCard : Claim7 := { stood := { row := natRingUptoRow, standIns := [], harness := (true, "b57f9f05f9e4d568005c58b3bd1ad3a4abb07907f4c6325c6da3cd34f517bb15"), looks := false }, kinds := [], alts := [], laidByText := true, laidKinds := [.data, .data, .data], laidTests := true, laidLooks := .later }
def NatRingUptoCardSaid : Prop := Claim7.holds Tryd.pinned (.plain (OpenSpec.upto natRingSpec)) natRingUptoCard

/-- THE SECOND FORM's CARD OF 'examboardlaw01.NatDivisors'. -/
def natDivisorsUptoCard : Claim7 := { stood := { row := natDivisorsUptoRow, standIns := [], harness := (true, "b57f9f05f9e4d568005c58b3bd1ad3a4abb07907f4c6325c6da3cd34f517bb15"), looks := false }, kinds := [], alts := [], laidByText := true, laidKinds := [.data, .data, .data], laidTests := true, laidLooks := .later }
def NatDivisorsUptoCardSaid : Prop := Claim7.holds Tryd.pinned (.plain (OpenSpec.upto natDivisorsSpec)) natDivisorsUptoCard

/-- THE SECOND FORM's CARD OF 'examboardlaw01.NatNotation'. -/
def natNotationUptoCard : Claim7 := { stood := { row := natNotationUptoRow, standIns := [], harness := (true, "b57f9f05f9e4d568005c58b3bd1ad3a4abb07907f4c6325c6da3cd34f517bb15"), looks := false }, kinds := [], alts := [], laidByText := true, laidKinds := [.data, .data, .data], laidTests := true, laidLooks := .later }
def NatNotationUptoCardSaid : Prop := Claim7.holds Tryd.pinned (.plain (OpenSpec.upto natNotationSpec)) natNotationUptoCard

/-- THE SECOND FORM's CARD OF 'examboardlaw01.NatForms'. -/
def natFormsUptoCard : Claim7 := { stood := { row := natFormsUptoRow, standIns := [], harness := (true, "b57f9f05f9e4d568005c58b3bd1ad3a4abb07907f4c6325c6da3cd34f517bb15"), looks := false }, kinds := [], alts := [], laidByText := true, laidKinds := [.data, .data, .data], laidTests := true, laidLooks := .later }
def NatFormsUptoCardSaid : Prop := Claim7.holds Tryd.pinned (.plain (OpenSpec.upto natFormsSpec)) natFormsUptoCard
end Rows
end Go.Proofs.YtalaciffklejkaaDoor
