/-
  DERIVED. GIVEN WITH THE SEED: THE CARDS: each row of YtnleagkinejenaaDoorRows.lean that lists a variable, with what it lists TIED to the program's text (the seventh form; the later family's looks); each row that meets fmt, with fmt's text TOLD by the authors' own Lean function (tested against real Go, not proved from fmt's source: count such statements apart). THE CARD IS WHAT COUNTS. Prove the row's statement (the work); the ties are given (YtnleagkinejenaaDoorTie.lean); close each card by the builder's one call (the guide's Derived/Test/ToyasCard.lean, 'card_holds'). Laid BY PROGRAM, IN A SANDBOX (cutbox-door.mjs). By AI agents, Wed Nov 11 2026. No macro, syntax, notation, axiom, sorry.
-/
import Derived.Test.YtnleagkinejenaaDoorRows
import GoSem.ClaimSeven
namespace Go.Proofs.YtnleagkinejenaaDoor
namespace Rows

/-- THE TIED CARD OF 'examboardlaw01.NatWords'. -/
def natWordsCard : Claim7 := { stood := { row := natWordsRow, standIns := [], harness := (true, "2d360e66a7b132cf9f29700d47ee650b6fc18efcda729b3b29e6c4cdd6b575aa"), looks := false }, kinds := [], alts := [], laidByText := true, laidKinds := [.data, .data, .data], laidTests := true, laidLooks := .later }
def NatWordsCardSaid : Prop := Claim7.holds Tryd.pinned (.plain (OpenSpec.ofChange natWordsSpec)) natWordsCard

/-- THE TIED CARD OF 'examboardlaw01.NatSums'. -/
def natSumsCard : Claim7 := { stood := { row := natSumsRow, standIns := [], harness := (true, "2d360e66a7b132cf9f29700d47ee650b6fc18efcda729b3b29e6c4cdd6b575aa"), looks := false }, kinds := [], alts := [], laidByText := true, laidKinds := [.data, .data, .data], laidTests := true, laidLooks := .later }
def NatSumsCardSaid : Prop := Claim7.holds Tryd.pinned (.plain (OpenSpec.ofChange natSumsSpec)) natSumsCard

/-- THE TIED CARD OF 'examboardlaw01.NatQuotients'. -/
def natQuotientsCard : Claim7 := { stood := { row := natQuotientsRow, standIns := [], harness := (true, "2d360e66a7b132cf9f29700d47ee650b6fc18efcda729b3b29e6c4cdd6b575aa"), looks := false }, kinds := [], alts := [], laidByText := true, laidKinds := [.data, .data, .data], laidTests := true, laidLooks := .later }
def NatQuotientsCardSaid : Prop := Claim7.holds Tryd.pinned (.plain (OpenSpec.ofChange natQuotientsSpec)) natQuotientsCard

/-- THE TIED CARD OF 'examboardlaw01.NatDivisors'. -/
def natDivisorsCard : Claim7 := { stood := { row := natDivisorsRow, standIns := [], harness := (true, "2d360e66a7b132cf9f29700d47ee650b6fc18efcda729b3b29e6c4cdd6b575aa"), looks := false }, kinds := [], alts := [], laidByText := true, laidKinds := [.data, .data, .data], laidTests := true, laidLooks := .later }
def NatDivisorsCardSaid : Prop := Claim7.holds Tryd.pinned (.plain (OpenSpec.ofChange natDivisorsSpec)) natDivisorsCard

/-- THE SECOND FORM's CARD OF 'examboardlaw01.NatWords'. -/
def natWordsUptoCard : Claim7 := { stood := { row := natWordsUptoRow, standIns := [], harness := (true, "2d360e66a7b132cf9f29700d47ee650b6fc18efcda729b3b29e6c4cdd6b575aa"), looks := false }, kinds := [], alts := [], laidByText := true, laidKinds := [.data, .data, .data], laidTests := true, laidLooks := .later }
def NatWordsUptoCardSaid : Prop := Claim7.holds Tryd.pinned (.plain (OpenSpec.upto natWordsSpec)) natWordsUptoCard

/-- THE SECOND FORM's CARD OF 'examboardlaw01.NatSums'. -/
def natSumsUptoCard : Claim7 := { stood := { row := natSumsUptoRow, standIns := [], harness := (true, "2d360e66a7b132cf9f29700d47ee650b6fc18efcda729b3b29e6c4cdd6b575aa"), looks := false }, kinds := [], alts := [], laidByText := true, laidKinds := [.data, .data, .data], laidTests := true, laidLooks := .later }
def NatSumsUptoCardSaid : Prop := Claim7.holds Tryd.pinned (.plain (OpenSpec.upto natSumsSpec)) natSumsUptoCard

/-- THE SECOND FORM's CARD OF 'examboardlaw01.NatQuotients'. -/
def natQuotientsUptoCard : Claim7 := { stood := { row := natQuotientsUptoRow, standIns := [], harness := (true, "2d360e66a7b132cf9f29700d47ee650b6fc18efcda729b3b29e6c4cdd6b575aa"), looks := false }, kinds := [], alts := [], laidByText := true, laidKinds := [.data, .data, .data], laidTests := true, laidLooks := .later }
def NatQuotientsUptoCardSaid : Prop := Claim7.holds Tryd.pinned (.plain (OpenSpec.upto natQuotientsSpec)) natQuotientsUptoCard

/-- THE SECOND FORM's CARD OF 'examboardlaw01.NatDivisors'. -/
def natDivisorsUptoCard : Claim7 := { stood := { row := natDivisorsUptoRow, standIns := [], harness := (true, "2d360e66a7b132cf9f29700d47ee650b6fc18efcda729b3b29e6c4cdd6b575aa"), looks := false }, kinds := [], alts := [], laidByText := true, laidKinds := [.data, .data, .data], laidTests := true, laidLooks := .later }
def NatDivisorsUptoCardSaid : Prop := Claim7.holds Tryd.pinned (.plain (OpenSpec.upto natDivisorsSpec)) natDivisorsUptoCard
end Rows
end Go.Proofs.YtnleagkinejenaaDoor
