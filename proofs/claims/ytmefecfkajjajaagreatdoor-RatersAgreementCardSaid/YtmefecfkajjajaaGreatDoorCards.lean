/-
  DERIVED. GIVEN WITH THE SEED: THE CARDS: each row of YtmefecfkajjajaaGreatDoorRows.lean that lists a variable, with what it lists TIED to the program's text (the seventh form; the later family's looks); each row that meets fmt, with fmt's text TOLD by the authors' own Lean function (tested against real Go, not proved from fmt's source: count such statements apart). THE CARD IS WHAT COUNTS. Prove the row's statement (the work); the ties are given (YtmefecfkajjajaaGreatDoorTie.lean); close each card by the builder's one call (the guide's Derived/Test/ToyasCard.lean, 'card_holds'). Laid BY PROGRAM, IN A SANDBOX (cutbox-door.mjs). By AI agents, Wed Nov 11 2026. No macro, syntax, notation, axiom, sorry.
-/
import Derived.Test.YtmefecfkajjajaaGreatDoorRows
import GoSem.ClaimSeven
namespace Go.Proofs.YtmefecfkajjajaaGreatDoor
namespace Rows

/-- THE TIED CARD OF 'examboardlaw42.RatersAgreement'. -/
def ratersAgreementCard : Claim7 := { stood := { row := ratersAgreementRow, standIns := [], harness := (true, "72c6a7b5a24bbec4a6eedea3ebf3aa312efda4bb5872228ee54092079edbc85a"), looks := false }, kinds := [], alts := [], laidByText := true, laidKinds := [.data, .data, .data], laidTests := true, laidLooks := .later }
def RatersAgreementCardSaid : Prop := Claim7.holds Tryz.pinned (.plain (OpenSpec.ofChange ratersAgreementSpec)) ratersAgreementCard

/-- THE SECOND FORM's CARD OF 'examboardlaw42.RatersAgreement'. -/
def ratersAgreementUptoCard : Claim7 := { stood := { row := ratersAgreementUptoRow, standIns := [], harness := (true, "72c6a7b5a24bbec4a6eedea3ebf3aa312efda4bb5872228ee54092079edbc85a"), looks := false }, kinds := [], alts := [], laidByText := true, laidKinds := [.data, .data, .data], laidTests := true, laidLooks := .later }
def RatersAgreementUptoCardSaid : Prop := Claim7.holds Tryz.pinned (.plain (OpenSpec.upto ratersAgreementSpec)) ratersAgreementUptoCard
end Rows
end Go.Proofs.YtmefecfkajjajaaGreatDoor
