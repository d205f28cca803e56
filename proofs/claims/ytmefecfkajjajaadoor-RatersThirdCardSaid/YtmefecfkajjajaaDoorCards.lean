/-
  DERIVED. GIVEN WITH THE SEED: THE CARDS: each row of YtmefecfkajjajaaDoorRows.lean that lists a variable, with what it lists TIED to the program's text (the seventh form; the later family's looks); each row that meets fmt, with fmt's text TOLD by the authors' own Lean function (tested against real Go, not proved from fmt's source: count such statements apart). THE CARD IS WHAT COUNTS. Prove the row's statement (the work); the ties are given (YtmefecfkajjajaaDoorTie.lean); close each card by the builder's one call (the guide's Derived/Test/ToyasCard.lean, 'card_holds'). Laid BY PROGRAM, IN A SANDBOX (cutbox-door.mjs). By AI agents, Wed Nov 11 2026. No macro, syntax, notation, axiom, sorry.
-/
import Derived.Test.YtmefecfkajjajaaDoorRows
import GoSem.ClaimSeven
namespace Go.Proofs.YtmefecfkajjajaaDoor
namespace Rows

/-- THE TIED CARD OF 'examboardlaw42.RatersDecides'. -/
def ratersDecidesCard : Claim7 := { stood := { row := ratersDecidesRow, standIns := [], harness := (true, "3ddfb22f767e0bccec24cb648d00a991f29f38f99f824d84c501a50b579119cf"), looks := false }, kinds := [], alts := [], laidByText := true, laidKinds := [.data, .data, .data], laidTests := true, laidLooks := .later }
def RatersDecidesCardSaid : Prop := Claim7.holds Tryd.pinned (.plain (OpenSpec.ofChange ratersDecidesSpec)) ratersDecidesCard

/-- THE TIED CARD OF 'examboardlaw42.RatersCoefficients'. -/
def ratersCoefficientsCard : Claim7 := { stood := { row := ratersCoefficientsRow, standIns := [], harness := (true, "3ddfb22f767e0bccec24cb648d00a991f29f38f99f824d84c501a50b579119cf"), looks := false }, kinds := [], alts := [], laidByText := true, laidKinds := [.data, .data, .data], laidTests := true, laidLooks := .later }
def RatersCoefficientsCardSaid : Prop := Claim7.holds Tryd.pinned (.plain (OpenSpec.ofChange ratersCoefficientsSpec)) ratersCoefficientsCard

/-- THE TIED CARD OF 'examboardlaw42.RatersChecks'. -/
def ratersChecksCard : Claim7 := { stood := { row := ratersChecksRow, standIns := [], harness := (true, "3ddfb22f767e0bccec24cb648d00a991f29f38f99f824d84c501a50b579119cf"), looks := false }, kinds := [], alts := [], laidByText := true, laidKinds := [.data, .data, .data], laidTests := true, laidLooks := .later }
def RatersChecksCardSaid : Prop := Claim7.holds Tryd.pinned (.plain (OpenSpec.ofChange ratersChecksSpec)) ratersChecksCard

/-- THE TIED CARD OF 'examboardlaw42.RatersAssign'. -/
def ratersAssignCard : Claim7 := { stood := { row := ratersAssignRow, standIns := [], harness := (true, "3ddfb22f767e0bccec24cb648d00a991f29f38f99f824d84c501a50b579119cf"), looks := false }, kinds := [], alts := [], laidByText := true, laidKinds := [.data, .data, .data], laidTests := true, laidLooks := .later }
def RatersAssignCardSaid : Prop := Claim7.holds Tryd.pinned (.plain (OpenSpec.ofChange ratersAssignSpec)) ratersAssignCard

/-- THE TIED CARD OF 'examboardlaw42.RatersThird'. -/
def ratersThirdCard : Claim7 := { stood := { row := ratersThirdRow, standIns := [], harness := (true, "3ddfb22f767e0bccec24cb648d00a991f29f38f99f824d84c501a50b579119cf"), looks := false }, kinds := [], alts := [], laidByText := true, laidKinds := [.data, .data, .data], laidTests := true, laidLooks := .later }
def RatersThirdCardSaid : Prop := Claim7.holds Tryd.pinned (.plain (OpenSpec.ofChange ratersThirdSpec)) ratersThirdCard

/-- THE TIED CARD OF 'examboardlaw42.RatersBalanced'. -/
def ratersBalancedCard : Claim7 := { stood := { row := ratersBalancedRow, standIns := [], harness := (true, "3ddfb22f767e0bccec24cb648d00a991f29f38f99f824d84c501a50b579119cf"), looks := false }, kinds := [], alts := [], laidByText := true, laidKinds := [.data, .data, .data], laidTests := true, laidLooks := .later }
def RatersBalancedCardSaid : Prop := Claim7.holds Tryd.pinned (.plain (OpenSpec.ofChange ratersBalancedSpec)) ratersBalancedCard

/-- THE SECOND FORM's CARD OF 'examboardlaw42.RatersDecides'. -/
def ratersDecidesUptoCard : Claim7 := { stood := { row := ratersDecidesUptoRow, standIns := [], harness := (true, "3ddfb22f767e0bccec24cb648d00a991f29f38f99f824d84c501a50b579119cf"), looks := false }, kinds := [], alts := [], laidByText := true, laidKinds := [.data, .data, .data], laidTests := true, laidLooks := .later }
def RatersDecidesUptoCardSaid : Prop := Claim7.holds Tryd.pinned (.plain (OpenSpec.upto ratersDecidesSpec)) ratersDecidesUptoCard

/-- THE SECOND FORM's CARD OF 'examboardlaw42.RatersCoefficients'. -/
def ratersCoefficientsUptoCard : Claim7 := { stood := { row := ratersCoefficientsUptoRow, standIns := [], harness := (true, "3ddfb22f767e0bccec24cb648d00a991f29f38f99f824d84c501a50b579119cf"), looks := false }, kinds := [], alts := [], laidByText := true, laidKinds := [.data, .data, .data], laidTests := true, laidLooks := .later }
def RatersCoefficientsUptoCardSaid : Prop := Claim7.holds Tryd.pinned (.plain (OpenSpec.upto ratersCoefficientsSpec)) ratersCoefficientsUptoCard

/-- THE SECOND FORM's CARD OF 'examboardlaw42.RatersChecks'. -/
def ratersChecksUptoCard : Claim7 := { stood := { row := ratersChecksUptoRow, standIns := [], harness := (true, "3ddfb22f767e0bccec24cb648d00a991f29f38f99f824d84c501a50b579119cf"), looks := false }, kinds := [], alts := [], laidByText := true, laidKinds := [.data, .data, .data], laidTests := true, laidLooks := .later }
def RatersChecksUptoCardSaid : Prop := Claim7.holds Tryd.pinned (.plain (OpenSpec.upto ratersChecksSpec)) ratersChecksUptoCard

/-- THE SECOND FORM's CARD OF 'examboardlaw42.RatersAssign'. -/
def ratersAssignUptoCard : Claim7 := { stood := { row := ratersAssignUptoRow, standIns := [], harness := (true, "3ddfb22f767e0bccec24cb648d00a991f29f38f99f824d84c501a50b579119cf"), looks := false }, kinds := [], alts := [], laidByText := true, laidKinds := [.data, .data, .data], laidTests := true, laidLooks := .later }
def RatersAssignUptoCardSaid : Prop := Claim7.holds Tryd.pinned (.plain (OpenSpec.upto ratersAssignSpec)) ratersAssignUptoCard

/-- THE SECOND FORM's CARD OF 'examboardlaw42.RatersThird'. -/
def ratersThirdUptoCard : Claim7 := { stood := { row := ratersThirdUptoRow, standIns := [], harness := (true, "3ddfb22f767e0bccec24cb648d00a991f29f38f99f824d84c501a50b579119cf"), looks := false }, kinds := [], alts := [], laidByText := true, laidKinds := [.data, .data, .data], laidTests := true, laidLooks := .later }
def RatersThirdUptoCardSaid : Prop := Claim7.holds Tryd.pinned (.plain (OpenSpec.upto ratersThirdSpec)) ratersThirdUptoCard

/-- THE SECOND FORM's CARD OF 'examboardlaw42.RatersBalanced'. -/
def ratersBalancedUptoCard : Claim7 := { stood := { row := ratersBalancedUptoRow, standIns := [], harness := (true, "3ddfb22f767e0bccec24cb648d00a991f29f38f99f824d84c501a50b579119cf"), looks := false }, kinds := [], alts := [], laidByText := true, laidKinds := [.data, .data, .data], laidTests := true, laidLooks := .later }
def RatersBalancedUptoCardSaid : Prop := Claim7.holds Tryd.pinned (.plain (OpenSpec.upto ratersBalancedSpec)) ratersBalancedUptoCard
end Rows
end Go.Proofs.YtmefecfkajjajaaDoor
