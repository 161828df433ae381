/-
  DERIVED. GIVEN WITH THE SEED: THE CARDS: each row of YtnjnipllflfmeaaDoorRows.lean that lists a variable, with what it lists TIED to the program's text (the seventh form; the later family's looks); each row that meets fmt, with fmt's text TOLD by the authors' own Lean function (tested against real Go, not proved from fmt's source: count such statements apart). THE CARD IS WHAT COUNTS. Prove the row's statement (the work); the ties are given (YtnjnipllflfmeaaDoorTie.lean); close each card by the builder's one call (the guide's Derived/Test/ToyasCard.lean, 'card_holds'). Laid BY PROGRAM, IN A SANDBOX (cutbox-door.mjs). By AI agents, Wed Nov 11 2026. No macro, syntax, notation, axiom, sorry.
-/
import Derived.Test.YtnjnipllflfmeaaDoorRows
import GoSem.ClaimSeven
namespace Go.Proofs.YtnjnipllflfmeaaDoor
namespace Rows

/-- THE TIED CARD OF 'tetherlaw06.SecretBest'. -/
def secretBestCard : Claim7 := { stood := { row := secretBestRow, standIns := [], harness := (true, "9e16c1e9ce5fdaed66e11bae79203de98f35c59eeec42762c5fb341fda881457"), looks := true }, kinds := [], alts := [], laidByText := true, laidKinds := [.data, .data, .data, .data, .handle, .sentinel, .sentinel, .sentinel, .pinned], laidTests := true, laidLooks := .later }
def SecretBestCardSaid : Prop := Claim7.holds Tryd.pinned (.plain (OpenSpec.ofChange secretBestSpec)) secretBestCard

/-- THE TIED CARD OF 'tetherlaw06.SecretRemarks'. -/
def secretRemarksCard : Claim7 := { stood := { row := secretRemarksRow, standIns := [], harness := (true, "9e16c1e9ce5fdaed66e11bae79203de98f35c59eeec42762c5fb341fda881457"), looks := true }, kinds := [], alts := [], laidByText := true, laidKinds := [.data, .data, .data, .data, .handle, .sentinel, .sentinel, .sentinel, .pinned], laidTests := true, laidLooks := .later }
def SecretRemarksCardSaid : Prop := Claim7.holds Tryd.pinned (.plain (OpenSpec.ofChange secretRemarksSpec)) secretRemarksCard

/-- THE SECOND FORM's CARD OF 'tetherlaw06.SecretBest'. -/
def secretBestUptoCard : Claim7 := { stood := { row := secretBestUptoRow, standIns := [], harness := (true, "9e16c1e9ce5fdaed66e11bae79203de98f35c59eeec42762c5fb341fda881457"), looks := true }, kinds := [], alts := [], laidByText := true, laidKinds := [.data, .data, .data, .data, .handle, .sentinel, .sentinel, .sentinel, .pinned], laidTests := true, laidLooks := .later }
def SecretBestUptoCardSaid : Prop := Claim7.holds Tryd.pinned (.plain (OpenSpec.upto secretBestSpec)) secretBestUptoCard

/-- THE SECOND FORM's CARD OF 'tetherlaw06.SecretRemarks'. -/
def secretRemarksUptoCard : Claim7 := { stood := { row := secretRemarksUptoRow, standIns := [], harness := (true, "9e16c1e9ce5fdaed66e11bae79203de98f35c59eeec42762c5fb341fda881457"), looks := true }, kinds := [], alts := [], laidByText := true, laidKinds := [.data, .data, .data, .data, .handle, .sentinel, .sentinel, .sentinel, .pinned], laidTests := true, laidLooks := .later }
def SecretRemarksUptoCardSaid : Prop := Claim7.holds Tryd.pinned (.plain (OpenSpec.upto secretRemarksSpec)) secretRemarksUptoCard
end Rows
end Go.Proofs.YtnjnipllflfmeaaDoor
