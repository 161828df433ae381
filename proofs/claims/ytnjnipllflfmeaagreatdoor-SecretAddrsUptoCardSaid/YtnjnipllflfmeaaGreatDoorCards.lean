/-
  DERIVED. GIVEN WITH THE SEED: THE CARDS: each row of YtnjnipllflfmeaaGreatDoorRows.lean that lists a variable, with what it lists TIED to the program's text (the seventh form; the later family's looks); each row that meets fmt, with fmt's text TOLD by the authors' own Lean function (tested against real Go, not proved from fmt's source: count such statements apart). THE CARD IS WHAT COUNTS. Prove the row's statement (the work); the ties are given (YtnjnipllflfmeaaGreatDoorTie.lean); close each card by the builder's one call (the guide's Derived/Test/ToyasCard.lean, 'card_holds'). Laid BY PROGRAM, IN A SANDBOX (cutbox-door.mjs). By AI agents, Wed Nov 11 2026. No macro, syntax, notation, axiom, sorry.
-/
import Derived.Test.YtnjnipllflfmeaaGreatDoorRows
import GoSem.ClaimSeven
namespace Go.Proofs.YtnjnipllflfmeaaGreatDoor
namespace Rows

/-- THE TIED CARD OF 'tetherlaw06.SecretReads'. -/
def secretReadsCard : Claim7 := { stood := { row := secretReadsRow, standIns := [], harness := (true, "f5c956b325c3b9b0d7651e242e170168acad2448af9af87b7b05026ba51525ae"), looks := true }, kinds := [], alts := [], laidByText := true, laidKinds := [.data, .data, .data, .data, .handle, .sentinel, .sentinel, .sentinel, .pinned], laidTests := true, laidLooks := .later }
def SecretReadsCardSaid : Prop := Claim7.holds Tryz.pinned (.plain (OpenSpec.ofChange secretReadsSpec)) secretReadsCard

/-- THE TIED CARD OF 'tetherlaw06.SecretAddrs'. -/
def secretAddrsCard : Claim7 := { stood := { row := secretAddrsRow, standIns := [], harness := (true, "f5c956b325c3b9b0d7651e242e170168acad2448af9af87b7b05026ba51525ae"), looks := true }, kinds := [], alts := [], laidByText := true, laidKinds := [.data, .data, .data, .data, .handle, .sentinel, .sentinel, .sentinel, .pinned], laidTests := true, laidLooks := .later }
def SecretAddrsCardSaid : Prop := Claim7.holds Tryz.pinned (.plain (OpenSpec.ofChange secretAddrsSpec)) secretAddrsCard

/-- THE TIED CARD OF 'tetherlaw06.SecretFinds'. -/
def secretFindsCard : Claim7 := { stood := { row := secretFindsRow, standIns := [], harness := (true, "f5c956b325c3b9b0d7651e242e170168acad2448af9af87b7b05026ba51525ae"), looks := true }, kinds := [], alts := [], laidByText := true, laidKinds := [.data, .data, .data, .data, .handle, .sentinel, .sentinel, .sentinel, .pinned], laidTests := true, laidLooks := .later }
def SecretFindsCardSaid : Prop := Claim7.holds Tryz.pinned (.plain (OpenSpec.ofChange secretFindsSpec)) secretFindsCard

/-- THE SECOND FORM's CARD OF 'tetherlaw06.SecretReads'. -/
def secretReadsUptoCard : Claim7 := { stood := { row := secretReadsUptoRow, standIns := [], harness := (true, "f5c956b325c3b9b0d7651e242e170168acad2448af9af87b7b05026ba51525ae"), looks := true }, kinds := [], alts := [], laidByText := true, laidKinds := [.data, .data, .data, .data, .handle, .sentinel, .sentinel, .sentinel, .pinned], laidTests := true, laidLooks := .later }
def SecretReadsUptoCardSaid : Prop := Claim7.holds Tryz.pinned (.plain (OpenSpec.upto secretReadsSpec)) secretReadsUptoCard

/-- THE SECOND FORM's CARD OF 'tetherlaw06.SecretAddrs'. -/
def secretAddrsUptoCard : Claim7 := { stood := { row := secretAddrsUptoRow, standIns := [], harness := (true, "f5c956b325c3b9b0d7651e242e170168acad2448af9af87b7b05026ba51525ae"), looks := true }, kinds := [], alts := [], laidByText := true, laidKinds := [.data, .data, .data, .data, .handle, .sentinel, .sentinel, .sentinel, .pinned], laidTests := true, laidLooks := .later }
def SecretAddrsUptoCardSaid : Prop := Claim7.holds Tryz.pinned (.plain (OpenSpec.upto secretAddrsSpec)) secretAddrsUptoCard

/-- THE SECOND FORM's CARD OF 'tetherlaw06.SecretFinds'. -/
def secretFindsUptoCard : Claim7 := { stood := { row := secretFindsUptoRow, standIns := [], harness := (true, "f5c956b325c3b9b0d7651e242e170168acad2448af9af87b7b05026ba51525ae"), looks := true }, kinds := [], alts := [], laidByText := true, laidKinds := [.data, .data, .data, .data, .handle, .sentinel, .sentinel, .sentinel, .pinned], laidTests := true, laidLooks := .later }
def SecretFindsUptoCardSaid : Prop := Claim7.holds Tryz.pinned (.plain (OpenSpec.upto secretFindsSpec)) secretFindsUptoCard
end Rows
end Go.Proofs.YtnjnipllflfmeaaGreatDoor
