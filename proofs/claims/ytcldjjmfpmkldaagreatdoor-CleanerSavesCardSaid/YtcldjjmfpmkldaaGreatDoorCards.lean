/-
  DERIVED. GIVEN WITH THE SEED: THE CARDS: each row of YtcldjjmfpmkldaaGreatDoorRows.lean that lists a variable, with what it lists TIED to the program's text (the seventh form; the later family's looks); each row that meets fmt, with fmt's text TOLD by the authors' own Lean function (tested against real Go, not proved from fmt's source: count such statements apart). THE CARD IS WHAT COUNTS. Prove the row's statement (the work); the ties are given (YtcldjjmfpmkldaaGreatDoorTie.lean); close each card by the builder's one call (the guide's Derived/Test/ToyasCard.lean, 'card_holds'). Laid BY PROGRAM, IN A SANDBOX (cutbox-door.mjs). By AI agents, Wed Nov 11 2026. No macro, syntax, notation, axiom, sorry.
-/
import Derived.Test.YtcldjjmfpmkldaaGreatDoorRows
import GoSem.ClaimSeven
namespace Go.Proofs.YtcldjjmfpmkldaaGreatDoor
namespace Rows

/-- THE TIED CARD OF 'headgatelaw33.CleanerLasts'. -/
def cleanerLastsCard : Claim7 := { stood := { row := cleanerLastsRow, standIns := [], harness := (true, "f87fbcdc9d63d4348e2aa00cbc73503ba3366b1debbd19f8f763d47f3369e284"), looks := false }, kinds := [], alts := [], laidByText := true, laidKinds := [.data, .pinned], laidTests := true, laidLooks := .later }
def CleanerLastsCardSaid : Prop := Claim7.holds Tryz.pinned (.plain (OpenSpec.ofChange cleanerLastsSpec)) cleanerLastsCard

/-- THE TIED CARD OF 'headgatelaw33.CleanerSaves'. -/
def cleanerSavesCard : Claim7 := { stood := { row := cleanerSavesRow, standIns := [], harness := (true, "f87fbcdc9d63d4348e2aa00cbc73503ba3366b1debbd19f8f763d47f3369e284"), looks := false }, kinds := [], alts := [], laidByText := true, laidKinds := [.data, .pinned], laidTests := true, laidLooks := .later }
def CleanerSavesCardSaid : Prop := Claim7.holds Tryz.pinned (.plain (OpenSpec.ofChange cleanerSavesSpec)) cleanerSavesCard

/-- THE SECOND FORM's CARD OF 'headgatelaw33.CleanerLasts'. -/
def cleanerLastsUptoCard : Claim7 := { stood := { row := cleanerLastsUptoRow, standIns := [], harness := (true, "f87fbcdc9d63d4348e2aa00cbc73503ba3366b1debbd19f8f763d47f3369e284"), looks := false }, kinds := [], alts := [], laidByText := true, laidKinds := [.data, .pinned], laidTests := true, laidLooks := .later }
def CleanerLastsUptoCardSaid : Prop := Claim7.holds Tryz.pinned (.plain (OpenSpec.upto cleanerLastsSpec)) cleanerLastsUptoCard

/-- THE SECOND FORM's CARD OF 'headgatelaw33.CleanerSaves'. -/
def cleanerSavesUptoCard : Claim7 := { stood := { row := cleanerSavesUptoRow, standIns := [], harness := (true, "f87fbcdc9d63d4348e2aa00cbc73503ba3366b1debbd19f8f763d47f3369e284"), looks := false }, kinds := [], alts := [], laidByText := true, laidKinds := [.data, .pinned], laidTests := true, laidLooks := .later }
def CleanerSavesUptoCardSaid : Prop := Claim7.holds Tryz.pinned (.plain (OpenSpec.upto cleanerSavesSpec)) cleanerSavesUptoCard
end Rows
end Go.Proofs.YtcldjjmfpmkldaaGreatDoor
