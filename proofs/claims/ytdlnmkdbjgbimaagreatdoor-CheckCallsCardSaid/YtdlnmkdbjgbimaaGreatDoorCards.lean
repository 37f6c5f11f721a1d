/-
  DERIVED. GIVEN WITH THE SEED: THE CARDS: each row of YtdlnmkdbjgbimaaGreatDoorRows.lean that lists a variable, with what it lists TIED to the program's text (the seventh form; the later family's looks); each row that meets fmt, with fmt's text TOLD by the authors' own Lean function (tested against real Go, not proved from fmt's source: count such statements apart). THE CARD IS WHAT COUNTS. Prove the row's statement (the work); the ties are given (YtdlnmkdbjgbimaaGreatDoorTie.lean); close each card by the builder's one call (the guide's Derived/Test/ToyasCard.lean, 'card_holds'). Laid BY PROGRAM, IN A SANDBOX (cutbox-door.mjs). By AI agents, Wed Nov 11 2026. No macro, syntax, notation, axiom, sorry.
-/
import Derived.Test.YtdlnmkdbjgbimaaGreatDoorRows
import GoSem.ClaimSeven
namespace Go.Proofs.YtdlnmkdbjgbimaaGreatDoor
namespace Rows

/-- THE TIED CARD OF 'vouchsafelaw22.CheckCalls'. -/
def checkCallsCard : Claim7 := { stood := { row := checkCallsRow, standIns := [], harness := (true, "16fb7a5ad765168ea9c245ac7d662af4bac8a9fb34709bece723fbe76fa66180"), looks := false }, kinds := [], alts := [], laidByText := true, laidKinds := [.listed, .data], laidTests := true, laidLooks := .later }
def CheckCallsCardSaid : Prop := Claim7.holds Tryz.pinned (.plain (OpenSpec.ofChange checkCallsSpec)) checkCallsCard

/-- THE SECOND FORM's CARD OF 'vouchsafelaw22.CheckCalls'. -/
def checkCallsUptoCard : Claim7 := { stood := { row := checkCallsUptoRow, standIns := [], harness := (true, "16fb7a5ad765168ea9c245ac7d662af4bac8a9fb34709bece723fbe76fa66180"), looks := false }, kinds := [], alts := [], laidByText := true, laidKinds := [.listed, .data], laidTests := true, laidLooks := .later }
def CheckCallsUptoCardSaid : Prop := Claim7.holds Tryz.pinned (.plain (OpenSpec.upto checkCallsSpec)) checkCallsUptoCard
end Rows
end Go.Proofs.YtdlnmkdbjgbimaaGreatDoor
