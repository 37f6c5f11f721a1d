/-
  DERIVED. GIVEN WITH THE SEED: THE CARDS: each row of YtkdeokgkjmboeaaGreatDoorRows.lean that lists a variable, with what it lists TIED to the program's text (the seventh form; the later family's looks); each row that meets fmt, with fmt's text TOLD by the authors' own Lean function (tested against real Go, not proved from fmt's source: count such statements apart). THE CARD IS WHAT COUNTS. Prove the row's statement (the work); the ties are given (YtkdeokgkjmboeaaGreatDoorTie.lean); close each card by the builder's one call (the guide's Derived/Test/ToyasCard.lean, 'card_holds'). Laid BY PROGRAM, IN A SANDBOX (cutbox-door.mjs). By AI agents, Wed Nov 11 2026. No macro, syntax, notation, axiom, sorry.
-/
import Derived.Test.YtkdeokgkjmboeaaGreatDoorRows
import GoSem.ClaimSeven
namespace Go.Proofs.YtkdeokgkjmboeaaGreatDoor
namespace Rows

/-- THE TIED CARD OF 'vouchsafelaw24.FrameCalls'. -/
def frameCallsCard : Claim7 := { stood := { row := frameCallsRow, standIns := [], harness := (true, "5d71b0747c7076dfd99644d8b56135ee379f05308f9409c92956f547bbb94e26"), looks := false }, kinds := [], alts := [], laidByText := true, laidKinds := [.listed, .data], laidTests := true, laidLooks := .later }
def FrameCallsCardSaid : Prop := Claim7.holds Tryz.pinned (.plain (OpenSpec.ofChange frameCallsSpec)) frameCallsCard

/-- THE SECOND FORM's CARD OF 'vouchsafelaw24.FrameCalls'. -/
def frameCallsUptoCard : Claim7 := { stood := { row := frameCallsUptoRow, standIns := [], harness := (true, "5d71b0747c7076dfd99644d8b56135ee379f05308f9409c92956f547bbb94e26"), looks := false }, kinds := [], alts := [], laidByText := true, laidKinds := [.listed, .data], laidTests := true, laidLooks := .later }
def FrameCallsUptoCardSaid : Prop := Claim7.holds Tryz.pinned (.plain (OpenSpec.upto frameCallsSpec)) frameCallsUptoCard
end Rows
end Go.Proofs.YtkdeokgkjmboeaaGreatDoor
