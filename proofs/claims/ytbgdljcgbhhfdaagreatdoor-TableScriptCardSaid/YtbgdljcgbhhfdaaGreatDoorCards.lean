/-
  DERIVED. GIVEN WITH THE SEED: THE CARDS: each row of YtbgdljcgbhhfdaaGreatDoorRows.lean that lists a variable, with what it lists TIED to the program's text (the seventh form; the later family's looks); each row that meets fmt, with fmt's text TOLD by the authors' own Lean function (tested against real Go, not proved from fmt's source: count such statements apart). THE CARD IS WHAT COUNTS. Prove the row's statement (the work); the ties are given (YtbgdljcgbhhfdaaGreatDoorTie.lean); close each card by the builder's one call (the guide's Derived/Test/ToyasCard.lean, 'card_holds'). Laid BY PROGRAM, IN A SANDBOX (cutbox-door.mjs). By AI agents, Wed Nov 11 2026. No macro, syntax, notation, axiom, sorry.
-/
import Derived.Test.YtbgdljcgbhhfdaaGreatDoorRows
import GoSem.ClaimSeven
namespace Go.Proofs.YtbgdljcgbhhfdaaGreatDoor
namespace Rows

/-- THE TIED CARD OF 'vouchsafelaw18.TableScript'. -/
def tableScriptCard : Claim7 := { stood := { row := tableScriptRow, standIns := [], harness := (true, "22dc46d9753af39a8cb4ca0b31895ae93ff3659dc0c760c2ea6af1885102d4f2"), looks := false }, kinds := [], alts := [], laidByText := true, laidKinds := [.data, .data, .data, .listed, .data], laidTests := true, laidLooks := .later }
def TableScriptCardSaid : Prop := Claim7.holds Tryz.pinned (.plain (OpenSpec.ofChange tableScriptSpec)) tableScriptCard

/-- THE SECOND FORM's CARD OF 'vouchsafelaw18.TableScript'. -/
def tableScriptUptoCard : Claim7 := { stood := { row := tableScriptUptoRow, standIns := [], harness := (true, "22dc46d9753af39a8cb4ca0b31895ae93ff3659dc0c760c2ea6af1885102d4f2"), looks := false }, kinds := [], alts := [], laidByText := true, laidKinds := [.data, .data, .data, .listed, .data], laidTests := true, laidLooks := .later }
def TableScriptUptoCardSaid : Prop := Claim7.holds Tryz.pinned (.plain (OpenSpec.upto tableScriptSpec)) tableScriptUptoCard
end Rows
end Go.Proofs.YtbgdljcgbhhfdaaGreatDoor
