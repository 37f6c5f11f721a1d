/-
  DERIVED. GIVEN WITH THE SEED: THE CARDS: each row of YtohcehjpdmhjlaaDoorRows.lean that lists a variable, with what it lists TIED to the program's text (the seventh form; the later family's looks); each row that meets fmt, with fmt's text TOLD by the authors' own Lean function (tested against real Go, not proved from fmt's source: count such statements apart). THE CARD IS WHAT COUNTS. Prove the row's statement (the work); the ties are given (YtohcehjpdmhjlaaDoorTie.lean); close each card by the builder's one call (the guide's Derived/Test/ToyasCard.lean, 'card_holds'). Laid BY PROGRAM, IN A SANDBOX (cutbox-door.mjs). By AI agents, Wed Nov 11 2026. No macro, syntax, notation, axiom, sorry.
-/
import Derived.Test.YtohcehjpdmhjlaaDoorRows
import GoSem.ClaimSeven
namespace Go.Proofs.YtohcehjpdmhjlaaDoor
namespace Rows

/-- THE TIED CARD OF 'vouchsafelaw06.UnifyMeets'. -/
def unifyMeetsCard : Claim7 := { stood := { row := unifyMeetsRow, standIns := [], harness := (true, "20ce0f78885029aa3bcb125614800814dc59224d3d046d21d77a551d0d4b20b4"), looks := true }, kinds := [], alts := [], laidByText := true, laidKinds := [.data, .data, .data], laidTests := true, laidLooks := .later }
def UnifyMeetsCardSaid : Prop := Claim7.holds Tryd.pinned (.plain (OpenSpec.ofChange unifyMeetsSpec)) unifyMeetsCard

/-- THE TIED CARD OF 'vouchsafelaw06.UnifyMarks'. -/
def unifyMarksCard : Claim7 := { stood := { row := unifyMarksRow, standIns := [], harness := (true, "20ce0f78885029aa3bcb125614800814dc59224d3d046d21d77a551d0d4b20b4"), looks := true }, kinds := [], alts := [], laidByText := true, laidKinds := [.data, .data, .data, .sentinel, .sentinel], laidTests := true, laidLooks := .later }
def UnifyMarksCardSaid : Prop := Claim7.holds Tryd.pinned (.plain (OpenSpec.ofChange unifyMarksSpec)) unifyMarksCard

/-- THE TIED CARD OF 'vouchsafelaw06.UnifyNames'. -/
def unifyNamesCard : Claim7 := { stood := { row := unifyNamesRow, standIns := [], harness := (true, "20ce0f78885029aa3bcb125614800814dc59224d3d046d21d77a551d0d4b20b4"), looks := true }, kinds := [], alts := [], laidByText := true, laidKinds := [.data, .data, .data, .sentinel, .sentinel], laidTests := true, laidLooks := .later }
def UnifyNamesCardSaid : Prop := Claim7.holds Tryd.pinned (.plain (OpenSpec.ofChange unifyNamesSpec)) unifyNamesCard

/-- THE SECOND FORM's CARD OF 'vouchsafelaw06.UnifyMeets'. -/
def unifyMeetsUptoCard : Claim7 := { stood := { row := unifyMeetsUptoRow, standIns := [], harness := (true, "20ce0f78885029aa3bcb125614800814dc59224d3d046d21d77a551d0d4b20b4"), looks := true }, kinds := [], alts := [], laidByText := true, laidKinds := [.data, .data, .data], laidTests := true, laidLooks := .later }
def UnifyMeetsUptoCardSaid : Prop := Claim7.holds Tryd.pinned (.plain (OpenSpec.upto unifyMeetsSpec)) unifyMeetsUptoCard

/-- THE SECOND FORM's CARD OF 'vouchsafelaw06.UnifyMarks'. -/
def unifyMarksUptoCard : Claim7 := { stood := { row := unifyMarksUptoRow, standIns := [], harness := (true, "20ce0f78885029aa3bcb125614800814dc59224d3d046d21d77a551d0d4b20b4"), looks := true }, kinds := [], alts := [], laidByText := true, laidKinds := [.data, .data, .data, .sentinel, .sentinel], laidTests := true, laidLooks := .later }
def UnifyMarksUptoCardSaid : Prop := Claim7.holds Tryd.pinned (.plain (OpenSpec.upto unifyMarksSpec)) unifyMarksUptoCard

/-- THE SECOND FORM's CARD OF 'vouchsafelaw06.UnifyNames'. -/
def unifyNamesUptoCard : Claim7 := { stood := { row := unifyNamesUptoRow, standIns := [], harness := (true, "20ce0f78885029aa3bcb125614800814dc59224d3d046d21d77a551d0d4b20b4"), looks := true }, kinds := [], alts := [], laidByText := true, laidKinds := [.data, .data, .data, .sentinel, .sentinel], laidTests := true, laidLooks := .later }
def UnifyNamesUptoCardSaid : Prop := Claim7.holds Tryd.pinned (.plain (OpenSpec.upto unifyNamesSpec)) unifyNamesUptoCard
end Rows
end Go.Proofs.YtohcehjpdmhjlaaDoor
