/-
  DERIVED. GIVEN WITH THE SEED: THE CARDS: each row of YtapkafdlbocmmaaDoorRows.lean that lists a variable, with what it lists TIED to the program's text (the seventh form; the later family's looks); each row that meets fmt, with fmt's text TOLD by the authors' own Lean function (tested against real Go, not proved from fmt's source: count such statements apart). THE CARD IS WHAT COUNTS. Prove the row's statement (the work); the ties are given (YtapkafdlbocmmaaDoorTie.lean); close each card by the builder's one call (the guide's Derived/Test/ToyasCard.lean, 'card_holds'). Laid BY PROGRAM, IN A SANDBOX (cutbox-door.mjs). By AI agents, Wed Nov 11 2026. No macro, syntax, notation, axiom, sorry.
-/
import Derived.Test.YtapkafdlbocmmaaDoorRows
import GoSem.ClaimSeven
namespace Go.Proofs.YtapkafdlbocmmaaDoor
namespace Rows

/-- THE TIED CARD OF 'vouchsafelaw06.UnifyMeets'. -/
def unifyMeetsCard : Claim7 := { stood := { row := unifyMeetsRow, standIns := [], harness := (true, "de416c58cf31a35beb9294d2302f65e5e00d619e7c973291d89820ba56520a86"), looks := true }, kinds := [], alts := [], laidByText := true, laidKinds := [.data, .data, .data], laidTests := true, laidLooks := .later }
def UnifyMeetsCardSaid : Prop := Claim7.holds Tryd.pinned (.plain (OpenSpec.ofChange unifyMeetsSpec)) unifyMeetsCard

/-- THE TIED CARD OF 'vouchsafelaw03.TermMade'. -/
def termMadeCard : Claim7 := { stood := { row := termMadeRow, standIns := [], harness := (true, "de416c58cf31a35beb9294d2302f65e5e00d619e7c973291d89820ba56520a86"), looks := true }, kinds := [], alts := [], laidByText := true, laidKinds := [.listed, .data], laidTests := true, laidLooks := .later }
def TermMadeCardSaid : Prop := Claim7.holds Tryd.pinned (.plain (OpenSpec.ofChange termMadeSpec)) termMadeCard

/-- THE TIED CARD OF 'vouchsafelaw03.TermTexts'. -/
def termTextsCard : Claim7 := { stood := { row := termTextsRow, standIns := [], harness := (true, "de416c58cf31a35beb9294d2302f65e5e00d619e7c973291d89820ba56520a86"), looks := true }, kinds := [], alts := [], laidByText := true, laidKinds := [.listed, .data], laidTests := true, laidLooks := .later }
def TermTextsCardSaid : Prop := Claim7.holds Tryd.pinned (.plain (OpenSpec.ofChange termTextsSpec)) termTextsCard

/-- THE TIED CARD OF 'vouchsafelaw03.TermNames'. -/
def termNamesCard : Claim7 := { stood := { row := termNamesRow, standIns := [], harness := (true, "de416c58cf31a35beb9294d2302f65e5e00d619e7c973291d89820ba56520a86"), looks := true }, kinds := [], alts := [], laidByText := true, laidKinds := [.listed, .data], laidTests := true, laidLooks := .later }
def TermNamesCardSaid : Prop := Claim7.holds Tryd.pinned (.plain (OpenSpec.ofChange termNamesSpec)) termNamesCard

/-- THE TIED CARD OF 'vouchsafelaw03.TermCalls'. -/
def termCallsCard : Claim7 := { stood := { row := termCallsRow, standIns := [], harness := (true, "de416c58cf31a35beb9294d2302f65e5e00d619e7c973291d89820ba56520a86"), looks := true }, kinds := [], alts := [], laidByText := true, laidKinds := [.listed, .data], laidTests := true, laidLooks := .later }
def TermCallsCardSaid : Prop := Claim7.holds Tryd.pinned (.plain (OpenSpec.ofChange termCallsSpec)) termCallsCard

/-- THE TIED CARD OF 'vouchsafelaw03.TermApart'. -/
def termApartCard : Claim7 := { stood := { row := termApartRow, standIns := [], harness := (true, "de416c58cf31a35beb9294d2302f65e5e00d619e7c973291d89820ba56520a86"), looks := true }, kinds := [], alts := [], laidByText := true, laidKinds := [.listed, .data], laidTests := true, laidLooks := .later }
def TermApartCardSaid : Prop := Claim7.holds Tryd.pinned (.plain (OpenSpec.ofChange termApartSpec)) termApartCard

/-- THE TIED CARD OF 'vouchsafelaw06.UnifyMarks'. -/
def unifyMarksCard : Claim7 := { stood := { row := unifyMarksRow, standIns := [], harness := (true, "de416c58cf31a35beb9294d2302f65e5e00d619e7c973291d89820ba56520a86"), looks := true }, kinds := [], alts := [], laidByText := true, laidKinds := [.data, .data, .data, .sentinel, .sentinel], laidTests := true, laidLooks := .later }
def UnifyMarksCardSaid : Prop := Claim7.holds Tryd.pinned (.plain (OpenSpec.ofChange unifyMarksSpec)) unifyMarksCard

/-- THE TIED CARD OF 'vouchsafelaw06.UnifyNames'. -/
def unifyNamesCard : Claim7 := { stood := { row := unifyNamesRow, standIns := [], harness := (true, "de416c58cf31a35beb9294d2302f65e5e00d619e7c973291d89820ba56520a86"), looks := true }, kinds := [], alts := [], laidByText := true, laidKinds := [.data, .data, .data, .sentinel, .sentinel], laidTests := true, laidLooks := .later }
def UnifyNamesCardSaid : Prop := Claim7.holds Tryd.pinned (.plain (OpenSpec.ofChange unifyNamesSpec)) unifyNamesCard

/-- THE SECOND FORM's CARD OF 'vouchsafelaw06.UnifyMeets'. -/
def unifyMeetsUptoCard : Claim7 := { stood := { row := unifyMeetsUptoRow, standIns := [], harness := (true, "de416c58cf31a35beb9294d2302f65e5e00d619e7c973291d89820ba56520a86"), looks := true }, kinds := [], alts := [], laidByText := true, laidKinds := [.data, .data, .data], laidTests := true, laidLooks := .later }
def UnifyMeetsUptoCardSaid : Prop := Claim7.holds Tryd.pinned (.plain (OpenSpec.upto unifyMeetsSpec)) unifyMeetsUptoCard

/-- THE SECOND FORM's CARD OF 'vouchsafelaw03.TermMade'. -/
def termMadeUptoCard : Claim7 := { stood := { row := termMadeUptoRow, standIns := [], harness := (true, "de416c58cf31a35beb9294d2302f65e5e00d619e7c973291d89820ba56520a86"), looks := true }, kinds := [], alts := [], laidByText := true, laidKinds := [.listed, .data], laidTests := true, laidLooks := .later }
def TermMadeUptoCardSaid : Prop := Claim7.holds Tryd.pinned (.plain (OpenSpec.upto termMadeSpec)) termMadeUptoCard

/-- THE SECOND FORM's CARD OF 'vouchsafelaw03.TermTexts'. -/
def termTextsUptoCard : Claim7 := { stood := { row := termTextsUptoRow, standIns := [], harness := (true, "de416c58cf31a35beb9294d2302f65e5e00d619e7c973291d89820ba56520a86"), looks := true }, kinds := [], alts := [], laidByText := true, laidKinds := [.listed, .data], laidTests := true, laidLooks := .later }
def TermTextsUptoCardSaid : Prop := Claim7.holds Tryd.pinned (.plain (OpenSpec.upto termTextsSpec)) termTextsUptoCard

/-- THE SECOND FORM's CARD OF 'vouchsafelaw03.TermNames'. -/
def termNamesUptoCard : Claim7 := { stood := { row := termNamesUptoRow, standIns := [], harness := (true, "de416c58cf31a35beb9294d2302f65e5e00d619e7c973291d89820ba56520a86"), looks := true }, kinds := [], alts := [], laidByText := true, laidKinds := [.listed, .data], laidTests := true, laidLooks := .later }
def TermNamesUptoCardSaid : Prop := Claim7.holds Tryd.pinned (.plain (OpenSpec.upto termNamesSpec)) termNamesUptoCard

/-- THE SECOND FORM's CARD OF 'vouchsafelaw03.TermCalls'. -/
def termCallsUptoCard : Claim7 := { stood := { row := termCallsUptoRow, standIns := [], harness := (true, "de416c58cf31a35beb9294d2302f65e5e00d619e7c973291d89820ba56520a86"), looks := true }, kinds := [], alts := [], laidByText := true, laidKinds := [.listed, .data], laidTests := true, laidLooks := .later }
def TermCallsUptoCardSaid : Prop := Claim7.holds Tryd.pinned (.plain (OpenSpec.upto termCallsSpec)) termCallsUptoCard

/-- THE SECOND FORM's CARD OF 'vouchsafelaw03.TermApart'. -/
def termApartUptoCard : Claim7 := { stood := { row := termApartUptoRow, standIns := [], harness := (true, "de416c58cf31a35beb9294d2302f65e5e00d619e7c973291d89820ba56520a86"), looks := true }, kinds := [], alts := [], laidByText := true, laidKinds := [.listed, .data], laidTests := true, laidLooks := .later }
def TermApartUptoCardSaid : Prop := Claim7.holds Tryd.pinned (.plain (OpenSpec.upto termApartSpec)) termApartUptoCard

/-- THE SECOND FORM's CARD OF 'vouchsafelaw06.UnifyMarks'. -/
def unifyMarksUptoCard : Claim7 := { stood := { row := unifyMarksUptoRow, standIns := [], harness := (true, "de416c58cf31a35beb9294d2302f65e5e00d619e7c973291d89820ba56520a86"), looks := true }, kinds := [], alts := [], laidByText := true, laidKinds := [.data, .data, .data, .sentinel, .sentinel], laidTests := true, laidLooks := .later }
def UnifyMarksUptoCardSaid : Prop := Claim7.holds Tryd.pinned (.plain (OpenSpec.upto unifyMarksSpec)) unifyMarksUptoCard

/-- THE SECOND FORM's CARD OF 'vouchsafelaw06.UnifyNames'. -/
def unifyNamesUptoCard : Claim7 := { stood := { row := unifyNamesUptoRow, standIns := [], harness := (true, "de416c58cf31a35beb9294d2302f65e5e00d619e7c973291d89820ba56520a86"), looks := true }, kinds := [], alts := [], laidByText := true, laidKinds := [.data, .data, .data, .sentinel, .sentinel], laidTests := true, laidLooks := .later }
def UnifyNamesUptoCardSaid : Prop := Claim7.holds Tryd.pinned (.plain (OpenSpec.upto unifyNamesSpec)) unifyNamesUptoCard
end Rows
end Go.Proofs.YtapkafdlbocmmaaDoor
