/-
  DERIVED. GIVEN WITH THE SEED: THE CARDS: each row of YtdlnmkdbjgbimaaDoorRows.lean that lists a variable, with what it lists TIED to the program's text (the seventh form; the later family's looks); each row that meets fmt, with fmt's text TOLD by the authors' own Lean function (tested against real Go, not proved from fmt's source: count such statements apart). THE CARD IS WHAT COUNTS. Prove the row's statement (the work); the ties are given (YtdlnmkdbjgbimaaDoorTie.lean); close each card by the builder's one call (the guide's Derived/Test/ToyasCard.lean, 'card_holds'). Laid BY PROGRAM, IN A SANDBOX (cutbox-door.mjs). By AI agents, Wed Nov 11 2026. No macro, syntax, notation, axiom, sorry.
-/
import Derived.Test.YtdlnmkdbjgbimaaDoorRows
import GoSem.ClaimSeven
namespace Go.Proofs.YtdlnmkdbjgbimaaDoor
namespace Rows

/-- THE TIED CARD OF 'vouchsafelaw22.CheckJoins'. -/
def checkJoinsCard : Claim7 := { stood := { row := checkJoinsRow, standIns := [], harness := (true, "adc30a6af8f8109f5b8132c9bb4618eb3f51d3d3375c5c3e5abbb62c1c3ae8d1"), looks := false }, kinds := [], alts := [], laidByText := true, laidKinds := [.listed, .data], laidTests := true, laidLooks := .later }
def CheckJoinsCardSaid : Prop := Claim7.holds Tryd.pinned (.plain (OpenSpec.ofChange checkJoinsSpec)) checkJoinsCard

/-- THE TIED CARD OF 'vouchsafelaw22.CheckNames'. -/
def checkNamesCard : Claim7 := { stood := { row := checkNamesRow, standIns := [], harness := (true, "adc30a6af8f8109f5b8132c9bb4618eb3f51d3d3375c5c3e5abbb62c1c3ae8d1"), looks := false }, kinds := [], alts := [], laidByText := true, laidKinds := [.listed, .data], laidTests := true, laidLooks := .later }
def CheckNamesCardSaid : Prop := Claim7.holds Tryd.pinned (.plain (OpenSpec.ofChange checkNamesSpec)) checkNamesCard

/-- THE TIED CARD OF 'vouchsafelaw22.CheckFewer'. -/
def checkFewerCard : Claim7 := { stood := { row := checkFewerRow, standIns := [], harness := (true, "adc30a6af8f8109f5b8132c9bb4618eb3f51d3d3375c5c3e5abbb62c1c3ae8d1"), looks := false }, kinds := [], alts := [], laidByText := true, laidKinds := [.listed, .data], laidTests := true, laidLooks := .later }
def CheckFewerCardSaid : Prop := Claim7.holds Tryd.pinned (.plain (OpenSpec.ofChange checkFewerSpec)) checkFewerCard

/-- THE SECOND FORM's CARD OF 'vouchsafelaw22.CheckJoins'. -/
def checkJoinsUptoCard : Claim7 := { stood := { row := checkJoinsUptoRow, standIns := [], harness := (true, "adc30a6af8f8109f5b8132c9bb4618eb3f51d3d3375c5c3e5abbb62c1c3ae8d1"), looks := false }, kinds := [], alts := [], laidByText := true, laidKinds := [.listed, .data], laidTests := true, laidLooks := .later }
def CheckJoinsUptoCardSaid : Prop := Claim7.holds Tryd.pinned (.plain (OpenSpec.upto checkJoinsSpec)) checkJoinsUptoCard

/-- THE SECOND FORM's CARD OF 'vouchsafelaw22.CheckNames'. -/
def checkNamesUptoCard : Claim7 := { stood := { row := checkNamesUptoRow, standIns := [], harness := (true, "adc30a6af8f8109f5b8132c9bb4618eb3f51d3d3375c5c3e5abbb62c1c3ae8d1"), looks := false }, kinds := [], alts := [], laidByText := true, laidKinds := [.listed, .data], laidTests := true, laidLooks := .later }
def CheckNamesUptoCardSaid : Prop := Claim7.holds Tryd.pinned (.plain (OpenSpec.upto checkNamesSpec)) checkNamesUptoCard

/-- THE SECOND FORM's CARD OF 'vouchsafelaw22.CheckFewer'. -/
def checkFewerUptoCard : Claim7 := { stood := { row := checkFewerUptoRow, standIns := [], harness := (true, "adc30a6af8f8109f5b8132c9bb4618eb3f51d3d3375c5c3e5abbb62c1c3ae8d1"), looks := false }, kinds := [], alts := [], laidByText := true, laidKinds := [.listed, .data], laidTests := true, laidLooks := .later }
def CheckFewerUptoCardSaid : Prop := Claim7.holds Tryd.pinned (.plain (OpenSpec.upto checkFewerSpec)) checkFewerUptoCard
end Rows
end Go.Proofs.YtdlnmkdbjgbimaaDoor
