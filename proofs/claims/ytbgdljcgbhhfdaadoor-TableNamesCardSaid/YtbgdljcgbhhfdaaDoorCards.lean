/-
  DERIVED. GIVEN WITH THE SEED: THE CARDS: each row of YtbgdljcgbhhfdaaDoorRows.lean that lists a variable, with what it lists TIED to the program's text (the seventh form; the later family's looks); each row that meets fmt, with fmt's text TOLD by the authors' own Lean function (tested against real Go, not proved from fmt's source: count such statements apart). THE CARD IS WHAT COUNTS. Prove the row's statement (the work); the ties are given (YtbgdljcgbhhfdaaDoorTie.lean); close each card by the builder's one call (the guide's Derived/Test/ToyasCard.lean, 'card_holds'). Laid BY PROGRAM, IN A SANDBOX (cutbox-door.mjs). By AI agents, Wed Nov 11 2026. No macro, syntax, notation, axiom, sorry.
-/
import Derived.Test.YtbgdljcgbhhfdaaDoorRows
import GoSem.ClaimSeven
namespace Go.Proofs.YtbgdljcgbhhfdaaDoor
namespace Rows

/-- THE TIED CARD OF 'vouchsafelaw18.TableOnce'. -/
def tableOnceCard : Claim7 := { stood := { row := tableOnceRow, standIns := [], harness := (true, "040ab62096ac288c21db45f403c7fa6995ee893742ea1607232bddff728fe898"), looks := false }, kinds := [], alts := [], laidByText := true, laidKinds := [.data, .data, .data, .listed, .data], laidTests := true, laidLooks := .later }
def TableOnceCardSaid : Prop := Claim7.holds Tryd.pinned (.plain (OpenSpec.ofChange tableOnceSpec)) tableOnceCard

/-- THE TIED CARD OF 'vouchsafelaw18.TableWaits'. -/
def tableWaitsCard : Claim7 := { stood := { row := tableWaitsRow, standIns := [], harness := (true, "040ab62096ac288c21db45f403c7fa6995ee893742ea1607232bddff728fe898"), looks := false }, kinds := [], alts := [], laidByText := true, laidKinds := [.data, .data, .data, .listed, .data], laidTests := true, laidLooks := .later }
def TableWaitsCardSaid : Prop := Claim7.holds Tryd.pinned (.plain (OpenSpec.ofChange tableWaitsSpec)) tableWaitsCard

/-- THE TIED CARD OF 'vouchsafelaw18.TableAnswers'. -/
def tableAnswersCard : Claim7 := { stood := { row := tableAnswersRow, standIns := [], harness := (true, "040ab62096ac288c21db45f403c7fa6995ee893742ea1607232bddff728fe898"), looks := false }, kinds := [], alts := [], laidByText := true, laidKinds := [.data, .data, .data, .listed, .data], laidTests := true, laidLooks := .later }
def TableAnswersCardSaid : Prop := Claim7.holds Tryd.pinned (.plain (OpenSpec.ofChange tableAnswersSpec)) tableAnswersCard

/-- THE TIED CARD OF 'vouchsafelaw18.TableNames'. -/
def tableNamesCard : Claim7 := { stood := { row := tableNamesRow, standIns := [], harness := (true, "040ab62096ac288c21db45f403c7fa6995ee893742ea1607232bddff728fe898"), looks := false }, kinds := [], alts := [], laidByText := true, laidKinds := [.data, .data, .data, .listed, .data], laidTests := true, laidLooks := .later }
def TableNamesCardSaid : Prop := Claim7.holds Tryd.pinned (.plain (OpenSpec.ofChange tableNamesSpec)) tableNamesCard

/-- THE SECOND FORM's CARD OF 'vouchsafelaw18.TableOnce'. -/
def tableOnceUptoCard : Claim7 := { stood := { row := tableOnceUptoRow, standIns := [], harness := (true, "040ab62096ac288c21db45f403c7fa6995ee893742ea1607232bddff728fe898"), looks := false }, kinds := [], alts := [], laidByText := true, laidKinds := [.data, .data, .data, .listed, .data], laidTests := true, laidLooks := .later }
def TableOnceUptoCardSaid : Prop := Claim7.holds Tryd.pinned (.plain (OpenSpec.upto tableOnceSpec)) tableOnceUptoCard

/-- THE SECOND FORM's CARD OF 'vouchsafelaw18.TableWaits'. -/
def tableWaitsUptoCard : Claim7 := { stood := { row := tableWaitsUptoRow, standIns := [], harness := (true, "040ab62096ac288c21db45f403c7fa6995ee893742ea1607232bddff728fe898"), looks := false }, kinds := [], alts := [], laidByText := true, laidKinds := [.data, .data, .data, .listed, .data], laidTests := true, laidLooks := .later }
def TableWaitsUptoCardSaid : Prop := Claim7.holds Tryd.pinned (.plain (OpenSpec.upto tableWaitsSpec)) tableWaitsUptoCard

/-- THE SECOND FORM's CARD OF 'vouchsafelaw18.TableAnswers'. -/
def tableAnswersUptoCard : Claim7 := { stood := { row := tableAnswersUptoRow, standIns := [], harness := (true, "040ab62096ac288c21db45f403c7fa6995ee893742ea1607232bddff728fe898"), looks := false }, kinds := [], alts := [], laidByText := true, laidKinds := [.data, .data, .data, .listed, .data], laidTests := true, laidLooks := .later }
def TableAnswersUptoCardSaid : Prop := Claim7.holds Tryd.pinned (.plain (OpenSpec.upto tableAnswersSpec)) tableAnswersUptoCard

/-- THE SECOND FORM's CARD OF 'vouchsafelaw18.TableNames'. -/
def tableNamesUptoCard : Claim7 := { stood := { row := tableNamesUptoRow, standIns := [], harness := (true, "040ab62096ac288c21db45f403c7fa6995ee893742ea1607232bddff728fe898"), looks := false }, kinds := [], alts := [], laidByText := true, laidKinds := [.data, .data, .data, .listed, .data], laidTests := true, laidLooks := .later }
def TableNamesUptoCardSaid : Prop := Claim7.holds Tryd.pinned (.plain (OpenSpec.upto tableNamesSpec)) tableNamesUptoCard
end Rows
end Go.Proofs.YtbgdljcgbhhfdaaDoor
