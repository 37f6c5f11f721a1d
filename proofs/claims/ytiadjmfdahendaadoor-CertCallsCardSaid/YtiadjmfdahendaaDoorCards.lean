/-
  DERIVED. GIVEN WITH THE SEED: THE CARDS: each row of YtiadjmfdahendaaDoorRows.lean that lists a variable, with what it lists TIED to the program's text (the seventh form; the later family's looks); each row that meets fmt, with fmt's text TOLD by the authors' own Lean function (tested against real Go, not proved from fmt's source: count such statements apart). THE CARD IS WHAT COUNTS. Prove the row's statement (the work); the ties are given (YtiadjmfdahendaaDoorTie.lean); close each card by the builder's one call (the guide's Derived/Test/ToyasCard.lean, 'card_holds'). Laid BY PROGRAM, IN A SANDBOX (cutbox-door.mjs). By AI agents, Wed Nov 11 2026. No macro, syntax, notation, axiom, sorry.
-/
import Derived.Test.YtiadjmfdahendaaDoorRows
import GoSem.ClaimSeven
namespace Go.Proofs.YtiadjmfdahendaaDoor
namespace Rows

/-- THE TIED CARD OF 'vouchsafelaw23.CertParts'. -/
def certPartsCard : Claim7 := { stood := { row := certPartsRow, standIns := [], harness := (true, "aafe2378d3e4fd443b1bfdb3324349f35eba65bcb36aa93194aa7482cdf818f9"), looks := false }, kinds := [], alts := [], laidByText := true, laidKinds := [.listed, .data], laidTests := true, laidLooks := .later }
def CertPartsCardSaid : Prop := Claim7.holds Tryd.pinned (.plain (OpenSpec.ofChange certPartsSpec)) certPartsCard

/-- THE TIED CARD OF 'vouchsafelaw23.CertCut'. -/
def certCutCard : Claim7 := { stood := { row := certCutRow, standIns := [], harness := (true, "aafe2378d3e4fd443b1bfdb3324349f35eba65bcb36aa93194aa7482cdf818f9"), looks := false }, kinds := [], alts := [], laidByText := true, laidKinds := [.listed, .data], laidTests := true, laidLooks := .later }
def CertCutCardSaid : Prop := Claim7.holds Tryd.pinned (.plain (OpenSpec.ofChange certCutSpec)) certCutCard

/-- THE TIED CARD OF 'vouchsafelaw23.CertNames'. -/
def certNamesCard : Claim7 := { stood := { row := certNamesRow, standIns := [], harness := (true, "aafe2378d3e4fd443b1bfdb3324349f35eba65bcb36aa93194aa7482cdf818f9"), looks := false }, kinds := [], alts := [], laidByText := true, laidKinds := [.listed, .data], laidTests := true, laidLooks := .later }
def CertNamesCardSaid : Prop := Claim7.holds Tryd.pinned (.plain (OpenSpec.ofChange certNamesSpec)) certNamesCard

/-- THE TIED CARD OF 'vouchsafelaw23.CertCalls'. -/
def certCallsCard : Claim7 := { stood := { row := certCallsRow, standIns := [], harness := (true, "aafe2378d3e4fd443b1bfdb3324349f35eba65bcb36aa93194aa7482cdf818f9"), looks := false }, kinds := [], alts := [], laidByText := true, laidKinds := [.listed, .data], laidTests := true, laidLooks := .later }
def CertCallsCardSaid : Prop := Claim7.holds Tryd.pinned (.plain (OpenSpec.ofChange certCallsSpec)) certCallsCard

/-- THE TIED CARD OF 'vouchsafelaw23.CertBack'. -/
def certBackCard : Claim7 := { stood := { row := certBackRow, standIns := [], harness := (true, "aafe2378d3e4fd443b1bfdb3324349f35eba65bcb36aa93194aa7482cdf818f9"), looks := false }, kinds := [], alts := [], laidByText := true, laidKinds := [.listed, .data], laidTests := true, laidLooks := .later }
def CertBackCardSaid : Prop := Claim7.holds Tryd.pinned (.plain (OpenSpec.ofChange certBackSpec)) certBackCard

/-- THE SECOND FORM's CARD OF 'vouchsafelaw23.CertParts'. -/
def certPartsUptoCard : Claim7 := { stood := { row := certPartsUptoRow, standIns := [], harness := (true, "aafe2378d3e4fd443b1bfdb3324349f35eba65bcb36aa93194aa7482cdf818f9"), looks := false }, kinds := [], alts := [], laidByText := true, laidKinds := [.listed, .data], laidTests := true, laidLooks := .later }
def CertPartsUptoCardSaid : Prop := Claim7.holds Tryd.pinned (.plain (OpenSpec.upto certPartsSpec)) certPartsUptoCard

/-- THE SECOND FORM's CARD OF 'vouchsafelaw23.CertCut'. -/
def certCutUptoCard : Claim7 := { stood := { row := certCutUptoRow, standIns := [], harness := (true, "aafe2378d3e4fd443b1bfdb3324349f35eba65bcb36aa93194aa7482cdf818f9"), looks := false }, kinds := [], alts := [], laidByText := true, laidKinds := [.listed, .data], laidTests := true, laidLooks := .later }
def CertCutUptoCardSaid : Prop := Claim7.holds Tryd.pinned (.plain (OpenSpec.upto certCutSpec)) certCutUptoCard

/-- THE SECOND FORM's CARD OF 'vouchsafelaw23.CertNames'. -/
def certNamesUptoCard : Claim7 := { stood := { row := certNamesUptoRow, standIns := [], harness := (true, "aafe2378d3e4fd443b1bfdb3324349f35eba65bcb36aa93194aa7482cdf818f9"), looks := false }, kinds := [], alts := [], laidByText := true, laidKinds := [.listed, .data], laidTests := true, laidLooks := .later }
def CertNamesUptoCardSaid : Prop := Claim7.holds Tryd.pinned (.plain (OpenSpec.upto certNamesSpec)) certNamesUptoCard

/-- THE SECOND FORM's CARD OF 'vouchsafelaw23.CertCalls'. -/
def certCallsUptoCard : Claim7 := { stood := { row := certCallsUptoRow, standIns := [], harness := (true, "aafe2378d3e4fd443b1bfdb3324349f35eba65bcb36aa93194aa7482cdf818f9"), looks := false }, kinds := [], alts := [], laidByText := true, laidKinds := [.listed, .data], laidTests := true, laidLooks := .later }
def CertCallsUptoCardSaid : Prop := Claim7.holds Tryd.pinned (.plain (OpenSpec.upto certCallsSpec)) certCallsUptoCard

/-- THE SECOND FORM's CARD OF 'vouchsafelaw23.CertBack'. -/
def certBackUptoCard : Claim7 := { stood := { row := certBackUptoRow, standIns := [], harness := (true, "aafe2378d3e4fd443b1bfdb3324349f35eba65bcb36aa93194aa7482cdf818f9"), looks := false }, kinds := [], alts := [], laidByText := true, laidKinds := [.listed, .data], laidTests := true, laidLooks := .later }
def CertBackUptoCardSaid : Prop := Claim7.holds Tryd.pinned (.plain (OpenSpec.upto certBackSpec)) certBackUptoCard
end Rows
end Go.Proofs.YtiadjmfdahendaaDoor
