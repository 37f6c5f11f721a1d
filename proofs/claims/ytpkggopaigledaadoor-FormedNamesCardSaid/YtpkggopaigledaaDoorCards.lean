/-
  DERIVED. GIVEN WITH THE SEED: THE CARDS: each row of YtpkggopaigledaaDoorRows.lean that lists a variable, with what it lists TIED to the program's text (the seventh form; the later family's looks); each row that meets fmt, with fmt's text TOLD by the authors' own Lean function (tested against real Go, not proved from fmt's source: count such statements apart). THE CARD IS WHAT COUNTS. Prove the row's statement (the work); the ties are given (YtpkggopaigledaaDoorTie.lean); close each card by the builder's one call (the guide's Derived/Test/ToyasCard.lean, 'card_holds'). Laid BY PROGRAM, IN A SANDBOX (cutbox-door.mjs). By AI agents, Wed Nov 11 2026. No macro, syntax, notation, axiom, sorry.
-/
import Derived.Test.YtpkggopaigledaaDoorRows
import GoSem.ClaimSeven
namespace Go.Proofs.YtpkggopaigledaaDoor
namespace Rows

/-- THE TIED CARD OF 'vouchsafelaw12.FormedRanges'. -/
def formedRangesCard : Claim7 := { stood := { row := formedRangesRow, standIns := [], harness := (true, "db62659278af48416f751d72e5107f4a50df64169793eb17b21de57129d2c0f4"), looks := false }, kinds := [], alts := [], laidByText := true, laidKinds := [.listed, .data], laidTests := true, laidLooks := .later }
def FormedRangesCardSaid : Prop := Claim7.holds Tryd.pinned (.plain (OpenSpec.ofChange formedRangesSpec)) formedRangesCard

/-- THE TIED CARD OF 'vouchsafelaw12.FormedOnce'. -/
def formedOnceCard : Claim7 := { stood := { row := formedOnceRow, standIns := [], harness := (true, "db62659278af48416f751d72e5107f4a50df64169793eb17b21de57129d2c0f4"), looks := false }, kinds := [], alts := [], laidByText := true, laidKinds := [.listed, .data], laidTests := true, laidLooks := .later }
def FormedOnceCardSaid : Prop := Claim7.holds Tryd.pinned (.plain (OpenSpec.ofChange formedOnceSpec)) formedOnceCard

/-- THE TIED CARD OF 'vouchsafelaw12.FormedParts'. -/
def formedPartsCard : Claim7 := { stood := { row := formedPartsRow, standIns := [], harness := (true, "db62659278af48416f751d72e5107f4a50df64169793eb17b21de57129d2c0f4"), looks := false }, kinds := [], alts := [], laidByText := true, laidKinds := [.listed, .data], laidTests := true, laidLooks := .later }
def FormedPartsCardSaid : Prop := Claim7.holds Tryd.pinned (.plain (OpenSpec.ofChange formedPartsSpec)) formedPartsCard

/-- THE TIED CARD OF 'vouchsafelaw12.FormedFacts'. -/
def formedFactsCard : Claim7 := { stood := { row := formedFactsRow, standIns := [], harness := (true, "db62659278af48416f751d72e5107f4a50df64169793eb17b21de57129d2c0f4"), looks := false }, kinds := [], alts := [], laidByText := true, laidKinds := [.listed, .data], laidTests := true, laidLooks := .later }
def FormedFactsCardSaid : Prop := Claim7.holds Tryd.pinned (.plain (OpenSpec.ofChange formedFactsSpec)) formedFactsCard

/-- THE TIED CARD OF 'vouchsafelaw12.FormedNames'. -/
def formedNamesCard : Claim7 := { stood := { row := formedNamesRow, standIns := [], harness := (true, "db62659278af48416f751d72e5107f4a50df64169793eb17b21de57129d2c0f4"), looks := false }, kinds := [], alts := [], laidByText := true, laidKinds := [.listed, .data], laidTests := true, laidLooks := .later }
def FormedNamesCardSaid : Prop := Claim7.holds Tryd.pinned (.plain (OpenSpec.ofChange formedNamesSpec)) formedNamesCard

/-- THE TIED CARD OF 'vouchsafelaw12.FormedCalls'. -/
def formedCallsCard : Claim7 := { stood := { row := formedCallsRow, standIns := [], harness := (true, "db62659278af48416f751d72e5107f4a50df64169793eb17b21de57129d2c0f4"), looks := false }, kinds := [], alts := [], laidByText := true, laidKinds := [.listed, .data], laidTests := true, laidLooks := .later }
def FormedCallsCardSaid : Prop := Claim7.holds Tryd.pinned (.plain (OpenSpec.ofChange formedCallsSpec)) formedCallsCard

/-- THE SECOND FORM's CARD OF 'vouchsafelaw12.FormedRanges'. -/
def formedRangesUptoCard : Claim7 := { stood := { row := formedRangesUptoRow, standIns := [], harness := (true, "db62659278af48416f751d72e5107f4a50df64169793eb17b21de57129d2c0f4"), looks := false }, kinds := [], alts := [], laidByText := true, laidKinds := [.listed, .data], laidTests := true, laidLooks := .later }
def FormedRangesUptoCardSaid : Prop := Claim7.holds Tryd.pinned (.plain (OpenSpec.upto formedRangesSpec)) formedRangesUptoCard

/-- THE SECOND FORM's CARD OF 'vouchsafelaw12.FormedOnce'. -/
def formedOnceUptoCard : Claim7 := { stood := { row := formedOnceUptoRow, standIns := [], harness := (true, "db62659278af48416f751d72e5107f4a50df64169793eb17b21de57129d2c0f4"), looks := false }, kinds := [], alts := [], laidByText := true, laidKinds := [.listed, .data], laidTests := true, laidLooks := .later }
def FormedOnceUptoCardSaid : Prop := Claim7.holds Tryd.pinned (.plain (OpenSpec.upto formedOnceSpec)) formedOnceUptoCard

/-- THE SECOND FORM's CARD OF 'vouchsafelaw12.FormedParts'. -/
def formedPartsUptoCard : Claim7 := { stood := { row := formedPartsUptoRow, standIns := [], harness := (true, "db62659278af48416f751d72e5107f4a50df64169793eb17b21de57129d2c0f4"), looks := false }, kinds := [], alts := [], laidByText := true, laidKinds := [.listed, .data], laidTests := true, laidLooks := .later }
def FormedPartsUptoCardSaid : Prop := Claim7.holds Tryd.pinned (.plain (OpenSpec.upto formedPartsSpec)) formedPartsUptoCard

/-- THE SECOND FORM's CARD OF 'vouchsafelaw12.FormedFacts'. -/
def formedFactsUptoCard : Claim7 := { stood := { row := formedFactsUptoRow, standIns := [], harness := (true, "db62659278af48416f751d72e5107f4a50df64169793eb17b21de57129d2c0f4"), looks := false }, kinds := [], alts := [], laidByText := true, laidKinds := [.listed, .data], laidTests := true, laidLooks := .later }
def FormedFactsUptoCardSaid : Prop := Claim7.holds Tryd.pinned (.plain (OpenSpec.upto formedFactsSpec)) formedFactsUptoCard

/-- THE SECOND FORM's CARD OF 'vouchsafelaw12.FormedNames'. -/
def formedNamesUptoCard : Claim7 := { stood := { row := formedNamesUptoRow, standIns := [], harness := (true, "db62659278af48416f751d72e5107f4a50df64169793eb17b21de57129d2c0f4"), looks := false }, kinds := [], alts := [], laidByText := true, laidKinds := [.listed, .data], laidTests := true, laidLooks := .later }
def FormedNamesUptoCardSaid : Prop := Claim7.holds Tryd.pinned (.plain (OpenSpec.upto formedNamesSpec)) formedNamesUptoCard

/-- THE SECOND FORM's CARD OF 'vouchsafelaw12.FormedCalls'. -/
def formedCallsUptoCard : Claim7 := { stood := { row := formedCallsUptoRow, standIns := [], harness := (true, "db62659278af48416f751d72e5107f4a50df64169793eb17b21de57129d2c0f4"), looks := false }, kinds := [], alts := [], laidByText := true, laidKinds := [.listed, .data], laidTests := true, laidLooks := .later }
def FormedCallsUptoCardSaid : Prop := Claim7.holds Tryd.pinned (.plain (OpenSpec.upto formedCallsSpec)) formedCallsUptoCard
end Rows
end Go.Proofs.YtpkggopaigledaaDoor
