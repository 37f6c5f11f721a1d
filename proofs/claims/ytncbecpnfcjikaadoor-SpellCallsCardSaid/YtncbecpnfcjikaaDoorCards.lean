/-
  DERIVED. GIVEN WITH THE SEED: THE CARDS: each row of YtncbecpnfcjikaaDoorRows.lean that lists a variable, with what it lists TIED to the program's text (the seventh form; the later family's looks); each row that meets fmt, with fmt's text TOLD by the authors' own Lean function (tested against real Go, not proved from fmt's source: count such statements apart). THE CARD IS WHAT COUNTS. Prove the row's statement (the work); the ties are given (YtncbecpnfcjikaaDoorTie.lean); close each card by the builder's one call (the guide's Derived/Test/ToyasCard.lean, 'card_holds'). Laid BY PROGRAM, IN A SANDBOX (cutbox-door.mjs). By AI agents, Wed Nov 11 2026. No macro, syntax, notation, axiom, sorry.
-/
import Derived.Test.YtncbecpnfcjikaaDoorRows
import GoSem.ClaimSeven
namespace Go.Proofs.YtncbecpnfcjikaaDoor
namespace Rows

/-- THE TIED CARD OF 'vouchsafelaw01.SpellJoins'. -/
def spellJoinsCard : Claim7 := { stood := { row := spellJoinsRow, standIns := [], harness := (true, "07c39a39a9d6c9c809157d0c79b8acd219a0cc82cf0e6072dc6ace7f99404067"), looks := false }, kinds := [], alts := [], laidByText := true, laidKinds := [.listed, .data], laidTests := true, laidLooks := .later }
def SpellJoinsCardSaid : Prop := Claim7.holds Tryd.pinned (.plain (OpenSpec.ofChange spellJoinsSpec)) spellJoinsCard

/-- THE TIED CARD OF 'vouchsafelaw01.SpellLengths'. -/
def spellLengthsCard : Claim7 := { stood := { row := spellLengthsRow, standIns := [], harness := (true, "07c39a39a9d6c9c809157d0c79b8acd219a0cc82cf0e6072dc6ace7f99404067"), looks := false }, kinds := [], alts := [], laidByText := true, laidKinds := [.listed, .data], laidTests := true, laidLooks := .later }
def SpellLengthsCardSaid : Prop := Claim7.holds Tryd.pinned (.plain (OpenSpec.ofChange spellLengthsSpec)) spellLengthsCard

/-- THE TIED CARD OF 'vouchsafelaw01.SpellNames'. -/
def spellNamesCard : Claim7 := { stood := { row := spellNamesRow, standIns := [], harness := (true, "07c39a39a9d6c9c809157d0c79b8acd219a0cc82cf0e6072dc6ace7f99404067"), looks := false }, kinds := [], alts := [], laidByText := true, laidKinds := [.listed, .data], laidTests := true, laidLooks := .later }
def SpellNamesCardSaid : Prop := Claim7.holds Tryd.pinned (.plain (OpenSpec.ofChange spellNamesSpec)) spellNamesCard

/-- THE TIED CARD OF 'vouchsafelaw01.SpellCalls'. -/
def spellCallsCard : Claim7 := { stood := { row := spellCallsRow, standIns := [], harness := (true, "07c39a39a9d6c9c809157d0c79b8acd219a0cc82cf0e6072dc6ace7f99404067"), looks := false }, kinds := [], alts := [], laidByText := true, laidKinds := [.listed, .data], laidTests := true, laidLooks := .later }
def SpellCallsCardSaid : Prop := Claim7.holds Tryd.pinned (.plain (OpenSpec.ofChange spellCallsSpec)) spellCallsCard

/-- THE TIED CARD OF 'vouchsafelaw01.SpellKinds'. -/
def spellKindsCard : Claim7 := { stood := { row := spellKindsRow, standIns := [], harness := (true, "07c39a39a9d6c9c809157d0c79b8acd219a0cc82cf0e6072dc6ace7f99404067"), looks := false }, kinds := [], alts := [], laidByText := true, laidKinds := [.listed, .data], laidTests := true, laidLooks := .later }
def SpellKindsCardSaid : Prop := Claim7.holds Tryd.pinned (.plain (OpenSpec.ofChange spellKindsSpec)) spellKindsCard

/-- THE SECOND FORM's CARD OF 'vouchsafelaw01.SpellJoins'. -/
def spellJoinsUptoCard : Claim7 := { stood := { row := spellJoinsUptoRow, standIns := [], harness := (true, "07c39a39a9d6c9c809157d0c79b8acd219a0cc82cf0e6072dc6ace7f99404067"), looks := false }, kinds := [], alts := [], laidByText := true, laidKinds := [.listed, .data], laidTests := true, laidLooks := .later }
def SpellJoinsUptoCardSaid : Prop := Claim7.holds Tryd.pinned (.plain (OpenSpec.upto spellJoinsSpec)) spellJoinsUptoCard

/-- THE SECOND FORM's CARD OF 'vouchsafelaw01.SpellLengths'. -/
def spellLengthsUptoCard : Claim7 := { stood := { row := spellLengthsUptoRow, standIns := [], harness := (true, "07c39a39a9d6c9c809157d0c79b8acd219a0cc82cf0e6072dc6ace7f99404067"), looks := false }, kinds := [], alts := [], laidByText := true, laidKinds := [.listed, .data], laidTests := true, laidLooks := .later }
def SpellLengthsUptoCardSaid : Prop := Claim7.holds Tryd.pinned (.plain (OpenSpec.upto spellLengthsSpec)) spellLengthsUptoCard

/-- THE SECOND FORM's CARD OF 'vouchsafelaw01.SpellNames'. -/
def spellNamesUptoCard : Claim7 := { stood := { row := spellNamesUptoRow, standIns := [], harness := (true, "07c39a39a9d6c9c809157d0c79b8acd219a0cc82cf0e6072dc6ace7f99404067"), looks := false }, kinds := [], alts := [], laidByText := true, laidKinds := [.listed, .data], laidTests := true, laidLooks := .later }
def SpellNamesUptoCardSaid : Prop := Claim7.holds Tryd.pinned (.plain (OpenSpec.upto spellNamesSpec)) spellNamesUptoCard

/-- THE SECOND FORM's CARD OF 'vouchsafelaw01.SpellCalls'. -/
def spellCallsUptoCard : Claim7 := { stood := { row := spellCallsUptoRow, standIns := [], harness := (true, "07c39a39a9d6c9c809157d0c79b8acd219a0cc82cf0e6072dc6ace7f99404067"), looks := false }, kinds := [], alts := [], laidByText := true, laidKinds := [.listed, .data], laidTests := true, laidLooks := .later }
def SpellCallsUptoCardSaid : Prop := Claim7.holds Tryd.pinned (.plain (OpenSpec.upto spellCallsSpec)) spellCallsUptoCard

/-- THE SECOND FORM's CARD OF 'vouchsafelaw01.SpellKinds'. -/
def spellKindsUptoCard : Claim7 := { stood := { row := spellKindsUptoRow, standIns := [], harness := (true, "07c39a39a9d6c9c809157d0c79b8acd219a0cc82cf0e6072dc6ace7f99404067"), looks := false }, kinds := [], alts := [], laidByText := true, laidKinds := [.listed, .data], laidTests := true, laidLooks := .later }
def SpellKindsUptoCardSaid : Prop := Claim7.holds Tryd.pinned (.plain (OpenSpec.upto spellKindsSpec)) spellKindsUptoCard
end Rows
end Go.Proofs.YtncbecpnfcjikaaDoor
