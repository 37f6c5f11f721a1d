/- Marks: decimal numerals read back; the last mark of a marked name; no program in sight. -/
import Derived.Test.YtnfjjckbgnieeaaGreatDoorVBase
import Derived.Lib.Atoi
import Derived.Lib.ItoaNum
import Derived.Lib.LastIndexByte
namespace Go.Proofs.YtnfjjckbgnieeaaGreatDoor
open Go.RowKit

theorem digits_some (u : Nat) : Lib.decDigits u ≠ [] := by
  intro h
  have := congrArg List.length h
  rw [Lib.decDigits_length] at this
  have := Lib.nDigits_pos u
  simp at *
  omega
end Go.Proofs.YtnfjjckbgnieeaaGreatDoor
