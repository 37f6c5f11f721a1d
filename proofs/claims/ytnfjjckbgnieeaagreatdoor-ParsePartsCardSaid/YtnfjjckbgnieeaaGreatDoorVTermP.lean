/- Plain facts on the names and texts of atoms; no program's function in sight. -/
import Derived.Test.YtnfjjckbgnieeaaGreatDoorVTermT
namespace Go.Proofs.YtnfjjckbgnieeaaGreatDoor
open Go.RowKit

/-- The terms that are looked at. -/
def termsA (a : Atm) : List Tm := (argsL a).take (countA a)
/-- What a valid atom is made of. -/
theorem valid_parts {a : Atm} (h : checkA a = 0) : principalB a.1 = true ∧ principalB a.2.1 = true ∧ 0 ≤ a.2.2.1 ∧ a.2.2.1 ≤ 4 ∧ (∀ t ∈ termsA a, termB t = true) ∧ (countA a : Int) = a.2.2.1 ∧ ∀ t ∈ (argsL a).drop (countA a), t = (false, []) := by
  unfold checkA at h
  by_cases h1 : (!(principalB a.1 && principalB a.2.1)) = true
  · rw [if_pos h1] at h; cases h
  rw [if_neg h1] at h
  by_cases h2 : a.2.2.1 < 0 ∨ 4 < a.2.2.1
  · rw [if_pos h2] at h; cases h
  rw [if_neg h2] at h
  have hc := countA_in (a := a) (by omega) (by omega)
  by_cases h3 : (!(((argsL a).take a.2.2.1.toNat).all termB)) = true
  · rw [if_pos h3] at h; cases h
  rw [if_neg h3] at h
  by_cases h4 : (!(((argsL a).drop a.2.2.1.toNat).all fun t => decide (t = (false, [])))) = true
  · rw [if_pos h4] at h; cases h
  rw [← hc] at h3 h4
  simp only [Bool.not_eq_true', Bool.not_eq_false, Bool.and_eq_true, List.all_eq_true, decide_eq_true_eq] at h1 h3 h4
  exact ⟨h1.1, h1.2, by omega, by omega, h3, by omega, h4⟩
end Go.Proofs.YtnfjjckbgnieeaaGreatDoor
