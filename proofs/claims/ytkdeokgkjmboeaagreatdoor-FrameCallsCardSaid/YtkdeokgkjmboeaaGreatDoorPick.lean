/- The statements' helper Pick: the modulus from 0 on. -/
import Derived.Test.YtkdeokgkjmboeaaGreatDoorBase
namespace Go.Proofs.YtkdeokgkjmboeaaGreatDoor
open Go.RowKit


theorem tmod_facts (n m : Int) (h0 : n < 0) (hm : 1 ≤ m) : -m < n.tmod m ∧ n.tmod m ≤ 0 ∧ (n.tmod m = 0 → n % m = 0) ∧ (n.tmod m < 0 → n % m = n.tmod m + m) := by
  have e := Int.mul_tdiv_add_tmod n m
  have a : -m < n.tmod m := by have := Int.lt_tmod_of_pos n (show 0 < m by omega); omega
  have b : n.tmod m ≤ 0 := by
    have h := Int.tmod_nonneg (a := -n) m (by omega)
    rw [Int.neg_tmod] at h; omega
  refine ⟨a, b, fun h => ?_, fun h => ?_⟩
  · rw [h, Int.add_zero] at e
    rw [← e]; exact Int.mul_emod_right _ _
  · have e2 : n = (n.tmod m + m) + m * (n.tdiv m - 1) := by rw [Int.mul_sub]; omega
    generalize hr : n.tmod m + m = r at *
    generalize n.tdiv m - 1 = q at *
    rw [e2, Int.add_mul_emod_self_left]
    exact Int.emod_eq_of_lt (by omega) (by omega)

end Go.Proofs.YtkdeokgkjmboeaaGreatDoor
