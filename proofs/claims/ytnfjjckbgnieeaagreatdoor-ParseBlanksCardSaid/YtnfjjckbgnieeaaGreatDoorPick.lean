/- The statements' helper Pick: the modulus from 0 on. -/
import Derived.Test.YtnfjjckbgnieeaaGreatDoorBase
namespace Go.Proofs.YtnfjjckbgnieeaaGreatDoor
open Go.RowKit


theorem tmod_facts (n m : Int) (h0 : n < 0) (hm : 1 ≤ m) : -m < n.tmod m ∧ n.tmod m ≤ 0 ∧ (n.tmod m = 0 → n % m = 0) ∧ (n.tmod m < 0 → n % m = n.tmod m + m) := by
  have e := Int.mul_tdiv_add_tmod n m
  have a : -m < n.tmod m := by have := Int.lt_tmod_of_pos n (show 0 < m by omega); omega
  have b : n.tmod m ≤ 0 := by
    have h := Int.tmod_nonneg (a := -n) m (by omega)
    rw [Int.neg_tmod] at h; omega
  refine ⟨a, b, fun h => ?_, fun h => ?_⟩
  · rw [h, Int.add_zero] at e
    rw [← e]; exact Int.mul_emod_right _ _
  · have e2 : n = (n.tmod m + m) + m * (n.tdiv m - 1) := by rw [Int.mul_sub]; omega
    generalize hr : n.tmod m + m = r at *
    generalize n.tdiv m - 1 = q at *
    rw [e2, Int.add_mul_emod_self_left]
    exact Int.emod_eq_of_lt (by omega) (by omega)

set_option maxHeartbeats 400000 in
theorem pick_any (n m : Int) (w : World) (h1 : -9223372036854775808 ≤ n) (h2 : n ≤ 9223372036854775807) (hm : 1 ≤ m) (hM : m ≤ 4294967296) :
    Calls Tryz.prog 23 #[.int .i64 n, .int .i64 m] w fun e w' => e = .returned (.int .i64 (n % m)) ∧ w = w' := by
  by_cases h0 : 0 ≤ n
  · have hb1 := Int.emod_nonneg n (show m ≠ 0 by omega)
    go_enter Tryz.func23, Tryz.ntmps23
    go_wp2
    go_ret
    exact ⟨rfl, rfl⟩
  · obtain ⟨a, b, c, d⟩ := tmod_facts n m (by omega) hm
    have HC := Lib.hid c
    have HD := Lib.hid d
    clear c d
    go_enter Tryz.func23, Tryz.ntmps23
    go_wp2
    · go_ret
      exact ⟨ret_int (by rw [HD.out (by assumption)]), rfl⟩
    · go_ret
      exact ⟨ret_int (by rw [HC.out (by omega)]; omega), rfl⟩

end Go.Proofs.YtnfjjckbgnieeaaGreatDoor
