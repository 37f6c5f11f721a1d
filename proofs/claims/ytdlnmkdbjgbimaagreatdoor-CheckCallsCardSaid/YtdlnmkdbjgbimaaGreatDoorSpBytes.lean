/- The byte classes of package spell: what each small function answers, at every byte. -/
import Derived.Test.YtdlnmkdbjgbimaaGreatDoorSpPlain
namespace Go.Proofs.YtdlnmkdbjgbimaaGreatDoor
open Go.RowKit

set_option maxHeartbeats 400000 in
theorem small_any (n : Int) (w : World) :
    Calls Tryz.prog 59 #[.int .u8 n] w fun e w' => e = .returned (.bool (smallB n)) ∧ w = w' := by
  go_enter Tryz.func59, Tryz.ntmps59
  go_wp2
  all_goals (go_ret; exact ⟨ret_bool (by simp [smallB]; omega), rfl⟩)

set_option maxHeartbeats 400000 in
theorem great_any (n : Int) (w : World) :
    Calls Tryz.prog 80 #[.int .u8 n] w fun e w' => e = .returned (.bool (greatB n)) ∧ w = w' := by
  go_enter Tryz.func80, Tryz.ntmps80
  go_wp2
  all_goals (go_ret; exact ⟨ret_bool (by simp [greatB]; omega), rfl⟩)

set_option maxHeartbeats 400000 in
theorem digit_any (n : Int) (w : World) :
    Calls Tryz.prog 78 #[.int .u8 n] w fun e w' => e = .returned (.bool (digitB n)) ∧ w = w' := by
  go_enter Tryz.func78, Tryz.ntmps78
  go_wp2
  all_goals (go_ret; exact ⟨ret_bool (by simp [digitB]; omega), rfl⟩)

set_option maxHeartbeats 400000 in
theorem low_any (n : Int) (w : World) :
    Calls Tryz.prog 60 #[.int .u8 n] w fun e w' => e = .returned (.bool (lowB n)) ∧ w = w' := by
  cases hs : smallB n <;> cases hd : digitB n
  all_goals
    go_enter Tryz.func60, Tryz.ntmps60
    go_wp2_with (first | (go_at_call 59; refine (small_any _ _).mono ?_; rintro e w' ⟨rfl, rfl⟩) | (go_at_call 78; refine (digit_any _ _).mono ?_; rintro e w' ⟨rfl, rfl⟩))
    go_ret
    exact ⟨ret_bool (by simp [lowB, hs, hd]), rfl⟩
end Go.Proofs.YtdlnmkdbjgbimaaGreatDoor
