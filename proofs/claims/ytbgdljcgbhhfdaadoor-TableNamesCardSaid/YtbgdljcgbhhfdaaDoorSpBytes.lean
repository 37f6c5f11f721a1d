/- The byte classes of package spell: what each small function answers, at every byte. -/
import Derived.Test.YtbgdljcgbhhfdaaDoorSpPlain
namespace Go.Proofs.YtbgdljcgbhhfdaaDoor
open Go.RowKit

set_option maxHeartbeats 400000 in
theorem small_any (n : Int) (w : World) :
    Calls Tryd.prog 55 #[.int .u8 n] w fun e w' => e = .returned (.bool (smallB n)) ∧ w = w' := by
  go_enter Tryd.func55, Tryd.ntmps55
  go_wp2
  all_goals (go_ret; exact ⟨ret_bool (by simp [smallB]; omega), rfl⟩)

set_option maxHeartbeats 400000 in
theorem great_any (n : Int) (w : World) :
    Calls Tryd.prog 73 #[.int .u8 n] w fun e w' => e = .returned (.bool (greatB n)) ∧ w = w' := by
  go_enter Tryd.func73, Tryd.ntmps73
  go_wp2
  all_goals (go_ret; exact ⟨ret_bool (by simp [greatB]; omega), rfl⟩)

set_option maxHeartbeats 400000 in
theorem digit_any (n : Int) (w : World) :
    Calls Tryd.prog 70 #[.int .u8 n] w fun e w' => e = .returned (.bool (digitB n)) ∧ w = w' := by
  go_enter Tryd.func70, Tryd.ntmps70
  go_wp2
  all_goals (go_ret; exact ⟨ret_bool (by simp [digitB]; omega), rfl⟩)

set_option maxHeartbeats 400000 in
theorem low_any (n : Int) (w : World) :
    Calls Tryd.prog 56 #[.int .u8 n] w fun e w' => e = .returned (.bool (lowB n)) ∧ w = w' := by
  cases hs : smallB n <;> cases hd : digitB n
  all_goals
    go_enter Tryd.func56, Tryd.ntmps56
    go_wp2_with (first | (go_at_call 55; refine (small_any _ _).mono ?_; rintro e w' ⟨rfl, rfl⟩) | (go_at_call 70; refine (digit_any _ _).mono ?_; rintro e w' ⟨rfl, rfl⟩))
    go_ret
    exact ⟨ret_bool (by simp [lowB, hs, hd]), rfl⟩
end Go.Proofs.YtbgdljcgbhhfdaaDoor
