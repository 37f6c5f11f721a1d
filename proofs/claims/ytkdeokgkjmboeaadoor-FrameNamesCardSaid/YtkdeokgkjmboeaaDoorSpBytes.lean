/- The byte classes of package spell: what each small function answers, at every byte. -/
import Derived.Test.YtkdeokgkjmboeaaDoorSpPlain
namespace Go.Proofs.YtkdeokgkjmboeaaDoor
open Go.RowKit

set_option maxHeartbeats 400000 in
theorem small_any (n : Int) (w : World) :
    Calls Tryd.prog 74 #[.int .u8 n] w fun e w' => e = .returned (.bool (smallB n)) ∧ w = w' := by
  go_enter Tryd.func74, Tryd.ntmps74
  go_wp2
  all_goals (go_ret; exact ⟨ret_bool (by simp [smallB]; omega), rfl⟩)

set_option maxHeartbeats 400000 in
theorem great_any (n : Int) (w : World) :
    Calls Tryd.prog 91 #[.int .u8 n] w fun e w' => e = .returned (.bool (greatB n)) ∧ w = w' := by
  go_enter Tryd.func91, Tryd.ntmps91
  go_wp2
  all_goals (go_ret; exact ⟨ret_bool (by simp [greatB]; omega), rfl⟩)

set_option maxHeartbeats 400000 in
theorem digit_any (n : Int) (w : World) :
    Calls Tryd.prog 88 #[.int .u8 n] w fun e w' => e = .returned (.bool (digitB n)) ∧ w = w' := by
  go_enter Tryd.func88, Tryd.ntmps88
  go_wp2
  all_goals (go_ret; exact ⟨ret_bool (by simp [digitB]; omega), rfl⟩)

set_option maxHeartbeats 400000 in
theorem low_any (n : Int) (w : World) :
    Calls Tryd.prog 75 #[.int .u8 n] w fun e w' => e = .returned (.bool (lowB n)) ∧ w = w' := by
  cases hs : smallB n <;> cases hd : digitB n
  all_goals
    go_enter Tryd.func75, Tryd.ntmps75
    go_wp2_with (first | (go_at_call 74; refine (small_any _ _).mono ?_; rintro e w' ⟨rfl, rfl⟩) | (go_at_call 88; refine (digit_any _ _).mono ?_; rintro e w' ⟨rfl, rfl⟩))
    go_ret
    exact ⟨ret_bool (by simp [lowB, hs, hd]), rfl⟩
end Go.Proofs.YtkdeokgkjmboeaaDoor
