/- The byte classes of package spell: what each small function answers, at every byte. -/
import Derived.Test.YtdlnmkdbjgbimaaDoorSpPlain
namespace Go.Proofs.YtdlnmkdbjgbimaaDoor
open Go.RowKit

set_option maxHeartbeats 400000 in
theorem small_any (n : Int) (w : World) :
    Calls Tryd.prog 66 #[.int .u8 n] w fun e w' => e = .returned (.bool (smallB n)) ∧ w = w' := by
  go_enter Tryd.func66, Tryd.ntmps66
  go_wp2
  all_goals (go_ret; exact ⟨ret_bool (by simp [smallB]; omega), rfl⟩)

set_option maxHeartbeats 400000 in
theorem great_any (n : Int) (w : World) :
    Calls Tryd.prog 84 #[.int .u8 n] w fun e w' => e = .returned (.bool (greatB n)) ∧ w = w' := by
  go_enter Tryd.func84, Tryd.ntmps84
  go_wp2
  all_goals (go_ret; exact ⟨ret_bool (by simp [greatB]; omega), rfl⟩)

set_option maxHeartbeats 400000 in
theorem digit_any (n : Int) (w : World) :
    Calls Tryd.prog 82 #[.int .u8 n] w fun e w' => e = .returned (.bool (digitB n)) ∧ w = w' := by
  go_enter Tryd.func82, Tryd.ntmps82
  go_wp2
  all_goals (go_ret; exact ⟨ret_bool (by simp [digitB]; omega), rfl⟩)

set_option maxHeartbeats 400000 in
theorem low_any (n : Int) (w : World) :
    Calls Tryd.prog 67 #[.int .u8 n] w fun e w' => e = .returned (.bool (lowB n)) ∧ w = w' := by
  cases hs : smallB n <;> cases hd : digitB n
  all_goals
    go_enter Tryd.func67, Tryd.ntmps67
    go_wp2_with (first | (go_at_call 66; refine (small_any _ _).mono ?_; rintro e w' ⟨rfl, rfl⟩) | (go_at_call 82; refine (digit_any _ _).mono ?_; rintro e w' ⟨rfl, rfl⟩))
    go_ret
    exact ⟨ret_bool (by simp [lowB, hs, hd]), rfl⟩
end Go.Proofs.YtdlnmkdbjgbimaaDoor
