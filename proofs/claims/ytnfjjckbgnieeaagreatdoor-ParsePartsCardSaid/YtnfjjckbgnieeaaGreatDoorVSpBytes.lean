/- The byte classes of package spell: what each small function answers, at every byte. -/
import Derived.Test.YtnfjjckbgnieeaaGreatDoorVSpPlain
namespace Go.Proofs.YtnfjjckbgnieeaaGreatDoor
open Go.RowKit

set_option maxHeartbeats 400000 in
theorem small_any (n : Int) (w : World) :
    Calls Tryz.prog 103 #[.int .u8 n] w fun e w' => e = .returned (.bool (smallB n)) ∧ w = w' := by
  go_enter Tryz.func103, Tryz.ntmps103
  go_wp2
  all_goals (go_ret; exact ⟨ret_bool (by simp [smallB]; omega), rfl⟩)
set_option maxHeartbeats 400000 in
theorem great_any (n : Int) (w : World) :
    Calls Tryz.prog 130 #[.int .u8 n] w fun e w' => e = .returned (.bool (greatB n)) ∧ w = w' := by
  go_enter Tryz.func130, Tryz.ntmps130
  go_wp2
  all_goals (go_ret; exact ⟨ret_bool (by simp [greatB]; omega), rfl⟩)
set_option maxHeartbeats 400000 in
theorem digit_any (n : Int) (w : World) :
    Calls Tryz.prog 116 #[.int .u8 n] w fun e w' => e = .returned (.bool (digitB n)) ∧ w = w' := by
  go_enter Tryz.func116, Tryz.ntmps116
  go_wp2
  all_goals (go_ret; exact ⟨ret_bool (by simp [digitB]; omega), rfl⟩)
set_option maxHeartbeats 400000 in
theorem low_any (n : Int) (w : World) :
    Calls Tryz.prog 104 #[.int .u8 n] w fun e w' => e = .returned (.bool (lowB n)) ∧ w = w' := by
  cases hs : smallB n <;> cases hd : digitB n
  all_goals
    go_enter Tryz.func104, Tryz.ntmps104
    go_wp2_with (first | (go_at_call 103; refine (small_any _ _).mono ?_; rintro e w' ⟨rfl, rfl⟩) | (go_at_call 116; refine (digit_any _ _).mono ?_; rintro e w' ⟨rfl, rfl⟩))
    go_ret
    exact ⟨ret_bool (by simp [lowB, hs, hd]), rfl⟩
end Go.Proofs.YtnfjjckbgnieeaaGreatDoor
