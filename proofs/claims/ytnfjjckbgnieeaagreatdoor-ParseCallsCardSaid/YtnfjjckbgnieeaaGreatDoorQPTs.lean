/- ParseTrees of law 10: the walk. -/
import Derived.Test.YtnfjjckbgnieeaaGreatDoorQPTr
import Derived.Test.YtnfjjckbgnieeaaGreatDoorQPSa
import Derived.Test.YtnfjjckbgnieeaaGreatDoorQPLv
namespace Go.Proofs.YtnfjjckbgnieeaaGreatDoor
open Go.RowKit

theorem meas_step {n k : Nat} (h : k < n) : n - ((k : Int) + 1).toNat < n - ((k : Int)).toNat := by omega
theorem cast_step (k : Nat) : (k : Int) + 1 = ((k + 1 : Nat) : Int) := by omega
theorem wrap_step {n k : Nat} (h : k < n) (hn : n ≤ 9223372036854775807) : wrap64 ((k : Int) + 1) = (k : Int) + 1 := IntWalk.wrap64_in _ (by omega)
theorem meas_wrap {n k : Nat} (h : k < n) (hn : n ≤ 9223372036854775807) : n - (wrap64 ((k : Int) + 1)).toNat < n - ((k : Int)).toNat := by
  rw [wrap_step h hn]; exact meas_step h
theorem intOf_int (X : Int) : intOf (.int .i64 X) = X := rfl
theorem max_lit : maxLen ≤ 9223372036854775807 := by decide
theorem own_lenP {W : World} {D : Nat} {e : TypeId} {K n : Nat} {v : Value} {xs : List Value} (h : W.ownsRow D e K v n xs) : n ≤ 9223372036854775807 := by
  rcases h.2 with ⟨_, h⟩ | ⟨g, cap, cur, _, _, _, h1, h2, _⟩
  · rw [h]; exact Nat.zero_le _
  · exact Nat.le_trans h1 (Nat.le_trans h2 max_lit)
end Go.Proofs.YtnfjjckbgnieeaaGreatDoor
