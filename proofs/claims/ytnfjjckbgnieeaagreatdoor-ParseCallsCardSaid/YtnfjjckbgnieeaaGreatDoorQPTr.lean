/- What is parsed is as it should be: words of their kinds, valid atoms, numbers of at most seven digits. No program's function in sight. -/
import Derived.Test.YtnfjjckbgnieeaaGreatDoorQPaP
import Derived.Test.YtnfjjckbgnieeaaGreatDoorQLexQ
import Derived.Test.YtnfjjckbgnieeaaGreatDoorQNmP
import Derived.Test.YtnfjjckbgnieeaaGreatDoorQRef03
namespace Go.Proofs.YtnfjjckbgnieeaaGreatDoor
open Go.RowKit

theorem numV_lt : ∀ (l : Txt) (acc a : Nat), l.all (fun c => digitB c.toNat) = true → acc + 1 ≤ 10 ^ a → l.foldl (fun n c => 10 * n + (c.toNat - 48)) acc + 1 ≤ 10 ^ (a + l.length)
  | [], acc, a, _, h => h
  | x :: q, acc, a, hq, hh => by
    rw [List.all_cons, Bool.and_eq_true] at hq
    have hx := dig_bounds hq.1
    rw [List.foldl_cons, List.length_cons, show a + (q.length + 1) = (a + 1) + q.length by omega]
    exact numV_lt q _ (a + 1) hq.2 (by rw [Nat.pow_succ]; omega)
end Go.Proofs.YtnfjjckbgnieeaaGreatDoor
