/- term.Text: the text of every atom whose names have at most 300 bytes. -/
import Derived.Test.YtnfjjckbgnieeaaGreatDoorTermN
import Derived.Lib.Join
namespace Go.Proofs.YtnfjjckbgnieeaaGreatDoor
open Go.RowKit

theorem after_says : (32 : UInt8) = 32 := rfl
/-- An atom's text. -/
def frontA (a : Atm) : List UInt8 := a.1 ++ ([32, 115, 97, 121, 115, 32] ++ a.2.1)
def namesOf (a : Atm) : List (List UInt8) := ((argsL a).take (countA a)).map (·.2)
def textA (a : Atm) : List UInt8 := frontA a ++ if countA a = 0 then [] else [40] ++ (Lib.join (namesOf a) [44, 32] ++ [41])
/-- Names of at most 300 bytes. -/
def Light (a : Atm) : Prop := a.1.length ≤ 300 ∧ a.2.1.length ≤ 300 ∧ ∀ t ∈ argsL a, t.2.length ≤ 300

theorem join_len (sep : List UInt8) : ∀ (xs : List (List UInt8)) (m : Nat), (∀ x ∈ xs, x.length ≤ m) → (Lib.join xs sep).length ≤ xs.length * (m + sep.length)
  | [], _, _ => by simp [Lib.join, List.intercalate]
  | [x], m, h => by
    have := h x (by simp)
    simp [Lib.join, List.intercalate]; omega
  | x :: y :: r, m, h => by
    have h1 := h x (by simp)
    have h2 := join_len sep (y :: r) m (fun z hz => h z (by simp [hz]))
    have e : Lib.join (x :: y :: r) sep = x ++ (sep ++ Lib.join (y :: r) sep) := by
      simp [Lib.join, List.intercalate]
    rw [e, List.length_append, List.length_append, List.length_cons, Nat.succ_mul]
    omega

end Go.Proofs.YtnfjjckbgnieeaaGreatDoor
