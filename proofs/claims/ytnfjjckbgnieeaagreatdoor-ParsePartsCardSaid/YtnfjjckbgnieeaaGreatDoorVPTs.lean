/- ParseTrees of law 10: the walk. -/
import Derived.Test.YtnfjjckbgnieeaaGreatDoorVPTr
import Derived.Test.YtnfjjckbgnieeaaGreatDoorVPSa
import Derived.Test.YtnfjjckbgnieeaaGreatDoorVPLv
namespace Go.Proofs.YtnfjjckbgnieeaaGreatDoor
open Go.RowKit

theorem meas_step {n k : Nat} (h : k < n) : n - ((k : Int) + 1).toNat < n - ((k : Int)).toNat := by omega
theorem cast_step (k : Nat) : (k : Int) + 1 = ((k + 1 : Nat) : Int) := by omega
theorem wrap_step {n k : Nat} (h : k < n) (hn : n ≤ 9223372036854775807) : wrap64 ((k : Int) + 1) = (k : Int) + 1 := IntWalk.wrap64_in _ (by omega)
theorem meas_wrap {n k : Nat} (h : k < n) (hn : n ≤ 9223372036854775807) : n - (wrap64 ((k : Int) + 1)).toNat < n - ((k : Int)).toNat := by
  rw [wrap_step h hn]; exact meas_step h
theorem intOf_int (X : Int) : intOf (.int .i64 X) = X := rfl
theorem max_lit : maxLen ≤ 9223372036854775807 := by decide
theorem own_lenP {W : World} {D : Nat} {e : TypeId} {K n : Nat} {v : Value} {xs : List Value} (h : W.ownsRow D e K v n xs) : n ≤ 9223372036854775807 := by
  rcases h.2 with ⟨_, h⟩ | ⟨g, cap, cur, _, _, _, h1, h2, _⟩
  · rw [h]; exact Nat.zero_le _
  · exact Nat.le_trans h1 (Nat.le_trans h2 max_lit)
theorem princ_len {x : Txt} (h : principalB x = true) : x.length ≤ maxLen := by
  unfold principalB at h
  rw [Bool.and_eq_true] at h
  have h2 := h.1
  cases x with
  | nil => unfold maxLen; simp
  | cons c r =>
    simp only [spelledB, Bool.and_eq_true, decide_eq_true_eq] at h2
    unfold maxLen; omega
theorem spell_len {f m : Int → Bool} {x : Txt} (h : spelledB f m x = true) : x.length ≤ maxLen := by
  cases x with
  | nil => unfold maxLen; simp
  | cons c r =>
    simp only [spelledB, Bool.and_eq_true, decide_eq_true_eq] at h
    unfold maxLen; omega
theorem term_len {t : Tm} (h : termB t = true) : t.2.length ≤ maxLen := by
  obtain ⟨v, l⟩ := t
  cases v with
  | true => have h1 : variableB l = true := h; unfold variableB at h1; first | exact spell_len h1 | (rw [Bool.and_eq_true] at h1; exact spell_len h1.1)
  | false => have h1 : constantB l = true := h; unfold constantB at h1; rw [Bool.and_eq_true] at h1; exact spell_len h1.1
theorem valid_fits {a : Atm} (h : checkA a = 0) : FitsA a := by
  obtain ⟨h1, h2, _, _, h5, _, h7⟩ := valid_parts h
  refine ⟨princ_len h1, princ_len h2, fun t ht => ?_⟩
  rw [← List.take_append_drop (countA a) (argsL a)] at ht
  rcases List.mem_append.1 ht with ht | ht
  · exact term_len (h5 t ht)
  · rw [h7 t ht]; unfold maxLen; simp
end Go.Proofs.YtnfjjckbgnieeaaGreatDoor
