/- Marks: decimal numerals read back; the last mark of a marked name; no program in sight. -/
import Derived.Test.YtnfjjckbgnieeaaGreatDoorBase
import Derived.Lib.Atoi
import Derived.Lib.ItoaNum
import Derived.Lib.LastIndexByte
namespace Go.Proofs.YtnfjjckbgnieeaaGreatDoor
open Go.RowKit

theorem digit_of {d : Nat} (h : d < 10) : Lib.digitVal (UInt8.ofNat (48 + d)) = some d := by
  have : d = 0 ∨ d = 1 ∨ d = 2 ∨ d = 3 ∨ d = 4 ∨ d = 5 ∨ d = 6 ∨ d = 7 ∨ d = 8 ∨ d = 9 := by omega
  rcases this with rfl | rfl | rfl | rfl | rfl | rfl | rfl | rfl | rfl | rfl <;> decide
theorem decFrom_push (l : List UInt8) (b : UInt8) : ∀ acc : Nat, Lib.decFrom acc (l ++ [b]) = (Lib.decFrom acc l).bind fun n => (Lib.digitVal b).map fun d => n * 10 + d := by
  induction l with
  | nil =>
    intro acc
    simp only [List.nil_append, Lib.decFrom]
    cases Lib.digitVal b <;> simp
  | cons a t ih =>
    intro acc
    simp only [List.cons_append, Lib.decFrom]
    cases Lib.digitVal a with
    | none => simp
    | some d => simpa using ih _
theorem decFrom_digits (u : Nat) : Lib.decFrom 0 (Lib.decDigits u) = some u := by
  induction u using Nat.strongRecOn with
  | _ u ih =>
    rw [Lib.decDigits]
    by_cases h : u < 10
    · rw [dif_pos h]
      have h2 := decFrom_push [] (UInt8.ofNat (48 + u)) 0
      rw [List.nil_append] at h2
      rw [h2, digit_of h]
      simp only [Lib.decFrom, Option.bind_some, Option.map_some]
      simp
    · rw [dif_neg h, decFrom_push, ih (u / 10) (by omega), digit_of (Nat.mod_lt _ (by omega))]
      simp
      omega
theorem digits_mem (u : Nat) : ∀ b ∈ Lib.decDigits u, 48 ≤ b.toNat ∧ b.toNat ≤ 57 := by
  induction u using Nat.strongRecOn with
  | _ u ih =>
    rw [Lib.decDigits]
    by_cases h : u < 10
    · rw [dif_pos h]
      intro b hb
      obtain rfl := List.mem_singleton.1 hb
      rw [UInt8.toNat_ofNat_of_lt' (by show 48 + u < 256; omega)]
      omega
    · rw [dif_neg h]
      intro b hb
      rcases List.mem_append.1 hb with hb | hb
      · exact ih (u / 10) (by omega) b hb
      · obtain rfl := List.mem_singleton.1 hb
        have := Nat.mod_lt u (show 0 < 10 by omega)
        rw [UInt8.toNat_ofNat_of_lt' (by show 48 + u % 10 < 256; omega)]
        omega
theorem digits_some (u : Nat) : Lib.decDigits u ≠ [] := by
  intro h
  have := congrArg List.length h
  rw [Lib.decDigits_length] at this
  have := Lib.nDigits_pos u
  simp at *
  omega
theorem digits_len {u : Nat} (h : u < 1000000000) : (Lib.decDigits u).length ≤ 9 := by
  rw [Lib.decDigits_length]
  rcases Nat.lt_or_ge 9 (Lib.nDigits u) with h9 | h9
  · exfalso
    obtain ⟨k, hk⟩ : ∃ k, Lib.nDigits u = k + 10 := ⟨Lib.nDigits u - 10, by omega⟩
    have hall : ∀ (j v : Nat), v < 10 ^ j → Lib.nDigits v ≤ max j 1 := by
      intro j
      induction j with
      | zero => intro v hv; have : v = 0 := by simpa using hv
                subst this; rw [Lib.nDigits_small (by omega)]; omega
      | succ j ih =>
        intro v hv
        by_cases h10 : v < 10
        · rw [Lib.nDigits_small h10]; omega
        · rw [Lib.nDigits_big h10]
          have h2 := ih (v / 10) (by rw [Nat.pow_succ] at hv; omega)
          cases j with
          | zero => simp at hv; omega
          | succ j => omega
    have := hall 9 u (by omega)
    omega
  · exact h9
theorem atoi_digits (u : Nat) : Lib.atoi (Lib.decDigits u) = some (u : Int) := by
  have h := decFrom_digits u
  have hm := digits_mem u
  cases hd : Lib.decDigits u with
  | nil => exact absurd hd (digits_some u)
  | cons b r =>
    rw [hd] at h hm
    have hb := hm b List.mem_cons_self
    have h45 : (b == 45) = false := by
      rw [beq_eq_false_iff_ne]; rintro rfl; revert hb; decide
    have h43 : (b == 43) = false := by
      rw [beq_eq_false_iff_ne]; rintro rfl; revert hb; decide
    rw [Lib.atoi, h45, h43]
    simp only [Bool.false_eq_true, if_false]
    have : Lib.decNat (b :: r) = some u := by unfold Lib.decNat; simpa using h
    rw [this]; rfl
/-- The last mark of a marked name stands where the mark was laid. -/
theorem last_mark (l d : List UInt8) (hd : (35 : UInt8) ∉ d) : Lib.lastIndexByte ⟨(l ++ 35 :: d).toArray⟩ 35 = (l.length : Int) := by
  rcases Lib.lastIdx_spec ⟨(l ++ 35 :: d).toArray⟩ 35 (l ++ 35 :: d).length with ⟨h1, h2⟩ | ⟨i, h1, h2, h3, h4⟩
  · exact absurd (h2 l.length (by simp)) (by simp)
  · have e : Lib.lastIndexByte ⟨(l ++ 35 :: d).toArray⟩ 35 = (i : Int) := by
      unfold Lib.lastIndexByte
      exact h2
    rw [e]
    rcases Nat.lt_trichotomy i l.length with h | h | h
    · exact absurd (by simp) (h4 l.length h (by simp))
    · rw [h]
    · exfalso
      apply hd
      have hi : i - l.length - 1 < d.length := by
        simp only [List.length_append, List.length_cons] at h1; omega
      have h5 : (l ++ 35 :: d)[i]'h1 = d[i - l.length - 1] := by
        rw [List.getElem_append_right (by omega)]
        rw [List.getElem_cons]
        rw [dif_neg (by omega)]
      have h6 : (((l ++ 35 :: d)[i]'h1).toNat : Int) = 35 := by
        have := h3
        rw [show ((⟨(l ++ 35 :: d).toArray⟩ : ByteArray).data)[i]! = (l ++ 35 :: d)[i]'h1 by simp; rw [List.getElem?_eq_getElem h1]; rfl] at this
        exact this
      rw [h5] at h6
      have h7 : d[i - l.length - 1] = 35 := by
        apply UInt8.toNat_inj.1
        have : (d[i - l.length - 1]).toNat = 35 := by omega
        rw [this]; rfl
      rw [← h7]
      exact List.getElem_mem hi
theorem digits_no_mark (u : Nat) : (35 : UInt8) ∉ Lib.decDigits u := by
  intro h
  have := digits_mem u 35 h
  revert this; decide
end Go.Proofs.YtnfjjckbgnieeaaGreatDoor
