/- vouchsafekit.Times: a text so many times. -/
import Derived.Test.YtfbkddpapjpgbaaLexW
namespace Go.Proofs.Ytfbkddpapjpgbaa
open Go.RowKit

/-- A text so many times. -/
def timesL (l : List UInt8) (n : Nat) : List UInt8 := (List.replicate n l).flatten
theorem timesL_len (l : List UInt8) (n : Nat) : (timesL l n).length = n * l.length := by
  induction n with
  | zero => simp [timesL]
  | succ n ih => rw [timesL, List.replicate_succ, List.flatten_cons, List.length_append, Nat.succ_mul]; rw [timesL] at ih; omega
theorem timesL_succ (l : List UInt8) (n : Nat) : timesL l (n + 1) = l ++ timesL l n := by rw [timesL, List.replicate_succ, List.flatten_cons]; rfl
theorem timesL_add (l : List UInt8) (n m : Nat) : timesL l (n + m) = timesL l n ++ timesL l m := by
  induction n with
  | zero => simp [timesL]
  | succ n ih => rw [Nat.succ_add, timesL_succ, ih, timesL_succ, List.append_assoc]
theorem timesL_two (l : List UInt8) (n : Nat) : timesL (l ++ l) n = timesL l (2 * n) := by
  induction n with
  | zero => simp [timesL]
  | succ n ih => rw [timesL_succ, ih, show 2 * (n + 1) = (2 * n + 1) + 1 from by omega, timesL_succ, timesL_succ, List.append_assoc]
theorem timesL_even (l : List UInt8) (n : Nat) (h : n % 2 = 0) : timesL l n = timesL (l ++ l) (n / 2) := by rw [timesL_two, show 2 * (n / 2) = n from by omega]
theorem timesL_odd (l : List UInt8) (n : Nat) (h : n % 2 = 1) : timesL l n = l ++ timesL (l ++ l) (n / 2) := by
  rw [timesL_two, ← timesL_succ, show 2 * (n / 2) + 1 = n from by omega]

set_option maxHeartbeats 400000 in
theorem times_any (l : List UInt8) (n : Nat) (w : World) (hn : n ≤ 4294967296) (hl : l.length * n ≤ 4294967296) (hl2 : l.length ≤ 4294967296) :
    Calls Try.prog 14 #[.string ⟨l.toArray⟩, .int .i64 n] w fun e w' => e = .returned (.string ⟨(timesL l n).toArray⟩) ∧ w = w' := by
  have hL := timesL_len l n
  have HL := Lib.hid hL
  clear hL
  obtain ⟨R, hR0⟩ : ∃ R, Hid (R = timesL l n) := ⟨_, rfl⟩
  rw [← hR0.out] at HL ⊢
  go_enter Try.func14, Try.ntmps14
  go_wp2
  go_loop [0, 1, 5] (fun s i o => ∃ (k : Nat) (t u : List UInt8), k ≤ 4294967296 ∧ i = .int .i64 k ∧ s = .string ⟨t.toArray⟩ ∧ o = .string ⟨u.toArray⟩ ∧ t.length ≤ 8589934592 ∧ t.length * k ≤ 4294967296 ∧ u.length ≤ 4294967296 ∧ Hid (R = u ++ timesL t k)) (fun _ i _ => (intOf i).toNat)
  case atStart => exact ⟨n, l, [], by omega, rfl, rfl, rfl, by omega, hl, by simp, by rw [hR0.out]; rfl⟩
  case round =>
    obtain ⟨k, t, u, hk, rfl, rfl, rfl, ht, htk, hu, hR⟩ := hrel
    by_cases h0 : 0 < k
    · have htt : t.length ≤ 4294967296 := by have := Nat.mul_le_mul_left t.length h0; omega
      have hd : (t ++ t).length * (k / 2) ≤ 4294967296 := by
        rw [List.length_append, show t.length + t.length = t.length * 2 from by omega, Nat.mul_assoc]
        exact Nat.le_trans (Nat.mul_le_mul_left _ (by omega)) htk
      have HD := Lib.hid hd
      clear hd
      by_cases h2 : k % 2 = 1
      · have hb : ((k : Int) % 2 == 1) = true := by rw [beq_iff_eq]; omega
        have hR' : Hid (R = (u ++ t) ++ timesL (t ++ t) (k / 2)) := by
          have := hR.out
          rw [timesL_odd t k h2, ← List.append_assoc] at this
          exact this
        have hul : u.length + t.length ≤ 4294967296 := by
          have := congrArg List.length hR'.out
          rw [HL.out, List.length_append, List.length_append] at this
          rw [Nat.mul_comm] at this
          omega
        go_wp2
        go_round
        case rel => exact ⟨k / 2, t ++ t, u ++ t, by omega, by go_num, by rw [cat_bytes], by rw [cat_bytes], by simp; omega, HD.out, by simp; omega, hR'⟩
        case measure => simp [intOf]; omega
      · have hb : ((k : Int) % 2 == 1) = false := by rw [beq_eq_false_iff_ne]; omega
        have hR' : Hid (R = u ++ timesL (t ++ t) (k / 2)) := by
          have := hR.out
          rw [timesL_even t k (by omega)] at this
          exact this
        go_wp2
        go_round
        case rel => exact ⟨k / 2, t ++ t, u, by omega, by go_num, by rw [cat_bytes], rfl, by simp; omega, HD.out, hu, hR'⟩
        case measure => simp [intOf]; omega
    · obtain rfl : k = 0 := by omega
      go_wp2
      go_ret
      refine ⟨ret_str ?_, rfl⟩
      rw [hR.out]
      simp [timesL]
end Go.Proofs.Ytfbkddpapjpgbaa
