/- The statements' helpers Pick and Times: the modulus from 0 on; a text so many times. -/
import Derived.Test.YtncbecpnfcjikaaDoorRows0
namespace Go.Proofs.YtncbecpnfcjikaaDoor
open Go.RowKit

theorem ret_int {k : IntKind} {a b : Int} (h : a = b) : Ending.returned (.int k a) = .returned (.int k b) := by rw [h]
theorem ret_str {a b : List UInt8} (h : a = b) : Ending.returned (.string ⟨a.toArray⟩) = .returned (.string ⟨b.toArray⟩) := by rw [h]

theorem tmod_facts (n m : Int) (h0 : n < 0) (hm : 1 ≤ m) : -m < n.tmod m ∧ n.tmod m ≤ 0 ∧ (n.tmod m = 0 → n % m = 0) ∧ (n.tmod m < 0 → n % m = n.tmod m + m) := by
  have e := Int.mul_tdiv_add_tmod n m
  have a : -m < n.tmod m := by have := Int.lt_tmod_of_pos n (show 0 < m by omega); omega
  have b : n.tmod m ≤ 0 := by
    have h := Int.tmod_nonneg (a := -n) m (by omega)
    rw [Int.neg_tmod] at h; omega
  refine ⟨a, b, fun h => ?_, fun h => ?_⟩
  · rw [h, Int.add_zero] at e
    rw [← e]; exact Int.mul_emod_right _ _
  · have e2 : n = (n.tmod m + m) + m * (n.tdiv m - 1) := by rw [Int.mul_sub]; omega
    generalize hr : n.tmod m + m = r at *
    generalize n.tdiv m - 1 = q at *
    rw [e2, Int.add_mul_emod_self_left]
    exact Int.emod_eq_of_lt (by omega) (by omega)

set_option maxHeartbeats 400000 in
theorem pick_any (n m : Int) (w : World) (h1 : -9223372036854775808 ≤ n) (h2 : n ≤ 9223372036854775807) (hm : 1 ≤ m) (hM : m ≤ 4294967296) :
    Calls Tryd.prog 12 #[.int .i64 n, .int .i64 m] w fun e w' => e = .returned (.int .i64 (n % m)) ∧ w = w' := by
  by_cases h0 : 0 ≤ n
  · have hb1 := Int.emod_nonneg n (show m ≠ 0 by omega)
    go_enter Tryd.func12, Tryd.ntmps12
    go_wp2
    go_ret
    exact ⟨rfl, rfl⟩
  · obtain ⟨a, b, c, d⟩ := tmod_facts n m (by omega) hm
    have HC := Lib.hid c
    have HD := Lib.hid d
    clear c d
    go_enter Tryd.func12, Tryd.ntmps12
    go_wp2
    · go_ret
      exact ⟨ret_int (by rw [HD.out (by assumption)]), rfl⟩
    · go_ret
      exact ⟨ret_int (by rw [HC.out (by omega)]; omega), rfl⟩

/-- A text so many times. -/
def timesL (l : List UInt8) (n : Nat) : List UInt8 := (List.replicate n l).flatten
theorem timesL_len (l : List UInt8) (n : Nat) : (timesL l n).length = n * l.length := by
  induction n with
  | zero => simp [timesL]
  | succ n ih => rw [timesL, List.replicate_succ, List.flatten_cons, List.length_append, Nat.succ_mul]; rw [timesL] at ih; omega
theorem timesL_succ (l : List UInt8) (n : Nat) : timesL l (n + 1) = l ++ timesL l n := by rw [timesL, List.replicate_succ, List.flatten_cons]; rfl
theorem timesL_add (l : List UInt8) (n m : Nat) : timesL l (n + m) = timesL l n ++ timesL l m := by
  induction n with
  | zero => simp [timesL]
  | succ n ih => rw [Nat.succ_add, timesL_succ, ih, timesL_succ, List.append_assoc]
theorem timesL_two (l : List UInt8) (n : Nat) : timesL (l ++ l) n = timesL l (2 * n) := by
  induction n with
  | zero => simp [timesL]
  | succ n ih => rw [timesL_succ, ih, show 2 * (n + 1) = (2 * n + 1) + 1 from by omega, timesL_succ, timesL_succ, List.append_assoc]
theorem timesL_even (l : List UInt8) (n : Nat) (h : n % 2 = 0) : timesL l n = timesL (l ++ l) (n / 2) := by rw [timesL_two, show 2 * (n / 2) = n from by omega]
theorem timesL_odd (l : List UInt8) (n : Nat) (h : n % 2 = 1) : timesL l n = l ++ timesL (l ++ l) (n / 2) := by
  rw [timesL_two, ← timesL_succ, show 2 * (n / 2) + 1 = n from by omega]

theorem cat_bytes (a b : List UInt8) : (ByteArray.mk a.toArray) ++ (ByteArray.mk b.toArray) = ByteArray.mk (a ++ b).toArray := by
  apply ByteArray.ext
  simp

set_option maxHeartbeats 400000 in
theorem times_any (l : List UInt8) (n : Nat) (w : World) (hn : n ≤ 4294967296) (hl : l.length * n ≤ 4294967296) (hl2 : l.length ≤ 4294967296) :
    Calls Tryd.prog 13 #[.string ⟨l.toArray⟩, .int .i64 n] w fun e w' => e = .returned (.string ⟨(timesL l n).toArray⟩) ∧ w = w' := by
  have hL := timesL_len l n
  have HL := Lib.hid hL
  clear hL
  obtain ⟨R, hR0⟩ : ∃ R, Hid (R = timesL l n) := ⟨_, rfl⟩
  rw [← hR0.out] at HL ⊢
  go_enter Tryd.func13, Tryd.ntmps13
  go_wp2
  go_loop [0, 1, 5] (fun s i o => ∃ (k : Nat) (t u : List UInt8), k ≤ 4294967296 ∧ i = .int .i64 k ∧ s = .string ⟨t.toArray⟩ ∧ o = .string ⟨u.toArray⟩ ∧ t.length ≤ 8589934592 ∧ t.length * k ≤ 4294967296 ∧ u.length ≤ 4294967296 ∧ Hid (R = u ++ timesL t k)) (fun _ i _ => (intOf i).toNat)
  case atStart => exact ⟨n, l, [], by omega, rfl, rfl, rfl, by omega, hl, by simp, by rw [hR0.out]; rfl⟩
  case round =>
    obtain ⟨k, t, u, hk, rfl, rfl, rfl, ht, htk, hu, hR⟩ := hrel
    by_cases h0 : 0 < k
    · have htt : t.length ≤ 4294967296 := by have := Nat.mul_le_mul_left t.length h0; omega
      have hd : (t ++ t).length * (k / 2) ≤ 4294967296 := by
        rw [List.length_append, show t.length + t.length = t.length * 2 from by omega, Nat.mul_assoc]
        exact Nat.le_trans (Nat.mul_le_mul_left _ (by omega)) htk
      have HD := Lib.hid hd
      clear hd
      by_cases h2 : k % 2 = 1
      · have hb : ((k : Int) % 2 == 1) = true := by rw [beq_iff_eq]; omega
        have hR' : Hid (R = (u ++ t) ++ timesL (t ++ t) (k / 2)) := by
          have := hR.out
          rw [timesL_odd t k h2, ← List.append_assoc] at this
          exact this
        have hul : u.length + t.length ≤ 4294967296 := by
          have := congrArg List.length hR'.out
          rw [HL.out, List.length_append, List.length_append] at this
          rw [Nat.mul_comm] at this
          omega
        go_wp2
        go_round
        case rel => exact ⟨k / 2, t ++ t, u ++ t, by omega, by go_num, by rw [cat_bytes], by rw [cat_bytes], by simp; omega, HD.out, by simp; omega, hR'⟩
        case measure => simp [intOf]; omega
      · have hb : ((k : Int) % 2 == 1) = false := by rw [beq_eq_false_iff_ne]; omega
        have hR' : Hid (R = u ++ timesL (t ++ t) (k / 2)) := by
          have := hR.out
          rw [timesL_even t k (by omega)] at this
          exact this
        go_wp2
        go_round
        case rel => exact ⟨k / 2, t ++ t, u, by omega, by go_num, by rw [cat_bytes], rfl, by simp; omega, HD.out, hu, hR'⟩
        case measure => simp [intOf]; omega
    · obtain rfl : k = 0 := by omega
      go_wp2
      go_ret
      refine ⟨ret_str ?_, rfl⟩
      rw [hR.out]
      simp [timesL]
end Go.Proofs.YtncbecpnfcjikaaDoor
