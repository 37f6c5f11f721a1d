/- CertNumbers returns true at every two numbers. -/
import Derived.Test.YtnakohjlabgidaaCertNumW
import Derived.Test.YtnakohjlabgidaaCertRdW
namespace Go.Proofs.Ytnakohjlabgidaa
open Go.RowKit

set_option maxHeartbeats 400000 in
theorem lives23_any (w : World) :
    Calls Try.prog 4 #[] w fun e w' => e = .returned (.bool true) ∧ Since w w' := by
  have h := number_any 300 w (by omega)
  rw [show numL 300 = [172, 2] from by decide +kernel] at h
  have H := Lib.hid h
  clear h
  go_enter Try.func4, Try.ntmps4
  go_wp2_with fail
  refine H.out.mono ?_
  rintro e w1 ⟨rfl, hb⟩
  go_wp2_with fail
  go_ret
  exact ⟨rfl, hb⟩

set_option maxHeartbeats 1000000 in
set_option maxRecDepth 100000 in
theorem numbers_walk (a b : Nat) (w : World) (ha : a < 4294967296) (hb : b < 4294967296) :
    Calls Try.prog 3 #[.int .u32 a, .int .u32 b] w fun e w' => e = .returned (.bool true) ∧ Since w w' := by
  obtain ⟨X, hX⟩ : ∃ X, Hid (X = numL a) := ⟨numL a, rfl⟩
  obtain ⟨Y, hY⟩ : ∃ Y, Hid (Y = numL b) := ⟨numL b, rfl⟩
  have HA := Lib.hid (fun w => number_any a w ha)
  have HB := Lib.hid (fun w => number_any b w hb)
  rw [← hX.out] at HA
  rw [← hY.out] at HB
  have heq : (X == Y) = ((a : Int) == (b : Int)) := by
    rw [hX.out, hY.out, Bool.eq_iff_iff]
    constructor
    · intro h; have := num_inj ha hb (by simpa using h); simp [this]
    · intro h; have : a = b := by have := beq_iff_eq.1 h; omega
      simp [this]
  have hmono : (a : Int) < (b : Int) → (X.length : Int) ≤ (Y.length : Int) := by
    intro h; rw [hX.out, hY.out]; have := num_mono (show a ≤ b by omega); omega
  have HM := Lib.hid hmono
  have HE := Lib.hid heq
  have hXl : X.length ≤ 5 := by rw [hX.out]; exact num_len a
  have hYl : Y.length ≤ 5 := by rw [hY.out]; exact num_len b
  clear hmono heq
  go_enter Try.func3, Try.ntmps3
  go_wp2_with fail
  refine (lives23_any _).mono ?_
  rintro e w1 ⟨rfl, hS⟩
  go_wp2_with fail
  refine (HA.out _).mono ?_
  rintro e w2 ⟨rfl, h2⟩
  replace hS := hS.trans h2
  go_wp2_with fail
  refine (HB.out _).mono ?_
  rintro e w3 ⟨rfl, h3⟩
  replace hS := hS.trans h3
  clear h2 h3
  go_wp2_with fail
  go_loop [7, 8] (fun c n => ∃ f k c' : Nat, Hid (k < 128 ^ (f + 1)) ∧ k < 4294967296 ∧ c = .int .i64 c' ∧ c' + f = 5 ∧ n = .int .u32 k ∧ Hid (X.length + 1 = c' + (numF f k).length)) (fun _ n => (intOf n).toNat)
  case atStart => exact ⟨4, a, 1, by show a < 128 ^ 5; omega, ha, rfl, rfl, rfl, by show X.length + 1 = _; rw [hX.out, numL, Nat.add_comm]⟩
  case round =>
    obtain ⟨f, k, c', hk, hk2, rfl, hf, rfl, hlen⟩ := hrel
    have hc5 : c' ≤ 5 := by omega
    have HF := Lib.hid hf
    clear hf
    by_cases h1 : (128 : Int) ≤ k
    · have hk' := hk.out
      have hf1 := HF.out
      cases f with
      | zero => exfalso; simp at hk'; omega
      | succ f =>
        have hl2 : Hid (X.length + 1 = (c' + 1) + (numF f (k / 128)).length) := by
          have := hlen.out
          rw [numF_big (by omega), List.length_cons] at this
          show _ = _; omega
        have hk3 : Hid (k / 128 < 128 ^ (f + 1)) := by
          rw [Nat.pow_succ] at hk'
          exact Nat.div_lt_of_lt_mul (by rw [Nat.mul_comm]; exact hk')
        have hk4 : k / 128 < 4294967296 := by omega
        clear hlen hk hk' hf1
        go_wp2
        go_round
        case rel => exact ⟨f, k / 128, c' + 1, hk3, hk4, by go_num, by have := HF.out; omega, by go_num, hl2⟩
        case measure => simp [intOf]; omega
    · have hc : (X.length : Int) = c' := by
        have := hlen.out
        rw [numF_small (by omega)] at this
        simp at this; omega
      have hne : ((X.length : Int) != (c' : Int)) = false := by rw [hc]; simp
      have HC := Lib.hid hc
      clear hc hlen hk
      have hxy := HE.out
      have hread : Hid (∀ i, i < X.length → readL (X.take i) = none) := by
        intro i hi; rw [hX.out] at hi ⊢; exact read_cut ha hi
      have hbyte : Hid (∀ i, (h : i < X.length) → (X[i].toNat < 128 ↔ i + 1 = X.length)) := by
        have := numF_byte 4 a (by show a < 128 ^ 5; omega)
        show ∀ i, (h : i < X.length) → _
        rw [hX.out]; exact this
      cases hab : ((a : Int) == (b : Int))
      all_goals
        rw [hab] at hxy
        rcases Int.lt_or_le (a : Int) (b : Int) with hlt | hlt
      case' false.inl => have hyl := HM.out hlt
      case' true.inl => have hyl := HM.out hlt
      all_goals
        go_wp2
        clear hxy hab hne hlt
        go_loopw [9, 10, 11, 12] (fun i n s e wr => ∃ k : Nat, k ≤ X.length ∧ i = .int .i64 k ∧ Since w wr) (fun i _ _ _ _ => X.length - (intOf i).toNat)
        case atStart => exact ⟨0, Nat.zero_le _, rfl, hS⟩
        case round =>
          clear hS
          obtain ⟨k, hk, rfl, hS⟩ := hrel
          by_cases hlt : k < X.length
          · have hr := hread.out k hlt
            have hb2 := hbyte.out k hlt
            rw [← at_bytes X k hlt hlt] at hb2
            obtain ⟨T, hT⟩ : ∃ T, Hid (T = X.take k) := ⟨X.take k, rfl⟩
            have hext : (ByteArray.mk X.toArray).extract 0 k = ByteArray.mk T.toArray := by rw [ext_bytes, hT.out, List.drop_zero]
            have hRN := readnum_any T wr (by rw [hT.out]; unfold maxLen; simp; omega)
            rw [hT.out, hr, ← hT.out, rdV] at hRN
            have HRN := Lib.hid hRN
            clear hr hRN
            have hnn : ((k : Int) + 1 == (X.length : Int)) = decide ((((ByteArray.mk X.toArray)[k]'hlt).toNat : Int) < 128) := by
              rw [Bool.eq_iff_iff, beq_iff_eq, decide_eq_true_eq]; omega
            cases hm : decide ((((ByteArray.mk X.toArray)[k]'hlt).toNat : Int) < 128)
            all_goals
              rw [hm] at hnn
              clear hb2
              go_wp2_with fail
              refine HRN.out.mono ?_
              rintro e w4 ⟨rfl, rfl⟩
              go_wp2_with fail
              go_roundw
              case rel => exact ⟨k + 1, by omega, by go_num, hS⟩
              case measure => simp [intOf]; omega
          · go_wp2
            go_ret
            exact ⟨rfl, hS⟩
end Go.Proofs.Ytnakohjlabgidaa
