/- cert.ReadNumber: what it answers at every string. -/
import Derived.Test.YtkdeokgkjmboeaaGreatDoorNum
namespace Go.Proofs.YtkdeokgkjmboeaaGreatDoor
open Go.RowKit

def rdV : Option (Nat × Nat) → Value
  | none => .tuple #[.int .u32 0, .int .i64 0, .int .i64 15]
  | some (n, k) => .tuple #[.int .u32 n, .int .i64 k, .int .i64 0]

theorem and_all : ((List.range 256).all fun x => (bits BinOp.and IntKind.u8 (x : Int) 128 != 0) == decide (128 ≤ x)) = true := by decide +kernel
theorem and_more (c : Nat) (h : c < 256) : (bits BinOp.and IntKind.u8 (c : Int) 128 != 0) = decide (128 ≤ c) := by
  have h := List.all_eq_true.1 and_all c (List.mem_range.2 h)
  exact eq_of_beq h
theorem andNot_all : ((List.range 256).all fun x => decide (bits BinOp.andNot IntKind.u8 (x : Int) 128 = ((x % 128 : Nat) : Int))) = true := by decide +kernel
theorem andNot_more (c : Nat) (h : c < 256) : bits BinOp.andNot IntKind.u8 (c : Int) 128 = ((c % 128 : Nat) : Int) := by
  have h := List.all_eq_true.1 andNot_all c (List.mem_range.2 h)
  rwa [decide_eq_true_eq] at h
theorem pow_seven (k : Nat) : 128 ^ k = 2 ^ (7 * k) := by rw [Nat.pow_mul]
theorem sum_lt {x k sum : Nat} (hx : x < 128) (hs : sum < 128 ^ k) : sum + x * 128 ^ k < 128 ^ (k + 1) := by
  rw [Nat.pow_succ]
  have : x * 128 ^ k ≤ 127 * 128 ^ k := Nat.mul_le_mul_right _ (by omega)
  omega
theorem pow_five {k : Nat} (hk : k ≤ 5) : 128 ^ k ≤ 34359738368 := Nat.pow_le_pow_right (by omega) hk
theorem sum_more (c k sum : Nat) (hc : c < 256) (hk : k < 5) (hs : sum < 128 ^ k) :
    bits BinOp.or IntKind.u64 (sum : Int) (IntKind.u64.wrap (IntKind.u64.wrap (bits BinOp.andNot IntKind.u8 (c : Int) 128) * 2 ^ (7 * k))) = ((sum + c % 128 * 128 ^ k : Nat) : Int) := by
  have h1 := sum_lt (x := c % 128) (by omega) hs
  have h2 := pow_five (k := k + 1) (by omega)
  rw [andNot_more c hc, IntWalk.u64_in ((c % 128 : Nat) : Int) ⟨by omega, by omega⟩]
  have e : ((c % 128 : Nat) : Int) * 2 ^ (7 * k) = ((c % 128 * 128 ^ k : Nat) : Int) := by rw [pow_seven, Int.natCast_mul, Int.natCast_pow]; rfl
  rw [e, IntWalk.u64_in _ ⟨by omega, by omega⟩, bits_or_u64_nat _ _ (by omega) (by omega)]
  congr 1
  rw [pow_seven] at hs ⊢
  rw [Nat.mul_comm, Nat.or_comm, Nat.add_comm]
  exact (Nat.two_pow_add_eq_or_of_lt hs _).symm
set_option maxHeartbeats 400000 in
theorem readnum_any (l : List UInt8) (w : World) (hl : l.length ≤ maxLen) :
    Calls Tryz.prog 54 #[.string ⟨l.toArray⟩] w fun e w' => e = .returned (rdV (readL l)) ∧ w = w' := by
  unfold maxLen at hl
  go_enter Tryz.func54, Tryz.ntmps54
  rcases Int.lt_or_le (l.length : Int) 5 with h5 | h5
  all_goals go_wp2
  all_goals
    go_loop [5, 6, 10] (fun s i c => ∃ k sum : Nat, k ≤ 5 ∧ k ≤ l.length ∧ Hid (sum < 128 ^ k) ∧ c = .int .i64 k ∧ s = .int .u64 sum ∧ Hid (readL l = rdF (5 - k) k sum (l.drop k))) (fun _ _ c => 5 - (intOf c).toNat)
    case atStart => exact ⟨0, 0, by omega, by omega, by show 0 < 128 ^ 0; omega, rfl, rfl, rfl⟩
    case round =>
      obtain ⟨k, sum, hk5, hkl, hsum, rfl, rfl, hres⟩ := hrel
      by_cases hlt : k < 5 ∧ k < l.length
      · obtain ⟨hlt5, hltl⟩ := hlt
        have hC : ((ByteArray.mk l.toArray)[k]'hltl).toNat < 256 := UInt8.toNat_lt _
        have hd := List.drop_eq_getElem_cons hltl
        rw [← at_bytes l k hltl hltl] at hd
        have hS := sum_more ((ByteArray.mk l.toArray)[k]'hltl).toNat k sum hC hlt5 hsum.out
        have hA := and_more ((ByteArray.mk l.toArray)[k]'hltl).toNat hC
        have hN := sum_lt (x := ((ByteArray.mk l.toArray)[k]'hltl).toNat % 128) (by omega) hsum.out
        obtain ⟨f, hf⟩ : ∃ f, Hid (5 - k = f + 1) := ⟨4 - k, by show _ = _; omega⟩
        have hf' : 5 - (k + 1) = f := by have := hf.out; omega
        rw [hd, hf.out] at hres
        have HF := Lib.hid hf'
        clear hf' hf hd hsum h5
        generalize hnew : sum + ((ByteArray.mk l.toArray)[k]'hltl).toNat % 128 * 128 ^ k = new at *
        have HN := Lib.hid hN
        have HNEW := Lib.hid hnew
        clear hN hnew
        cases hm : decide (128 ≤ ((ByteArray.mk l.toArray)[k]'hltl).toNat)
        · rw [hm] at hA
          have hm' : ¬ 128 ≤ ((ByteArray.mk l.toArray)[k]'hltl).toNat := by simpa using hm
          by_cases hb : (new : Int) ≤ 4294967295
          · by_cases hk0 : (0 : Int) < k
            · cases hz : (((((ByteArray.mk l.toArray)[k]'hltl).toNat : Nat) : Int) == 0)
              · go_wp2
                go_ret3
                refine ⟨?_, rfl⟩
                rw [hres.out, rdF, if_neg hm', HNEW.out, if_neg (by rw [beq_eq_false_iff_ne] at hz; omega)]
                rfl
              · go_wp2
                go_ret3
                refine ⟨?_, rfl⟩
                rw [hres.out, rdF, if_neg hm', HNEW.out, if_pos (by rw [beq_iff_eq] at hz; omega)]
                rfl
            · go_wp2
              go_ret3
              refine ⟨?_, rfl⟩
              rw [hres.out, rdF, if_neg hm', HNEW.out, if_neg (by omega)]
              rfl
          · go_wp2
            go_ret3
            refine ⟨?_, rfl⟩
            rw [hres.out, rdF, if_neg hm', HNEW.out, if_pos (by omega)]
            rfl
        · rw [hm] at hA
          go_wp2
          go_round
          case rel =>
            refine ⟨k + 1, new, by omega, by omega, HN.out, by go_num, rfl, ?_⟩
            have := hres.out
            rw [rdF, if_pos (by simpa using hm), HNEW.out, ← HF.out] at this
            exact this
          case measure => simp [intOf]; omega
      · have hend : rdF (5 - k) k sum (l.drop k) = none := by
          rcases Nat.lt_or_ge k 5 with h | h
          · rw [List.drop_eq_nil_of_le (by omega), show 5 - k = (4 - k) + 1 from by omega]; rfl
          · rw [show 5 - k = 0 from by omega]; rfl
        rw [hend] at hres
        clear hend
        go_wp2
        go_ret3
        refine ⟨?_, rfl⟩
        rw [hres.out]
        rfl
end Go.Proofs.YtkdeokgkjmboeaaGreatDoor
