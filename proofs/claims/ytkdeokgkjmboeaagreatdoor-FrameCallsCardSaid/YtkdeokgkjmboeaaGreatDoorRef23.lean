/- Reference 23: Number, ReadNumber, the bytes of atoms. -/
import Derived.Test.YtkdeokgkjmboeaaGreatDoorCertNumW
import Derived.Test.YtkdeokgkjmboeaaGreatDoorCertRdW
import Derived.Test.YtkdeokgkjmboeaaGreatDoorCertQ
import Derived.Test.YtkdeokgkjmboeaaGreatDoorCertA
import Derived.Deep.RegionHeld3
import Derived.Deep.QuietTactic
import Derived.BigQuiet
namespace Go.Proofs.YtkdeokgkjmboeaaGreatDoor
open Go.RowKit

theorem and_u32 (a b : Nat) (ha : a < 4294967296) (hb : b < 4294967296) : bits BinOp.and IntKind.u32 (a : Int) (b : Int) = ((a &&& b : Nat) : Int) := by
  have hx : a &&& b < 2 ^ 32 := Nat.and_lt_two_pow _ (by omega)
  have h1 : (BitVec.ofInt 32 (a : Int)).toNat = a := by
    rw [BitVec.ofInt_natCast, BitVec.toNat_ofNat]; exact Nat.mod_eq_of_lt (by omega)
  have h2 : (BitVec.ofInt 32 (b : Int)).toNat = b := by
    rw [BitVec.ofInt_natCast, BitVec.toNat_ofNat]; exact Nat.mod_eq_of_lt (by omega)
  show IntKind.u32.wrap ((BitVec.ofInt 32 (a : Int) &&& BitVec.ofInt 32 (b : Int)).toNat : Int) = _
  rw [BitVec.toNat_and, h1, h2]
  exact IntWalk.u32_in _ (by omega)
theorem and_127 {k : Nat} (hk : k < 4294967296) : bits BinOp.and IntKind.u32 (k : Int) 127 = ((k % 128 : Nat) : Int) := by
  have h := and_u32 k 127 hk (by omega)
  have e : (127 : Nat) = 2 ^ 7 - 1 := rfl
  rw [e, Nat.and_two_pow_sub_one_eq_mod] at h
  exact h
theorem rmore_b {k : Nat} (hk : k < 4294967296) : bits BinOp.or IntKind.u8 (bits BinOp.and IntKind.u32 (k : Int) 127 % 256) 128 = ((k % 128 + 128 : Nat) : Int) := by
  rw [and_127 hk]
  have h := or_more' (k % 128)
  rw [h]
  congr 2
  omega
set_option maxHeartbeats 400000 in
set_option maxRecDepth 100000 in
theorem rnumber_any (n : Nat) (w : World) (hn : n < 4294967296) :
    Calls Tryz.prog 33 #[.int .u32 n] w fun e w' => e = .returned (.string ⟨(numL n).toArray⟩) ∧ Since w w' := by
  obtain ⟨i0, hi, hz0, hz1, hz2⟩ := info_parts infoU8
  go_enter Tryz.func33, Tryz.ntmps33
  go_wp2
  go_loopw [0, 3] (fun i v wr => ∃ (f k : Nat) (L : List UInt8), Hid (k < 128 ^ (f + 1)) ∧ k < 4294967296 ∧ i = .int .u32 k ∧ L.length + f = 4 ∧ Hid (numL n = L ++ numF f k) ∧ wr.ownsRow w.heap.size 5 1 v L.length (L.map u8V) ∧ Below w.heap.size w wr) (fun i _ _ => (intOf i).toNat)
  case atStart => exact ⟨4, n, [], (by show n < 128 ^ 5; omega), hn, rfl, rfl, rfl, ⟨rfl, .inl ⟨rfl, rfl⟩⟩, Below.refl _ _⟩
  case round =>
    obtain ⟨f, k, L, hk, hk2, rfl, hf, hR, hown, hB⟩ := hrel
    have HF := Lib.hid hf
    have HI := Lib.hid (And.intro hi (And.intro hz0 (And.intro hz1 hz2)))
    clear hf hi hz0 hz1 hz2 hn
    by_cases h1 : (k : Int) < 128
    · go_wp2_with (at_builtin; refine wpList_append_own _ rfl (.tmp 15) (.tmp 18) 50 rfl w.heap.size 5 i0 (.int .u8 0) 1 1 Tryz.underlying50 HI.out.1 HI.out.2.1 HI.out.2.2.1 HI.out.2.2.2 rfl (by decide) _ L.length (L.map u8V) rfl (hown.alloc _) ⟨wr.heap.size, 0, none⟩ 1 1 [_] rfl rfl (cell_one_new _ _ _) ?c1 ?c2 ?c3 ?c4 ?_)
      case c1 => simp [Value.oneCell']
      case c2 => have := HF.out; unfold maxLen; omega
      case c3 => have := HF.out; omega
      case c4 => have := hB.size; simp; omega
      intro v' w1 hown' hgrow _
      have hB1 := below_append hB hB.size hown hgrow
      have hrow := row_of_own hown'
      rw [u8_of (by omega), show (List.map u8V L ++ [u8V (UInt8.ofNat k)]) = (L ++ [UInt8.ofNat k]).map u8V from by simp] at hrow
      have hconv := conv_row hrow (by simp)
      clear hown hown' hgrow hrow hB
      go_wp2
      go_ret
      refine ⟨ret_str ?_, hB1⟩
      rw [hR.out, numF_small (by omega)]
    · go_wp2_with (at_builtin; refine wpList_append_own _ rfl (.tmp 6) (.tmp 11) 50 rfl w.heap.size 5 i0 (.int .u8 0) 1 1 Tryz.underlying50 HI.out.1 HI.out.2.1 HI.out.2.2.1 HI.out.2.2.2 rfl (by decide) _ L.length (L.map u8V) rfl (hown.alloc _) ⟨wr.heap.size, 0, none⟩ 1 1 [_] rfl rfl (cell_one_new _ _ _) ?d1 ?d2 ?d3 ?d4 ?_)
      case d1 => simp [Value.oneCell']
      case d2 => have := HF.out; unfold maxLen; omega
      case d3 => have := HF.out; omega
      case d4 => have := hB.size; simp; omega
      intro v' w1 hown' hgrow _
      have hB1 := below_append hB hB.size hown hgrow
      rw [rmore_b (by omega), u8_of (by omega), show (List.map u8V L ++ [u8V (UInt8.ofNat (k % 128 + 128))]) = (L ++ [UInt8.ofNat (k % 128 + 128)]).map u8V from by simp] at hown'
      have hf1 := HF.out
      have hk' := hk.out
      cases f with
      | zero => exfalso; simp at hk'; omega
      | succ f =>
        have hR' : Hid (numL n = (L ++ [UInt8.ofNat (k % 128 + 128)]) ++ numF f (k / 128)) := by
          rw [hR.out, numF_big (by omega), List.append_assoc]; rfl
        have hk3 : Hid (k / 128 < 128 ^ (f + 1)) := by
          rw [Nat.pow_succ] at hk'
          exact Nat.div_lt_of_lt_mul (by rw [Nat.mul_comm]; exact hk')
        have hk4 : k / 128 < 4294967296 := by omega
        clear hown hgrow hB hR hk hk' hf1
        go_wp2
        go_roundw
        case rel => exact ⟨f, k / 128, L ++ [UInt8.ofNat (k % 128 + 128)], hk3, hk4, by go_num, by have := HF.out; simp; omega, hR', by simpa using hown', hB1⟩
        case measure => simp [intOf]; omega
theorem read_take {l : List UInt8} {n k : Nat} (h : readL l = some (n, k)) : numL n = l.take k ∧ n < 4294967296 := by
  obtain ⟨m, r, h1, h2, h3, h4, h5⟩ := rdF_back 5 0 0 l n k h
  rw [Nat.pow_zero, Nat.mul_one, Nat.zero_add] at h2
  rw [Nat.zero_add] at h3
  subst h2
  have e : numF (5 - 1) n = numL n := rfl
  rw [e] at h1 h3
  refine ⟨?_, by omega⟩
  rw [h1, h3]
  exact (List.take_left' rfl).symm
theorem take_read {l : List UInt8} {n k : Nat} (hn : n < 4294967296) (hk : k ≤ l.length) (h : numL n = l.take k) : readL l = some (n, k) := by
  have h1 := read_num n (l.drop k) hn
  rw [h, List.take_append_drop, List.length_take, Nat.min_eq_left hk] at h1
  exact h1
theorem and_7f_all : ((List.range 256).all fun x => decide (bits BinOp.and IntKind.u8 (x : Int) 127 = ((x % 128 : Nat) : Int))) = true := by decide +kernel
theorem and_7f (c : Nat) (h : c < 256) : bits BinOp.and IntKind.u8 (c : Int) 127 = ((c % 128 : Nat) : Int) := by
  have h := List.all_eq_true.1 and_7f_all c (List.mem_range.2 h)
  rwa [decide_eq_true_eq] at h
theorem rsum_more (c k sum : Nat) (hc : c < 256) (hk : k < 5) (hs : sum < 128 ^ k) :
    bits BinOp.or IntKind.u64 (sum : Int) (IntKind.u64.wrap (IntKind.u64.wrap (bits BinOp.and IntKind.u8 (c : Int) 127) * 2 ^ (7 * k))) = ((sum + c % 128 * 128 ^ k : Nat) : Int) := by
  have h := sum_more c k sum hc hk hs
  rw [andNot_more c hc] at h
  rw [and_7f c hc]
  exact h
set_option maxHeartbeats 1000000 in
set_option maxRecDepth 100000 in
theorem rreadnum_any (l : List UInt8) (w : World) (hl : l.length ≤ 1000000) :
    Calls Tryz.prog 55 #[.string ⟨l.toArray⟩] w fun e w' => e = .returned (rdV (readL l)) ∧ Since w w' := by
  go_enter Tryz.func55, Tryz.ntmps55
  go_wp2_with fail
  go_loop [5, 6] (fun s c => ∃ k sum : Nat, k ≤ 5 ∧ k ≤ l.length ∧ Hid (sum < 128 ^ k) ∧ c = .int .i64 k ∧ s = .int .u64 sum ∧ Hid (readL l = rdF (5 - k) k sum (l.drop k))) (fun _ c => 5 - (intOf c).toNat)
  case atStart => exact ⟨0, 0, by omega, by omega, by show 0 < 128 ^ 0; omega, rfl, rfl, rfl⟩
  case round =>
    obtain ⟨k, sum, hk5, hkl, hsum, rfl, rfl, hres⟩ := hrel
    by_cases hlt : k < 5 ∧ k < l.length
    · obtain ⟨hlt5, hltl⟩ := hlt
      have hC : ((ByteArray.mk l.toArray)[k]'hltl).toNat < 256 := UInt8.toNat_lt _
      have hd := List.drop_eq_getElem_cons hltl
      rw [← at_bytes l k hltl hltl] at hd
      have hS := rsum_more ((ByteArray.mk l.toArray)[k]'hltl).toNat k sum hC hlt5 hsum.out
      have hN := sum_lt (x := ((ByteArray.mk l.toArray)[k]'hltl).toNat % 128) (by omega) hsum.out
      obtain ⟨f, hf⟩ : ∃ f, Hid (5 - k = f + 1) := ⟨4 - k, by show _ = _; omega⟩
      have hf' : 5 - (k + 1) = f := by have := hf.out; omega
      have h7 : IntKind.i64.wrap (7 * (k : Int)) = 7 * (k : Int) := IntWalk.i64_in _ (by omega)
      rw [hd, hf.out] at hres
      have HF := Lib.hid hf'
      clear hf' hf hd hsum
      generalize hnew : sum + ((ByteArray.mk l.toArray)[k]'hltl).toNat % 128 * 128 ^ k = new at *
      have HN := Lib.hid hN
      have HNEW := Lib.hid hnew
      clear hN hnew
      by_cases hm : 128 ≤ ((ByteArray.mk l.toArray)[k]'hltl).toNat
      · have hA : decide (((((ByteArray.mk l.toArray)[k]'hltl).toNat : Nat) : Int) < 128) = false := by simp; omega
        go_wp2_with fail
        go_round
        case rel =>
          refine ⟨k + 1, new, by omega, by omega, HN.out, by go_num, rfl, ?_⟩
          have := hres.out
          rw [rdF, if_pos (by simpa using hm), HNEW.out, ← HF.out] at this
          exact this
        case measure => simp [intOf]; omega
      · have hA : decide (((((ByteArray.mk l.toArray)[k]'hltl).toNat : Nat) : Int) < 128) = true := by simp; omega
        have HP : Hid (∀ W, readL l = none → Since w W → (Ending.returned (.tuple #[.int .u32 0, .int .i64 0, .int .i64 15]) = .returned (rdV (readL l)) ∧ Since w W)) := fun W h hs => ⟨by rw [h]; rfl, hs⟩
        have HQ : Hid (∀ W, readL l = some (new, k + 1) → Since w W → (Ending.returned (.tuple #[.int .u32 (new : Int), .int .i64 ((k : Int) + 1), .int .i64 0]) = .returned (rdV (readL l)) ∧ Since w W)) := fun W h hs => ⟨by rw [h, rdV, Int.natCast_add]; rfl, hs⟩
        by_cases hb : (new : Int) ≤ 4294967295
        · have hb' : decide ((4294967295 : Int) < (new : Int)) = false := by simp; omega
          have hk1 : IntKind.i64.wrap ((k : Int) + 1) = (k : Int) + 1 := IntWalk.i64_in _ (by omega)
          have hk2 : ((k : Int) + 1) ≤ (l.length : Int) := by omega
          have hk3 : (0 : Int) ≤ (k : Int) + 1 := by omega
          have hk4 : ((k : Int) + 1).toNat = k + 1 := by omega
          have hwr : IntKind.u32.wrap (new : Int) = (new : Int) := IntWalk.u32_in _ (by omega)
          have HNB := Lib.hid (fun W => rnumber_any new W (by omega))
          have hsl := ext_bytes l 0 (k + 1)
          rw [List.drop_zero] at hsl
          obtain ⟨X, hX⟩ : ∃ X, Hid (X = numL new) := ⟨_, rfl⟩
          rw [← hX.out] at HNB
          by_cases hr : readL l = some (new, k + 1)
          · have he : (X == l.take (k + 1)) = true := by rw [hX.out, (read_take hr).1]; simp
            have HR := Lib.hid hr
            clear hr hres HP hX
            generalize l.take (k + 1) = Y at *
            go_wp2_with fail
            have hS0 := Since.refl w
            go_region_held3 (fun w' => Since w w')
              (first | assumption | (refine Since.drew ?_; assumption) | (refine Since.trans ?_ hb; assumption))
              (first | (go_at_call 33; ((with_reducible refine (HNB.out _).mono ?_); rintro e w2 ⟨rfl, hb⟩)))
            go_wp2_with fail
            go_ret3
            exact HQ.out _ HR.out (by assumption)
          · have he : (X == l.take (k + 1)) = false := by
              rw [beq_eq_false_iff_ne, hX.out]
              exact fun h => hr (take_read (by omega) (by omega) h)
            have hno : Hid (readL l = none) := by
              show _ = _
              have h := hres.out
              rw [rdF, if_neg hm, HNEW.out] at h
              split at h
              · exact h
              · exact absurd h hr
            clear hr hres HQ hX
            generalize l.take (k + 1) = Y at *
            go_wp2_with fail
            have hS0 := Since.refl w
            go_region_held3 (fun w' => Since w w')
              (first | assumption | (refine Since.drew ?_; assumption) | (refine Since.trans ?_ hb; assumption))
              (first | (go_at_call 33; ((with_reducible refine (HNB.out _).mono ?_); rintro e w2 ⟨rfl, hb⟩)))
            go_wp2_with fail
            go_ret3
            exact HP.out _ hno.out (by assumption)
        · have hb' : decide ((4294967295 : Int) < (new : Int)) = true := by simp; omega
          have hno : Hid (readL l = none) := by
            show _ = _
            rw [hres.out, rdF, if_neg hm, HNEW.out, if_pos (by omega)]
          clear hres HQ
          go_wp2_with fail
          go_quiet (fail)
          go_wp2_with fail
          go_ret3
          exact HP.out _ hno.out ((Since.refl w).drewN _)
    · have hend : rdF (5 - k) k sum (l.drop k) = none := by
        rcases Nat.lt_or_ge k 5 with h | h
        · rw [List.drop_eq_nil_of_le (by omega), show 5 - k = (4 - k) + 1 from by omega]; rfl
        · rw [show 5 - k = 0 from by omega]; rfl
      rw [hend] at hres
      clear hend
      have HP : Hid (Ending.returned (.tuple #[.int .u32 0, .int .i64 0, .int .i64 15]) = .returned (rdV (readL l)) ∧ Since w w) := ⟨by rw [hres.out]; rfl, Since.refl w⟩
      by_cases hkl2 : k < l.length
      · have h5 : ¬ k < 5 := fun h => hlt ⟨h, hkl2⟩
        go_wp2_with fail
        go_ret3
        exact HP.out
      · go_wp2_with fail
        go_ret3
        exact HP.out
end Go.Proofs.YtkdeokgkjmboeaaGreatDoor
