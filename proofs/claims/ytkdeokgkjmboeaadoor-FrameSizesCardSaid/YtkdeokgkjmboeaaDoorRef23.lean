/- Reference 23: Number, ReadNumber, the bytes of atoms. -/
import Derived.Test.YtkdeokgkjmboeaaDoorCertNumW
import Derived.Test.YtkdeokgkjmboeaaDoorCertRdW
import Derived.Test.YtkdeokgkjmboeaaDoorCertQ
import Derived.Test.YtkdeokgkjmboeaaDoorCertA
import Derived.Deep.RegionHeld3
import Derived.Deep.QuietTactic
import Derived.BigQuiet
namespace Go.Proofs.YtkdeokgkjmboeaaDoor
open Go.RowKit

theorem and_u32 (a b : Nat) (ha : a < 4294967296) (hb : b < 4294967296) : bits BinOp.and IntKind.u32 (a : Int) (b : Int) = ((a &&& b : Nat) : Int) := by
  have hx : a &&& b < 2 ^ 32 := Nat.and_lt_two_pow _ (by omega)
  have h1 : (BitVec.ofInt 32 (a : Int)).toNat = a := by
    rw [BitVec.ofInt_natCast, BitVec.toNat_ofNat]; exact Nat.mod_eq_of_lt (by omega)
  have h2 : (BitVec.ofInt 32 (b : Int)).toNat = b := by
    rw [BitVec.ofInt_natCast, BitVec.toNat_ofNat]; exact Nat.mod_eq_of_lt (by omega)
  show IntKind.u32.wrap ((BitVec.ofInt 32 (a : Int) &&& BitVec.ofInt 32 (b : Int)).toNat : Int) = _
  rw [BitVec.toNat_and, h1, h2]
  exact IntWalk.u32_in _ (by omega)
theorem and_127 {k : Nat} (hk : k < 4294967296) : bits BinOp.and IntKind.u32 (k : Int) 127 = ((k % 128 : Nat) : Int) := by
  have h := and_u32 k 127 hk (by omega)
  have e : (127 : Nat) = 2 ^ 7 - 1 := rfl
  rw [e, Nat.and_two_pow_sub_one_eq_mod] at h
  exact h
theorem rmore_b {k : Nat} (hk : k < 4294967296) : bits BinOp.or IntKind.u8 (bits BinOp.and IntKind.u32 (k : Int) 127 % 256) 128 = ((k % 128 + 128 : Nat) : Int) := by
  rw [and_127 hk]
  have h := or_more' (k % 128)
  rw [h]
  congr 2
  omega
set_option maxHeartbeats 400000 in
set_option maxRecDepth 100000 in
theorem rnumber_any (n : Nat) (w : World) (hn : n < 4294967296) :
    Calls Tryd.prog 13 #[.int .u32 n] w fun e w' => e = .returned (.string ⟨(numL n).toArray⟩) ∧ Since w w' := by
  obtain ⟨i0, hi, hz0, hz1, hz2⟩ := info_parts infoU8
  go_enter Tryd.func13, Tryd.ntmps13
  go_wp2
  go_loopw [0, 3] (fun i v wr => ∃ (f k : Nat) (L : List UInt8), Hid (k < 128 ^ (f + 1)) ∧ k < 4294967296 ∧ i = .int .u32 k ∧ L.length + f = 4 ∧ Hid (numL n = L ++ numF f k) ∧ wr.ownsRow w.heap.size 5 1 v L.length (L.map u8V) ∧ Below w.heap.size w wr) (fun i _ _ => (intOf i).toNat)
  case atStart => exact ⟨4, n, [], (by show n < 128 ^ 5; omega), hn, rfl, rfl, rfl, ⟨rfl, .inl ⟨rfl, rfl⟩⟩, Below.refl _ _⟩
  case round =>
    obtain ⟨f, k, L, hk, hk2, rfl, hf, hR, hown, hB⟩ := hrel
    have HF := Lib.hid hf
    have HI := Lib.hid (And.intro hi (And.intro hz0 (And.intro hz1 hz2)))
    clear hf hi hz0 hz1 hz2 hn
    by_cases h1 : (k : Int) < 128
    · go_wp2_with (at_builtin; refine wpList_append_own _ rfl (.tmp 15) (.tmp 18) 61 rfl w.heap.size 5 i0 (.int .u8 0) 1 1 Tryd.underlying61 HI.out.1 HI.out.2.1 HI.out.2.2.1 HI.out.2.2.2 rfl (by decide) _ L.length (L.map u8V) rfl (hown.alloc _) ⟨wr.heap.size, 0, none⟩ 1 1 [_] rfl rfl (cell_one_new _ _ _) ?c1 ?c2 ?c3 ?c4 ?_)
      case c1 => simp [Value.oneCell']
      case c2 => have := HF.out; unfold maxLen; omega
      case c3 => have := HF.out; omega
      case c4 => have := hB.size; simp; omega
      intro v' w1 hown' hgrow _
      have hB1 := below_append hB hB.size hown hgrow
      have hrow := row_of_own hown'
      rw [u8_of (by omega), show (List.map u8V L ++ [u8V (UInt8.ofNat k)]) = (L ++ [UInt8.ofNat k]).map u8V from by simp] at hrow
      have hconv := conv_row hrow (by simp)
      clear hown hown' hgrow hrow hB
      go_wp2
      go_ret
      refine ⟨ret_str ?_, hB1⟩
      rw [hR.out, numF_small (by omega)]
    · go_wp2_with (at_builtin; refine wpList_append_own _ rfl (.tmp 6) (.tmp 11) 61 rfl w.heap.size 5 i0 (.int .u8 0) 1 1 Tryd.underlying61 HI.out.1 HI.out.2.1 HI.out.2.2.1 HI.out.2.2.2 rfl (by decide) _ L.length (L.map u8V) rfl (hown.alloc _) ⟨wr.heap.size, 0, none⟩ 1 1 [_] rfl rfl (cell_one_new _ _ _) ?d1 ?d2 ?d3 ?d4 ?_)
      case d1 => simp [Value.oneCell']
      case d2 => have := HF.out; unfold maxLen; omega
      case d3 => have := HF.out; omega
      case d4 => have := hB.size; simp; omega
      intro v' w1 hown' hgrow _
      have hB1 := below_append hB hB.size hown hgrow
      rw [rmore_b (by omega), u8_of (by omega), show (List.map u8V L ++ [u8V (UInt8.ofNat (k % 128 + 128))]) = (L ++ [UInt8.ofNat (k % 128 + 128)]).map u8V from by simp] at hown'
      have hf1 := HF.out
      have hk' := hk.out
      cases f with
      | zero => exfalso; simp at hk'; omega
      | succ f =>
        have hR' : Hid (numL n = (L ++ [UInt8.ofNat (k % 128 + 128)]) ++ numF f (k / 128)) := by
          rw [hR.out, numF_big (by omega), List.append_assoc]; rfl
        have hk3 : Hid (k / 128 < 128 ^ (f + 1)) := by
          rw [Nat.pow_succ] at hk'
          exact Nat.div_lt_of_lt_mul (by rw [Nat.mul_comm]; exact hk')
        have hk4 : k / 128 < 4294967296 := by omega
        clear hown hgrow hB hR hk hk' hf1
        go_wp2
        go_roundw
        case rel => exact ⟨f, k / 128, L ++ [UInt8.ofNat (k % 128 + 128)], hk3, hk4, by go_num, by have := HF.out; simp; omega, hR', by simpa using hown', hB1⟩
        case measure => simp [intOf]; omega
theorem read_take {l : List UInt8} {n k : Nat} (h : readL l = some (n, k)) : numL n = l.take k ∧ n < 4294967296 := by
  obtain ⟨m, r, h1, h2, h3, h4, h5⟩ := rdF_back 5 0 0 l n k h
  rw [Nat.pow_zero, Nat.mul_one, Nat.zero_add] at h2
  rw [Nat.zero_add] at h3
  subst h2
  have e : numF (5 - 1) n = numL n := rfl
  rw [e] at h1 h3
  refine ⟨?_, by omega⟩
  rw [h1, h3]
  exact (List.take_left' rfl).symm
theorem take_read {l : List UInt8} {n k : Nat} (hn : n < 4294967296) (hk : k ≤ l.length) (h : numL n = l.take k) : readL l = some (n, k) := by
  have h1 := read_num n (l.drop k) hn
  rw [h, List.take_append_drop, List.length_take, Nat.min_eq_left hk] at h1
  exact h1
theorem and_7f_all : ((List.range 256).all fun x => decide (bits BinOp.and IntKind.u8 (x : Int) 127 = ((x % 128 : Nat) : Int))) = true := by decide +kernel
theorem and_7f (c : Nat) (h : c < 256) : bits BinOp.and IntKind.u8 (c : Int) 127 = ((c % 128 : Nat) : Int) := by
  have h := List.all_eq_true.1 and_7f_all c (List.mem_range.2 h)
  rwa [decide_eq_true_eq] at h
theorem rsum_more (c k sum : Nat) (hc : c < 256) (hk : k < 5) (hs : sum < 128 ^ k) :
    bits BinOp.or IntKind.u64 (sum : Int) (IntKind.u64.wrap (IntKind.u64.wrap (bits BinOp.and IntKind.u8 (c : Int) 127) * 2 ^ (7 * k))) = ((sum + c % 128 * 128 ^ k : Nat) : Int) := by
  have h := sum_more c k sum hc hk hs
  rw [andNot_more c hc] at h
  rw [and_7f c hc]
  exact h
end Go.Proofs.YtkdeokgkjmboeaaDoor
