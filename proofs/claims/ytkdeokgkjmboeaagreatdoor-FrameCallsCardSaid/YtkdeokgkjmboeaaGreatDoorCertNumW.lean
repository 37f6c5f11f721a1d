/- cert.Number: a number's bytes are numL of it. -/
import Derived.Test.YtkdeokgkjmboeaaGreatDoorNum
import Derived.Test.YtkdeokgkjmboeaaGreatDoorConv
namespace Go.Proofs.YtkdeokgkjmboeaaGreatDoor
open Go.RowKit

theorem infoU8 : (Tryz.prog.info? 5).map (fun i => (i.zero, i.size, i.bytes)) = some (some (.int .u8 0), 1, 1) := by kernel_rfl
theorem u8_of {k : Nat} (h : k < 256) : Value.int .u8 (k : Int) = u8V (UInt8.ofNat k) := by
  rw [u8V, UInt8.toNat_ofNat', Nat.mod_eq_of_lt (by omega)]

theorem or_all : ((List.range 256).all fun x => decide (bits BinOp.or IntKind.u8 (x : Int) 128 = ((x % 128 + 128 : Nat) : Int))) = true := by decide +kernel
theorem or_more' (k : Nat) : bits BinOp.or IntKind.u8 ((k : Int) % 256) 128 = ((k % 128 + 128 : Nat) : Int) := by
  have h := List.all_eq_true.1 or_all (k % 256) (List.mem_range.2 (by omega))
  rw [decide_eq_true_eq] at h
  rw [show ((k : Int) % 256) = ((k % 256 : Nat) : Int) from by omega, h]
  omega

set_option maxHeartbeats 400000 in
set_option maxRecDepth 100000 in
theorem number_any (n : Nat) (w : World) (hn : n < 4294967296) :
    Calls Tryz.prog 43 #[.int .u32 n] w fun e w' => e = .returned (.string ⟨(numL n).toArray⟩) ∧ Since w w' := by
  obtain ⟨i0, hi, hz0, hz1, hz2⟩ := info_parts infoU8
  go_enter Tryz.func43, Tryz.ntmps43
  go_wp2
  go_loopw [0, 3] (fun i v wr => ∃ (f k : Nat) (L : List UInt8), Hid (k < 128 ^ (f + 1)) ∧ k < 4294967296 ∧ i = .int .u32 k ∧ L.length + f = 4 ∧ Hid (numL n = L ++ numF f k) ∧ wr.ownsRow w.heap.size 5 1 v L.length (L.map u8V) ∧ Below w.heap.size w wr) (fun i _ _ => (intOf i).toNat)
  case atStart => exact ⟨4, n, [], (by show n < 128 ^ 5; omega), hn, rfl, rfl, rfl, ⟨rfl, .inl ⟨rfl, rfl⟩⟩, Below.refl _ _⟩
  case round =>
    obtain ⟨f, k, L, hk, hk2, rfl, hf, hR, hown, hB⟩ := hrel
    have HF := Lib.hid hf
    have HI := Lib.hid (And.intro hi (And.intro hz0 (And.intro hz1 hz2)))
    clear hf hi hz0 hz1 hz2 hn
    by_cases h1 : (k : Int) < 128
    · go_wp2_with (at_builtin; refine wpList_append_own _ rfl (.tmp 14) (.tmp 17) 50 rfl w.heap.size 5 i0 (.int .u8 0) 1 1 Tryz.underlying50 HI.out.1 HI.out.2.1 HI.out.2.2.1 HI.out.2.2.2 rfl (by decide) _ L.length (L.map u8V) rfl (hown.alloc _) ⟨wr.heap.size, 0, none⟩ 1 1 [_] rfl rfl (cell_one_new _ _ _) ?c1 ?c2 ?c3 ?c4 ?_)
      case c1 => simp [Value.oneCell']
      case c2 => have := HF.out; unfold maxLen; omega
      case c3 => have := HF.out; omega
      case c4 => have := hB.size; simp; omega
      intro v' w1 hown' hgrow _
      have hB1 := below_append hB hB.size hown hgrow
      have hrow := row_of_own hown'
      rw [u8_of (by omega), show (List.map u8V L ++ [u8V (UInt8.ofNat k)]) = (L ++ [UInt8.ofNat k]).map u8V from by simp] at hrow
      have hconv := conv_row hrow (by simp)
      clear hown hown' hgrow hrow hB
      go_wp2
      go_ret
      refine ⟨ret_str ?_, hB1⟩
      rw [hR.out, numF_small (by omega)]
    · go_wp2_with (at_builtin; refine wpList_append_own _ rfl (.tmp 8) (.tmp 12) 50 rfl w.heap.size 5 i0 (.int .u8 0) 1 1 Tryz.underlying50 HI.out.1 HI.out.2.1 HI.out.2.2.1 HI.out.2.2.2 rfl (by decide) _ L.length (L.map u8V) rfl (hown.alloc _) ⟨wr.heap.size, 0, none⟩ 1 1 [_] rfl rfl (cell_one_new _ _ _) ?d1 ?d2 ?d3 ?d4 ?_)
      case d1 => simp [Value.oneCell']
      case d2 => have := HF.out; unfold maxLen; omega
      case d3 => have := HF.out; omega
      case d4 => have := hB.size; simp; omega
      intro v' w1 hown' hgrow _
      have hB1 := below_append hB hB.size hown hgrow
      rw [or_more', u8_of (by omega), show (List.map u8V L ++ [u8V (UInt8.ofNat (k % 128 + 128))]) = (L ++ [UInt8.ofNat (k % 128 + 128)]).map u8V from by simp] at hown'
      have hf1 := HF.out
      have hk' := hk.out
      cases f with
      | zero => exfalso; simp at hk'; omega
      | succ f =>
        have hR' : Hid (numL n = (L ++ [UInt8.ofNat (k % 128 + 128)]) ++ numF f (k / 128)) := by
          rw [hR.out, numF_big (by omega), List.append_assoc]; rfl
        have hk3 : Hid (k / 128 < 128 ^ (f + 1)) := by
          rw [Nat.pow_succ] at hk'
          exact Nat.div_lt_of_lt_mul (by rw [Nat.mul_comm]; exact hk')
        have hk4 : k / 128 < 4294967296 := by omega
        clear hown hgrow hB hR hk hk' hf1
        go_wp2
        go_roundw
        case rel => exact ⟨f, k / 128, L ++ [UInt8.ofNat (k % 128 + 128)], hk3, hk4, by go_num, by have := HF.out; simp; omega, hR', by simpa using hown', hB1⟩
        case measure => simp [intOf]; omega
end Go.Proofs.YtkdeokgkjmboeaaGreatDoor
