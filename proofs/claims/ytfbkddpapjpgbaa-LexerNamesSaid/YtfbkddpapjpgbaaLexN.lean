/- LexerNames returns true. -/
import Derived.Test.YtfbkddpapjpgbaaStSame
import Derived.Test.YtfbkddpapjpgbaaTimes
import Derived.Test.YtfbkddpapjpgbaaLexL
import Derived.Test.YtfbkddpapjpgbaaLexT
namespace Go.Proofs.Ytfbkddpapjpgbaa
open Go.RowKit
attribute [local go_sem ↓] run_tokEq run_stEq

theorem n_1 : toksL [97, 66, 32, 57, 120, 95, 46, 37, 120, 10, 63, 9, 13] = (([(1, [97], 0), (2, [66], 1), (1, [57, 120, 95], 3), (3, [46], 6), (3, [63], 10)] : List Tk), none) := by kernel_rfl
theorem n_2 : toksL [95, 97] = ([], some (0, 3)) := by kernel_rfl
theorem n_3 : toksL (32 :: timesL [97] 256) = ([], some (1, 4)) := by decide +kernel
theorem skip_blanks : ∀ n : Nat, skipN false (timesL [32] n) = n
  | 0 => rfl
  | n + 1 => by
    rw [timesL_succ]
    show (if blankB ((32 : UInt8).toNat : Int) then 1 + skipN false (timesL [32] n) else _) = n + 1
    rw [if_pos (by decide), skip_blanks n]
    omega
theorem n_5 (n : Nat) : toksL (timesL [32] n) = ([], none) := by
  rw [toksL, toksF]
  have h : (timesL [32] n).drop (skipN false (timesL [32] n)) = [] := by
    rw [skip_blanks]
    exact List.drop_eq_nil_of_le (by rw [timesL_len]; simp)
  simp only [h]
  rfl
theorem n_6 : itemsL [97, 59] = [((1, [97], 0), 0), ((0, [], 0), 3)] := by kernel_rfl
theorem n_7 : blanksL (textsK ([(1, [97], 0), (2, [66], 1), (1, [57, 120, 95], 3), (3, [46], 6), (3, [63], 10)] : List Tk)) = [97, 32, 66, 32, 57, 120, 95, 32, 46, 32, 63] := by kernel_rfl
theorem all_long (s : List UInt8) (hl : 65536 < s.length) (hs : s.length ≤ maxLen) (W : World) :
    Calls Try.prog 11 #[.string ⟨s.toArray⟩] W fun e w' => ∃ b c, e = .returned (.tuple #[.slice b 0 c, .int .i64 65536, .int .i64 4]) ∧ Since W w' := by
  have ha : allL s = ([], 65536, 4) := by rw [allL, if_pos hl]
  have hk := all_any s W hs
  unfold AllPost at hk
  rw [ha] at hk
  refine hk.mono fun e w' ⟨v, he, ho, hS⟩ => ?_
  obtain ⟨b, c, rfl⟩ := (own_row ho).len
  exact ⟨b, c, he, hS⟩

set_option maxHeartbeats 0 in
set_option maxRecDepth 100000 in
theorem lnames_any (w : World) : Calls Try.prog 6 #[] w fun e w' => e = .returned (.bool true) ∧ Since w w' := by
  obtain ⟨R3, h3⟩ : ∃ R, Hid (R = timesL [97] 256) := ⟨_, rfl⟩
  obtain ⟨R4, h4⟩ : ∃ R, Hid (R = timesL [32] 65537) := ⟨_, rfl⟩
  obtain ⟨R5, h5⟩ : ∃ R, Hid (R = timesL [32] 65536) := ⟨_, rfl⟩
  have l3 : R3.length = 256 := by rw [h3.out, timesL_len]; rfl
  have HT3 : Hid (∀ W, Calls Try.prog 14 #[.string ⟨#[97]⟩, .int .i64 256] W fun e w' => e = .returned (.string ⟨R3.toArray⟩) ∧ W = w') := by
    intro W; rw [h3.out]; exact times_any [97] 256 W (by decide) (by decide) (by decide)
  have l4 : R4.length = 65537 := by rw [h4.out, timesL_len]; rfl
  have HT4 : Hid (∀ W, Calls Try.prog 14 #[.string ⟨#[32]⟩, .int .i64 65537] W fun e w' => e = .returned (.string ⟨R4.toArray⟩) ∧ W = w') := by
    intro W; rw [h4.out]; exact times_any [32] 65537 W (by decide) (by decide) (by decide)
  have l5 : R5.length = 65536 := by rw [h5.out, timesL_len]; rfl
  have HT5 : Hid (∀ W, Calls Try.prog 14 #[.string ⟨#[32]⟩, .int .i64 65536] W fun e w' => e = .returned (.string ⟨R5.toArray⟩) ∧ W = w') := by
    intro W; rw [h5.out]; exact times_any [32] 65536 W (by decide) (by decide) (by decide)
  obtain ⟨c3, hc3⟩ : ∃ c, Hid (c = 32 :: R3) := ⟨_, rfl⟩
  have hcat : ByteArray.mk #[32] ++ ByteArray.mk R3.toArray = ByteArray.mk c3.toArray := by rw [hc3.out]; exact cat_bytes [32] R3
  have lc3 : c3.length = 257 := by rw [hc3.out, List.length_cons, l3]
  have HA3 : Hid (∀ W, Calls Try.prog 11 #[.string ⟨c3.toArray⟩] W fun e w' => ∃ b c, e = .returned (.tuple #[.slice b 0 c, .int .i64 1, .int .i64 4]) ∧ Since W w') := by
    intro W; exact all_no (by rw [lc3]; decide) (by rw [hc3.out, h3.out]; exact n_3) W
  have HA4 : Hid (∀ W, Calls Try.prog 11 #[.string ⟨R4.toArray⟩] W fun e w' => ∃ b c, e = .returned (.tuple #[.slice b 0 c, .int .i64 65536, .int .i64 4]) ∧ Since W w') := by
    intro W; exact all_long R4 (by rw [l4]; decide) (by rw [l4]; unfold maxLen; decide) W
  have HA5 : Hid (∀ W, Calls Try.prog 11 #[.string ⟨R5.toArray⟩] W fun e w' => ∃ b c, e = .returned (.tuple #[.slice b 0 c, .int .i64 0, .int .i64 0]) ∧ Since W w') := by
    intro W; exact (all_yes (L := []) (by rw [l5]; decide) (by rw [h5.out]; exact n_5 _) W).mono (fun e w' ⟨a, c, h1, _, _, h2⟩ => ⟨a, c, h1, h2⟩)
  clear h3 h4 h5 hc3
  go_enter Try.func6, Try.ntmps6
  go_wp2_with fail
  refine (lives_any w).mono ?_
  rintro e w1 ⟨rfl, HS⟩
  go_wp2_with fail
  refine (all_yes (s := [97, 66, 32, 57, 120, 95, 46, 37, 120, 10, 63, 9, 13]) (L := ([(1, [97], 0), (2, [66], 1), (1, [57, 120, 95], 3), (3, [46], 6), (3, [63], 10)] : List Tk)) (by decide) n_1 w1).mono ?_
  rintro e w2 ⟨a1, d1, rfl, -, hr1, hb⟩
  replace HS := HS.trans hb
  clear hb
  have HR1 := Lib.hid hr1
  clear hr1
  go_wp2_with fail
  refine (all_no (s := [95, 97]) (by decide) n_2 w2).mono ?_
  rintro e w3 ⟨a2, d2, rfl, hb⟩
  replace HS := HS.trans hb
  have HR1 := Lib.hid (HR1.out.next hb)
  clear hb
  go_wp2_with fail
  refine (HT3.out w3).mono ?_
  rintro e w ⟨rfl, rfl⟩
  clear HT3
  go_wp2_with fail
  refine (HA3.out _).mono ?_
  rintro e w4 ⟨a3, d3, rfl, hb⟩
  replace HS := HS.trans hb
  have HR1 := Lib.hid (HR1.out.next hb)
  clear hb
  clear HA3
  go_wp2_with fail
  refine (HT4.out w4).mono ?_
  rintro e w ⟨rfl, rfl⟩
  clear HT4
  go_wp2_with fail
  refine (HA4.out _).mono ?_
  rintro e w5 ⟨a4, d4, rfl, hb⟩
  replace HS := HS.trans hb
  have HR1 := Lib.hid (HR1.out.next hb)
  clear hb
  clear HA4
  go_wp2_with fail
  refine (HT5.out w5).mono ?_
  rintro e w ⟨rfl, rfl⟩
  clear HT5
  go_wp2_with fail
  refine (HA5.out _).mono ?_
  rintro e w6 ⟨a5, d5, rfl, hb⟩
  replace HS := HS.trans hb
  have HR1 := Lib.hid (HR1.out.next hb)
  clear hb
  clear HA5
  go_wp2_with fail
  have HST := Lib.hid (steps_any [97, 59] (by decide) w6)
  rw [n_6] at HST
  refine HST.out.mono ?_
  clear HST
  rintro e w7 ⟨v7, rfl, hown7, hb⟩
  replace HS := HS.trans hb
  have HR1 := Lib.hid (HR1.out.next hb)
  clear hb
  obtain ⟨b7, o7, c7, rfl, hn7, hc7⟩ := (row_of_own hown7).some (by decide)
  clear hown7
  obtain ⟨x0, x1, x2, x3⟩ := st_at hc7 (i := 1) (by decide)
  simp only [List.getElem_cons_succ, List.getElem_cons_zero, Nat.one_mul] at x0 x1 x2 x3
  clear hc7
  have hz := (Since.refl w7).alloc (.cells #[.int .i64 1, .string ⟨#[97]⟩, .int .i64 0, .int .i64 2, .string ⟨#[66]⟩, .int .i64 1, .int .i64 1, .string ⟨#[57, 120, 95]⟩, .int .i64 3, .int .i64 3, .string ⟨#[46]⟩, .int .i64 6, .int .i64 3, .string ⟨#[63]⟩, .int .i64 10] 25)
  have HR1 := Lib.hid (HR1.out.next hz)
  replace HS := HS.trans hz
  replace x0 := hz.cell x0; replace x1 := hz.cell x1; replace x2 := hz.cell x2; replace x3 := hz.cell x3
  clear hz
  have hW : Row (w7.alloc (.cells #[.int .i64 1, .string ⟨#[97]⟩, .int .i64 0, .int .i64 2, .string ⟨#[66]⟩, .int .i64 1, .int .i64 1, .string ⟨#[57, 120, 95]⟩, .int .i64 3, .int .i64 3, .string ⟨#[46]⟩, .int .i64 6, .int .i64 3, .string ⟨#[63]⟩, .int .i64 10] 25)) (.slice (some ⟨w7.heap.size, 0, none⟩) 5 5) 5 (([(1, [97], 0), (2, [66], 1), (1, [57, 120, 95], 3), (3, [46], 6), (3, [63], 10)] : List Tk).flatMap tkL) := .inr ⟨_, 0, 5, rfl, by omega, fun j hj => by
    rw [World.cell?_alloc_new, Nat.zero_add]
    have e : (([(1, [97], 0), (2, [66], 1), (1, [57, 120, 95], 3), (3, [46], 6), (3, [63], 10)] : List Tk).flatMap tkL) = (#[.int .i64 1, .string ⟨#[97]⟩, .int .i64 0, .int .i64 2, .string ⟨#[66]⟩, .int .i64 1, .int .i64 1, .string ⟨#[57, 120, 95]⟩, .int .i64 3, .int .i64 3, .string ⟨#[46]⟩, .int .i64 6, .int .i64 3, .string ⟨#[63]⟩, .int .i64 10] : Array Value).toList := rfl
    simp only [e]
    exact Array.getElem?_eq_getElem _⟩
  have HSM := Lib.hid (same_tok _ _ ([(1, [97], 0), (2, [66], 1), (1, [57, 120, 95], 3), (3, [46], 6), (3, [63], 10)] : List Tk) ([(1, [97], 0), (2, [66], 1), (1, [57, 120, 95], 3), (3, [46], 6), (3, [63], 10)] : List Tk) _ HR1.out hW (by decide) (by decide))
  rw [decide_eq_true rfl] at HSM
  clear hW
  go_wp2_with fail
  refine HSM.out.mono ?_
  clear HSM
  generalize (w7.alloc (.cells #[.int .i64 1, .string ⟨#[97]⟩, .int .i64 0, .int .i64 2, .string ⟨#[66]⟩, .int .i64 1, .int .i64 1, .string ⟨#[57, 120, 95]⟩, .int .i64 3, .int .i64 3, .string ⟨#[46]⟩, .int .i64 6, .int .i64 3, .string ⟨#[63]⟩, .int .i64 10] 25)) = w8 at *
  rintro e w9 ⟨rfl, hb⟩
  replace x0 := hb.cell x0; replace x1 := hb.cell x1; replace x2 := hb.cell x2; replace x3 := hb.cell x3
  replace HS := HS.trans hb
  have HR1 := Lib.hid (HR1.out.next hb)
  clear hb
  go_wp2_with fail
  have HTX := Lib.hid (text_any _ ([(1, [97], 0), (2, [66], 1), (1, [57, 120, 95], 3), (3, [46], 6), (3, [63], 10)] : List Tk) w9 HR1.out (by decide) (by rw [n_7]; decide))
  rw [n_7] at HTX
  refine HTX.out.mono ?_
  rintro e w10 ⟨rfl, hb⟩
  replace HS := HS.trans hb
  clear hb HTX
  go_wp2_with fail
  refine (text_any (.slice none 0 0) [] w10 (.inl ⟨rfl, rfl, rfl⟩) (by decide) (by decide)).mono ?_
  rintro e w11 ⟨rfl, hb⟩
  replace HS := HS.trans hb
  clear hb
  go_wp2_with fail
  go_ret
  exact ⟨rfl, HS⟩
end Go.Proofs.Ytfbkddpapjpgbaa
