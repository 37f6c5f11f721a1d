/- Itoa at a number from 0 on; Marked at a marked name. -/
import Derived.Test.YtohcehjpdmhjlaaDoorMkP
import Derived.Test.YtohcehjpdmhjlaaDoorShelf
import Derived.Test.YtohcehjpdmhjlaaDoorUniI
import Derived.Lib.AppendIntMem
import Derived.Lib.AtoiErrMem
namespace Go.Proofs.YtohcehjpdmhjlaaDoor
open Go.RowKit

/-- The table of powers of ten stands. -/
def EnvP (w : World) : Prop := Lib.TabIs Tryd.prog w "internal/strconv.uint64pow10" .u64 Lib.pow10Tab
theorem itoa_any (m : Nat) (hm : m ≤ 9223372036854775807) (w : World) (hE : EnvP w) :
    Calls Tryd.prog 26 #[.int .i64 (m : Int)] w fun e w' => e = .returned (.string ⟨(Lib.decDigits m).toArray⟩) ∧ Since w w' := by
  refine (Tryd.strconv_Itoa (m : Int) (by omega) (by omega) w hE).mono ?_
  rintro e w' ⟨rfl, k, os, rfl⟩
  refine ⟨?_, Lib.below_grow _ _ (Nat.le_refl _) _ _⟩
  have : Lib.itoa (m : Int) = Lib.decDigits m := by
    unfold Lib.itoa
    rw [if_neg (by omega)]
    simp
  rw [this]
theorem atoi_any (m : Nat) (hm : m < 1000000000) (w : World) :
    Calls Tryd.prog 31 #[.string ⟨(Lib.decDigits m).toArray⟩] w fun e w' => e = .returned (.tuple #[.int .i64 (m : Int), .nilIface]) ∧ Since w w' := by
  refine (Tryd.strconv_Atoi ⟨(Lib.decDigits m).toArray⟩ (m : Int) (by show (Lib.decDigits m).length ≤ 18; have := digits_len hm; omega) (by simpa using atoi_digits m) w).mono ?_
  rintro e w' ⟨rfl, t, rfl⟩
  exact ⟨rfl, Lib.bytesWorld_below _ _ _⟩
set_option maxHeartbeats 4000000 in
set_option maxRecDepth 100000 in
theorem marked_ok (l : List UInt8) (hl : l ≠ []) (hlen : l.length ≤ 1000) (m : Nat) (hm : m < 1000000000) (w : World)
    (hit : ∀ W, Since w W → Calls Tryd.prog 26 #[.int .i64 (m : Int)] W fun e w' => e = .returned (.string ⟨(Lib.decDigits m).toArray⟩) ∧ Since W w') :
    Calls Tryd.prog 15 #[.string ⟨(l ++ 35 :: Lib.decDigits m).toArray⟩] w fun e w' => e = .returned (.tuple #[.string ⟨l.toArray⟩, .int .i64 (m : Int), .bool true]) ∧ Since w w' := by
  have hd9 := digits_len hm
  have HLI : Hid (∀ W, Calls Tryd.prog 30 #[.string ⟨(l ++ 35 :: Lib.decDigits m).toArray⟩, .int .u8 35] W fun e w' => e = .returned (.int .i64 (l.length : Int)) ∧ w' = W) := by
    intro W
    have h := Tryd.strings_LastIndexByte ⟨(l ++ 35 :: Lib.decDigits m).toArray⟩ 35 (by show (l ++ 35 :: Lib.decDigits m).length < _; simp only [List.length_append, List.length_cons]; omega) W
    rw [last_mark l _ (digits_no_mark m)] at h
    exact h
  have HAT := Lib.hid (fun W => atoi_any m hm W)
  have HIT := Lib.hid hit
  have h1 : ¬ ((l.length : Int) < 1) := by
    have := List.length_pos_iff.2 hl
    omega
  have hds : (Lib.decDigits m).length ≤ 9 := hd9
  have hlp : 0 < l.length := List.length_pos_iff.2 hl
  obtain ⟨d, hd⟩ : ∃ d, Hid (d = Lib.decDigits m) := ⟨_, rfl⟩
  rw [← hd.out] at HLI HAT HIT hds ⊢
  obtain ⟨x, hx⟩ : ∃ x, Hid (x = l ++ 35 :: d) := ⟨_, rfl⟩
  rw [← hx.out] at HLI ⊢
  have hxl : x.length = l.length + (d.length + 1) := by rw [hx.out]; simp
  have c1 : (ByteArray.mk x.toArray).extract (l.length + 1) (l.length + (d.length + 1)) = ByteArray.mk d.toArray := by
    apply ByteArray.ext
    rw [hx.out]
    simp
    rw [List.take_of_length_le (by omega)]
  have c2 : (ByteArray.mk x.toArray).extract 0 l.length = ByteArray.mk l.toArray := by
    apply ByteArray.ext
    rw [hx.out]
    simp
  clear hit hd9 hl hx hd
  go_enter Tryd.func15, Tryd.ntmps15
  go_wp2_with fail
  refine (HLI.out _).mono ?_
  rintro e w1 ⟨rfl, rfl⟩
  go_wp2_with fail
  refine (HAT.out _).mono ?_
  rintro e w2 ⟨rfl, hb2⟩
  have hd9 : ¬ (9 : Int) < (d.length : Int) := by omega
  have hm0 : ¬ (m : Int) < 0 := by omega
  go_wp2_with fail
  refine (HIT.out _ hb2).mono ?_
  rintro e w3 ⟨rfl, hb3⟩
  go_wp2_with fail
  refine bodyPost_ret (v := .tuple #[.string ⟨l.toArray⟩, .int .i64 (m : Int), .bool true]) (by simp [results, Tryd.results15, go_sem]) rfl ?_
  exact ⟨rfl, hb2.trans hb3⟩
end Go.Proofs.YtohcehjpdmhjlaaDoor
