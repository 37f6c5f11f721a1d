/- The reference of layer 9: in, more, skip. -/
import Derived.Test.YtfbkddpapjpgbaaStSame
import Derived.Test.YtfbkddpapjpgbaaLexT
import Derived.Test.YtfbkddpapjpgbaaLexL
import Derived.Test.YtfbkddpapjpgbaaRef01L
namespace Go.Proofs.Ytfbkddpapjpgbaa
open Go.RowKit

theorem any_step {l : List UInt8} {p : UInt8 → Bool} {k : Nat} (h : k < l.length) : (l.drop k).any p = (p l[k] || (l.drop (k + 1)).any p) := by
  rw [List.drop_eq_getElem_cons h, List.any_cons]
set_option maxHeartbeats 1000000 in
theorem rin_any (l : List UInt8) (n : Int) (w : World) (hl : l.length ≤ 1000) :
    Calls Try.prog 45 #[.string ⟨l.toArray⟩, .int .u8 n] w fun e w' => e = .returned (.bool (l.any fun x => (x.toNat : Int) == n)) ∧ w = w' := by
  obtain ⟨R, hR⟩ : ∃ R, Hid (R = l.any fun x => (x.toNat : Int) == n) := ⟨_, rfl⟩
  rw [← hR.out]
  go_enter Try.func45, Try.ntmps45
  go_wp2_with fail
  go_loop [5] (fun i => ∃ k : Nat, k ≤ l.length ∧ i = .int .i64 k ∧ Hid (R = (l.drop k).any fun x => (x.toNat : Int) == n)) (fun i => l.length - (intOf i).toNat)
  case atStart => exact ⟨0, Nat.zero_le _, rfl, hR⟩
  case round =>
    obtain ⟨k, hk, rfl, hres⟩ := hrel
    by_cases hlt : k < l.length
    · have hst := any_step (p := fun x => (x.toNat : Int) == n) hlt
      have HST := Lib.hid hst
      clear hst
      cases hm : ((((ByteArray.mk l.toArray)[k]'hlt).toNat : Int) == n)
      · have hres2 : Hid (R = (l.drop (k + 1)).any fun x => (x.toNat : Int) == n) := by
          show _ = _
          rw [hres.out, HST.out, ← at_bytes l k hlt hlt, hm, Bool.false_or]
        go_wp2
        go_round
        case rel => exact ⟨k + 1, by omega, by go_num, hres2⟩
        case measure => simp [intOf]; omega
      · have hres2 : Hid (R = true) := by
          show _ = _
          rw [hres.out, HST.out, ← at_bytes l k hlt hlt, hm, Bool.true_or]
        go_wp2
        go_ret
        exact ⟨ret_bool hres2.out.symm, rfl⟩
    · have hres2 : Hid (R = false) := by
        show _ = _
        rw [hres.out, List.drop_eq_nil_of_le (by omega)]; rfl
      go_wp2
      go_ret
      exact ⟨ret_bool hres2.out.symm, rfl⟩
theorem in_blank (n : Int) : (([32, 10, 9, 13] : List UInt8).any fun x => (x.toNat : Int) == n) = blankB n := by
  show ((32 : Int) == n || ((10 : Int) == n || ((9 : Int) == n || ((13 : Int) == n || false)))) = (n == 32 || n == 10 || n == 9 || n == 13)
  rw [Bool.eq_iff_iff]
  simp only [Bool.or_eq_true, beq_iff_eq, Bool.false_eq_true, or_false]
  omega
theorem in_sign (n : Int) : (([40, 41, 44, 46, 58, 47, 63] : List UInt8).any fun x => (x.toNat : Int) == n) = signB n := by
  show ((40 : Int) == n || ((41 : Int) == n || ((44 : Int) == n || ((46 : Int) == n || ((58 : Int) == n || ((47 : Int) == n || ((63 : Int) == n || false))))))) = (n == 40 || n == 41 || n == 44 || n == 46 || n == 58 || n == 47 || n == 63)
  rw [Bool.eq_iff_iff]
  simp only [Bool.or_eq_true, beq_iff_eq, Bool.false_eq_true, or_false]
  omega
theorem rin_blank (n : Int) (w : World) : Calls Try.prog 45 #[.string ⟨#[32, 10, 9, 13]⟩, .int .u8 n] w fun e w' => e = .returned (.bool (blankB n)) ∧ w = w' := by
  have h := rin_any [32, 10, 9, 13] n w (by decide)
  rwa [in_blank] at h
theorem rin_sign (n : Int) (w : World) : Calls Try.prog 45 #[.string ⟨#[40, 41, 44, 46, 58, 47, 63]⟩, .int .u8 n] w fun e w' => e = .returned (.bool (signB n)) ∧ w = w' := by
  have h := rin_any [40, 41, 44, 46, 58, 47, 63] n w (by decide)
  rwa [in_sign] at h
set_option maxHeartbeats 1000000 in
theorem rmore_any (k n : Int) (w : World) : Calls Try.prog 46 #[.int .i64 k, .int .u8 n] w fun e w' => e = .returned (.bool (moreB (k == 2) n)) ∧ w = w' := by
  have hu : moreB (k == 2) n = (smallB n || digitB n || n == 95 || (k == 2 && greatB n)) := rfl
  rw [hu]
  clear hu
  cases h1 : smallB n <;> cases h2 : digitB n <;> cases h3 : (n == 95) <;> cases h4 : (k == 2) <;> cases h5 : greatB n
  all_goals
    go_enter Try.func46, Try.ntmps46
    go_wp2_with (first | (go_at_call 21; refine (rSmall_any _ _).mono ?_; rintro e w' ⟨rfl, rfl⟩) | (go_at_call 22; refine (rDigit_any _ _).mono ?_; rintro e w' ⟨rfl, rfl⟩) | (go_at_call 20; refine (rGreat_any _ _).mono ?_; rintro e w' ⟨rfl, rfl⟩))
    go_ret
    exact ⟨rfl, rfl⟩
theorem byte_eq {c : UInt8} {k : Nat} (hk : k < 256) (h : (c.toNat : Int) = (k : Int)) : c = k.toUInt8 := by
  have h2 : c.toNat = k := by omega
  apply UInt8.toNat_inj.1
  rw [h2]
  simp [Nat.toUInt8, UInt8.toNat_ofNat', Nat.mod_eq_of_lt hk]
theorem skip_consN (c : UInt8) (r : List UInt8) : skipN false (c :: r) = if blankB (c.toNat : Int) then 1 + skipN false r else if (c.toNat : Int) = 37 then skipN true (c :: r) else 0 := by
  show (if blankB (c.toNat : Int) then 1 + skipN false r else if c = 37 then 1 + skipN true r else 0) = _
  by_cases hb : blankB (c.toNat : Int) = true
  · rw [if_pos hb, if_pos hb]
  · rw [if_neg hb, if_neg hb]
    by_cases h37 : c = 37
    · subst h37; rfl
    · have h2 : ¬ (c.toNat : Int) = 37 := fun e => h37 (byte_eq (k := 37) (by omega) e)
      rw [if_neg h37, if_neg h2]
theorem skip_lineN (c : UInt8) (r : List UInt8) : skipN true (c :: r) = if (c.toNat : Int) = 10 then skipN false (c :: r) else 1 + skipN true r := by
  show (if c = 10 then 1 + skipN false r else 1 + skipN true r) = _
  by_cases h10 : c = 10
  · subst h10; rfl
  · have h2 : ¬ (c.toNat : Int) = 10 := fun e => h10 (byte_eq (k := 10) (by omega) e)
    rw [if_neg h10, if_neg h2]
theorem skip_cons {s : List UInt8} {j : Nat} (h : j < s.length) : skipN false (s.drop j) = if blankB (((ByteArray.mk s.toArray)[j]'h).toNat : Int) then 1 + skipN false (s.drop (j + 1)) else if (((ByteArray.mk s.toArray)[j]'h).toNat : Int) = 37 then skipN true (s.drop j) else 0 := by
  rw [at_bytes s j h h]
  have e := List.drop_eq_getElem_cons h
  have h1 := skip_consN s[j] (s.drop (j + 1))
  rw [← e] at h1
  exact h1
theorem skip_line {s : List UInt8} {j : Nat} (h : j < s.length) : skipN true (s.drop j) = if (((ByteArray.mk s.toArray)[j]'h).toNat : Int) = 10 then skipN false (s.drop j) else 1 + skipN true (s.drop (j + 1)) := by
  rw [at_bytes s j h h]
  have e := List.drop_eq_getElem_cons h
  have h1 := skip_lineN s[j] (s.drop (j + 1))
  rw [← e] at h1
  exact h1
set_option maxHeartbeats 2000000 in
theorem rskip_any (s : List UInt8) (i : Nat) (w : World) (hi : i ≤ s.length) (hs : s.length ≤ 65536) :
    Calls Try.prog 39 #[.string ⟨s.toArray⟩, .int .i64 (i : Int)] w fun e w' => e = .returned (.int .i64 ((i + skipN false (s.drop i) : Nat) : Int)) ∧ w = w' := by
  obtain ⟨R, hR⟩ : ∃ R, Hid (R = i + skipN false (s.drop i)) := ⟨_, rfl⟩
  rw [← hR.out]
  go_enter Try.func39, Try.ntmps39
  go_wp2_with fail
  go_loop [1] (fun m => ∃ j : Nat, j ≤ s.length ∧ m = .int .i64 (j : Int) ∧ Hid (R = j + skipN false (s.drop j))) (fun m => s.length - (intOf m).toNat)
  case atStart => exact ⟨i, hi, rfl, hR⟩
  case round =>
    clear hR hi
    obtain ⟨j, hj, rfl, hres⟩ := hrel
    by_cases hlt : j < s.length
    · have hsk := skip_cons hlt
      have HSK := Lib.hid hsk
      clear hsk
      cases hb : blankB (((ByteArray.mk s.toArray)[j]'hlt).toNat : Int)
      · cases h37 : ((((ByteArray.mk s.toArray)[j]'hlt).toNat : Int) == 37)
        · have hres2 : Hid (R = j) := by
            show _ = _
            rw [hres.out, HSK.out, hb, if_neg (by simp), if_neg (by simpa using h37)]; omega
          have hRj : (R : Int) = (j : Int) := by rw [hres2.out]
          go_wp2_with (go_at_call 45; refine (rin_blank _ _).mono ?_; rintro e w' ⟨rfl, rfl⟩)
          go_ret
          first | exact ⟨ret_int hRj.symm, rfl⟩ | exact ⟨rfl, rfl⟩
        · have hres2 : Hid (R = j + skipN true (s.drop j)) := by
            show _ = _
            rw [hres.out, HSK.out, hb, if_neg (by simp), if_pos (by simpa using h37)]
          have H37 := Lib.hid h37
          have hj37 : Hid ((((ByteArray.mk s.toArray)[j]'hlt).toNat : Int) = 37) := by show _ = _; simpa using h37
          go_wp2_with (go_at_call 45; refine (rin_blank _ _).mono ?_; rintro e w' ⟨rfl, rfl⟩)
          clear hb h37 HSK hres
          go_loop [1] (fun m => ∃ k : Nat, j ≤ k ∧ k ≤ s.length ∧ m = .int .i64 (k : Int) ∧ Hid (R = k + skipN true (s.drop k))) (fun m => s.length - (intOf m).toNat)
          case atStart => exact ⟨j, Nat.le_refl _, hj, rfl, hres2⟩
          case round =>
            clear hres2
            obtain ⟨k, hjk, hk, rfl, hres3⟩ := hrel
            by_cases hltk : k < s.length
            · have hsl := skip_line hltk
              have HSL := Lib.hid hsl
              clear hsl
              cases h10 : ((((ByteArray.mk s.toArray)[k]'hltk).toNat : Int) == 10)
              · have hne : ((((ByteArray.mk s.toArray)[k]'hltk).toNat : Int) != 10) = true := by simpa using h10
                have hres4 : Hid (R = k + 1 + skipN true (s.drop (k + 1))) := by
                  show _ = _
                  rw [hres3.out, HSL.out, if_neg (by simpa using h10)]; omega
                go_wp2
                go_round
                case rel => exact ⟨k + 1, by omega, by omega, by go_num, hres4⟩
                case measure => simp [intOf]; omega
              · have hne : ((((ByteArray.mk s.toArray)[k]'hltk).toNat : Int) != 10) = false := by simpa using h10
                have hres4 : Hid (R = k + skipN false (s.drop k)) := by
                  show _ = _
                  rw [hres3.out, HSL.out, if_pos (by simpa using h10)]
                have hjk2 : j < k := by
                  rcases Nat.lt_or_ge j k with h | h
                  · exact h
                  · obtain rfl : k = j := by omega
                    have h1 := hj37.out
                    have h2 : (((ByteArray.mk s.toArray)[k]'hltk).toNat : Int) = 10 := by simpa using h10
                    omega
                go_wp2
                go_round
                case rel => exact ⟨k, hk, rfl, hres4⟩
                case measure => simp [intOf]; omega
            · have hres4 : Hid (R = k + skipN false (s.drop k)) := by
                show _ = _
                rw [hres3.out, List.drop_eq_nil_of_le (by omega)]; rfl
              go_wp2
              go_round
              case rel => exact ⟨k, hk, rfl, hres4⟩
              case measure => simp [intOf]; omega
      · have hres2 : Hid (R = j + 1 + skipN false (s.drop (j + 1))) := by
          show _ = _
          rw [hres.out, HSK.out, hb, if_pos rfl]; omega
        go_wp2_with (go_at_call 45; refine (rin_blank _ _).mono ?_; rintro e w' ⟨rfl, rfl⟩)
        go_round
        case rel => exact ⟨j + 1, by omega, by go_num, hres2⟩
        case measure => simp [intOf]; omega
    · have hres2 : Hid (R = j) := by
        show _ = _
        rw [hres.out, List.drop_eq_nil_of_le (by omega)]; rfl
      have hRj : (R : Int) = (j : Int) := by rw [hres2.out]
      go_wp2
      go_ret
      first | exact ⟨ret_int hRj.symm, rfl⟩ | exact ⟨rfl, rfl⟩
end Go.Proofs.Ytfbkddpapjpgbaa
