/- The reference of layer 1: its functions answer as those of package spell do, at every string. -/
import Derived.Test.YtnfjjckbgnieeaaGreatDoorVSpPlain
namespace Go.Proofs.YtnfjjckbgnieeaaGreatDoor
open Go.RowKit

set_option maxHeartbeats 400000 in
theorem rSmall_any (n : Int) (w : World) :
    Calls Tryz.prog 43 #[.int .u8 n] w fun e w' => e = .returned (.bool (smallB n)) ∧ w = w' := by
  go_enter Tryz.func43, Tryz.ntmps43
  go_wp2
  all_goals (go_ret; exact ⟨ret_bool (by simp [smallB]; omega), rfl⟩)
set_option maxHeartbeats 400000 in
theorem rGreat_any (n : Int) (w : World) :
    Calls Tryz.prog 95 #[.int .u8 n] w fun e w' => e = .returned (.bool (greatB n)) ∧ w = w' := by
  go_enter Tryz.func95, Tryz.ntmps95
  go_wp2
  all_goals (go_ret; exact ⟨ret_bool (by simp [greatB]; omega), rfl⟩)
set_option maxHeartbeats 400000 in
theorem rDigit_any (n : Int) (w : World) :
    Calls Tryz.prog 93 #[.int .u8 n] w fun e w' => e = .returned (.bool (digitB n)) ∧ w = w' := by
  go_enter Tryz.func93, Tryz.ntmps93
  go_wp2
  all_goals (go_ret; exact ⟨ret_bool (by simp [digitB]; omega), rfl⟩)
set_option maxHeartbeats 400000 in
theorem rcon_any (l : List UInt8) (w : World) (hl : l.length ≤ maxLen) :
    Calls Tryz.prog 67 #[.string ⟨l.toArray⟩] w fun e w' => e = .returned (.bool (rconB l)) ∧ w = w' := by
  unfold maxLen at hl
  by_cases h0 : 0 < l.length
  · by_cases h1 : (l.length : Int) ≤ 255
    · cases hc : (((((ByteArray.mk l.toArray)[0]'h0).toNat : Int)) == 95)
      · have hres : Hid (rconB l = (l.drop 0).all fun x => lowB x.toNat) := by
          exact rconB_all h0 (by omega) hc
        go_enter Tryz.func67, Tryz.ntmps67
        go_wp2_with fail
        clear hc
        go_loop [3] (fun i => ∃ k : Nat, k ≤ l.length ∧ i = .int .i64 k ∧ Hid (rconB l = (l.drop k).all fun x => lowB x.toNat)) (fun i => l.length - (intOf i).toNat)
        case atStart => exact ⟨0, Nat.zero_le _, rfl, hres⟩
        case round =>
          clear hres
          obtain ⟨k, hk, rfl, hres⟩ := hrel
          by_cases hlt : k < l.length
          · cases hm : lowB ((ByteArray.mk l.toArray)[k]'hlt).toNat
            · obtain ⟨m1, m2, m3, m4⟩ := low_no hm
              go_wp2_with (first | (go_at_call 43; refine (rSmall_any _ _).mono ?_; rintro e w' ⟨rfl, rfl⟩) | (go_at_call 93; refine (rDigit_any _ _).mono ?_; rintro e w' ⟨rfl, rfl⟩))
              go_ret
              refine ⟨ret_bool ?_, rfl⟩
              rw [hres.out, all_drop_step hlt, ← at_bytes l k hlt hlt, hm, Bool.false_and]
            · have hres' : Hid (rconB l = (l.drop (k + 1)).all fun x => lowB x.toNat) := by
                have := hres.out
                rw [all_drop_step hlt, ← at_bytes l k hlt hlt, hm, Bool.true_and] at this
                exact this
              rcases low_yes hm with m1 | ⟨m1, m2⟩ | ⟨m1, m2, m3, m4⟩
              all_goals
                go_wp2_with (first | (go_at_call 43; refine (rSmall_any _ _).mono ?_; rintro e w' ⟨rfl, rfl⟩) | (go_at_call 93; refine (rDigit_any _ _).mono ?_; rintro e w' ⟨rfl, rfl⟩))
                go_round
                case rel => exact ⟨k + 1, by omega, by go_num, hres'⟩
                case measure => simp [intOf]; omega
          · go_wp2
            go_ret
            refine ⟨ret_bool ?_, rfl⟩
            rw [hres.out, all_drop_end hlt]
      · have hc2 : (((ByteArray.mk l.toArray)[0]'h0).toNat : Int) = 95 := by simpa using hc
        go_enter Tryz.func67, Tryz.ntmps67
        go_wp2_with fail
        go_ret
        exact ⟨ret_bool (rconB_line h0 hc).symm, rfl⟩
    · go_enter Tryz.func67, Tryz.ntmps67
      go_wp2
      go_ret
      exact ⟨ret_bool (rconB_long (by omega)).symm, rfl⟩
  · go_enter Tryz.func67, Tryz.ntmps67
    go_wp2
    go_ret
    have hn : l = [] := List.eq_nil_of_length_eq_zero (by omega)
    exact ⟨ret_bool (by rw [hn]; rfl), rfl⟩
theorem rwords_any (w : World) :
    Calls Tryz.prog 94 #[] w fun e w' => e = .returned (.slice (some ⟨w.heap.size, 0, none⟩) 8 8) ∧ w.alloc wordsO = w' := by
  go_enter Tryz.func94, Tryz.ntmps94
  go_wp2
  go_ret
  exact ⟨rfl, rfl⟩
set_option maxHeartbeats 400000 in
theorem rreserved_any (l : List UInt8) (w : World) :
    Calls Tryz.prog 68 #[.string ⟨l.toArray⟩] w fun e w' => e = .returned (.bool (reservedB l)) ∧ Since w w' := by
  go_enter Tryz.func68, Tryz.ntmps68
  go_wp2_with (go_at_call 94; refine (rwords_any _).mono ?_; rintro e w' ⟨rfl, rfl⟩)
  have hlen : wordsL.length = 8 := rfl
  have HL := Lib.hid hlen
  clear hlen
  go_loop [4] (fun i => ∃ k : Nat, k ≤ 8 ∧ i = .int .i64 k ∧ Hid (reservedB l = (wordsL.drop k).contains l)) (fun i => 8 - (intOf i).toNat)
  case atStart => exact ⟨0, Nat.zero_le _, rfl, rfl⟩
  case round =>
    obtain ⟨k, hk, rfl, hres⟩ := hrel
    by_cases hlt : k < 8
    · have hw : k < wordsL.length := by rw [HL.out]; exact hlt
      have hc := cell_words' w k hw
      have hd := List.drop_eq_getElem_cons hw
      have HD := Lib.hid hd
      clear hd
      generalize wordsL[k] = x at *
      cases he : (x == l)
      · go_wp2
        go_round
        case rel =>
          refine ⟨k + 1, by omega, by go_num, ?_⟩
          have := hres.out
          rw [HD.out, List.contains_cons, show (l == x) = false by rw [Bool.beq_comm]; exact he, Bool.false_or] at this
          exact this
        case measure => simp [intOf]; omega
      · have hx : x = l := by simpa using he
        subst hx
        go_wp2
        go_ret
        refine ⟨ret_bool ?_, (Since.refl _).alloc _⟩
        rw [hres.out, HD.out, List.contains_cons, he, Bool.true_or]
    · go_wp2
      go_ret
      refine ⟨ret_bool ?_, (Since.refl _).alloc _⟩
      rw [hres.out, List.drop_eq_nil_of_le (by rw [HL.out]; omega)]
      rfl
theorem rconstant_any (l : List UInt8) (w : World) (hl : l.length ≤ maxLen) :
    Calls Tryz.prog 42 #[.string ⟨l.toArray⟩] w fun e w' => e = .returned (.bool (rconstantB l)) ∧ Since w w' := by
  have HS := Lib.hid (rcon_any l w hl)
  have HR := Lib.hid (rreserved_any l w)
  cases h : rconB l
  · go_enter Tryz.func42, Tryz.ntmps42
    go_wp2_with (go_at_call 67; refine HS.out.mono ?_; rintro e w' ⟨rfl, rfl⟩)
    go_ret
    exact ⟨ret_bool (by rw [rconstantB, h, Bool.false_and]), Since.refl _⟩
  · go_enter Tryz.func42, Tryz.ntmps42
    go_wp2_with (first | (go_at_call 67; refine HS.out.mono ?_; rintro e w' ⟨rfl, rfl⟩) | (go_at_call 68; refine HR.out.mono ?_; rintro e w' ⟨rfl, hb⟩))
    go_ret
    exact ⟨ret_bool (by rw [rconstantB, h, Bool.true_and]), hb⟩
theorem rprincipal_any (l : List UInt8) (w : World) (hl : l.length ≤ maxLen) :
    Calls Tryz.prog 13 #[.string ⟨l.toArray⟩] w fun e w' => e = .returned (.bool (rprincipalB l)) ∧ Since w w' := by
  have HS := Lib.hid (rconstant_any l w hl)
  cases h : rconstantB l
  · go_enter Tryz.func13, Tryz.ntmps13
    go_wp2_with (go_at_call 42; refine HS.out.mono ?_; rintro e w' ⟨rfl, hb⟩)
    go_ret
    exact ⟨ret_bool (by rw [rprincipalB, h, Bool.false_and]), hb⟩
  · have h0 := rconstantB_pos h
    have hg : Hid (l.getD 0 0 = (ByteArray.mk l.toArray)[0]'h0) := by
      have : l.getD 0 0 = l[0] := by simp [h0]
      exact this
    go_enter Tryz.func13, Tryz.ntmps13
    go_wp2_with (first | (go_at_call 42; refine HS.out.mono ?_; rintro e w' ⟨rfl, hb⟩) | (go_at_call 43; refine (rSmall_any _ _).mono ?_; rintro e w' ⟨rfl, rfl⟩))
    go_ret
    exact ⟨ret_bool (by rw [rprincipalB, h, Bool.true_and, hg.out]), hb⟩
theorem rpredicate_any (l : List UInt8) (w : World) (hl : l.length ≤ maxLen) :
    Calls Tryz.prog 14 #[.string ⟨l.toArray⟩] w fun e w' => e = .returned (.bool (rprincipalB l)) ∧ Since w w' := by
  have HS := Lib.hid (rprincipal_any l w hl)
  go_enter Tryz.func14, Tryz.ntmps14
  go_wp2_with (go_at_call 13; refine HS.out.mono ?_; rintro e w' ⟨rfl, hb⟩)
  go_ret
  exact ⟨rfl, hb⟩
set_option maxHeartbeats 400000 in
theorem rvariable_any (l : List UInt8) (w : World) (hl : l.length ≤ maxLen) :
    Calls Tryz.prog 69 #[.string ⟨l.toArray⟩] w fun e w' => e = .returned (.bool (variableB l)) ∧ w = w' := by
  unfold maxLen at hl
  by_cases h0 : 0 < l.length
  · by_cases h1 : (l.length : Int) ≤ 255
    · cases hc : greatB ((ByteArray.mk l.toArray)[0]'h0).toNat
      · go_enter Tryz.func69, Tryz.ntmps69
        go_wp2_with (first | (go_at_call 43; refine (rSmall_any _ _).mono ?_; rintro e w' ⟨rfl, rfl⟩) | (go_at_call 93; refine (rDigit_any _ _).mono ?_; rintro e w' ⟨rfl, rfl⟩) | (go_at_call 95; refine (rGreat_any _ _).mono ?_; rintro e w' ⟨rfl, rfl⟩))
        go_ret
        exact ⟨ret_bool (spelledB_first h0 hc).symm, rfl⟩
      · have hres : Hid (variableB l = (l.drop 0).all fun x => varB x.toNat) := by
          have := spelledB_rest (m := varB) h0 (by omega) hc
          show spelledB greatB varB l = _
          rw [this, all_drop_step h0, ← at_bytes l 0 h0 h0, var_great hc, Bool.true_and]
        go_enter Tryz.func69, Tryz.ntmps69
        go_wp2_with (first | (go_at_call 43; refine (rSmall_any _ _).mono ?_; rintro e w' ⟨rfl, rfl⟩) | (go_at_call 93; refine (rDigit_any _ _).mono ?_; rintro e w' ⟨rfl, rfl⟩) | (go_at_call 95; refine (rGreat_any _ _).mono ?_; rintro e w' ⟨rfl, rfl⟩))
        clear hc
        go_loop [3] (fun i => ∃ k : Nat, k ≤ l.length ∧ i = .int .i64 k ∧ Hid (variableB l = (l.drop k).all fun x => varB x.toNat)) (fun i => l.length - (intOf i).toNat)
        case atStart => exact ⟨0, Nat.zero_le _, rfl, hres⟩
        case round =>
          clear hres
          obtain ⟨k, hk, rfl, hres⟩ := hrel
          by_cases hlt : k < l.length
          · cases hm : varB ((ByteArray.mk l.toArray)[k]'hlt).toNat
            · obtain ⟨m1, m2, m3, m4⟩ := var_no hm
              go_wp2_with (first | (go_at_call 43; refine (rSmall_any _ _).mono ?_; rintro e w' ⟨rfl, rfl⟩) | (go_at_call 93; refine (rDigit_any _ _).mono ?_; rintro e w' ⟨rfl, rfl⟩) | (go_at_call 95; refine (rGreat_any _ _).mono ?_; rintro e w' ⟨rfl, rfl⟩))
              go_ret
              refine ⟨ret_bool ?_, rfl⟩
              rw [hres.out, all_drop_step hlt, ← at_bytes l k hlt hlt, hm, Bool.false_and]
            · have hres' : Hid (variableB l = (l.drop (k + 1)).all fun x => varB x.toNat) := by
                have := hres.out
                rw [all_drop_step hlt, ← at_bytes l k hlt hlt, hm, Bool.true_and] at this
                exact this
              rcases var_yes hm with m1 | ⟨m1, m2⟩ | ⟨m1, m2, m3⟩ | ⟨m1, m2, m3, m4⟩
              all_goals
                go_wp2_with (first | (go_at_call 43; refine (rSmall_any _ _).mono ?_; rintro e w' ⟨rfl, rfl⟩) | (go_at_call 93; refine (rDigit_any _ _).mono ?_; rintro e w' ⟨rfl, rfl⟩) | (go_at_call 95; refine (rGreat_any _ _).mono ?_; rintro e w' ⟨rfl, rfl⟩))
                go_round
                case rel => exact ⟨k + 1, by omega, by go_num, hres'⟩
                case measure => simp [intOf]; omega
          · go_wp2
            go_ret
            refine ⟨ret_bool ?_, rfl⟩
            rw [hres.out, all_drop_end hlt]
    · go_enter Tryz.func69, Tryz.ntmps69
      go_wp2
      go_ret
      exact ⟨ret_bool (spelledB_long (by omega)).symm, rfl⟩
  · go_enter Tryz.func69, Tryz.ntmps69
    go_wp2
    go_ret
    have hn : l = [] := List.eq_nil_of_length_eq_zero (by omega)
    exact ⟨ret_bool (by rw [hn]; rfl), rfl⟩
end Go.Proofs.YtnfjjckbgnieeaaGreatDoor
