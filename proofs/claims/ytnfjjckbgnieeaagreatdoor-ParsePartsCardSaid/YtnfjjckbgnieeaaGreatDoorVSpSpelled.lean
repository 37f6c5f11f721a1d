/- spell.spelled: whether a text's first byte and all behind it obey a rule each; at any two rules. -/
import Derived.Test.YtnfjjckbgnieeaaGreatDoorVSpBytes
namespace Go.Proofs.YtnfjjckbgnieeaaGreatDoor
open Go.RowKit

set_option maxHeartbeats 400000 in
theorem con1_any (n : Int) (w : World) :
    Calls Tryz.prog 146 #[.int .u8 n] w fun e w' => e = .returned (.bool (firstB n)) ∧ w = w' := by
  cases hs : smallB n <;> cases hd : digitB n
  all_goals
    go_enter Tryz.func146, Tryz.ntmps146
    go_wp2_with (first | (go_at_call 103; refine (small_any _ _).mono ?_; rintro e w' ⟨rfl, rfl⟩) | (go_at_call 116; refine (digit_any _ _).mono ?_; rintro e w' ⟨rfl, rfl⟩))
    go_ret
    exact ⟨ret_bool (by simp [firstB, hs, hd]), rfl⟩
set_option maxHeartbeats 400000 in
theorem var1_any (n : Int) (w : World) :
    Calls Tryz.prog 131 #[.int .u8 n] w fun e w' => e = .returned (.bool (varB n)) ∧ w = w' := by
  cases hs : lowB n <;> cases hd : greatB n
  all_goals
    go_enter Tryz.func131, Tryz.ntmps131
    go_wp2_with (first | (go_at_call 104; refine (low_any _ _).mono ?_; rintro e w' ⟨rfl, rfl⟩) | (go_at_call 130; refine (great_any _ _).mono ?_; rintro e w' ⟨rfl, rfl⟩))
    go_ret
    exact ⟨ret_bool (by simp [varB, hs, hd]), rfl⟩
set_option maxHeartbeats 400000 in
theorem spelled_word (l : List UInt8) (w : World) (hl : l.length ≤ maxLen) :
    Calls Tryz.prog 102 #[.string ⟨l.toArray⟩, .func (.func 103) #[] #[], .func (.func 104) #[] #[]] w fun e w' => e = .returned (.bool (spelledB smallB lowB l)) ∧ w = w' := by
  unfold maxLen at hl
  by_cases hn : l = []
  · subst hn
    go_enter Tryz.func102, Tryz.ntmps102
    go_wp2
    go_ret
    exact ⟨rfl, rfl⟩
  have hie : l.isEmpty = false := by simpa using hn
  by_cases h1 : (l.length : Int) ≤ 255
  · have h0 : 0 < l.length := List.length_pos_iff.2 hn
    cases hc : smallB ((ByteArray.mk l.toArray)[0]'h0).toNat
    · go_enter Tryz.func102, Tryz.ntmps102
      go_wp2_with (go_at_call 103; refine (small_any _ _).mono ?_; rintro e w' ⟨rfl, rfl⟩)
      go_ret
      exact ⟨ret_bool (spelledB_first h0 hc).symm, rfl⟩
    · have hres : Hid (spelledB smallB lowB l = (l.drop 1).all fun x => lowB x.toNat) := spelledB_rest h0 (by omega) hc
      go_enter Tryz.func102, Tryz.ntmps102
      go_wp2_with (go_at_call 103; refine (small_any _ _).mono ?_; rintro e w' ⟨rfl, rfl⟩)
      clear hc hn hie
      go_loop [7] (fun i => ∃ k : Nat, 1 ≤ k ∧ k ≤ l.length ∧ i = .int .i64 k ∧ Hid (spelledB smallB lowB l = (l.drop k).all fun x => lowB x.toNat)) (fun i => l.length - (intOf i).toNat)
      case atStart => exact ⟨1, Nat.le_refl _, h0, rfl, hres⟩
      case round =>
        clear hres
        obtain ⟨k, hk1, hk, rfl, hres⟩ := hrel
        by_cases hlt : k < l.length
        · cases hm : lowB ((ByteArray.mk l.toArray)[k]'hlt).toNat
          · go_wp2_with (go_at_call 104; refine (low_any _ _).mono ?_; rintro e w' ⟨rfl, rfl⟩)
            go_ret
            refine ⟨ret_bool ?_, rfl⟩
            rw [hres.out, all_drop_step hlt, ← at_bytes l k hlt hlt, hm, Bool.false_and]
          · go_wp2_with (go_at_call 104; refine (low_any _ _).mono ?_; rintro e w' ⟨rfl, rfl⟩)
            go_round
            case rel =>
              refine ⟨k + 1, by omega, by omega, by go_num, ?_⟩
              have := hres.out
              rw [all_drop_step hlt, ← at_bytes l k hlt hlt, hm, Bool.true_and] at this
              exact this
            case measure => simp [intOf]; omega
        · go_wp2
          go_ret
          refine ⟨ret_bool ?_, rfl⟩
          rw [hres.out, all_drop_end hlt]
  · go_enter Tryz.func102, Tryz.ntmps102
    go_wp2
    go_ret
    exact ⟨ret_bool (spelledB_long (by omega)).symm, rfl⟩
set_option maxHeartbeats 400000 in
theorem spelled_con (l : List UInt8) (w : World) (hl : l.length ≤ maxLen) :
    Calls Tryz.prog 102 #[.string ⟨l.toArray⟩, .func (.func 146) #[] #[], .func (.func 104) #[] #[]] w fun e w' => e = .returned (.bool (spelledB firstB lowB l)) ∧ w = w' := by
  unfold maxLen at hl
  by_cases hn : l = []
  · subst hn
    go_enter Tryz.func102, Tryz.ntmps102
    go_wp2
    go_ret
    exact ⟨rfl, rfl⟩
  have hie : l.isEmpty = false := by simpa using hn
  by_cases h1 : (l.length : Int) ≤ 255
  · have h0 : 0 < l.length := List.length_pos_iff.2 hn
    cases hc : firstB ((ByteArray.mk l.toArray)[0]'h0).toNat
    · go_enter Tryz.func102, Tryz.ntmps102
      go_wp2_with (go_at_call 146; refine (con1_any _ _).mono ?_; rintro e w' ⟨rfl, rfl⟩)
      go_ret
      exact ⟨ret_bool (spelledB_first h0 hc).symm, rfl⟩
    · have hres : Hid (spelledB firstB lowB l = (l.drop 1).all fun x => lowB x.toNat) := spelledB_rest h0 (by omega) hc
      go_enter Tryz.func102, Tryz.ntmps102
      go_wp2_with (go_at_call 146; refine (con1_any _ _).mono ?_; rintro e w' ⟨rfl, rfl⟩)
      clear hc hn hie
      go_loop [7] (fun i => ∃ k : Nat, 1 ≤ k ∧ k ≤ l.length ∧ i = .int .i64 k ∧ Hid (spelledB firstB lowB l = (l.drop k).all fun x => lowB x.toNat)) (fun i => l.length - (intOf i).toNat)
      case atStart => exact ⟨1, Nat.le_refl _, h0, rfl, hres⟩
      case round =>
        clear hres
        obtain ⟨k, hk1, hk, rfl, hres⟩ := hrel
        by_cases hlt : k < l.length
        · cases hm : lowB ((ByteArray.mk l.toArray)[k]'hlt).toNat
          · go_wp2_with (go_at_call 104; refine (low_any _ _).mono ?_; rintro e w' ⟨rfl, rfl⟩)
            go_ret
            refine ⟨ret_bool ?_, rfl⟩
            rw [hres.out, all_drop_step hlt, ← at_bytes l k hlt hlt, hm, Bool.false_and]
          · go_wp2_with (go_at_call 104; refine (low_any _ _).mono ?_; rintro e w' ⟨rfl, rfl⟩)
            go_round
            case rel =>
              refine ⟨k + 1, by omega, by omega, by go_num, ?_⟩
              have := hres.out
              rw [all_drop_step hlt, ← at_bytes l k hlt hlt, hm, Bool.true_and] at this
              exact this
            case measure => simp [intOf]; omega
        · go_wp2
          go_ret
          refine ⟨ret_bool ?_, rfl⟩
          rw [hres.out, all_drop_end hlt]
  · go_enter Tryz.func102, Tryz.ntmps102
    go_wp2
    go_ret
    exact ⟨ret_bool (spelledB_long (by omega)).symm, rfl⟩
set_option maxHeartbeats 400000 in
theorem spelled_var (l : List UInt8) (w : World) (hl : l.length ≤ maxLen) :
    Calls Tryz.prog 102 #[.string ⟨l.toArray⟩, .func (.func 130) #[] #[], .func (.func 131) #[] #[]] w fun e w' => e = .returned (.bool (spelledB greatB varB l)) ∧ w = w' := by
  unfold maxLen at hl
  by_cases hn : l = []
  · subst hn
    go_enter Tryz.func102, Tryz.ntmps102
    go_wp2
    go_ret
    exact ⟨rfl, rfl⟩
  have hie : l.isEmpty = false := by simpa using hn
  by_cases h1 : (l.length : Int) ≤ 255
  · have h0 : 0 < l.length := List.length_pos_iff.2 hn
    cases hc : greatB ((ByteArray.mk l.toArray)[0]'h0).toNat
    · go_enter Tryz.func102, Tryz.ntmps102
      go_wp2_with (go_at_call 130; refine (great_any _ _).mono ?_; rintro e w' ⟨rfl, rfl⟩)
      go_ret
      exact ⟨ret_bool (spelledB_first h0 hc).symm, rfl⟩
    · have hres : Hid (spelledB greatB varB l = (l.drop 1).all fun x => varB x.toNat) := spelledB_rest h0 (by omega) hc
      go_enter Tryz.func102, Tryz.ntmps102
      go_wp2_with (go_at_call 130; refine (great_any _ _).mono ?_; rintro e w' ⟨rfl, rfl⟩)
      clear hc hn hie
      go_loop [7] (fun i => ∃ k : Nat, 1 ≤ k ∧ k ≤ l.length ∧ i = .int .i64 k ∧ Hid (spelledB greatB varB l = (l.drop k).all fun x => varB x.toNat)) (fun i => l.length - (intOf i).toNat)
      case atStart => exact ⟨1, Nat.le_refl _, h0, rfl, hres⟩
      case round =>
        clear hres
        obtain ⟨k, hk1, hk, rfl, hres⟩ := hrel
        by_cases hlt : k < l.length
        · cases hm : varB ((ByteArray.mk l.toArray)[k]'hlt).toNat
          · go_wp2_with (go_at_call 131; refine (var1_any _ _).mono ?_; rintro e w' ⟨rfl, rfl⟩)
            go_ret
            refine ⟨ret_bool ?_, rfl⟩
            rw [hres.out, all_drop_step hlt, ← at_bytes l k hlt hlt, hm, Bool.false_and]
          · go_wp2_with (go_at_call 131; refine (var1_any _ _).mono ?_; rintro e w' ⟨rfl, rfl⟩)
            go_round
            case rel =>
              refine ⟨k + 1, by omega, by omega, by go_num, ?_⟩
              have := hres.out
              rw [all_drop_step hlt, ← at_bytes l k hlt hlt, hm, Bool.true_and] at this
              exact this
            case measure => simp [intOf]; omega
        · go_wp2
          go_ret
          refine ⟨ret_bool ?_, rfl⟩
          rw [hres.out, all_drop_end hlt]
  · go_enter Tryz.func102, Tryz.ntmps102
    go_wp2
    go_ret
    exact ⟨ret_bool (spelledB_long (by omega)).symm, rfl⟩
end Go.Proofs.YtnfjjckbgnieeaaGreatDoor
