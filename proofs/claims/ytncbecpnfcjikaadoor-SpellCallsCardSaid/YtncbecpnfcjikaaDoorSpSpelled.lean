/- spell.spelled: whether a text's first byte and all behind it obey a rule each; at any two rules. -/
import Derived.Test.YtncbecpnfcjikaaDoorSpBytes
import Derived.Lib.Hide
namespace Go.Proofs.YtncbecpnfcjikaaDoor
open Go.RowKit

def spelledB (f m : Int → Bool) : List UInt8 → Bool
  | [] => false
  | c :: r => decide ((c :: r).length ≤ 255) && f c.toNat && r.all fun x => m x.toNat

set_option maxHeartbeats 400000 in
theorem con1_any (n : Int) (w : World) :
    Calls Tryd.prog 25 #[.int .u8 n] w fun e w' => e = .returned (.bool (firstB n)) ∧ w = w' := by
  cases hs : smallB n <;> cases hd : digitB n
  all_goals
    go_enter Tryd.func25, Tryd.ntmps25
    go_wp2_with (first | (go_at_call 26; refine (small_any _ _).mono ?_; rintro e w' ⟨rfl, rfl⟩) | (go_at_call 27; refine (digit_any _ _).mono ?_; rintro e w' ⟨rfl, rfl⟩))
    go_ret
    exact ⟨ret_bool (by simp [firstB, hs, hd]), rfl⟩

set_option maxHeartbeats 400000 in
theorem var1_any (n : Int) (w : World) :
    Calls Tryd.prog 30 #[.int .u8 n] w fun e w' => e = .returned (.bool (varB n)) ∧ w = w' := by
  cases hs : lowB n <;> cases hd : greatB n
  all_goals
    go_enter Tryd.func30, Tryd.ntmps30
    go_wp2_with (first | (go_at_call 28; refine (low_any _ _).mono ?_; rintro e w' ⟨rfl, rfl⟩) | (go_at_call 29; refine (great_any _ _).mono ?_; rintro e w' ⟨rfl, rfl⟩))
    go_ret
    exact ⟨ret_bool (by simp [varB, hs, hd]), rfl⟩


theorem spelledB_nil (f m : Int → Bool) : spelledB f m [] = false := rfl
theorem spelledB_long {f m : Int → Bool} {l : List UInt8} (h : ¬ l.length ≤ 255) : spelledB f m l = false := by
  cases l with
  | nil => rfl
  | cons c r => simp only [spelledB, decide_eq_false h, Bool.false_and]
theorem spelledB_first {f m : Int → Bool} {l : List UInt8} (h0 : 0 < l.length) (hc : f (l[0]).toNat = false) : spelledB f m l = false := by
  cases l with
  | nil => rfl
  | cons c r =>
    have : f (c.toNat : Int) = false := hc
    simp only [spelledB, this, Bool.and_false, Bool.false_and]
theorem spelledB_rest {f m : Int → Bool} {l : List UInt8} (h0 : 0 < l.length) (h1 : l.length ≤ 255) (hc : f (l[0]).toNat = true) : spelledB f m l = (l.drop 1).all fun x => m x.toNat := by
  cases l with
  | nil => simp at h0
  | cons c r =>
    have : f (c.toNat : Int) = true := hc
    simp only [spelledB, this, decide_eq_true h1, Bool.true_and, List.drop_one, List.tail_cons]
theorem all_drop_step {m : UInt8 → Bool} {l : List UInt8} {k : Nat} (h : k < l.length) : (l.drop k).all m = (m l[k] && (l.drop (k + 1)).all m) := by
  rw [List.drop_eq_getElem_cons h, List.all_cons]
theorem all_drop_end {m : UInt8 → Bool} {l : List UInt8} {k : Nat} (h : ¬ k < l.length) : (l.drop k).all m = true := by
  rw [List.drop_eq_nil_of_le (by omega), List.all_nil]
theorem at_bytes (l : List UInt8) (i : Nat) (_h : i < (ByteArray.mk l.toArray).size) (h' : i < l.length) : (ByteArray.mk l.toArray)[i] = l[i] := rfl

set_option maxHeartbeats 400000 in
theorem spelled_word (l : List UInt8) (w : World) (hl : l.length ≤ maxLen) :
    Calls Tryd.prog 24 #[.string ⟨l.toArray⟩, .func (.func 26) #[] #[], .func (.func 28) #[] #[]] w fun e w' => e = .returned (.bool (spelledB smallB lowB l)) ∧ w = w' := by
  unfold maxLen at hl
  by_cases hn : l = []
  · subst hn
    go_enter Tryd.func24, Tryd.ntmps24
    go_wp2
    go_ret
    exact ⟨rfl, rfl⟩
  have hie : l.isEmpty = false := by simpa using hn
  by_cases h1 : (l.length : Int) ≤ 255
  · have h0 : 0 < l.length := List.length_pos_iff.2 hn
    cases hc : smallB ((ByteArray.mk l.toArray)[0]'h0).toNat
    · go_enter Tryd.func24, Tryd.ntmps24
      go_wp2_with (go_at_call 26; refine (small_any _ _).mono ?_; rintro e w' ⟨rfl, rfl⟩)
      go_ret
      exact ⟨ret_bool (spelledB_first h0 hc).symm, rfl⟩
    · have hres : Hid (spelledB smallB lowB l = (l.drop 1).all fun x => lowB x.toNat) := spelledB_rest h0 (by omega) hc
      go_enter Tryd.func24, Tryd.ntmps24
      go_wp2_with (go_at_call 26; refine (small_any _ _).mono ?_; rintro e w' ⟨rfl, rfl⟩)
      clear hc hn hie
      go_loop [7] (fun i => ∃ k : Nat, 1 ≤ k ∧ k ≤ l.length ∧ i = .int .i64 k ∧ Hid (spelledB smallB lowB l = (l.drop k).all fun x => lowB x.toNat)) (fun i => l.length - (intOf i).toNat)
      case atStart => exact ⟨1, Nat.le_refl _, h0, rfl, hres⟩
      case round =>
        clear hres
        obtain ⟨k, hk1, hk, rfl, hres⟩ := hrel
        by_cases hlt : k < l.length
        · cases hm : lowB ((ByteArray.mk l.toArray)[k]'hlt).toNat
          · go_wp2_with (go_at_call 28; refine (low_any _ _).mono ?_; rintro e w' ⟨rfl, rfl⟩)
            go_ret
            refine ⟨ret_bool ?_, rfl⟩
            rw [hres.out, all_drop_step hlt, ← at_bytes l k hlt hlt, hm, Bool.false_and]
          · go_wp2_with (go_at_call 28; refine (low_any _ _).mono ?_; rintro e w' ⟨rfl, rfl⟩)
            go_round
            case rel =>
              refine ⟨k + 1, by omega, by omega, by go_num, ?_⟩
              have := hres.out
              rw [all_drop_step hlt, ← at_bytes l k hlt hlt, hm, Bool.true_and] at this
              exact this
            case measure => simp [intOf]; omega
        · go_wp2
          go_ret
          refine ⟨ret_bool ?_, rfl⟩
          rw [hres.out, all_drop_end hlt]
  · go_enter Tryd.func24, Tryd.ntmps24
    go_wp2
    go_ret
    exact ⟨ret_bool (spelledB_long (by omega)).symm, rfl⟩

set_option maxHeartbeats 400000 in
theorem spelled_con (l : List UInt8) (w : World) (hl : l.length ≤ maxLen) :
    Calls Tryd.prog 24 #[.string ⟨l.toArray⟩, .func (.func 25) #[] #[], .func (.func 28) #[] #[]] w fun e w' => e = .returned (.bool (spelledB firstB lowB l)) ∧ w = w' := by
  unfold maxLen at hl
  by_cases hn : l = []
  · subst hn
    go_enter Tryd.func24, Tryd.ntmps24
    go_wp2
    go_ret
    exact ⟨rfl, rfl⟩
  have hie : l.isEmpty = false := by simpa using hn
  by_cases h1 : (l.length : Int) ≤ 255
  · have h0 : 0 < l.length := List.length_pos_iff.2 hn
    cases hc : firstB ((ByteArray.mk l.toArray)[0]'h0).toNat
    · go_enter Tryd.func24, Tryd.ntmps24
      go_wp2_with (go_at_call 25; refine (con1_any _ _).mono ?_; rintro e w' ⟨rfl, rfl⟩)
      go_ret
      exact ⟨ret_bool (spelledB_first h0 hc).symm, rfl⟩
    · have hres : Hid (spelledB firstB lowB l = (l.drop 1).all fun x => lowB x.toNat) := spelledB_rest h0 (by omega) hc
      go_enter Tryd.func24, Tryd.ntmps24
      go_wp2_with (go_at_call 25; refine (con1_any _ _).mono ?_; rintro e w' ⟨rfl, rfl⟩)
      clear hc hn hie
      go_loop [7] (fun i => ∃ k : Nat, 1 ≤ k ∧ k ≤ l.length ∧ i = .int .i64 k ∧ Hid (spelledB firstB lowB l = (l.drop k).all fun x => lowB x.toNat)) (fun i => l.length - (intOf i).toNat)
      case atStart => exact ⟨1, Nat.le_refl _, h0, rfl, hres⟩
      case round =>
        clear hres
        obtain ⟨k, hk1, hk, rfl, hres⟩ := hrel
        by_cases hlt : k < l.length
        · cases hm : lowB ((ByteArray.mk l.toArray)[k]'hlt).toNat
          · go_wp2_with (go_at_call 28; refine (low_any _ _).mono ?_; rintro e w' ⟨rfl, rfl⟩)
            go_ret
            refine ⟨ret_bool ?_, rfl⟩
            rw [hres.out, all_drop_step hlt, ← at_bytes l k hlt hlt, hm, Bool.false_and]
          · go_wp2_with (go_at_call 28; refine (low_any _ _).mono ?_; rintro e w' ⟨rfl, rfl⟩)
            go_round
            case rel =>
              refine ⟨k + 1, by omega, by omega, by go_num, ?_⟩
              have := hres.out
              rw [all_drop_step hlt, ← at_bytes l k hlt hlt, hm, Bool.true_and] at this
              exact this
            case measure => simp [intOf]; omega
        · go_wp2
          go_ret
          refine ⟨ret_bool ?_, rfl⟩
          rw [hres.out, all_drop_end hlt]
  · go_enter Tryd.func24, Tryd.ntmps24
    go_wp2
    go_ret
    exact ⟨ret_bool (spelledB_long (by omega)).symm, rfl⟩

set_option maxHeartbeats 400000 in
theorem spelled_var (l : List UInt8) (w : World) (hl : l.length ≤ maxLen) :
    Calls Tryd.prog 24 #[.string ⟨l.toArray⟩, .func (.func 29) #[] #[], .func (.func 30) #[] #[]] w fun e w' => e = .returned (.bool (spelledB greatB varB l)) ∧ w = w' := by
  unfold maxLen at hl
  by_cases hn : l = []
  · subst hn
    go_enter Tryd.func24, Tryd.ntmps24
    go_wp2
    go_ret
    exact ⟨rfl, rfl⟩
  have hie : l.isEmpty = false := by simpa using hn
  by_cases h1 : (l.length : Int) ≤ 255
  · have h0 : 0 < l.length := List.length_pos_iff.2 hn
    cases hc : greatB ((ByteArray.mk l.toArray)[0]'h0).toNat
    · go_enter Tryd.func24, Tryd.ntmps24
      go_wp2_with (go_at_call 29; refine (great_any _ _).mono ?_; rintro e w' ⟨rfl, rfl⟩)
      go_ret
      exact ⟨ret_bool (spelledB_first h0 hc).symm, rfl⟩
    · have hres : Hid (spelledB greatB varB l = (l.drop 1).all fun x => varB x.toNat) := spelledB_rest h0 (by omega) hc
      go_enter Tryd.func24, Tryd.ntmps24
      go_wp2_with (go_at_call 29; refine (great_any _ _).mono ?_; rintro e w' ⟨rfl, rfl⟩)
      clear hc hn hie
      go_loop [7] (fun i => ∃ k : Nat, 1 ≤ k ∧ k ≤ l.length ∧ i = .int .i64 k ∧ Hid (spelledB greatB varB l = (l.drop k).all fun x => varB x.toNat)) (fun i => l.length - (intOf i).toNat)
      case atStart => exact ⟨1, Nat.le_refl _, h0, rfl, hres⟩
      case round =>
        clear hres
        obtain ⟨k, hk1, hk, rfl, hres⟩ := hrel
        by_cases hlt : k < l.length
        · cases hm : varB ((ByteArray.mk l.toArray)[k]'hlt).toNat
          · go_wp2_with (go_at_call 30; refine (var1_any _ _).mono ?_; rintro e w' ⟨rfl, rfl⟩)
            go_ret
            refine ⟨ret_bool ?_, rfl⟩
            rw [hres.out, all_drop_step hlt, ← at_bytes l k hlt hlt, hm, Bool.false_and]
          · go_wp2_with (go_at_call 30; refine (var1_any _ _).mono ?_; rintro e w' ⟨rfl, rfl⟩)
            go_round
            case rel =>
              refine ⟨k + 1, by omega, by omega, by go_num, ?_⟩
              have := hres.out
              rw [all_drop_step hlt, ← at_bytes l k hlt hlt, hm, Bool.true_and] at this
              exact this
            case measure => simp [intOf]; omega
        · go_wp2
          go_ret
          refine ⟨ret_bool ?_, rfl⟩
          rw [hres.out, all_drop_end hlt]
  · go_enter Tryd.func24, Tryd.ntmps24
    go_wp2
    go_ret
    exact ⟨ret_bool (spelledB_long (by omega)).symm, rfl⟩
end Go.Proofs.YtncbecpnfcjikaaDoor
