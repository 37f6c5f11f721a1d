/- SpellKinds returns true at every string, in every world in which the library's table strings.asciiSpace stands: no text is a variable and a constant, and so on. -/
import Derived.Test.YtncbecpnfcjikaaDoorSpLives
namespace Go.Proofs.YtncbecpnfcjikaaDoor
open Go.RowKit

theorem words_not_var : ∀ x ∈ wordsL, variableB x = false := by decide +kernel
theorem reserved_mem {l : List UInt8} (h : reservedB l = true) : l ∈ wordsL := by rw [reservedB, List.contains_iff_mem] at h; exact h
theorem great_not_first {n : Int} (h : greatB n = true) : firstB n = false := by
  simp only [greatB, firstB, smallB, digitB, Bool.and_eq_true, decide_eq_true_eq] at *
  rw [Bool.eq_false_iff]; simp; omega
theorem small_first {n : Int} (h : smallB n = true) : firstB n = true := by rw [firstB, h, Bool.true_or]
theorem spelledB_mono {f g m : Int → Bool} (h : ∀ n, f n = true → g n = true) {l : List UInt8} (hs : spelledB f m l = true) : spelledB g m l = true := by
  cases l with
  | nil => exact hs
  | cons c r =>
    simp only [spelledB, Bool.and_eq_true] at hs ⊢
    exact ⟨⟨hs.1.1, h _ hs.1.2⟩, hs.2⟩
theorem spelledB_head {f m : Int → Bool} {l : List UInt8} (hs : spelledB f m l = true) : ∃ h : 0 < l.length, f (l[0]).toNat = true := by
  cases l with
  | nil => simp [spelledB] at hs
  | cons c r =>
    simp only [spelledB, Bool.and_eq_true] at hs
    exact ⟨by simp, hs.1.2⟩
/-- The five kinds of texts. -/
theorem kinds (l : List UInt8) :
    (variableB l = true ∧ constantB l = false ∧ principalB l = false ∧ reservedB l = false) ∨
    (variableB l = false ∧ constantB l = true ∧ principalB l = true ∧ reservedB l = false) ∨
    (variableB l = false ∧ constantB l = true ∧ principalB l = false ∧ reservedB l = false ∧ ∃ h : 0 < l.length, digitB (l[0]).toNat = true) ∨
    (variableB l = false ∧ constantB l = false ∧ principalB l = false ∧ reservedB l = true) ∨
    (variableB l = false ∧ constantB l = false ∧ principalB l = false ∧ reservedB l = false) := by
  cases hr : reservedB l
  · have hp0 : principalB l = spelledB smallB lowB l := by rw [principalB, hr, Bool.not_false, Bool.and_true]
    have hc0 : constantB l = spelledB firstB lowB l := by rw [constantB, hr, Bool.not_false, Bool.and_true]
    cases hv : variableB l
    · cases hc : constantB l
      · right; right; right; right
        refine ⟨rfl, rfl, ?_, rfl⟩
        rw [Bool.eq_false_iff]; intro hp
        rw [hp0] at hp
        rw [hc0, spelledB_mono (fun _ => small_first) hp] at hc
        cases hc
      · cases hp : principalB l
        · right; right; left
          refine ⟨rfl, rfl, rfl, rfl, ?_⟩
          rw [hc0] at hc
          obtain ⟨h0, hf⟩ := spelledB_head hc
          refine ⟨h0, ?_⟩
          cases hs : smallB (l[0]).toNat
          · rw [firstB, hs, Bool.false_or] at hf; exact hf
          · exfalso
            have : spelledB smallB lowB l = true := by
              cases l with
              | nil => simp at h0
              | cons c r =>
                simp only [spelledB, Bool.and_eq_true] at hc ⊢
                exact ⟨⟨hc.1.1, hs⟩, hc.2⟩
            rw [hp0, this] at hp; cases hp
        · right; left; exact ⟨rfl, rfl, rfl, rfl⟩
    · left
      obtain ⟨h0, hg⟩ := spelledB_head hv
      have hf := great_not_first hg
      have hc : constantB l = false := by rw [hc0]; exact spelledB_first h0 hf
      refine ⟨rfl, hc, ?_, rfl⟩
      rw [Bool.eq_false_iff]; intro hp
      rw [hp0] at hp
      rw [hc0, spelledB_mono (fun _ => small_first) hp] at hc
      cases hc
  · right; right; right; left
    exact ⟨words_not_var _ (reserved_mem hr), by rw [constantB, hr, Bool.not_true, Bool.and_false], by rw [principalB, hr, Bool.not_true, Bool.and_false], rfl⟩

set_option maxHeartbeats 400000 in
theorem kinds_walk (l : List UInt8) (w : World) (hl : l.length ≤ maxLen) (hE : Env w) :
    Calls Tryd.prog 7 #[.string ⟨l.toArray⟩] w fun e w' => e = .returned (.bool true) ∧ Since w w' := by
  have hS := Since.refl w
  have hl' := hl
  unfold maxLen at hl'
  by_cases h6 : (l.length : Int) ≤ 600
  · have hk := kinds l
    rcases hk with ⟨k1, k2, k3, k4⟩ | ⟨k1, k2, k3, k4⟩ | ⟨k1, k2, k3, k4, k5, k6⟩ | ⟨k1, k2, k3, k4⟩ | ⟨k1, k2, k3, k4⟩
    case' inr.inr.inl =>
      have d1 : (48 : Int) ≤ ((ByteArray.mk l.toArray)[0]'k5).toNat := by rw [at_bytes l 0 k5 k5]; simp only [digitB, Bool.and_eq_true, decide_eq_true_eq] at k6; exact k6.1
      have d2 : (((ByteArray.mk l.toArray)[0]'k5).toNat : Int) ≤ 57 := by rw [at_bytes l 0 k5 k5]; simp only [digitB, Bool.and_eq_true, decide_eq_true_eq] at k6; exact k6.2
    all_goals
      go_enter Tryd.func7, Tryd.ntmps7
      go_wp2_with (first | (go_at_call 8; refine (lives_any _ hE).mono ?_; rintro e w1 ⟨rfl, hb⟩; replace hE := hE.next hb; replace hS := hS.trans hb) | (go_at_call 9; refine (constant_any _ _ hl hE).mono ?_; rintro e w1 ⟨rfl, hb⟩; replace hE := hE.next hb; replace hS := hS.trans hb) | (go_at_call 10; refine (principal_any _ _ hl hE).mono ?_; rintro e w1 ⟨rfl, hb⟩; replace hE := hE.next hb; replace hS := hS.trans hb) | (go_at_call 14; refine (predicate_any _ _ hl hE).mono ?_; rintro e w1 ⟨rfl, hb⟩; replace hE := hE.next hb; replace hS := hS.trans hb) | (go_at_call 15; refine (reserved_any _ _ hE).mono ?_; rintro e w1 ⟨rfl, hb⟩; replace hE := hE.next hb; replace hS := hS.trans hb) | (go_at_call 11; refine (variable_any _ _ hl).mono ?_; rintro e w1 ⟨rfl, rfl⟩))
      go_ret
      exact ⟨rfl, hS⟩
  · go_enter Tryd.func7, Tryd.ntmps7
    go_wp2_with (first | (go_at_call 8; refine (lives_any _ hE).mono ?_; rintro e w1 ⟨rfl, hb⟩; replace hE := hE.next hb; replace hS := hS.trans hb))
    go_ret
    exact ⟨rfl, hS⟩
end Go.Proofs.YtncbecpnfcjikaaDoor
