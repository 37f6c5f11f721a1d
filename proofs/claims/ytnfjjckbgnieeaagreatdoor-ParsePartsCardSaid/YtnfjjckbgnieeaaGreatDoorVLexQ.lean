/- Tokens, in plain words: words alone; the tokens' texts joined by blanks. -/
import Derived.Test.YtnfjjckbgnieeaaGreatDoorVLexP
namespace Go.Proofs.YtnfjjckbgnieeaaGreatDoor
open Go.RowKit

theorem takeWhile_all {p : UInt8 → Bool} : ∀ {l : List UInt8}, (∀ x ∈ l, p x = true) → l.takeWhile p = l
  | [], _ => rfl
  | c :: r, h => by rw [List.takeWhile_cons, if_pos (h c (by simp)), takeWhile_all fun x hx => h x (by simp [hx])]
theorem great_facts {n : Int} (h : greatB n = true) : signB n = false ∧ blankB n = false ∧ firstB n = false ∧ n ≠ 37 := by
  simp only [greatB, Bool.and_eq_true, decide_eq_true_eq] at h
  refine ⟨?_, ?_, ?_, by omega⟩
  · simp only [signB, Bool.or_eq_false_iff, beq_eq_false_iff_ne]; omega
  · simp only [blankB, Bool.or_eq_false_iff, beq_eq_false_iff_ne]; omega
  · simp only [firstB, smallB, digitB, Bool.or_eq_false_iff, Bool.and_eq_false_iff, decide_eq_false_iff_not]; omega
theorem first_facts {n : Int} (h : firstB n = true) : signB n = false ∧ blankB n = false ∧ greatB n = false ∧ n ≠ 37 := by
  simp only [firstB, smallB, digitB, Bool.or_eq_true, Bool.and_eq_true, decide_eq_true_eq] at h
  refine ⟨?_, ?_, ?_, by omega⟩
  · simp only [signB, Bool.or_eq_false_iff, beq_eq_false_iff_ne]; omega
  · simp only [blankB, Bool.or_eq_false_iff, beq_eq_false_iff_ne]; omega
  · simp only [greatB, Bool.and_eq_false_iff, decide_eq_false_iff_not]; omega
theorem sign_facts {n : Int} (h : signB n = true) : blankB n = false ∧ n ≠ 37 := by
  simp only [signB, Bool.or_eq_true, beq_iff_eq] at h
  refine ⟨?_, by omega⟩
  simp only [blankB, Bool.or_eq_false_iff, beq_eq_false_iff_ne]; omega
theorem tokN_sign {c : UInt8} {r : List UInt8} (h : signB c.toNat = true) : tokN (c :: r) = some (.ok (3, [c])) := by
  rw [tokN, if_pos h]
theorem tokN_great {c : UInt8} {r : List UInt8} (h1 : signB c.toNat = false) (h2 : greatB c.toNat = true) :
    tokN (c :: r) = some (if (c :: r.takeWhile fun x => moreB true x.toNat).length ≤ 255 then .ok (2, c :: r.takeWhile fun x => moreB true x.toNat) else .error 4) := by
  rw [tokN, if_neg (by rw [h1]; simp), if_pos h2]
theorem tokN_first {c : UInt8} {r : List UInt8} (h1 : signB c.toNat = false) (h2 : greatB c.toNat = false) (h3 : firstB c.toNat = true) :
    tokN (c :: r) = some (if (c :: r.takeWhile fun x => moreB false x.toNat).length ≤ 255 then .ok (1, c :: r.takeWhile fun x => moreB false x.toNat) else .error 4) := by
  rw [tokN, if_neg (by rw [h1]; simp), if_neg (by rw [h2]; simp), if_pos h3]
theorem takeWhile_mem {p : UInt8 → Bool} : ∀ {l : List UInt8} {x : UInt8}, x ∈ l.takeWhile p → p x = true
  | [], _, h => by cases h
  | c :: r, x, h => by
    rw [List.takeWhile_cons] at h
    split at h
    · rename_i hc
      rcases List.mem_cons.1 h with rfl | h
      · exact hc
      · exact takeWhile_mem h
    · cases h
/-- A word: what begins as a token and is one whole. -/
def WordT (q : Int) (t : List UInt8) : Prop := tokN t = some (.ok (q, t)) ∧ (∀ r, skipN false (t ++ r) = 0) ∧ t ≠ []
theorem skip_first {c : UInt8} {r : List UInt8} (h1 : blankB c.toNat = false) (h2 : (c.toNat : Int) ≠ 37) : skipN false (c :: r) = 0 := by
  rw [skipN, if_neg (by rw [h1]; simp), if_neg (by rintro rfl; exact h2 rfl)]
theorem word_sign {c : UInt8} (h : signB c.toNat = true) : WordT 3 [c] := by
  obtain ⟨f1, f2⟩ := sign_facts h
  refine ⟨?_, fun t => skip_first f1 f2, by simp⟩
  exact tokN_sign h
theorem toksF_nil (f : Nat) (i : Nat) : toksF f [] i = ([], none) := by
  cases f <;> rfl
/-- A word, and what is behind it. -/
theorem toksF_word {q : Int} {t : List UInt8} (h : WordT q t) (f : Nat) (i : Nat) {r : List UInt8} (hr : r = [] ∨ ∃ d r', r = d :: r' ∧ Ends d) :
    toksF (f + 1) (t ++ r) i = ((q, t, i) :: (toksF f r (i + t.length)).1, (toksF f r (i + t.length)).2) := by
  obtain ⟨h1, h2, h3⟩ := h
  have ht : tokN (t ++ r) = some (.ok (q, t)) := by
    rcases hr with rfl | ⟨d, r', rfl, hd⟩
    · rw [List.append_nil]; exact h1
    · rw [tokN_join hd h3]; exact h1
  rw [toksF, h2 r, List.drop_zero, ht]
  simp only [Nat.zero_add, Nat.add_zero, List.drop_left']
theorem toksL_word {q : Int} {t : List UInt8} (h : WordT q t) : toksL t = ([(q, t, 0)], none) := by
  have := toksF_word h t.length 0 (r := []) (.inl rfl)
  rw [List.append_nil] at this
  rw [toksL, this, toksF_nil]
/-- A token's text is a token. -/
theorem tok_word {r : List UInt8} {q : Int} {t : List UInt8} (h : tokN r = some (.ok (q, t))) : WordT q t := by
  cases r with
  | nil => simp [tokN] at h
  | cons c r =>
    simp only [tokN] at h
    split at h
    · rename_i hs
      simp only [Option.some.injEq, Except.ok.injEq, Prod.mk.injEq] at h
      rw [← h.1, ← h.2]; exact word_sign hs
    · rename_i hs
      split at h
      · rename_i hg
        simp only [Option.some.injEq] at h
        split at h
        · rename_i hl
          simp only [Except.ok.injEq, Prod.mk.injEq] at h
          obtain ⟨f1, f2, _, f4⟩ := great_facts hg
          rw [← h.1, ← h.2]
          refine ⟨?_, fun t => skip_first f2 f4, by simp⟩
          have ht : (r.takeWhile (fun x => moreB true x.toNat)).takeWhile (fun x => moreB true x.toNat) = r.takeWhile (fun x => moreB true x.toNat) := takeWhile_all fun x hx => takeWhile_mem hx
          rw [tokN_great f1 hg, ht, if_pos hl]
        · cases h
      · rename_i hg
        split at h
        · rename_i hf
          simp only [Option.some.injEq] at h
          split at h
          · rename_i hl
            simp only [Except.ok.injEq, Prod.mk.injEq] at h
            obtain ⟨f1, f2, f3, f4⟩ := first_facts hf
            rw [← h.1, ← h.2]
            refine ⟨?_, fun t => skip_first f2 f4, by simp⟩
            have ht : (r.takeWhile (fun x => moreB false x.toNat)).takeWhile (fun x => moreB false x.toNat) = r.takeWhile (fun x => moreB false x.toNat) := takeWhile_all fun x hx => takeWhile_mem hx
            rw [tokN_first f1 f3 hf, ht, if_pos hl]
          · cases h
        · simp only [Option.some.injEq] at h; cases h
/-- The tokens of a text are words, each at its place. -/
theorem toksF_good : ∀ (f : Nat) (r : List UInt8) (i : Nat), ∀ t ∈ (toksF f r i).1, WordT t.1 t.2.1 ∧ i ≤ t.2.2 ∧ t.2.2 + t.2.1.length ≤ i + r.length ∧ ((r.drop (t.2.2 - i)).take t.2.1.length) = t.2.1
  | 0, _, _ => by simp [toksF]
  | f + 1, r, i => by
    intro t ht
    rw [toksF] at ht
    have hs := skipN_le false r
    cases hk : tokN (r.drop (skipN false r)) with
    | none => rw [hk] at ht; simp at ht
    | some x =>
      cases x with
      | error e => rw [hk] at ht; simp at ht
      | ok p =>
        obtain ⟨q, u⟩ := p
        rw [hk] at ht
        simp only at ht
        obtain ⟨h1, r', h2⟩ := tokN_len hk
        have hl := congrArg List.length h2
        rw [List.length_drop, List.length_append] at hl
        rcases List.mem_cons.1 ht with rfl | ht
        · refine ⟨tok_word hk, by simp, by simp; omega, ?_⟩
          show (r.drop (i + skipN false r - i)).take u.length = u
          rw [show i + skipN false r - i = skipN false r from by omega, h2, List.take_left']; rfl
        · obtain ⟨g1, g2, g3, g4⟩ := toksF_good f _ _ t ht
          rw [List.length_drop] at g3
          refine ⟨g1, by omega, by omega, ?_⟩
          rw [List.drop_drop] at g4
          rw [show t.2.2 - i = skipN false r + u.length + (t.2.2 - (i + skipN false r + u.length)) from by omega]; exact g4
/-- An error stands within the text. -/
theorem toksF_err : ∀ (f : Nat) (r : List UInt8) (i : Nat) (at_ : Nat) (e : Int), (toksF f r i).2 = some (at_, e) → at_ < i + r.length ∧ e ≠ 0
  | 0, _, _, _, _, h => by simp [toksF] at h
  | f + 1, r, i, at_, e, h => by
    rw [toksF] at h
    have hs := skipN_le false r
    cases hk : tokN (r.drop (skipN false r)) with
    | none => rw [hk] at h; simp at h
    | some x =>
      cases x with
      | error x =>
        rw [hk] at h
        simp only [Option.some.injEq, Prod.mk.injEq] at h
        have hne : skipN false r < r.length := by
          rcases Nat.lt_or_ge (skipN false r) r.length with h' | h'
          · exact h'
          · rw [List.drop_eq_nil_of_le h'] at hk; cases hk
        refine ⟨by omega, ?_⟩
        rw [← h.2]
        cases hr : r.drop (skipN false r) with
        | nil => rw [hr] at hk; cases hk
        | cons c r' =>
          rw [hr] at hk
          simp only [tokN] at hk
          split at hk
          · cases hk
          · split at hk
            · simp only [Option.some.injEq] at hk
              split at hk
              · cases hk
              · injection hk with hk; rw [← hk]; decide
            · split at hk
              · simp only [Option.some.injEq] at hk
                split at hk
                · cases hk
                · injection hk with hk; rw [← hk]; decide
              · simp only [Option.some.injEq] at hk
                injection hk with hk; rw [← hk]; decide
      | ok p =>
        obtain ⟨q, u⟩ := p
        rw [hk] at h
        simp only at h
        obtain ⟨h1, r', h2⟩ := tokN_len hk
        have hl := congrArg List.length h2
        rw [List.length_drop, List.length_append] at hl
        have := toksF_err f _ _ at_ e h
        rw [List.length_drop] at this
        exact ⟨by omega, this.2⟩
end Go.Proofs.YtnfjjckbgnieeaaGreatDoor
