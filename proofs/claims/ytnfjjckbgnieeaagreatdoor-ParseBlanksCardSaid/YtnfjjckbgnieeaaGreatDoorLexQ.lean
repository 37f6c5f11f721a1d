/- Tokens, in plain words: words alone; the tokens' texts joined by blanks. -/
import Derived.Test.YtnfjjckbgnieeaaGreatDoorLexP
namespace Go.Proofs.YtnfjjckbgnieeaaGreatDoor
open Go.RowKit

theorem takeWhile_all {p : UInt8 → Bool} : ∀ {l : List UInt8}, (∀ x ∈ l, p x = true) → l.takeWhile p = l
  | [], _ => rfl
  | c :: r, h => by rw [List.takeWhile_cons, if_pos (h c (by simp)), takeWhile_all fun x hx => h x (by simp [hx])]
theorem great_facts {n : Int} (h : greatB n = true) : signB n = false ∧ blankB n = false ∧ firstB n = false ∧ n ≠ 37 := by
  simp only [greatB, Bool.and_eq_true, decide_eq_true_eq] at h
  refine ⟨?_, ?_, ?_, by omega⟩
  · simp only [signB, Bool.or_eq_false_iff, beq_eq_false_iff_ne]; omega
  · simp only [blankB, Bool.or_eq_false_iff, beq_eq_false_iff_ne]; omega
  · simp only [firstB, smallB, digitB, Bool.or_eq_false_iff, Bool.and_eq_false_iff, decide_eq_false_iff_not]; omega
theorem first_facts {n : Int} (h : firstB n = true) : signB n = false ∧ blankB n = false ∧ greatB n = false ∧ n ≠ 37 := by
  simp only [firstB, smallB, digitB, Bool.or_eq_true, Bool.and_eq_true, decide_eq_true_eq] at h
  refine ⟨?_, ?_, ?_, by omega⟩
  · simp only [signB, Bool.or_eq_false_iff, beq_eq_false_iff_ne]; omega
  · simp only [blankB, Bool.or_eq_false_iff, beq_eq_false_iff_ne]; omega
  · simp only [greatB, Bool.and_eq_false_iff, decide_eq_false_iff_not]; omega
theorem sign_facts {n : Int} (h : signB n = true) : blankB n = false ∧ n ≠ 37 := by
  simp only [signB, Bool.or_eq_true, beq_iff_eq] at h
  refine ⟨?_, by omega⟩
  simp only [blankB, Bool.or_eq_false_iff, beq_eq_false_iff_ne]; omega
theorem tokN_sign {c : UInt8} {r : List UInt8} (h : signB c.toNat = true) : tokN (c :: r) = some (.ok (3, [c])) := by
  rw [tokN, if_pos h]
theorem tokN_great {c : UInt8} {r : List UInt8} (h1 : signB c.toNat = false) (h2 : greatB c.toNat = true) :
    tokN (c :: r) = some (if (c :: r.takeWhile fun x => moreB true x.toNat).length ≤ 255 then .ok (2, c :: r.takeWhile fun x => moreB true x.toNat) else .error 4) := by
  rw [tokN, if_neg (by rw [h1]; simp), if_pos h2]
theorem tokN_first {c : UInt8} {r : List UInt8} (h1 : signB c.toNat = false) (h2 : greatB c.toNat = false) (h3 : firstB c.toNat = true) :
    tokN (c :: r) = some (if (c :: r.takeWhile fun x => moreB false x.toNat).length ≤ 255 then .ok (1, c :: r.takeWhile fun x => moreB false x.toNat) else .error 4) := by
  rw [tokN, if_neg (by rw [h1]; simp), if_neg (by rw [h2]; simp), if_pos h3]
theorem takeWhile_mem {p : UInt8 → Bool} : ∀ {l : List UInt8} {x : UInt8}, x ∈ l.takeWhile p → p x = true
  | [], _, h => by cases h
  | c :: r, x, h => by
    rw [List.takeWhile_cons] at h
    split at h
    · rename_i hc
      rcases List.mem_cons.1 h with rfl | h
      · exact hc
      · exact takeWhile_mem h
    · cases h
/-- A word: what begins as a token and is one whole. -/
def WordT (q : Int) (t : List UInt8) : Prop := tokN t = some (.ok (q, t)) ∧ (∀ r, skipN false (t ++ r) = 0) ∧ t ≠ []
theorem skip_first {c : UInt8} {r : List UInt8} (h1 : blankB c.toNat = false) (h2 : (c.toNat : Int) ≠ 37) : skipN false (c :: r) = 0 := by
  rw [skipN, if_neg (by rw [h1]; simp), if_neg (by rintro rfl; exact h2 rfl)]
theorem word_var {s : List UInt8} (h : variableB s = true) : WordT 2 s := by
  cases s with
  | nil => simp [variableB, spelledB] at h
  | cons c r =>
    simp only [variableB, spelledB, Bool.and_eq_true, decide_eq_true_eq, List.all_eq_true] at h
    obtain ⟨⟨h1, h2⟩, h3⟩ := h
    obtain ⟨f1, f2, _, f4⟩ := great_facts h2
    refine ⟨?_, fun t => skip_first f2 f4, by simp⟩
    have ht : r.takeWhile (fun x => moreB true x.toNat) = r := takeWhile_all fun x hx => by
      have := h3 x hx
      unfold varB at this
      unfold moreB
      rw [Bool.true_and]; exact this
    rw [tokN_great f1 h2, ht, if_pos h1]
theorem word_con {s : List UInt8} (h : constantB s = true) : WordT 1 s := by
  cases s with
  | nil => simp [constantB, spelledB] at h
  | cons c r =>
    simp only [constantB, spelledB, Bool.and_eq_true, decide_eq_true_eq, List.all_eq_true] at h
    obtain ⟨⟨⟨h1, h2⟩, h3⟩, _⟩ := h
    obtain ⟨f1, f2, f3, f4⟩ := first_facts h2
    refine ⟨?_, fun t => skip_first f2 f4, by simp⟩
    have ht : r.takeWhile (fun x => moreB false x.toNat) = r := takeWhile_all fun x hx => by
      have := h3 x hx
      unfold moreB
      rw [this, Bool.true_or]
    rw [tokN_first f1 f3 h2, ht, if_pos h1]
theorem word_sign {c : UInt8} (h : signB c.toNat = true) : WordT 3 [c] := by
  obtain ⟨f1, f2⟩ := sign_facts h
  refine ⟨?_, fun t => skip_first f1 f2, by simp⟩
  exact tokN_sign h
theorem toksF_nil (f : Nat) (i : Nat) : toksF f [] i = ([], none) := by
  cases f <;> rfl
/-- A word, and what is behind it. -/
theorem toksF_word {q : Int} {t : List UInt8} (h : WordT q t) (f : Nat) (i : Nat) {r : List UInt8} (hr : r = [] ∨ ∃ d r', r = d :: r' ∧ Ends d) :
    toksF (f + 1) (t ++ r) i = ((q, t, i) :: (toksF f r (i + t.length)).1, (toksF f r (i + t.length)).2) := by
  obtain ⟨h1, h2, h3⟩ := h
  have ht : tokN (t ++ r) = some (.ok (q, t)) := by
    rcases hr with rfl | ⟨d, r', rfl, hd⟩
    · rw [List.append_nil]; exact h1
    · rw [tokN_join hd h3]; exact h1
  rw [toksF, h2 r, List.drop_zero, ht]
  simp only [Nat.zero_add, Nat.add_zero, List.drop_left']
theorem toksL_word {q : Int} {t : List UInt8} (h : WordT q t) : toksL t = ([(q, t, 0)], none) := by
  have := toksF_word h t.length 0 (r := []) (.inl rfl)
  rw [List.append_nil] at this
  rw [toksL, this, toksF_nil]
theorem skip_remark : ∀ {r : List UInt8}, (10 : UInt8) ∉ r → skipN true r = r.length
  | [], _ => rfl
  | c :: r, h => by
    rw [skipN, if_neg (by rintro rfl; exact h (by simp)), skip_remark (fun hm => h (by simp [hm])), List.length_cons]; omega
theorem toksL_remark {q : Int} {t r : List UInt8} (h : WordT q t) (hr : (10 : UInt8) ∉ r) : toksL (t ++ 37 :: r) = ([(q, t, 0)], none) := by
  have := toksF_word h (t ++ 37 :: r).length 0 (r := 37 :: r) (.inr ⟨37, r, rfl, ends_37⟩)
  rw [toksL, this]
  have e : toksF (t ++ 37 :: r).length (37 :: r) (0 + t.length) = ([], none) := by
    obtain ⟨f, hf⟩ : ∃ f, (t ++ 37 :: r).length = f + 1 := ⟨(t ++ 37 :: r).length - 1, by simp; omega⟩
    have hb : blankB (((37 : UInt8).toNat : Nat) : Int) = false := by decide
    have hs : skipN false (37 :: r) = 1 + r.length := by rw [skipN, if_neg (by rw [hb]; simp), if_pos rfl, skip_remark hr]
    rw [hf, toksF, hs, List.drop_eq_nil_of_le (by simp; omega)]; rfl
  rw [e]
theorem toksL_three {q : Int} {t : List UInt8} (h : WordT q t) : toksL (t ++ 10 :: 44 :: t) = ([(q, t, 0), (3, [44], t.length + 1), (q, t, t.length + 2)], none) := by
  have hj := toksF_join (44 :: t) (t.length + 1) t 0 ((t ++ 10 :: 44 :: t).length + 1) (by omega) (by omega)
  have h1 : toksF (t.length + 1) t 0 = ([(q, t, 0)], none) := toksL_word h
  rw [h1] at hj
  simp only [Nat.zero_add] at hj
  have h44 : signB (((44 : UInt8).toNat : Nat) : Int) = true := by decide
  have hw := word_sign h44
  have e1 : toksF ((t ++ 10 :: 44 :: t).length + 1) (44 :: t) (t.length + 1) = ((3, [44], t.length + 1) :: (toksF (t ++ 10 :: 44 :: t).length t (t.length + 2)).1, (toksF (t ++ 10 :: 44 :: t).length t (t.length + 2)).2) := by
    have hs : skipN false (44 :: t) = 0 := hw.2.1 t
    rw [toksF, hs]
    have : tokN ((44 :: t).drop 0) = some (.ok (3, [44])) := tokN_sign h44
    rw [this]
    simp only [Nat.zero_add, Nat.add_zero, List.length_cons, List.length_nil, List.drop_succ_cons, List.drop_zero]
  have e2 : toksF (t ++ 10 :: 44 :: t).length t (t.length + 2) = ([(q, t, t.length + 2)], none) := by
    obtain ⟨f, hf⟩ : ∃ f, (t ++ 10 :: 44 :: t).length = f + 1 := ⟨(t ++ 10 :: 44 :: t).length - 1, by simp; omega⟩
    have := toksF_word h f (t.length + 2) (r := []) (.inl rfl)
    rw [List.append_nil, toksF_nil] at this
    rw [hf, this]
  rw [toksL, hj, e1, e2]; rfl

/-- A token's text is a token. -/
theorem tok_word {r : List UInt8} {q : Int} {t : List UInt8} (h : tokN r = some (.ok (q, t))) : WordT q t := by
  cases r with
  | nil => simp [tokN] at h
  | cons c r =>
    simp only [tokN] at h
    split at h
    · rename_i hs
      simp only [Option.some.injEq, Except.ok.injEq, Prod.mk.injEq] at h
      rw [← h.1, ← h.2]; exact word_sign hs
    · rename_i hs
      split at h
      · rename_i hg
        simp only [Option.some.injEq] at h
        split at h
        · rename_i hl
          simp only [Except.ok.injEq, Prod.mk.injEq] at h
          obtain ⟨f1, f2, _, f4⟩ := great_facts hg
          rw [← h.1, ← h.2]
          refine ⟨?_, fun t => skip_first f2 f4, by simp⟩
          have ht : (r.takeWhile (fun x => moreB true x.toNat)).takeWhile (fun x => moreB true x.toNat) = r.takeWhile (fun x => moreB true x.toNat) := takeWhile_all fun x hx => takeWhile_mem hx
          rw [tokN_great f1 hg, ht, if_pos hl]
        · cases h
      · rename_i hg
        split at h
        · rename_i hf
          simp only [Option.some.injEq] at h
          split at h
          · rename_i hl
            simp only [Except.ok.injEq, Prod.mk.injEq] at h
            obtain ⟨f1, f2, f3, f4⟩ := first_facts hf
            rw [← h.1, ← h.2]
            refine ⟨?_, fun t => skip_first f2 f4, by simp⟩
            have ht : (r.takeWhile (fun x => moreB false x.toNat)).takeWhile (fun x => moreB false x.toNat) = r.takeWhile (fun x => moreB false x.toNat) := takeWhile_all fun x hx => takeWhile_mem hx
            rw [tokN_first f1 f3 hf, ht, if_pos hl]
          · cases h
        · simp only [Option.some.injEq] at h; cases h
/-- The tokens of a text are words, each at its place. -/
theorem toksF_good : ∀ (f : Nat) (r : List UInt8) (i : Nat), ∀ t ∈ (toksF f r i).1, WordT t.1 t.2.1 ∧ i ≤ t.2.2 ∧ t.2.2 + t.2.1.length ≤ i + r.length ∧ ((r.drop (t.2.2 - i)).take t.2.1.length) = t.2.1
  | 0, _, _ => by simp [toksF]
  | f + 1, r, i => by
    intro t ht
    rw [toksF] at ht
    have hs := skipN_le false r
    cases hk : tokN (r.drop (skipN false r)) with
    | none => rw [hk] at ht; simp at ht
    | some x =>
      cases x with
      | error e => rw [hk] at ht; simp at ht
      | ok p =>
        obtain ⟨q, u⟩ := p
        rw [hk] at ht
        simp only at ht
        obtain ⟨h1, r', h2⟩ := tokN_len hk
        have hl := congrArg List.length h2
        rw [List.length_drop, List.length_append] at hl
        rcases List.mem_cons.1 ht with rfl | ht
        · refine ⟨tok_word hk, by simp, by simp; omega, ?_⟩
          show (r.drop (i + skipN false r - i)).take u.length = u
          rw [show i + skipN false r - i = skipN false r from by omega, h2, List.take_left']; rfl
        · obtain ⟨g1, g2, g3, g4⟩ := toksF_good f _ _ t ht
          rw [List.length_drop] at g3
          refine ⟨g1, by omega, by omega, ?_⟩
          rw [List.drop_drop] at g4
          rw [show t.2.2 - i = skipN false r + u.length + (t.2.2 - (i + skipN false r + u.length)) from by omega]; exact g4
/-- .. one behind the other. -/
theorem toksF_rising : ∀ (f : Nat) (r : List UInt8) (i : Nat), (toksF f r i).1.Pairwise fun t u => t.2.2 + t.2.1.length ≤ u.2.2
  | 0, _, _ => by simp [toksF]
  | f + 1, r, i => by
    rw [toksF]
    cases hk : tokN (r.drop (skipN false r)) with
    | none => simp
    | some x =>
      cases x with
      | error e => simp
      | ok p =>
        obtain ⟨q, u⟩ := p
        simp only
        refine List.pairwise_cons.2 ⟨fun t ht => ?_, toksF_rising f _ _⟩
        have := (toksF_good f _ _ t ht).2.1
        simpa using this
/-- An error stands within the text. -/
theorem toksF_err : ∀ (f : Nat) (r : List UInt8) (i : Nat) (at_ : Nat) (e : Int), (toksF f r i).2 = some (at_, e) → at_ < i + r.length ∧ e ≠ 0
  | 0, _, _, _, _, h => by simp [toksF] at h
  | f + 1, r, i, at_, e, h => by
    rw [toksF] at h
    have hs := skipN_le false r
    cases hk : tokN (r.drop (skipN false r)) with
    | none => rw [hk] at h; simp at h
    | some x =>
      cases x with
      | error x =>
        rw [hk] at h
        simp only [Option.some.injEq, Prod.mk.injEq] at h
        have hne : skipN false r < r.length := by
          rcases Nat.lt_or_ge (skipN false r) r.length with h' | h'
          · exact h'
          · rw [List.drop_eq_nil_of_le h'] at hk; cases hk
        refine ⟨by omega, ?_⟩
        rw [← h.2]
        cases hr : r.drop (skipN false r) with
        | nil => rw [hr] at hk; cases hk
        | cons c r' =>
          rw [hr] at hk
          simp only [tokN] at hk
          split at hk
          · cases hk
          · split at hk
            · simp only [Option.some.injEq] at hk
              split at hk
              · cases hk
              · injection hk with hk; rw [← hk]; decide
            · split at hk
              · simp only [Option.some.injEq] at hk
                split at hk
                · cases hk
                · injection hk with hk; rw [← hk]; decide
              · simp only [Option.some.injEq] at hk
                injection hk with hk; rw [← hk]; decide
      | ok p =>
        obtain ⟨q, u⟩ := p
        rw [hk] at h
        simp only at h
        obtain ⟨h1, r', h2⟩ := tokN_len hk
        have hl := congrArg List.length h2
        rw [List.length_drop, List.length_append] at hl
        have := toksF_err f _ _ at_ e h
        rw [List.length_drop] at this
        exact ⟨by omega, this.2⟩

/-- The tokens' texts, a blank between. -/
def blanksL : List (List UInt8) → List UInt8
  | [] => []
  | [t] => t
  | t :: u :: r => t ++ 32 :: blanksL (u :: r)
theorem toks_blanks : ∀ (L : List (Int × List UInt8)) (f i : Nat), (∀ p ∈ L, WordT p.1 p.2) → (blanksL (L.map (·.2))).length < f →
    (toksF f (blanksL (L.map (·.2))) i).1.map (fun t => (t.1, t.2.1)) = L ∧ (toksF f (blanksL (L.map (·.2))) i).2 = none
  | [], f, i, _, _ => by
    rw [List.map_nil, blanksL, toksF_nil]; exact ⟨rfl, rfl⟩
  | [p], 0, i, _, hf => by omega
  | [p], f + 1, i, h, _ => by
    have hw := toksF_word (h p (by simp)) f i (r := []) (.inl rfl)
    rw [List.append_nil, toksF_nil] at hw
    rw [List.map_cons, List.map_nil, blanksL, hw]; exact ⟨rfl, rfl⟩
  | p :: q :: r, 0, i, _, hf => by omega
  | p :: q :: r, 1, i, h, hf => by
    have := (h p (by simp)).2.2
    have hl : 0 < p.2.length := List.length_pos_iff.2 this
    rw [List.map_cons, List.map_cons, blanksL, List.length_append, List.length_cons] at hf
    omega
  | p :: q :: r, f + 2, i, h, hf => by
    have hl : 0 < p.2.length := List.length_pos_iff.2 (h p (by simp)).2.2
    rw [List.map_cons, List.map_cons, blanksL, List.length_append, List.length_cons] at hf
    have hw := toksF_word (h p (by simp)) (f + 1) i (r := 32 :: blanksL (q.2 :: r.map (·.2))) (.inr ⟨32, _, rfl, ends_32⟩)
    rw [List.map_cons, List.map_cons, blanksL, hw]
    -- the blank is passed over
    have hq := (h q (by simp)).2.1
    have hsk : skipN false (blanksL (q.2 :: r.map (·.2))) = 0 := by
      cases r with
      | nil => have := hq []; rw [List.append_nil] at this; exact this
      | cons u r' => exact hq _
    have hb : blankB (((32 : UInt8).toNat : Nat) : Int) = true := by decide
    have ihh := toks_blanks (q :: r) (f + 1) (i + p.2.length + 1) (fun x hx => h x (by simp [hx])) (by rw [List.map_cons]; omega)
    rw [List.map_cons] at ihh
    have e : toksF (f + 1) (32 :: blanksL (q.2 :: r.map (·.2))) (i + p.2.length) = toksF (f + 1) (blanksL (q.2 :: r.map (·.2))) (i + p.2.length + 1) := by
      rw [toksF, toksF, hsk, skipN, if_pos hb, hsk]
      simp only [Nat.add_zero, List.drop_succ_cons, List.drop_zero, Nat.zero_add, show ∀ k, 1 + k = k + 1 from fun k => Nat.add_comm 1 k]
    rw [e]
    exact ⟨by rw [List.map_cons, ihh.1], ihh.2⟩
end Go.Proofs.YtnfjjckbgnieeaaGreatDoor
