/- What the reader's step and Read come to, step by step, and as reading back; no program in sight. -/
import Derived.Test.YtkdeokgkjmboeaaGreatDoorCertD
namespace Go.Proofs.YtkdeokgkjmboeaaGreatDoor
open Go.RowKit

/-- The cites' loop. -/
def natsS (s : List UInt8) : Nat → Nat → Bool → List Nat × Nat × Bool
  | 0, i, b => ([], i, b)
  | m + 1, i, b => if b then ([], i, true) else
    let r := numS s i false
    let q := natsS s m r.2.1 r.2.2
    (r.1 :: q.1, q.2)
theorem natsS_bad (s : List UInt8) (m i : Nat) : natsS s m i true = ([], i, true) := by cases m <;> rfl
theorem natsS_le {s : List UInt8} : ∀ (m i : Nat) (b : Bool), i ≤ s.length → (natsS s m i b).2.1 ≤ s.length
  | 0, i, b, h => h
  | m + 1, i, true, h => h
  | m + 1, i, false, h => by
    rw [natsS, if_neg (by simp)]
    exact natsS_le m _ _ (numS_le h).2
theorem natsS_P {s : List UInt8} : ∀ (m i : Nat), i ≤ s.length → manyP numP m (s.drop i) = ofS s (natsS s m i false)
  | 0, i, h => rfl
  | m + 1, i, h => by
    rw [manyP, numS_P, natsS, if_neg (by simp)]
    have hf := (numS_le (bad := false) h).2
    generalize numS s i false = f at *
    obtain ⟨v, j, b⟩ := f
    simp only at hf
    cases b
    · simp only [ofS, Bool.false_eq_true, if_false]
      rw [natsS_P m j hf]
      generalize natsS s m j false = r at *
      obtain ⟨L, l, b⟩ := r
      cases b <;> rfl
    · simp only [ofS, if_true, natsS_bad]
/-- What the reader's step comes to. -/
def stepS (s : List UInt8) (i : Nat) (bad : Bool) : Stp × Nat × Bool :=
  let c := numS s i bad
  let a := atomS s c.2.1 c.2.2
  let n := numS s a.2.1 a.2.2
  let q := natsS s n.1 n.2.1 (n.2.2 || decide (16 < n.1))
  ((a.1, (c.1 : Int) - 1, q.1.map fun x : Nat => (x : Int)), q.2.1, q.2.2)
theorem stepS_le {s : List UInt8} {i : Nat} {bad : Bool} (hi : i ≤ s.length) : (stepS s i bad).2.1 ≤ s.length :=
  natsS_le _ _ _ (numS_le (atomS_le (numS_le hi).2)).2
theorem stepS_P {s : List UInt8} {i : Nat} (k : Nat) (hi : i ≤ s.length) : stepP k (s.drop i) = if (stepS s i false).2.2 || !mayB k (stepS s i false).1 then none else some ((stepS s i false).1, s.drop (stepS s i false).2.1) := by
  unfold stepP stepS
  rw [numS_P]
  have h1 := (numS_le (bad := false) hi).2
  generalize numS s i false = c at *
  obtain ⟨c, i1, b⟩ := c
  simp only at h1
  cases b
  case true => simp only [ofS, if_true, atomS_bad, numS_bad, Bool.true_or, natsS_bad]
  simp only [ofS, Bool.false_eq_true, if_false]
  rw [atomS_P h1]
  have h2 := atomS_le (bad := false) h1
  generalize atomS s i1 false = a at *
  obtain ⟨a, i2, b⟩ := a
  simp only at h2
  cases b
  case true => simp only [ofS, if_true, numS_bad, Bool.true_or, natsS_bad]
  simp only [ofS, Bool.false_eq_true, if_false]
  rw [numS_P]
  have h3 := (numS_le (bad := false) h2).2
  generalize numS s i2 false = n at *
  obtain ⟨n, i3, b⟩ := n
  simp only at h3
  cases b
  case true => simp only [ofS, if_true, Bool.true_or, natsS_bad]
  simp only [ofS, Bool.false_eq_true, if_false, Bool.false_or]
  by_cases h4 : 16 < n
  · simp only [h4, if_true, decide_true, natsS_bad, Bool.true_or]
  simp only [h4, if_false, decide_false]
  rw [natsS_P n i3 h3]
  generalize natsS s n i3 false = r at *
  obtain ⟨L, i4, b⟩ := r
  cases b
  case true => simp only [ofS, if_true, Bool.true_or]
  simp only [ofS, Bool.false_eq_true, if_false, Bool.false_or]
  cases hm : mayB k (a, (c : Int) - 1, L.map fun x : Nat => (x : Int)) <;> simp
/-- Read's loop. -/
def stepsS (s : List UInt8) : Nat → Nat → Nat → Bool → List Stp × Nat × Bool
  | 0, _, i, b => ([], i, b)
  | m + 1, k, i, b => if b then ([], i, true) else
    let r := stepS s i false
    let q := stepsS s m (k + 1) r.2.1 (r.2.2 || !mayB k r.1)
    (r.1 :: q.1, q.2)
theorem stepsS_bad (s : List UInt8) (m k i : Nat) : stepsS s m k i true = ([], i, true) := by cases m <;> rfl
theorem stepsS_le {s : List UInt8} : ∀ (m k i : Nat) (b : Bool), i ≤ s.length → (stepsS s m k i b).2.1 ≤ s.length
  | 0, k, i, b, h => h
  | m + 1, k, i, true, h => h
  | m + 1, k, i, false, h => by
    rw [stepsS, if_neg (by simp)]
    exact stepsS_le m _ _ _ (stepS_le h)
theorem stepsS_P {s : List UInt8} : ∀ (m k i : Nat), i ≤ s.length → stepsP m k (s.drop i) = ofS s (stepsS s m k i false)
  | 0, k, i, h => rfl
  | m + 1, k, i, h => by
    have e : stepsS s (m + 1) k i false = ((stepS s i false).1 :: (stepsS s m (k + 1) (stepS s i false).2.1 ((stepS s i false).2.2 || !mayB k (stepS s i false).1)).1, (stepsS s m (k + 1) (stepS s i false).2.1 ((stepS s i false).2.2 || !mayB k (stepS s i false).1)).2) := by rw [stepsS, if_neg (by simp)]
    rw [stepsP, stepS_P k h, e]
    clear e
    have hf := stepS_le (bad := false) h
    generalize stepS s i false = f at *
    obtain ⟨x, j, b⟩ := f
    simp only at hf
    simp only
    cases hb : (b || !mayB k x)
    · simp only [Bool.false_eq_true, if_false]
      rw [stepsS_P m (k + 1) j hf]
      generalize stepsS s m (k + 1) j false = r at *
      obtain ⟨L, l, b⟩ := r
      cases b <;> rfl
    · simp only [if_true, stepsS_bad]; rfl
/-- What Read comes to. -/
def readS (s : List UInt8) : Option (List Stp) :=
  let n := numS s 0 false
  let q := stepsS s n.1 0 n.2.1 (n.2.2 || decide (1048576 < n.1))
  if q.2.2 || decide (q.2.1 ≠ s.length) then none else some q.1
theorem readS_P (s : List UInt8) : readP s = readS s := by
  have hd : derivP s = match numP (s.drop 0) with | none => none | some (n, r) => if 1048576 < n then none else stepsP n 0 r := rfl
  rw [readP, hd, numS_P]
  unfold readS
  have h1 := (numS_le (s := s) (bad := false) (Nat.zero_le _)).2
  generalize numS s 0 false = n at *
  obtain ⟨n, j, b⟩ := n
  simp only at h1
  cases b
  case true => simp only [ofS, if_true, Bool.true_or, stepsS_bad]
  simp only [ofS, Bool.false_eq_true, if_false, Bool.false_or]
  by_cases h4 : 1048576 < n
  · simp only [h4, if_true, decide_true, stepsS_bad, Bool.true_or]
  simp only [h4, if_false, decide_false]
  rw [stepsS_P n 0 j h1]
  have hl := stepsS_le n 0 j false h1
  generalize stepsS s n 0 j false = r at *
  obtain ⟨L, l, b⟩ := r
  simp only at hl
  cases b
  case true => simp only [ofS, if_true, Bool.true_or]
  simp only [ofS, Bool.false_eq_true, if_false, Bool.false_or]
  by_cases he : l = s.length
  · have : s.drop l = [] := List.drop_eq_nil_of_le (by omega)
    rw [this]; simp [he]
  · cases hd : s.drop l with
    | nil =>
      have := congrArg List.length hd
      rw [List.length_drop, List.length_nil] at this
      omega
    | cons c r => simp [he]
end Go.Proofs.YtkdeokgkjmboeaaGreatDoor
