/- What the reader comes to, step by step, and as reading back; no program in sight. -/
import Derived.Test.YtkdeokgkjmboeaaGreatDoorCertC2
namespace Go.Proofs.YtkdeokgkjmboeaaGreatDoor
open Go.RowKit

theorem numS_bad (s : List UInt8) (i : Nat) : numS s i true = (0, i, true) := rfl
theorem textS_bad (s : List UInt8) (i : Nat) : textS s i true = ([], i, true) := rfl
theorem flagS_bad (s : List UInt8) (i : Nat) : flagS s i true = (false, i, true) := rfl
theorem textS_le {s : List UInt8} {i : Nat} {bad : Bool} (hi : i ≤ s.length) : (textS s i bad).2.1 ≤ s.length := by
  have h := (numS_le (bad := bad) hi).2
  unfold textS
  simp only
  split
  · exact h
  · split
    · exact h
    · simp only; omega
theorem flagS_le {s : List UInt8} {i : Nat} {bad : Bool} (hi : i ≤ s.length) : (flagS s i bad).2.1 ≤ s.length := by
  unfold flagS
  split
  · exact hi
  · split
    · exact hi
    · rename_i h
      have := congrArg List.length h
      rw [List.length_drop, List.length_cons] at this
      split
      · simp only; omega
      · exact hi
/-- What was read, if nothing was bad. -/
def ofS {α : Type} (s : List UInt8) (r : α × Nat × Bool) : Option (α × List UInt8) := if r.2.2 then none else some (r.1, s.drop r.2.1)
theorem numS_P (s : List UInt8) (i : Nat) : numP (s.drop i) = ofS s (numS s i false) := by
  unfold numP ofS numS
  simp only [Bool.false_eq_true, if_false]
  cases hr : readL (s.drop i) with
  | none => rfl
  | some p => obtain ⟨n, k⟩ := p; simp [List.drop_drop]
theorem textS_P {s : List UInt8} {i : Nat} (hi : i ≤ s.length) : textP (s.drop i) = ofS s (textS s i false) := by
  have h2 := (numS_le (bad := false) hi).2
  rw [textP, numS_P, ofS, ofS, textS]
  generalize numS s i false = r at *
  obtain ⟨n, j, b⟩ := r
  simp only at h2
  cases b
  · simp only [Bool.false_eq_true, if_false]
    by_cases hc : s.length < j + n
    · rw [if_neg (by rw [List.length_drop]; omega), if_pos hc]; rfl
    · rw [if_pos (by rw [List.length_drop]; omega), if_neg hc]
      simp [List.drop_drop]
  · rfl
theorem flagS_P (s : List UInt8) (i : Nat) : flagP (s.drop i) = ofS s (flagS s i false) := by
  rw [flagS, if_neg (by simp)]
  cases hd : s.drop i with
  | nil => rfl
  | cons c r =>
    have hr : s.drop (i + 1) = r := by rw [← List.drop_drop, hd]; rfl
    simp only [flagP]
    by_cases hc : c.toNat ≤ 1
    · rw [if_pos hc, if_pos hc, ofS, if_neg (by simp), hr]
    · rw [if_neg hc, if_neg hc]; rfl
/-- The names' loop. -/
def namesS (s : List UInt8) : Nat → Nat → Bool → List Tm × Nat × Bool
  | 0, i, b => ([], i, b)
  | m + 1, i, b => if b then ([], i, true) else
    let f := flagS s i false
    let t := textS s f.2.1 f.2.2
    let r := namesS s m t.2.1 t.2.2
    ((f.1, t.1) :: r.1, r.2)
theorem namesS_bad (s : List UInt8) (m i : Nat) : namesS s m i true = ([], i, true) := by cases m <;> rfl
theorem namesS_le {s : List UInt8} : ∀ (m i : Nat) (b : Bool), i ≤ s.length → (namesS s m i b).2.1 ≤ s.length
  | 0, i, b, h => h
  | m + 1, i, true, h => h
  | m + 1, i, false, h => by
    rw [namesS, if_neg (by simp)]
    exact namesS_le m _ _ (textS_le (flagS_le h))
theorem namesS_P {s : List UInt8} : ∀ (m i : Nat), i ≤ s.length → manyP nameP m (s.drop i) = ofS s (namesS s m i false)
  | 0, i, h => rfl
  | m + 1, i, h => by
    rw [manyP, nameP, flagS_P, namesS, if_neg (by simp)]
    have hf := flagS_le (bad := false) h
    generalize flagS s i false = f at *
    obtain ⟨v, j, b⟩ := f
    simp only at hf
    cases b
    · simp only [ofS, Bool.false_eq_true, if_false]
      rw [textS_P hf]
      have ht := textS_le (bad := false) hf
      generalize textS s j false = t at *
      obtain ⟨u, k, b⟩ := t
      simp only at ht
      cases b
      · simp only [ofS, Bool.false_eq_true, if_false]
        rw [namesS_P m k ht]
        generalize namesS s m k false = r at *
        obtain ⟨L, l, b⟩ := r
        cases b <;> rfl
      · simp only [ofS, if_true, namesS_bad]
    · simp only [ofS, if_true, textS_bad, namesS_bad]
theorem namesS_len {s : List UInt8} : ∀ (m i : Nat) (b : Bool), (namesS s m i b).2.2 = false → (namesS s m i b).1.length = m
  | 0, i, b, h => rfl
  | m + 1, i, true, h => by cases h
  | m + 1, i, false, h => by
    rw [namesS, if_neg (by simp)] at h ⊢
    simp only [List.length_cons]
    rw [namesS_len m _ _ h]
def zeroAtm : Atm := ([], [], 0, (false, []), (false, []), (false, []), (false, []))
/-- An atom of names that were read. -/
def padM (u p : List UInt8) (n : Int) (L : List Tm) : Atm := (u, p, n, L.getD 0 (false, []), L.getD 1 (false, []), L.getD 2 (false, []), L.getD 3 (false, []))
/-- What the reader's atom comes to. -/
def atomS (s : List UInt8) (i : Nat) (bad : Bool) : Atm × Nat × Bool :=
  let u := textS s i bad
  let p := textS s u.2.1 u.2.2
  let n := numS s p.2.1 p.2.2
  let r := namesS s n.1 n.2.1 (n.2.2 || decide (4 < n.1))
  if r.2.2 || (checkA (padM u.1 p.1 n.1 r.1) != 0) then (zeroAtm, r.2.1, true) else (padM u.1 p.1 n.1 r.1, r.2.1, false)
theorem atomS_bad (s : List UInt8) (i : Nat) : atomS s i true = (zeroAtm, i, true) := rfl
theorem atomS_le {s : List UInt8} {i : Nat} {bad : Bool} (hi : i ≤ s.length) : (atomS s i bad).2.1 ≤ s.length := by
  have h := namesS_le (numS s (textS s (textS s i bad).2.1 (textS s i bad).2.2).2.1 (textS s (textS s i bad).2.1 (textS s i bad).2.2).2.2).1 (numS s (textS s (textS s i bad).2.1 (textS s i bad).2.2).2.1 (textS s (textS s i bad).2.1 (textS s i bad).2.2).2.2).2.1 ((numS s (textS s (textS s i bad).2.1 (textS s i bad).2.2).2.1 (textS s (textS s i bad).2.1 (textS s i bad).2.2).2.2).2.2 || decide (4 < (numS s (textS s (textS s i bad).2.1 (textS s i bad).2.2).2.1 (textS s (textS s i bad).2.1 (textS s i bad).2.2).2.2).1)) (numS_le (textS_le (textS_le hi))).2
  unfold atomS
  simp only
  split
  · exact h
  · exact h
theorem atomS_P {s : List UInt8} {i : Nat} (hi : i ≤ s.length) : atomP (s.drop i) = ofS s (atomS s i false) := by
  unfold atomP atomS
  rw [textS_P hi]
  have h1 := textS_le (bad := false) hi
  generalize textS s i false = u at *
  obtain ⟨u, i1, b⟩ := u
  simp only at h1
  cases b
  case true => simp only [ofS, if_true, textS_bad, numS_bad, Bool.true_or, namesS_bad]
  simp only [ofS, Bool.false_eq_true, if_false]
  rw [textS_P h1]
  have h2 := textS_le (bad := false) h1
  generalize textS s i1 false = p at *
  obtain ⟨p, i2, b⟩ := p
  simp only at h2
  cases b
  case true => simp only [ofS, if_true, numS_bad, Bool.true_or, namesS_bad]
  simp only [ofS, Bool.false_eq_true, if_false]
  rw [numS_P]
  have h3 := (numS_le (bad := false) h2).2
  generalize numS s i2 false = n at *
  obtain ⟨n, i3, b⟩ := n
  simp only at h3
  cases b
  case true => simp only [ofS, if_true, Bool.true_or, namesS_bad]
  simp only [ofS, Bool.false_eq_true, if_false, Bool.false_or]
  by_cases h4 : 4 < n
  · simp only [h4, if_true, decide_true, namesS_bad, Bool.true_or]
  simp only [h4, if_false, decide_false]
  rw [namesS_P n i3 h3]
  have hl := namesS_len (s := s) n i3 false
  generalize namesS s n i3 false = r at *
  obtain ⟨L, i4, b⟩ := r
  cases b
  case true => simp only [ofS, if_true, Bool.true_or]
  simp only [ofS, Bool.false_eq_true, if_false, Bool.false_or]
  have hL : L.length = n := hl rfl
  have hp : padN u p L = padM u p n L := by rw [← hL]; rfl
  rw [hp]
  cases hk : (checkA (padM u p n L) != 0)
  · rw [if_pos (by simpa using hk)]; rfl
  · rw [if_neg (by simpa using hk)]; rfl
end Go.Proofs.YtkdeokgkjmboeaaGreatDoor
