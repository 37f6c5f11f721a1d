/- How far the reference's cursor moves: as many bytes as what was read has (under way: numS, atomS, natsS). How much the reference's Read reads: steps and their bytes. -/
import Derived.Test.YtiadjmfdahendaaDoorCurP
import Derived.Test.YtiadjmfdahendaaDoorCertH2
namespace Go.Proofs.YtiadjmfdahendaaDoor
open Go.RowKit

theorem numS_far {s : List UInt8} {i : Nat} (hi : i ≤ s.length) (h : (numS s i false).2.2 = false) : (numS s i false).2.1 = i + (numL (numS s i false).1).length := by
  have hp := numS_P s i
  have hl := (numS_le (s := s) (bad := false) hi).2
  rw [ofS, h, if_neg (by simp)] at hp
  have hb := congrArg List.length (numP_back hp).2
  simp only [List.length_append, List.length_drop] at hb
  omega
theorem atomS_far {s : List UInt8} {i : Nat} (hi : i ≤ s.length) (h : (atomS s i false).2.2 = false) : (atomS s i false).2.1 = i + (atomB (atomS s i false).1).length ∧ checkA (atomS s i false).1 = 0 := by
  have hp := atomS_P hi
  have hl := atomS_le (s := s) (bad := false) hi
  rw [ofS, h, if_neg (by simp)] at hp
  obtain ⟨h1, h2⟩ := atomP_back hp
  have hb := congrArg List.length h2
  simp only [List.length_append, List.length_drop] at hb
  exact ⟨by omega, h1⟩
theorem ratomS_far {s : List UInt8} {i : Nat} (hi : i ≤ s.length) (h : (ratomS s i false).2.2 = false) : (ratomS s i false).2.1 = i + (atomB (ratomS s i false).1).length ∧ checkA (ratomS s i false).1 = 0 := by
  obtain ⟨h1, h2, h3⟩ := ratom_eq s i false
  have hb : (atomS s i false).2.2 = false := by rw [← h2]; exact h
  rw [h3 hb]
  exact atomS_far hi hb
theorem natsS_far {s : List UInt8} : ∀ (m i : Nat), i ≤ s.length → (natsS s m i false).2.2 = false → (natsS s m i false).2.1 = i + ((natsS s m i false).1.flatMap numL).length ∧ (natsS s m i false).1.length = m
  | 0, i, _, _ => ⟨by simp [natsS], rfl⟩
  | m + 1, i, hi, h => by
    rw [natsS, if_neg (by simp)] at h ⊢
    simp only at h ⊢
    cases hb : (numS s i false).2.2
    · have h1 := numS_far hi hb
      have hl := (numS_le (s := s) (bad := false) hi).2
      rw [hb] at h
      obtain ⟨h2, h3⟩ := natsS_far m _ hl h
      rw [h2, List.flatMap_cons, List.length_append, List.length_cons, h3]
      exact ⟨by omega, rfl⟩
    · simp only [hb, natsS_bad] at h
      cases h
theorem num_mono17 (n : Nat) : (numL (min n 17)).length ≤ (numL n).length := by
  by_cases h : n ≤ 17
  · rw [Nat.min_eq_left h]; exact Nat.le_refl _
  · rw [Nat.min_eq_right (by omega)]
    have := numF_pos 4 n
    have e : (numL 17).length = 1 := rfl
    rw [e]; exact this
/-- A step that was read has no more bytes than the cursor moved by. -/
theorem rstepS_far {s : List UInt8} {i : Nat} (hi : i ≤ s.length) (h : (rstepS s i false).2.2 = false) : i + (stepB (rstepS s i false).1).length ≤ (rstepS s i false).2.1 ∧ checkA (rstepS s i false).1.1 = 0 := by
  unfold rstepS at h ⊢
  simp only at h ⊢
  cases h1 : (numS s i false).2.2
  case true => simp only [h1, ratomS_bad, numS_bad, natsS_bad] at h; cases h
  have c1 := numS_far hi h1
  have l1 := (numS_le (s := s) (bad := false) hi).2
  rw [h1] at h
  generalize numS s i false = c at *
  cases h2 : (ratomS s c.2.1 false).2.2
  case true => simp only [h2, numS_bad, natsS_bad] at h; cases h
  obtain ⟨c2, k2⟩ := ratomS_far l1 h2
  have l2 := ratomS_le (s := s) (bad := false) l1
  rw [h2] at h
  generalize ratomS s c.2.1 false = a at *
  cases h3 : (numS s a.2.1 false).2.2
  case true => simp only [h3, natsS_bad] at h; cases h
  have c3 := numS_far l2 h3
  have l3 := (numS_le (s := s) (bad := false) l2).2
  rw [h3] at h
  generalize numS s a.2.1 false = n at *
  obtain ⟨c4, k4⟩ := natsS_far (min n.1 17) n.2.1 l3 h
  refine ⟨?_, k2⟩
  have e := num_mono17 n.1
  have e2 : ((c.1 : Int) - 1 + 1).toNat = c.1 := by omega
  rw [stepB, headB, citesB]
  simp only [List.length_append, List.length_map, k4, e2, List.flatMap_map, Int.toNat_natCast]
  have e3 : (List.flatMap (fun a : Nat => numL a) (natsS s (min n.1 17) n.2.1 false).1).length = (List.flatMap numL (natsS s (min n.1 17) n.2.1 false).1).length := rfl
  rw [e3]
  omega
end Go.Proofs.YtiadjmfdahendaaDoor

namespace Go.Proofs.YtiadjmfdahendaaDoor
open Go.RowKit

theorem natsS_most {s : List UInt8} : ∀ (m i : Nat) (b : Bool), (natsS s m i b).1.length ≤ m
  | 0, i, b => Nat.le_refl _
  | m + 1, i, true => Nat.zero_le _
  | m + 1, i, false => by
    rw [natsS, if_neg (by simp)]
    have := natsS_most (s := s) m (numS s i false).2.1 (numS s i false).2.2
    simp only [List.length_cons]
    omega
theorem ratom_light (s : List UInt8) (i : Nat) (b : Bool) : lightB (ratomS s i b).1 = true := by
  unfold ratomS
  simp only
  split
  · rfl
  · rename_i h
    rw [Bool.not_eq_true, Bool.or_eq_false_iff] at h
    exact valid_light (by simpa using h.2)
theorem rstep_light (s : List UInt8) (i : Nat) (b : Bool) : lightB (rstepS s i b).1.1 = true ∧ (rstepS s i b).1.2.2.length ≤ 17 := by
  refine ⟨ratom_light _ _ _, ?_⟩
  unfold rstepS
  simp only [List.length_map]
  refine Nat.le_trans (natsS_most _ _ _) ?_
  omega
theorem rstepsS_far {s : List UInt8} : ∀ (m i : Nat), i ≤ s.length → i + ((rstepsS s m i false).1.flatMap stepB).length ≤ s.length + 2110 ∧ i + (rstepsS s m i false).1.length ≤ s.length + 1
  | 0, i, h => ⟨by show i + 0 ≤ _; omega, by show i + 0 ≤ _; omega⟩
  | m + 1, i, h => by
    rw [rstepsS, if_neg (by simp)]
    simp only [List.flatMap_cons, List.length_append, List.length_cons]
    cases hb : (rstepS s i false).2.2
    · obtain ⟨h1, h2⟩ := rstepS_far h hb
      have hl := rstepS_le (s := s) (bad := false) h
      obtain ⟨h3, h4⟩ := rstepsS_far m _ hl
      have hp : 0 < (stepB (rstepS s i false).1).length := by
        rw [stepB, headB]
        simp only [List.length_append]
        have := numF_pos 4 ((rstepS s i false).1.2.1 + 1).toNat
        rw [numL]
        omega
      exact ⟨by omega, by omega⟩
    · rw [rstepsS_bad]
      obtain ⟨h1, h2⟩ := rstep_light s i false
      have h3 := stepB_le h1 (by omega : (rstepS s i false).1.2.2.length ≤ 20)
      simp only [List.flatMap_nil, List.length_nil]
      exact ⟨by omega, by omega⟩
end Go.Proofs.YtiadjmfdahendaaDoor
