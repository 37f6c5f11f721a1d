/- What was read is light; what a step read comes to. No program in sight. -/
import Derived.Test.YtiadjmfdahendaaDoorCertH
import Derived.Test.YtiadjmfdahendaaDoorCertS
namespace Go.Proofs.YtiadjmfdahendaaDoor
open Go.RowKit

theorem pad_names {s p : List UInt8} {L : List Tm} (h : ∀ t ∈ L, t.2.length ≤ 255) : ∀ t ∈ argsL (padN s p L), t.2.length ≤ 255 := by
  have hd : ∀ q, (L.getD q (false, [])).2.length ≤ 255 := by
    intro q
    rw [List.getD_eq_getElem?_getD]
    cases hq : L[q]? with
    | none => simp
    | some x => exact h x (List.mem_of_getElem? hq)
  intro t ht
  have ht' : t ∈ [L.getD 0 (false, []), L.getD 1 (false, []), L.getD 2 (false, []), L.getD 3 (false, [])] := ht
  simp only [List.mem_cons, List.not_mem_nil, or_false] at ht'
  rcases ht' with rfl | rfl | rfl | rfl
  · exact hd 0
  · exact hd 1
  · exact hd 2
  · exact hd 3
theorem valid_names {a : Atm} (h : checkA a = 0) : a.1.length ≤ 255 ∧ a.2.1.length ≤ 255 ∧ ∀ t ∈ argsL a, t.2.length ≤ 255 := by
  obtain ⟨L, _, ha, h1, h2, h3⟩ := valid_pad h
  refine ⟨h1, h2, ?_⟩
  rw [ha]
  exact pad_names h3
theorem valid_fits {a : Atm} (h : checkA a = 0) : FitsA a := by
  obtain ⟨h1, h2, h3⟩ := valid_names h
  unfold FitsA maxLen
  exact ⟨by omega, by omega, fun t ht => by have := h3 t ht; omega⟩
theorem valid_light {a : Atm} (h : checkA a = 0) : lightB a = true := by
  obtain ⟨h1, h2, h3⟩ := valid_names h
  simp only [lightB, Bool.and_eq_true, decide_eq_true_eq, List.all_eq_true]
  exact ⟨⟨by omega, by omega⟩, fun t ht => by have := h3 t ht; omega⟩
theorem numS_ok {s : List UInt8} {i : Nat} {bad : Bool} (h : (numS s i bad).2.2 = false) : bad = false := by
  cases bad
  · rfl
  · cases h
theorem natsS_okz {s : List UInt8} {m i : Nat} {bad : Bool} (h : (natsS s m i bad).2.2 = false) : bad = false := by
  cases bad
  · rfl
  · rw [natsS_bad] at h; cases h
theorem natsS_len {s : List UInt8} : ∀ (m i : Nat) (b : Bool), (natsS s m i b).1.length ≤ m
  | 0, i, b => Nat.le_refl _
  | m + 1, i, true => Nat.zero_le _
  | m + 1, i, false => by
    rw [natsS, if_neg (by simp)]
    simp only [List.length_cons]
    have := natsS_len (s := s) m (numS s i false).2.1 (numS s i false).2.2
    omega
theorem atomS_valid {s : List UInt8} {i : Nat} {bad : Bool} (h : (atomS s i bad).2.2 = false) : checkA (atomS s i bad).1 = 0 := by
  unfold atomS at h ⊢
  simp only at h ⊢
  split at h
  · cases h
  · rename_i h1
    rw [if_neg h1]
    simp only [Bool.or_eq_true, not_or, bne_iff_ne, ne_eq] at h1
    exact Decidable.byContradiction h1.2
theorem stepS_ok {s : List UInt8} {i : Nat} {bad : Bool} (h : (stepS s i bad).2.2 = false) : checkA (stepS s i bad).1.1 = 0 ∧ (stepS s i bad).1.2.2.length ≤ 16 := by
  unfold stepS at h ⊢
  simp only at h ⊢
  have h1 := natsS_okz h
  rw [Bool.or_eq_false_iff, decide_eq_false_iff_not] at h1
  have h2 := numS_ok h1.1
  refine ⟨atomS_valid h2, ?_⟩
  rw [List.length_map]
  have := natsS_len (s := s) (numS s (atomS s (numS s i bad).2.1 (numS s i bad).2.2).2.1 (atomS s (numS s i bad).2.1 (numS s i bad).2.2).2.2).1 (numS s (atomS s (numS s i bad).2.1 (numS s i bad).2.2).2.1 (atomS s (numS s i bad).2.1 (numS s i bad).2.2).2.2).2.1 ((numS s (atomS s (numS s i bad).2.1 (numS s i bad).2.2).2.1 (atomS s (numS s i bad).2.1 (numS s i bad).2.2).2.2).2.2 || decide (16 < (numS s (atomS s (numS s i bad).2.1 (numS s i bad).2.2).2.1 (atomS s (numS s i bad).2.1 (numS s i bad).2.2).2.2).1))
  omega
theorem maysF_all : ∀ (L : List Stp) (i : Nat), maysF i L = true → ∀ x ∈ L, checkA x.1 = 0 ∧ x.2.2.length ≤ 16
  | y :: r, i, h, x, hx => by
    rw [maysF, Bool.and_eq_true] at h
    rcases List.mem_cons.1 hx with rfl | hx
    · have := may_cl h.1
      exact ⟨this.1, this.2.2.2.1⟩
    · exact maysF_all r (i + 1) h.2 x hx
theorem num_pos (n : Nat) : 1 ≤ (numL n).length := by
  by_cases h : n < 128
  · rw [num_one h]; exact Nat.le_refl _
  · cases hn : numL n with
    | nil =>
      exfalso
      unfold numL at hn
      rw [numF] at hn
      split at hn <;> cases hn
    | cons c r => simp
theorem steps_len : ∀ L : List Stp, 2 * L.length ≤ (L.flatMap stepB).length
  | [] => by simp
  | x :: r => by
    have h1 := steps_len r
    have h2 := num_pos (x.2.1 + 1).toNat
    have h3 := num_pos x.2.2.length
    rw [List.flatMap_cons, List.length_append, List.length_cons]
    have : 2 ≤ (stepB x).length := by
      rw [stepB, headB, List.length_append, List.length_append, List.length_append]
      omega
    omega
theorem mays_w {L : List Stp} (h : maysB L = true) (hl : (stepsB L).length ≤ 2000) : LightW L := by
  rw [maysB, Bool.and_eq_true] at h
  have h2 := maysF_all L 0 h.2
  have h3 := steps_len L
  rw [stepsB, List.length_append] at hl
  refine ⟨by omega, by rw [stepsB, List.length_append]; omega, fun x hx => ?_⟩
  have := h2 x hx
  exact ⟨valid_light this.1, by omega⟩
theorem mays_fits {L : List Stp} (h : maysB L = true) : FitsS L := by
  rw [maysB, Bool.and_eq_true] at h
  exact fun x hx => valid_fits (maysF_all L 0 h.2 x hx).1
end Go.Proofs.YtiadjmfdahendaaDoor
