/- What was read is light; an atom's bytes are read back: for seats without cert.Bytes. No program in sight. -/
import Derived.Test.YtkdeokgkjmboeaaGreatDoorCertH
import Derived.Test.YtkdeokgkjmboeaaGreatDoorCertG
namespace Go.Proofs.YtkdeokgkjmboeaaGreatDoor
open Go.RowKit

theorem pad_names {s p : List UInt8} {L : List Tm} (h : ∀ t ∈ L, t.2.length ≤ 255) : ∀ t ∈ argsL (padN s p L), t.2.length ≤ 255 := by
  have hd : ∀ q, (L.getD q (false, [])).2.length ≤ 255 := by
    intro q
    rw [List.getD_eq_getElem?_getD]
    cases hq : L[q]? with
    | none => simp
    | some x => exact h x (List.mem_of_getElem? hq)
  intro t ht
  have ht' : t ∈ [L.getD 0 (false, []), L.getD 1 (false, []), L.getD 2 (false, []), L.getD 3 (false, [])] := ht
  simp only [List.mem_cons, List.not_mem_nil, or_false] at ht'
  rcases ht' with rfl | rfl | rfl | rfl
  · exact hd 0
  · exact hd 1
  · exact hd 2
  · exact hd 3
theorem valid_names {a : Atm} (h : checkA a = 0) : a.1.length ≤ 255 ∧ a.2.1.length ≤ 255 ∧ ∀ t ∈ argsL a, t.2.length ≤ 255 := by
  obtain ⟨L, _, ha, h1, h2, h3⟩ := valid_pad h
  refine ⟨h1, h2, ?_⟩
  rw [ha]
  exact pad_names h3
theorem valid_fits {a : Atm} (h : checkA a = 0) : FitsA a := by
  obtain ⟨h1, h2, h3⟩ := valid_names h
  unfold FitsA maxLen
  exact ⟨by omega, by omega, fun t ht => by have := h3 t ht; omega⟩
theorem valid_light {a : Atm} (h : checkA a = 0) : lightB a = true := by
  obtain ⟨h1, h2, h3⟩ := valid_names h
  simp only [lightB, Bool.and_eq_true, decide_eq_true_eq, List.all_eq_true]
  exact ⟨⟨by omega, by omega⟩, fun t ht => by have := h3 t ht; omega⟩
theorem atomS_valid {s : List UInt8} {i : Nat} {bad : Bool} (h : (atomS s i bad).2.2 = false) : checkA (atomS s i bad).1 = 0 := by
  unfold atomS at h ⊢
  simp only at h ⊢
  split at h
  · cases h
  · rename_i h1
    rw [if_neg h1]
    simp only [Bool.or_eq_true, not_or, bne_iff_ne, ne_eq] at h1
    exact Decidable.byContradiction h1.2
theorem num_pos (n : Nat) : 1 ≤ (numL n).length := by
  by_cases h : n < 128
  · rw [num_one h]; exact Nat.le_refl _
  · cases hn : numL n with
    | nil =>
      exfalso
      unfold numL at hn
      rw [numF] at hn
      split at hn <;> cases hn
    | cons c r => simp
theorem atomS_enc {a : Atm} (h : checkA a = 0) (s : List UInt8) : atomS (atomB a ++ s) 0 false = (a, (atomB a).length, false) := by
  have h1 := atomP_enc h s
  have h2 := atomS_P (s := atomB a ++ s) (i := 0) (Nat.zero_le _)
  have h3 := atomS_le (s := atomB a ++ s) (i := 0) (bad := false) (Nat.zero_le _)
  rw [List.drop_zero, h1] at h2
  generalize atomS (atomB a ++ s) 0 false = r at *
  obtain ⟨b, k, z⟩ := r
  simp only at h3
  cases z
  · simp only [ofS, Bool.false_eq_true, if_false, Option.some.injEq, Prod.mk.injEq] at h2
    obtain ⟨rfl, h2⟩ := h2
    have h4 := congrArg List.length h2
    rw [List.length_drop, List.length_append] at h4
    rw [List.length_append] at h3
    rw [show k = (atomB a).length by omega]
  · simp only [ofS, if_true] at h2; cases h2
theorem atomS_dec {s : List UInt8} {b : Atm} {k : Nat} (h : atomS s 0 false = (b, k, false)) : checkA b = 0 ∧ k ≤ s.length ∧ s.take k = atomB b := by
  have h2 := atomS_P (s := s) (i := 0) (Nat.zero_le _)
  have h3 := atomS_le (s := s) (i := 0) (bad := false) (Nat.zero_le _)
  rw [h] at h2 h3
  rw [List.drop_zero] at h2
  simp only [ofS, Bool.false_eq_true, if_false] at h2 h3
  obtain ⟨h4, h5⟩ := atomP_back h2
  refine ⟨h4, h3, ?_⟩
  have h6 := congrArg List.length h5
  rw [List.length_append, List.length_drop] at h6
  have h7 : k = (atomB b).length := by omega
  have h8 := congrArg (List.take k) h5
  rw [h8, h7, List.take_left']
  rfl
theorem readatom_yes (s : List UInt8) (b_s b_p : List UInt8) (b_n : Int) (b_v0 b_v1 b_v2 b_v3 : Bool) (b_l0 b_l1 b_l2 b_l3 : List UInt8) (k : Nat) (w : World) (hs : s.length ≤ 1000000) (hE : Env w) (h : atomS s 0 false = (((b_s, b_p, b_n, (b_v0, b_l0), (b_v1, b_l1), (b_v2, b_l2), (b_v3, b_l3)) : Atm), k, false)) :
    Calls Tryz.prog 47 #[.string ⟨s.toArray⟩] w fun e w' => e = .returned (.tuple #[.agg #[.string ⟨b_s.toArray⟩, .string ⟨b_p.toArray⟩, .int .i64 b_n, .bool b_v0, .string ⟨b_l0.toArray⟩, .bool b_v1, .string ⟨b_l1.toArray⟩, .bool b_v2, .string ⟨b_l2.toArray⟩, .bool b_v3, .string ⟨b_l3.toArray⟩], .int .i64 (k : Int), .int .i64 0]) ∧ Since w w' := by
  have h1 := readatom_any s w hs hE
  unfold ReadAtomPost at h1
  rw [h] at h1
  exact h1
theorem readatom_no (s : List UInt8) (w : World) (hs : s.length ≤ 1000000) (hE : Env w) (h : (atomS s 0 false).2.2 = true) :
    Calls Tryz.prog 47 #[.string ⟨s.toArray⟩] w fun e w' => e = .returned (.tuple #[.agg #[.string ⟨#[]⟩, .string ⟨#[]⟩, .int .i64 0, .bool false, .string ⟨#[]⟩, .bool false, .string ⟨#[]⟩, .bool false, .string ⟨#[]⟩, .bool false, .string ⟨#[]⟩], .int .i64 0, .int .i64 15]) ∧ Since w w' := by
  have h1 := readatom_any s w hs hE
  unfold ReadAtomPost at h1
  rw [h, atomS_zero h] at h1
  exact h1
theorem catom_yes (a_s a_p : List UInt8) (a_n : Int) (a_v0 a_v1 a_v2 a_v3 : Bool) (a_l0 a_l1 a_l2 a_l3 : List UInt8) (w : World) (hF : FitsA ((a_s, a_p, a_n, (a_v0, a_l0), (a_v1, a_l1), (a_v2, a_l2), (a_v3, a_l3)) : Atm)) (hE : Env w) (hL : lightB ((a_s, a_p, a_n, (a_v0, a_l0), (a_v1, a_l1), (a_v2, a_l2), (a_v3, a_l3)) : Atm) = true) (h : checkA ((a_s, a_p, a_n, (a_v0, a_l0), (a_v1, a_l1), (a_v2, a_l2), (a_v3, a_l3)) : Atm) = 0) :
    Calls Tryz.prog 21 #[.agg #[.string ⟨a_s.toArray⟩, .string ⟨a_p.toArray⟩, .int .i64 a_n, .bool a_v0, .string ⟨a_l0.toArray⟩, .bool a_v1, .string ⟨a_l1.toArray⟩, .bool a_v2, .string ⟨a_l2.toArray⟩, .bool a_v3, .string ⟨a_l3.toArray⟩]] w fun e w' => e = .returned (.tuple #[.string ⟨(atomB ((a_s, a_p, a_n, (a_v0, a_l0), (a_v1, a_l1), (a_v2, a_l2), (a_v3, a_l3)) : Atm)).toArray⟩, .int .i64 0]) ∧ Since w w' := by
  have h1 := catom_any a_s a_p a_n a_v0 a_v1 a_v2 a_v3 a_l0 a_l1 a_l2 a_l3 w hF hE hL
  unfold CertAP certA at h1
  rw [if_pos h] at h1
  exact h1
theorem catom_no (a_s a_p : List UInt8) (a_n : Int) (a_v0 a_v1 a_v2 a_v3 : Bool) (a_l0 a_l1 a_l2 a_l3 : List UInt8) (w : World) (hF : FitsA ((a_s, a_p, a_n, (a_v0, a_l0), (a_v1, a_l1), (a_v2, a_l2), (a_v3, a_l3)) : Atm)) (hE : Env w) (hL : lightB ((a_s, a_p, a_n, (a_v0, a_l0), (a_v1, a_l1), (a_v2, a_l2), (a_v3, a_l3)) : Atm) = true) (h : ¬ checkA ((a_s, a_p, a_n, (a_v0, a_l0), (a_v1, a_l1), (a_v2, a_l2), (a_v3, a_l3)) : Atm) = 0) :
    Calls Tryz.prog 21 #[.agg #[.string ⟨a_s.toArray⟩, .string ⟨a_p.toArray⟩, .int .i64 a_n, .bool a_v0, .string ⟨a_l0.toArray⟩, .bool a_v1, .string ⟨a_l1.toArray⟩, .bool a_v2, .string ⟨a_l2.toArray⟩, .bool a_v3, .string ⟨a_l3.toArray⟩]] w fun e w' => e = .returned (.tuple #[.string ⟨#[]⟩, .int .i64 2]) ∧ Since w w' := by
  have h1 := catom_any a_s a_p a_n a_v0 a_v1 a_v2 a_v3 a_l0 a_l1 a_l2 a_l3 w hF hE hL
  unfold CertAP certA at h1
  rw [if_neg h] at h1
  exact h1

end Go.Proofs.YtkdeokgkjmboeaaGreatDoor
