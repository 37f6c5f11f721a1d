/- CheckJoins in plain words. -/
import Derived.Test.YtdlnmkdbjgbimaaDoorFewP
namespace Go.Proofs.YtdlnmkdbjgbimaaDoor
open Go.RowKit

/-- A step whose cites are shifted. -/
def shiftS (n : Nat) (s : Stp) : Stp := (s.1, s.2.1, s.2.2.map (· + (n : Int)))
def bothS (A B : List Stp) : List Stp := A ++ B.map (shiftS A.length)
/-- The first step whose atom is some other step's. -/
def twiceS (A : List Stp) : List Stp → Nat → Option Nat
  | [], _ => none
  | s :: r, i => if decide (s.1 ∈ A.map fun t => t.1) then some i else twiceS A r (i + 1)
theorem twice_spec (A B : List Stp) : ∀ (S : List Stp) (i : Nat), B.drop i = S →
    (twiceS A S i = none ∧ ∀ m s, i ≤ m → B[m]? = some s → ¬ s.1 ∈ A.map fun t => t.1) ∨ (∃ j s, i ≤ j ∧ B[j]? = some s ∧ twiceS A S i = some j ∧ s.1 ∈ (A.map fun t => t.1) ∧ ∀ m s, i ≤ m → m < j → B[m]? = some s → ¬ s.1 ∈ A.map fun t => t.1)
  | [], i, h => by
    refine .inl ⟨rfl, fun m s h1 h2 => ?_⟩
    have h3 := List.drop_eq_nil_iff.1 h
    have h4 := (List.getElem?_eq_some_iff.1 h2).1
    omega
  | s :: r, i, h => by
    have hi : i < B.length := by
      rcases Nat.lt_or_ge i B.length with h1 | h1
      · exact h1
      · rw [List.drop_eq_nil_of_le h1] at h; cases h
    rw [List.drop_eq_getElem_cons hi] at h
    injection h with h1 h2
    have hs : B[i]? = some s := by rw [List.getElem?_eq_getElem hi, h1]
    rw [twiceS]
    by_cases hb : s.1 ∈ A.map fun t => t.1
    · rw [if_pos (decide_eq_true hb)]
      exact .inr ⟨i, s, Nat.le_refl _, hs, rfl, hb, fun m s' h3 h4 => by omega⟩
    · rw [if_neg (by simpa using hb)]
      rcases twice_spec A B r (i + 1) h2 with ⟨e, h3⟩ | ⟨j, s', h3, h4, e, h5, h6⟩
      · refine .inl ⟨e, fun m s' h4 h5 => ?_⟩
        rcases Nat.eq_or_lt_of_le h4 with rfl | h6
        · rw [hs] at h5; cases h5; exact hb
        · exact h3 m s' (by omega) h5
      · refine .inr ⟨j, s', by omega, h4, e, h5, fun m s2 h7 h8 h9 => ?_⟩
        rcases Nat.eq_or_lt_of_le h7 with rfl | h10
        · rw [hs] at h9; cases h9; exact hb
        · exact h6 m s2 (by omega) h8 h9
theorem fromB_more {L M : List Cls} {T : List Stp} {i k : Nat} {s : Stp} (h : fromB L T i s k = true) : fromB (L ++ M) T i s k = true := by
  unfold fromB at h ⊢
  rcases Nat.lt_or_ge k L.length with hk | hk
  · rw [List.getElem?_append_left hk]; exact h
  · rw [List.getElem?_eq_none hk] at h; cases h
theorem stepB_cl {L M : List Cls} {F : List Atm} {T : List Stp} {i : Nat} {s : Stp} (h : stepB L F T i s = true) : stepB (L ++ M) F T i s = true := by
  unfold stepB at h ⊢
  simp only [Bool.and_eq_true] at h ⊢
  refine ⟨h.1, h.2.1, ?_⟩
  have hb := h.2.2
  unfold bodyB at hb ⊢
  split
  · next e => rw [if_pos e] at hb; exact hb
  · next e =>
    rw [if_neg e] at hb
    split
    · next e2 => rw [if_pos e2] at hb; cases hb
    · next e2 => rw [if_neg e2] at hb; exact fromB_more hb
/-- A step of the first ones stands among both. -/
theorem join_first {L M : List Cls} {F F' : List Atm} {A B : List Stp} {m : Nat} (hm : m < A.length) (hF : ∀ a ∈ F, a ∈ F') (h : goodAt L F A m) : goodAt (L ++ M) F' (bothS A B) m := by
  obtain ⟨s, h1, h2⟩ := h
  refine ⟨s, by unfold bothS; rw [List.getElem?_append_left hm]; exact h1, ?_⟩
  have h3 := stepB_cl (M := M) (stepB_more hF h2)
  rw [← stepB_take (L ++ M) F' (bothS A B) (Nat.le_of_lt hm)]
  have e : (bothS A B).take A.length = A := by unfold bothS; rw [List.take_left']; rfl
  rw [e]
  exact h3
theorem citeA_both (A B : List Stp) {i : Nat} (hi : i ≤ B.length) {x : Int} (hx : badC (i : Int) x = false) : citeA (bothS A B) (x + (A.length : Int)) = citeA B x := by
  unfold badC at hx
  rw [Bool.or_eq_false_iff, decide_eq_false_iff_not, decide_eq_false_iff_not] at hx
  have hq : x.toNat < B.length := by omega
  have e : (x + (A.length : Int)).toNat = A.length + x.toNat := by omega
  unfold citeA bothS
  rw [e, List.getElem?_append_right (by omega), Nat.add_sub_cancel_left, List.getElem?_map, List.getElem?_eq_getElem hq]
  rfl
theorem any_shift (n i : Nat) (V : List Int) (h : V.any (badC (i : Int)) = false) : (V.map (· + (n : Int))).any (badC ((n + i : Nat) : Int)) = false := by
  rw [List.any_map]
  rw [← Bool.not_eq_true, List.any_eq_true] at h ⊢
  rintro ⟨x, hx, hb⟩
  refine h ⟨x, hx, ?_⟩
  simp only [Function.comp, badC, Bool.or_eq_true, decide_eq_true_eq] at hb ⊢
  omega
/-- A step of the second ones stands among both exactly if no first one has its atom. -/
theorem join_second {L M : List Cls} {F F' : List Atm} {A B : List Stp} {i : Nat} {s : Stp} (hs : B[i]? = some s) (hF : ∀ a ∈ F, a ∈ F') (h : stepB L F B i s = true) :
    stepB (L ++ M) F' (bothS A B) (A.length + i) (shiftS A.length s) = !(decide (s.1 ∈ A.map fun t => t.1)) := by
  have hi : i < B.length := (List.getElem?_eq_some_iff.1 hs).1
  have h3 := stepB_cl (M := M) (stepB_more hF h)
  unfold stepB at h h3 ⊢
  simp only [Bool.and_eq_true] at h h3
  have e1 : ((bothS A B).take (A.length + i)).map (fun t => t.1) = A.map (fun t => t.1) ++ (B.take i).map (fun t => t.1) := by
    unfold bothS
    rw [List.take_length_add_append, List.map_append, ← List.map_take, List.map_map]
    rfl
  have h1 : decide (s.1 ∈ (B.take i).map fun t => t.1) = false := by simpa using h.1
  have e2 : decide ((shiftS A.length s).1 ∈ ((bothS A B).take (A.length + i)).map fun t => t.1) = decide (s.1 ∈ A.map fun t => t.1) := by
    rw [e1]
    rw [decide_eq_false_iff_not] at h1
    by_cases hh : s.1 ∈ A.map fun t => t.1
    · rw [decide_eq_true hh]
      exact decide_eq_true (List.mem_append_left _ hh)
    · rw [decide_eq_false hh]
      refine decide_eq_false ?_
      intro hc
      rcases List.mem_append.1 hc with hc | hc
      · exact hh hc
      · exact h1 hc
  rw [e2]
  have e3 : factB (shiftS A.length s).1 = true := h3.2.1
  rw [e3, Bool.true_and]
  have e4 : bodyB (L ++ M) F' (bothS A B) (A.length + i) (shiftS A.length s) = true := by
    have hb := h3.2.2
    unfold bodyB at hb ⊢
    have k1 : (shiftS A.length s).2.1 = s.2.1 := rfl
    have k2 : (shiftS A.length s).2.2 = s.2.2.map (· + (A.length : Int)) := rfl
    have k3 : (shiftS A.length s).1 = s.1 := rfl
    rw [k1, k2, k3, List.length_map]
    split
    · next e => rw [if_pos e] at hb; exact hb
    · next e =>
      rw [if_neg e] at hb
      split
      · next e2 => rw [if_pos e2] at hb; cases hb
      · next e2 =>
        rw [if_neg e2] at hb
        unfold fromB at hb ⊢
        cases hc : (L ++ M)[s.2.1.toNat]? with
        | none => rw [hc] at hb; cases hb
        | some cl =>
          rw [hc] at hb
          simp only [Bool.and_eq_true, Bool.not_eq_true', decide_eq_true_eq] at hb ⊢
          rw [k2, k3, List.length_map]
          refine ⟨hb.1, any_shift _ _ _ hb.2.1, ?_⟩
          have e5 : (s.2.2.map (· + (A.length : Int))).map (citeA (bothS A B)) = s.2.2.map (citeA B) := by
            rw [List.map_map]
            refine List.map_congr_left fun x hx => ?_
            refine citeA_both A B (Nat.le_of_lt hi) ?_
            cases hbad : badC (i : Int) x
            · rfl
            · have := List.any_eq_true.2 ⟨x, hx, hbad⟩
              rw [hb.2.1] at this; cases this
          rw [e5]
          exact hb.2.2
  rw [e4, Bool.and_true]
theorem may_join {L : List Cls} {F : List Atm} {c : Cls} (h : mayC L F = true) (hc : clauseB c = true) : mayC (L ++ [c]) (F ++ F) = true := by
  unfold mayC at h ⊢
  rw [Bool.and_eq_true] at h ⊢
  rw [List.all_append, List.all_append, h.1, h.2]
  simp [hc]
/-- A step that stands cites earlier ones. -/
theorem cites_in {L : List Cls} {F : List Atm} {B : List Stp} (hB : (soundS L F B).2 = 0) {i : Nat} {s : Stp} (hs : B[i]? = some s) : ∀ x ∈ s.2.2, 0 ≤ x ∧ x < (i : Int) := by
  rw [sound_ok] at hB
  obtain ⟨s', h1, h2⟩ := hB.2 i (List.getElem?_eq_some_iff.1 hs).1
  rw [hs] at h1; cases h1
  unfold stepB at h2
  simp only [Bool.and_eq_true] at h2
  have hb := h2.2.2
  unfold bodyB at hb
  intro x hx
  split at hb
  · simp only [Bool.and_eq_true, decide_eq_true_eq] at hb
    have h0 : s.2.2 = [] := List.eq_nil_of_length_eq_zero hb.1
    rw [h0] at hx; cases hx
  · split at hb
    · cases hb
    · unfold fromB at hb
      cases hc : L[s.2.1.toNat]? with
      | none => rw [hc] at hb; cases hb
      | some cl =>
        rw [hc] at hb
        simp only [Bool.and_eq_true, Bool.not_eq_true', decide_eq_true_eq] at hb
        have h3 := hb.2.1
        rw [← Bool.not_eq_true, List.any_eq_true] at h3
        have h4 : badC (i : Int) x = false := by
          cases hbad : badC (i : Int) x
          · rfl
          · exact absurd ⟨x, hx, hbad⟩ h3
        unfold badC at h4
        rw [Bool.or_eq_false_iff, decide_eq_false_iff_not, decide_eq_false_iff_not] at h4
        omega
/-- What the law says. -/
theorem join_law {L : List Cls} {F : List Atm} {A B : List Stp} {c : Cls} (hA : (soundS L F A).2 = 0) (hB : (soundS L F B).2 = 0) (hc : clauseB c = true) :
    soundS (L ++ [c]) (F ++ F) (bothS A B) = match twiceS A B 0 with | some j => (((A.length + j : Nat) : Int), 15) | none => (0, 0) := by
  rw [sound_ok] at hA hB
  have hm := may_join hA.1 hc
  have hF : ∀ a ∈ F, a ∈ F ++ F := fun a ha => List.mem_append_left _ ha
  have hlen : (bothS A B).length = A.length + B.length := by unfold bothS; rw [List.length_append, List.length_map]
  have hfirst : ∀ m, m < A.length → goodAt (L ++ [c]) (F ++ F) (bothS A B) m := fun m hm => join_first hm hF (hA.2 m hm)
  have hget : ∀ i s, B[i]? = some s → (bothS A B)[A.length + i]? = some (shiftS A.length s) := by
    intro i s h
    unfold bothS
    rw [List.getElem?_append_right (by omega), Nat.add_sub_cancel_left, List.getElem?_map, h]; rfl
  have hsec : ∀ i s, B[i]? = some s → (goodAt (L ++ [c]) (F ++ F) (bothS A B) (A.length + i) ↔ ¬ s.1 ∈ A.map fun t => t.1) := by
    intro i s h
    have hi : i < B.length := (List.getElem?_eq_some_iff.1 h).1
    obtain ⟨s', h1, h2⟩ := hB.2 i hi
    rw [h] at h1; cases h1
    have h3 := join_second (M := [c]) (A := A) h hF h2
    unfold goodAt
    constructor
    · rintro ⟨s2, h4, h5⟩
      rw [hget i s h] at h4; cases h4
      rw [h3] at h5
      simpa using h5
    · intro h4
      exact ⟨_, hget i s h, by rw [h3]; simpa using h4⟩
  rcases sound_spec (L ++ [c]) (F ++ F) (bothS A B) with ⟨h1, -⟩ | ⟨-, ⟨h2, h3⟩ | ⟨j, h3, h2, h4, h5⟩⟩
  · rw [hm] at h1; cases h1
  · rw [h2]
    rcases twice_spec A B B 0 rfl with ⟨e, -⟩ | ⟨j, s, -, h4, e, h5, -⟩
    · rw [e]
    · have hj : j < B.length := (List.getElem?_eq_some_iff.1 h4).1
      exact absurd h5 ((hsec j s h4).1 (h3 _ (by omega)))
  · rw [h2]
    have hjA : A.length ≤ j := by
      rcases Nat.lt_or_ge j A.length with h | h
      · exact absurd (hfirst j h) h4
      · exact h
    obtain ⟨i, rfl⟩ : ∃ i, j = A.length + i := ⟨j - A.length, by omega⟩
    have hi : i < B.length := by omega
    have hsi : B[i]? = some B[i] := List.getElem?_eq_getElem hi
    have hin : (B[i]).1 ∈ A.map fun t => t.1 := by
      by_cases hh : (B[i]).1 ∈ A.map fun t => t.1
      · exact hh
      · exact absurd ((hsec i _ hsi).2 hh) h4
    rcases twice_spec A B B 0 rfl with ⟨e, h6⟩ | ⟨j', s, -, h7, e, h8, h9⟩
    · exact absurd hin (h6 i _ (Nat.zero_le _) hsi)
    · rw [e]
      have hij : j' = i := by
        rcases Nat.lt_trichotomy j' i with h | h | h
        · exact absurd h8 ((hsec j' s h7).1 (h5 _ (by omega)))
        · exact h
        · exact absurd hin (h9 i _ (Nat.zero_le _) h hsi)
      rw [hij]
end Go.Proofs.YtdlnmkdbjgbimaaDoor
