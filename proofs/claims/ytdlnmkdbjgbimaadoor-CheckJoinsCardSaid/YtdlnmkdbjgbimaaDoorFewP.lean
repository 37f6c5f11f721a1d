/- CheckFewer in plain words. -/
import Derived.Test.YtdlnmkdbjgbimaaDoorCkI
namespace Go.Proofs.YtdlnmkdbjgbimaaDoor
open Go.RowKit

/-- Does the step at a place stand? -/
def goodAt (L : List Cls) (F : List Atm) (T : List Stp) (i : Nat) : Prop := ∃ s, T[i]? = some s ∧ stepB L F T i s = true
theorem scan_spec (L : List Cls) (F : List Atm) (T : List Stp) : ∀ (S : List Stp) (i : Nat), T.drop i = S →
    (scanS L F T S i = (0, 0) ∧ ∀ m, i ≤ m → m < T.length → goodAt L F T m) ∨ (∃ j, i ≤ j ∧ j < T.length ∧ scanS L F T S i = ((j : Int), 15) ∧ ¬ goodAt L F T j ∧ ∀ m, i ≤ m → m < j → goodAt L F T m)
  | [], i, h => by
    refine .inl ⟨rfl, fun m h1 h2 => ?_⟩
    have := List.drop_eq_nil_iff.1 h
    omega
  | s :: r, i, h => by
    have hi : i < T.length := by
      rcases Nat.lt_or_ge i T.length with h1 | h1
      · exact h1
      · rw [List.drop_eq_nil_of_le h1] at h; cases h
    rw [List.drop_eq_getElem_cons hi] at h
    injection h with h1 h2
    have hs : T[i]? = some s := by rw [List.getElem?_eq_getElem hi, h1]
    rw [scanS]
    cases hb : stepB L F T i s
    · refine .inr ⟨i, Nat.le_refl _, hi, rfl, ?_, fun m h3 h4 => by omega⟩
      rintro ⟨s', h3, h4⟩
      rw [hs] at h3; cases h3
      rw [hb] at h4; cases h4
    · have hg : goodAt L F T i := ⟨s, hs, hb⟩
      rcases scan_spec L F T r (i + 1) h2 with ⟨e, h3⟩ | ⟨j, h3, h4, e, h5, h6⟩
      · refine .inl ⟨by simpa using e, fun m h4 h5 => ?_⟩
        rcases Nat.eq_or_lt_of_le h4 with rfl | h6
        · exact hg
        · exact h3 m (by omega) h5
      · refine .inr ⟨j, by omega, h4, by simpa using e, h5, fun m h7 h8 => ?_⟩
        rcases Nat.eq_or_lt_of_le h7 with rfl | h9
        · exact hg
        · exact h6 m (by omega) h8
theorem sound_spec (L : List Cls) (F : List Atm) (T : List Stp) : (mayC L F = false ∧ soundS L F T = (0, 2)) ∨ (mayC L F = true ∧ ((soundS L F T = (0, 0) ∧ ∀ m, m < T.length → goodAt L F T m) ∨ (∃ j, j < T.length ∧ soundS L F T = ((j : Int), 15) ∧ ¬ goodAt L F T j ∧ ∀ m, m < j → goodAt L F T m))) := by
  unfold soundS
  cases hm : mayC L F
  · exact .inl ⟨rfl, rfl⟩
  · refine .inr ⟨rfl, ?_⟩
    rcases scan_spec L F T T 0 rfl with ⟨e, h⟩ | ⟨j, _, h4, e, h5, h6⟩
    · exact .inl ⟨e, fun m hm => h m (Nat.zero_le _) hm⟩
    · exact .inr ⟨j, h4, e, h5, fun m hm => h6 m (Nat.zero_le _) hm⟩
theorem sound_ok {L : List Cls} {F : List Atm} {T : List Stp} : (soundS L F T).2 = 0 ↔ mayC L F = true ∧ ∀ m, m < T.length → goodAt L F T m := by
  rcases sound_spec L F T with ⟨h1, h2⟩ | ⟨h1, ⟨h2, h3⟩ | ⟨j, h3, h2, h4, h5⟩⟩
  · rw [h2, h1]; simp
  · rw [h2, h1]; exact ⟨fun _ => ⟨rfl, h3⟩, fun _ => rfl⟩
  · rw [h2, h1]
    constructor
    · intro h; simp at h
    · rintro ⟨-, h⟩; exact absurd (h j h3) h4
theorem sound_at {L : List Cls} {F : List Atm} {T : List Stp} (h : (soundS L F T).2 = 0) : (soundS L F T).1 = 0 := by
  rcases sound_spec L F T with ⟨h1, h2⟩ | ⟨h1, ⟨h2, h3⟩ | ⟨j, h3, h2, h4, h5⟩⟩ <;> rw [h2]
  rw [h2] at h; simp at h
theorem citeA_take {T : List Stp} {n i : Nat} (h : i ≤ n) {x : Int} (hx : badC (i : Int) x = false) : citeA (T.take n) x = citeA T x := by
  unfold badC at hx
  rw [Bool.or_eq_false_iff, decide_eq_false_iff_not, decide_eq_false_iff_not] at hx
  unfold citeA
  rw [List.getElem?_take, if_pos (by omega)]
theorem stepB_take (L : List Cls) (F : List Atm) (T : List Stp) {n i : Nat} (h : i ≤ n) (s : Stp) : stepB L F (T.take n) i s = stepB L F T i s := by
  unfold stepB
  rw [List.take_take, Nat.min_eq_left h]
  have hb : bodyB L F (T.take n) i s = bodyB L F T i s := by
    unfold bodyB
    split
    · rfl
    · split
      · rfl
      · unfold fromB
        cases L[s.2.1.toNat]? with
        | none => rfl
        | some cl =>
          simp only
          cases hbad : s.2.2.any (badC (i : Int))
          · have e : s.2.2.map (citeA (T.take n)) = s.2.2.map (citeA T) := by
              refine List.map_congr_left fun x hx => citeA_take h ?_
              cases hh : badC (i : Int) x
              · rfl
              · rw [List.any_eq_true.2 ⟨x, hx, hh⟩] at hbad; cases hbad
            rw [e]
          · rfl
  rw [hb]
theorem good_take {L : List Cls} {F : List Atm} {T : List Stp} {n i : Nat} (h : i < n) : goodAt L F (T.take n) i ↔ goodAt L F T i := by
  unfold goodAt
  rw [List.getElem?_take, if_pos h]
  constructor
  · rintro ⟨s, h1, h2⟩; exact ⟨s, h1, by rw [← stepB_take L F T (Nat.le_of_lt h)]; exact h2⟩
  · rintro ⟨s, h1, h2⟩; exact ⟨s, h1, by rw [stepB_take L F T (Nat.le_of_lt h)]; exact h2⟩
theorem stepB_more {L : List Cls} {F F' : List Atm} {T : List Stp} {i : Nat} {s : Stp} (hF : ∀ a ∈ F, a ∈ F') (h : stepB L F T i s = true) : stepB L F' T i s = true := by
  unfold stepB at h ⊢
  simp only [Bool.and_eq_true] at h ⊢
  refine ⟨h.1, h.2.1, ?_⟩
  have hb := h.2.2
  unfold bodyB at hb ⊢
  split
  · next e =>
    rw [if_pos e] at hb
    simp only [Bool.and_eq_true, decide_eq_true_eq] at hb ⊢
    exact ⟨hb.1, hF _ hb.2⟩
  · next e => rw [if_neg e] at hb; exact hb
theorem few_acc {L : List Cls} {F : List Atm} {T : List Stp} {a : Atm} (k : Nat) (h : accB L (F.take k) T a = true) (hm : mayC L F = true) : accB L F T a = true := by
  unfold accB at h ⊢
  simp only [Bool.and_eq_true, decide_eq_true_eq] at h ⊢
  refine ⟨?_, h.2⟩
  rw [sound_ok] at h ⊢
  refine ⟨hm, fun m hl => ?_⟩
  obtain ⟨s, h1, h2⟩ := h.1.2 m hl
  exact ⟨s, h1, stepB_more (fun a ha => List.mem_of_mem_take ha) h2⟩
theorem few_ok {L : List Cls} {F : List Atm} {T : List Stp} (n : Nat) (h : (soundS L F T).2 = 0) : (soundS L F (T.take n)).2 = 0 := by
  rw [sound_ok] at h ⊢
  refine ⟨h.1, fun m hl => ?_⟩
  rw [List.length_take] at hl
  exact (good_take (by omega)).2 (h.2 m (by omega))
theorem few_bad {L : List Cls} {F : List Atm} {T : List Stp} (n : Nat) (hn : n ≤ T.length) (h : (soundS L F T).2 = 15) : ((soundS L F (T.take n)).2 = 0 ↔ (n : Int) ≤ (soundS L F T).1) := by
  rcases sound_spec L F T with ⟨h1, h2⟩ | ⟨h1, ⟨h2, h3⟩ | ⟨j, h3, h2, h4, h5⟩⟩
  · rw [h2] at h; simp at h
  · rw [h2] at h; simp at h
  · rw [sound_ok, h2]
    constructor
    · rintro ⟨-, hg⟩
      show (n : Int) ≤ (j : Int)
      rcases Nat.lt_or_ge j n with hjn | hjn
      · exact absurd ((good_take hjn).1 (hg j (by rw [List.length_take]; omega))) h4
      · omega
    · intro hnj
      have hnj' : (n : Int) ≤ (j : Int) := hnj
      refine ⟨h1, fun m hl => ?_⟩
      rw [List.length_take] at hl
      exact (good_take (by omega)).2 (h5 m (by omega))
end Go.Proofs.YtdlnmkdbjgbimaaDoor
