/- Marked variables, being under an atom, and what two atoms meet in; no program in sight. -/
import Derived.Test.YtohcehjpdmhjlaaDoorUniQ
namespace Go.Proofs.YtohcehjpdmhjlaaDoor
open Go.RowKit
set_option linter.unusedVariables false

/-- A term whose variable is marked. -/
def markT (x : List UInt8) (t : Tm) : Tm := if t.1 then (true, t.2 ++ x) else t
theorem markT_1 (x : List UInt8) (t : Tm) : (markT x t).1 = t.1 := by unfold markT; cases h : t.1 <;> simp [h]
theorem markT_named {x : List UInt8} {L : List Tm} {n : Nat} (h : ∀ t ∈ L, t.2 ≠ [] ∧ t.2.length ≤ 255) (hx : x.length ≤ 45) (h4 : L.length ≤ 4) : NamedL (L.map (markT x)) := by
  refine ⟨by rw [List.length_map]; exact h4, fun u hu => ?_⟩
  obtain ⟨t, ht, rfl⟩ := List.mem_map.1 hu
  obtain ⟨h1, h2⟩ := h t ht
  unfold markT
  split
  · refine ⟨by simp [h1], ?_⟩
    rw [List.length_append]; omega
  · exact ⟨h1, by omega⟩
theorem no_mark {t : Tm} (h : termB t = true) (hv : t.1 = true) : (35 : UInt8) ∉ t.2 := by
  unfold termB at h
  rw [if_pos hv] at h
  intro hm
  unfold variableB at h
  cases ht : t.2 with
  | nil => rw [ht] at hm; cases hm
  | cons c r =>
    rw [ht] at h hm
    simp only [spelledB, Bool.and_eq_true, List.all_eq_true] at h
    rcases List.mem_cons.1 hm with rfl | hm
    · have := h.1.2; revert this; decide
    · have := h.2 _ hm; revert this; decide
/-- Is one list of terms under another: what is at a constant's place is it, what is at one variable's places is one. -/
def UnderL (L M : List Tm) : Prop :=
  L.length = M.length ∧ ∀ i, (hi : i < L.length) → (hm : i < M.length) → (M[i].1 = false → M[i] = L[i]) ∧ ∀ k, (hk : k < i) → M[i].1 = true → M[i] = M[k] → L[i] = L[k]
def findT : List Tm → List Tm → Tm → Tm
  | m :: M, l :: L, t => if m = t then l else findT M L t
  | _, _, t => t
theorem findT_at : ∀ {M L : List Tm} {t : Tm}, (∀ i, (hm : i < M.length) → M[i] ≠ t) → findT M L t = t
  | [], L, t, _ => rfl
  | m :: M, [], t, _ => rfl
  | m :: M, l :: L, t, h => by
    unfold findT
    rw [if_neg (show ¬ m = t from h 0 (by simp))]
    exact findT_at fun i hm => h (i + 1) (by simpa using hm)
theorem findT_get : ∀ {M L : List Tm} {t : Tm}, L.length = M.length → (∃ i, ∃ (hm : i < M.length), M[i] = t) → ∃ k, ∃ (hm : k < M.length) (hl : k < L.length), M[k] = t ∧ findT M L t = L[k] ∧ ∀ j, (hj : j < k) → M[j] ≠ t
  | [], L, t, _, ⟨i, hm, _⟩ => by simp at hm
  | m :: M, [], t, h, _ => by simp at h
  | m :: M, l :: L, t, h, ⟨i, hm, he⟩ => by
    unfold findT
    by_cases hc : m = t
    · exact ⟨0, by simp, by simp, hc, by rw [if_pos hc]; rfl, fun j hj => absurd hj (Nat.not_lt_zero _)⟩
    · rw [if_neg hc]
      have hi : i ≠ 0 := by rintro rfl; exact hc he
      obtain ⟨i, rfl⟩ : ∃ j, i = j + 1 := ⟨i - 1, by omega⟩
      obtain ⟨k, h1, h2, h3, h4, h5⟩ := findT_get (M := M) (L := L) (t := t) (by simpa using h) ⟨i, by simpa using hm, by simpa using he⟩
      refine ⟨k + 1, by simpa using h1, by simpa using h2, by simpa using h3, by simpa using h4, fun j hj => ?_⟩
      cases j with
      | zero => exact hc
      | succ j => simpa using h5 j (by omega)
theorem under_iff {L M : List Tm} : UnderL L M ↔ ∃ σ : Tm → Tm, (∀ t : Tm, t.1 = false → σ t = t) ∧ M.map σ = L := by
  constructor
  · rintro ⟨hl, h⟩
    refine ⟨fun t => if t.1 then findT M L t else t, fun t ht => by simp only; rw [if_neg (by rw [ht]; simp)], ?_⟩
    apply List.ext_getElem (by rw [List.length_map]; exact hl.symm)
    intro i h1 h2
    rw [List.length_map] at h1
    rw [List.getElem_map]
    by_cases hv : M[i].1 = true
    · rw [if_pos hv]
      obtain ⟨k, k1, k2, k3, k4, k5⟩ := findT_get (L := L) (t := M[i]) hl ⟨i, h1, rfl⟩
      rw [k4]
      rcases Nat.lt_trichotomy k i with hk | hk | hk
      · exact ((h i h2 h1).2 k hk hv k3.symm).symm
      · subst hk; rfl
      · exact absurd rfl (k5 i hk)
    · rw [Bool.not_eq_true] at hv
      rw [if_neg (by rw [hv]; simp)]
      exact (h i h2 h1).1 hv
  · rintro ⟨σ, hσ, rfl⟩
    refine ⟨by rw [List.length_map], fun i hi hm => ⟨fun hv => by rw [List.getElem_map, hσ _ hv], fun k hk _ he => by rw [List.getElem_map, List.getElem_map, ← he]⟩⟩
theorem under_apply (m : List Bnd) (L : List Tm) : UnderL (L.map (termS m)) L := under_iff.2 ⟨termS m, fun t ht => termS_const m ht, rfl⟩
/-- An atom under both, without a variable in common: the two meet, and it is under what they meet in. -/
theorem meet_under {C L M : List Tm} (hL : NamedL L) (hM : NamedL M) (hd : ∀ t ∈ L, t.1 = true → t ∉ M) (h1 : UnderL C L) (h2 : UnderL C M) : ∃ m, uniF (L.zip M) [] = some m ∧ UnderL C (L.map (termS m)) := by
  obtain ⟨f, hf, rfl⟩ := under_iff.1 h1
  obtain ⟨g, hg, he⟩ := under_iff.1 h2
  have hl : L.length = M.length := by have := congrArg List.length he; rw [List.length_map, List.length_map] at this; exact this.symm
  obtain ⟨σ, hσ⟩ : ∃ σ : Tm → Tm, σ = fun t => if t ∈ L then f t else g t := ⟨_, rfl⟩
  have hc : ∀ t : Tm, t.1 = false → σ t = t := by
    intro t ht
    rw [hσ]; simp only
    split
    · exact hf t ht
    · exact hg t ht
  have e1 : L.map σ = L.map f := List.map_congr_left fun t ht => by rw [hσ]; simp only; rw [if_pos ht]
  have e2 : M.map σ = M.map g := List.map_congr_left fun t ht => by
    rw [hσ]; simp only
    split
    · rename_i hm
      have hv : t.1 = false := by
        cases hv : t.1
        · rfl
        · exact absurd ht (hd t hm hv)
      rw [hf t hv, hg t hv]
    · rfl
  obtain ⟨m, hm, hs⟩ := uni_most hc InvB.nil (named_zip hL hM) (fun t => by rw [termS_nil]) ((map_zip hl).2 (by rw [e1, e2, he]))
  refine ⟨m, hm, under_iff.2 ⟨σ, hc, ?_⟩⟩
  rw [List.map_map, ← e1]
  exact List.map_congr_left fun t _ => hs t
theorem uni_self : ∀ (L : List Tm), uniF (L.zip L) [] = some []
  | [] => rfl
  | a :: L => by rw [List.zip_cons_cons, uniF, if_pos rfl]; exact uni_self L
theorem map_nil_id (L : List Tm) : L.map (termS []) = L := by
  conv => rhs; rw [← List.map_id L]
  exact List.map_congr_left fun t _ => termS_nil t
theorem mark_apart {L M : List Tm} {x : List UInt8} (hL : ∀ t ∈ L, termB t = true) (hx : (35 : UInt8) ∈ x) : ∀ t ∈ L, t.1 = true → t ∉ M.map (markT x) := by
  intro t ht hv hm
  obtain ⟨u, hu, rfl⟩ := List.mem_map.1 hm
  have h := no_mark (hL _ ht) hv
  rw [markT_1] at hv
  unfold markT at h
  rw [if_pos hv] at h
  exact h (List.mem_append_right _ hx)
end Go.Proofs.YtohcehjpdmhjlaaDoor
