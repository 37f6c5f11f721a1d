/- Package table: calls apart from one another; one call changed. -/
import Derived.Test.YtbgdljcgbhhfdaaDoorTabG
namespace Go.Proofs.YtbgdljcgbhhfdaaDoor
open Go.RowKit Go.Maps Go.WideMaps

theorem apartV.symm {u v : Value} (h : apartV u v) : apartV v u := by
  unfold apartV at h ⊢
  cases hv : v.ownBlock with
  | none => exact .inl rfl
  | some b =>
    refine .inr fun e => ?_
    rcases h with h | h
    · rw [h] at e; cases e
    · rw [hv] at h; exact h e.symm
theorem CallP.apart.symm {p q : CallP} (h : CallP.apart p q) : CallP.apart q p := ⟨fun e => h.1 e.symm, fun e => h.2.1 e.symm, h.2.2.1.symm, h.2.2.2.symm⟩
theorem TabAt.apart_of {W : World} {B g mp np : Nat} {cv : Value} {R : List CallP} {S : List TCall} (h : TabAt W B g mp np cv R S) {i j : Nat} (hi : i < R.length) (hj : j < R.length) (hne : i ≠ j) : CallP.apart R[i] R[j] := by
  rcases Nat.lt_or_gt_of_ne hne with hl | hl
  · exact List.pairwise_iff_getElem.1 h.apart i j hi hj hl
  · exact (List.pairwise_iff_getElem.1 h.apart j i hj hi hl).symm
theorem pairwise_set {R : List CallP} (h : R.Pairwise CallP.apart) (i : Nat) (q : CallP) (hq : ∀ j (hj : j < R.length), j ≠ i → CallP.apart R[j] q) : (R.set i q).Pairwise CallP.apart := by
  rw [List.pairwise_iff_getElem] at h ⊢
  intro a b ha hb hab
  rw [List.length_set] at ha hb
  rw [List.getElem_set, List.getElem_set]
  by_cases h1 : i = a
  · rw [if_pos h1, if_neg (by omega)]
    exact (hq b hb (by omega)).symm
  · rw [if_neg h1]
    by_cases h2 : i = b
    · rw [if_pos h2]; exact hq a ha (fun e => h1 e.symm)
    · rw [if_neg h2]; exact h a b ha hb hab
/-- One call changed: the others stand. -/
theorem TabAt.set {W W' : World} {B g mp np : Nat} {cv : Value} {R : List CallP} {S : List TCall} (h : TabAt W B g mp np cv R S) {i : Nat} (hi : i < R.length) {q : CallP} {c : TCall} (hb : q.b = R[i].b)
    (hcel : Cel W' g #[.map (some mp), cv, .int .i64 (cntS (S.set i c) : Int)] 64) (hmap : AIdx W' mp np (S.map fun c => c.1)) (hrow : W'.ownsRow B 66 1 cv R.length (R.flatMap ptrV))
    (hc1 : ∀ (h2 : i < S.length), c.1 = (S[i]).1) (hself : CallAt W' B q c) (hother : ∀ j (hj : j < R.length) (h2 : j < S.length), j ≠ i → CallAt W' B R[j] S[j]) (hap : ∀ j (hj : j < R.length), j ≠ i → CallP.apart R[j] q) (hmp : q.th ≠ mp) :
    TabAt W' B g mp np cv (R.set i q) (S.set i c) := by
  have hl := h.len
  have hS : (S.set i c).map (fun c => c.1) = S.map fun c => c.1 := by
    apply List.ext_getElem
    · simp
    · intro k h1 h2
      rw [List.getElem_map, List.getElem_map, List.getElem_set]
      split
      · next e => subst e; exact hc1 (by rw [← hl]; exact hi)
      · rfl
  have hR : (R.set i q).flatMap ptrV = R.flatMap ptrV := by
    have e : (R.set i q).map (fun p => p.b) = R.map fun p => p.b := by
      apply List.ext_getElem
      · simp
      · intro k h1 h2
        rw [List.getElem_map, List.getElem_map, List.getElem_set]
        split
        · next e => subst e; exact hb
        · rfl
    have f : ∀ L : List CallP, L.flatMap ptrV = (L.map fun p => p.b).flatMap fun b => [Value.pointer (some ⟨b, 0, none⟩)] := by
      intro L
      induction L with
      | nil => rfl
      | cons p r ih => rw [List.flatMap_cons, ih]; rfl
    rw [f, f, e]
  refine ⟨hcel, by rw [hS]; exact hmap, by rw [hR, List.length_set]; exact hrow, by rw [List.length_set, List.length_set]; exact hl, fun j h1 h2 => ?_, pairwise_set h.apart i q hap, fun p hp => ?_, h.bg, h.bm, by rw [hS]; exact h.nd, by rw [List.length_set]; exact h.ln⟩
  · rw [List.getElem_set, List.getElem_set]
    rw [List.length_set] at h1 h2
    by_cases e : i = j
    · rw [if_pos e, if_pos e]; exact hself
    · rw [if_neg e, if_neg e]; exact hother j h1 h2 (fun e2 => e e2.symm)
  · rcases List.mem_or_eq_of_mem_set hp with h1 | h1
    · exact h.mapart p h1
    · rw [h1]; exact hmp
end Go.Proofs.YtbgdljcgbhhfdaaDoor
