/- Package table: Waiters, Answers. -/
import Derived.Test.YtbgdljcgbhhfdaaDoorTabD
namespace Go.Proofs.YtbgdljcgbhhfdaaDoor
open Go.RowKit

theorem own_irow1 {W : World} {B : Nat} {v : Value} {L : List Int} (h : W.ownsRow B 3 1 v L.length (L.flatMap intV1)) : IRow W v L := by
  obtain ⟨a, c, rfl⟩ := own_slice h
  rcases row_of_own h with ⟨h1, h2, h3⟩ | ⟨b, o, c', h1, h2, h3⟩
  · injection h1 with e1 e2 e3
    subst e1 e3
    have : L = [] := List.eq_nil_of_length_eq_zero h2
    subst this
    exact KRow.nil _ _
  · injection h1 with e1 e2 e3
    subst e1 e3
    refine ⟨_, _, rfl, h2, fun h0 => ⟨b, o, rfl, fun k hk => ?_⟩⟩
    have hl : (L.flatMap intV1).length = L.length := by rw [flat_len (K := 1) (f := intV1) (fun _ => rfl), Nat.mul_one]
    show W.cell? ⟨b, o + k * 1, none⟩ = _
    rw [Nat.mul_one, h3 k (by rw [hl]; exact hk)]
    have h5 := flat_at (f := intV1) (K := 1) (fun _ => rfl) L k hk 0 (by omega)
    rw [Nat.mul_one, Nat.add_zero, List.getElem?_eq_getElem (by rw [hl]; exact hk)] at h5
    exact h5
theorem own_arow1 {W : World} {B : Nat} {v : Value} {L : List Atm} (h : W.ownsRow B 34 11 v L.length (L.flatMap atmL)) : ARow W v L := by
  obtain ⟨a, c, rfl⟩ := own_slice h
  rcases row_of_own h with ⟨h1, h2, h3⟩ | ⟨b, o, c', h1, h2, h3⟩
  · injection h1 with e1 e2 e3
    subst e1 e3
    have : L = [] := List.eq_nil_of_length_eq_zero h2
    subst this
    exact KRow.nil _ _
  · injection h1 with e1 e2 e3
    subst e1 e3
    refine ⟨_, _, rfl, h2, fun h0 => ⟨b, o, rfl, fun k hk j u hu => ?_⟩⟩
    have hj : j < 11 := (Array.getElem?_eq_some_iff.1 hu).1
    have hl : k * 11 + j < (L.flatMap atmL).length := by
      rw [flat_len (K := 11) (f := atmL) (fun _ => rfl)]
      omega
    rw [Nat.add_assoc, h3 (k * 11 + j) hl, ← List.getElem?_eq_getElem hl, flat_at (f := atmL) (fun _ => rfl) L k hk j hj, ← hu]
    exact Array.getElem?_toList
theorem flat_i1 (L : List Int) : L.flatMap intL = L.flatMap intV1 := rfl
set_option maxHeartbeats 4000000 in
theorem twait_yes {B g mp np : Nat} {cv : Value} {R : List CallP} {S : List TCall} (i : Nat) (w : World) (h : TabAt w B g mp np cv R S) (hi : i < S.length) :
    Calls Tryd.prog 18 #[.pointer (some ⟨g, 0, none⟩), .int .i64 (i : Int)] w fun e w' => ∃ v', e = .returned v' ∧ w'.ownsRow w.heap.size 3 1 v' (S[i]).2.2.length ((S[i]).2.2.flatMap intL) ∧ Since w w' := by
  have hi2 : i < R.length := by rw [h.len]; exact hi
  have HAT := Lib.hid (tat_yes i w h hi2)
  have hcl := (h.call i hi2 hi).cel
  have hrow := (h.call i hi2 hi).who
  have hln := (h.call i hi2 hi).ln
  obtain ⟨L, hL⟩ : ∃ L, Hid (L = (S[i]).2.2) := ⟨(S[i]).2.2, rfl⟩
  have hc0 : w.cell? ⟨R[i].b, 13, none⟩ = some R[i].wv := (hcl.cell 13)
  rw [← hL.out] at hrow ⊢
  have hll : L.length ≤ 1000000 := by rw [hL.out]; omega
  obtain ⟨q, hq⟩ : ∃ q, Hid (q = R[i]) := ⟨R[i], rfl⟩
  rw [← hq.out] at HAT hc0 hrow
  obtain ⟨qb, qt, qn, qa, qw⟩ := q
  simp only at HAT hc0 hrow
  obtain ⟨va, vc, rfl⟩ := own_slice hrow
  have HRW : Hid (IRow w (.slice va L.length vc) L) := own_irow1 hrow
  clear h hi hi2 hcl hrow hln hL hq
  go_enter Tryd.func18, Tryd.ntmps18
  go_wp2_with fail
  refine HAT.out.mono ?_
  rintro e w2 ⟨rfl, hb2⟩
  have c2 := hb2.cell hc0
  go_wp2_with fail
  refine (clone_ints (.slice va L.length vc) L w2 (inext HRW.out hb2) hll).mono ?_
  rintro e w3 ⟨v', rfl, hO, hb3⟩
  clear c2 hc0 HAT
  go_wp2_with fail
  go_ret
  exact ⟨_, rfl, own_base hO hb2.size, hb2.trans hb3⟩
set_option maxHeartbeats 4000000 in
theorem twait_no {B g mp np : Nat} {cv : Value} {R : List CallP} {S : List TCall} (i : Int) (w : World) (h : TabAt w B g mp np cv R S) (hi : i < 0 ∨ (S.length : Int) ≤ i) :
    Calls Tryd.prog 18 #[.pointer (some ⟨g, 0, none⟩), .int .i64 i] w fun e w' => e = .returned (.slice none 0 0) ∧ Since w w' := by
  have HAT := Lib.hid (tat_no i w h hi)
  clear h hi
  go_enter Tryd.func18, Tryd.ntmps18
  go_wp2_with fail
  refine HAT.out.mono ?_
  rintro e w2 ⟨rfl, hb2⟩
  go_wp2_with fail
  go_ret
  exact ⟨rfl, hb2⟩
set_option maxHeartbeats 4000000 in
theorem tans_yes {B g mp np : Nat} {cv : Value} {R : List CallP} {S : List TCall} (i : Nat) (w : World) (h : TabAt w B g mp np cv R S) (hi : i < S.length) :
    Calls Tryd.prog 23 #[.pointer (some ⟨g, 0, none⟩), .int .i64 (i : Int)] w fun e w' => ∃ v', e = .returned v' ∧ w'.ownsRow w.heap.size 34 11 v' (S[i]).2.1.length ((S[i]).2.1.flatMap atmL) ∧ Since w w' := by
  have hi2 : i < R.length := by rw [h.len]; exact hi
  have HAT := Lib.hid (tat_yes i w h hi2)
  have hcl := (h.call i hi2 hi).cel
  have hrow := (h.call i hi2 hi).ans
  have hln := (h.call i hi2 hi).ln
  obtain ⟨L, hL⟩ : ∃ L, Hid (L = (S[i]).2.1) := ⟨(S[i]).2.1, rfl⟩
  have hc0 : w.cell? ⟨R[i].b, 11, none⟩ = some R[i].av := (hcl.cell 11)
  rw [← hL.out] at hrow ⊢
  have hll : L.length ≤ 1000000 := by rw [hL.out]; omega
  obtain ⟨q, hq⟩ : ∃ q, Hid (q = R[i]) := ⟨R[i], rfl⟩
  rw [← hq.out] at HAT hc0 hrow
  obtain ⟨qb, qt, qn, qa, qw⟩ := q
  simp only at HAT hc0 hrow
  obtain ⟨va, vc, rfl⟩ := own_slice hrow
  have HRW : Hid (ARow w (.slice va L.length vc) L) := own_arow1 hrow
  clear h hi hi2 hcl hrow hln hL hq
  go_enter Tryd.func23, Tryd.ntmps23
  go_wp2_with fail
  refine HAT.out.mono ?_
  rintro e w2 ⟨rfl, hb2⟩
  have c2 := hb2.cell hc0
  go_wp2_with fail
  refine (clone_atms (.slice va L.length vc) L w2 (anext HRW.out hb2) hll).mono ?_
  rintro e w3 ⟨v', rfl, hO, hb3⟩
  clear c2 hc0 HAT
  go_wp2_with fail
  go_ret
  exact ⟨_, rfl, own_base hO hb2.size, hb2.trans hb3⟩
set_option maxHeartbeats 4000000 in
theorem tans_no {B g mp np : Nat} {cv : Value} {R : List CallP} {S : List TCall} (i : Int) (w : World) (h : TabAt w B g mp np cv R S) (hi : i < 0 ∨ (S.length : Int) ≤ i) :
    Calls Tryd.prog 23 #[.pointer (some ⟨g, 0, none⟩), .int .i64 i] w fun e w' => e = .returned (.slice none 0 0) ∧ Since w w' := by
  have HAT := Lib.hid (tat_no i w h hi)
  clear h hi
  go_enter Tryd.func23, Tryd.ntmps23
  go_wp2_with fail
  refine HAT.out.mono ?_
  rintro e w2 ⟨rfl, hb2⟩
  go_wp2_with fail
  go_ret
  exact ⟨rfl, hb2⟩
end Go.Proofs.YtbgdljcgbhhfdaaDoor
