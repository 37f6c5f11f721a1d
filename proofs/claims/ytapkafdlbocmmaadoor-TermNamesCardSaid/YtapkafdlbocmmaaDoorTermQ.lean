/- Plain facts on atoms made of terms. -/
import Derived.Test.YtapkafdlbocmmaaDoorTermP
import Derived.Test.YtapkafdlbocmmaaDoorKitT
namespace Go.Proofs.YtapkafdlbocmmaaDoor
open Go.RowKit

theorem check_pad {s p : List UInt8} {L : List Tm} (h4 : L.length ≤ 4) : checkA (padA s p L) = if !(principalB s && principalB p) then 3 else if !(L.all termB) then 3 else 0 := by
  by_cases hp : (!(principalB s && principalB p)) = true
  · rw [if_pos hp, checkA, if_pos (by exact hp)]
  rw [if_neg hp, checkA, if_neg (by exact hp)]
  match L, h4 with
  | [], _ => rfl
  | [a], _ =>
    show (if ((1 : Int) < 0 ∨ 4 < (1 : Int)) then _ else _) = _
    rw [if_neg (by decide)]
    show (if (!([a].all termB)) = true then (3 : Int) else if (!(([(false, []), (false, []), (false, [])] : List Tm).all fun t => decide (t = (false, [])))) = true then 15 else 0) = _
    rw [if_neg (c := (!(([(false, []), (false, []), (false, [])] : List Tm).all fun t => decide (t = (false, [])))) = true) (by decide)]
  | [a, b], _ =>
    show (if ((2 : Int) < 0 ∨ 4 < (2 : Int)) then _ else _) = _
    rw [if_neg (by decide)]
    show (if (!([a, b].all termB)) = true then (3 : Int) else if (!(([(false, []), (false, [])] : List Tm).all fun t => decide (t = (false, [])))) = true then 15 else 0) = _
    rw [if_neg (c := (!(([(false, []), (false, [])] : List Tm).all fun t => decide (t = (false, [])))) = true) (by decide)]
  | [a, b, c], _ =>
    show (if ((3 : Int) < 0 ∨ 4 < (3 : Int)) then _ else _) = _
    rw [if_neg (by decide)]
    show (if (!([a, b, c].all termB)) = true then (3 : Int) else if (!(([(false, [])] : List Tm).all fun t => decide (t = (false, [])))) = true then 15 else 0) = _
    rw [if_neg (c := (!(([(false, [])] : List Tm).all fun t => decide (t = (false, [])))) = true) (by decide)]
  | [a, b, c, d], _ =>
    show (if ((4 : Int) < 0 ∨ 4 < (4 : Int)) then _ else _) = _
    rw [if_neg (by decide)]
    show (if (!([a, b, c, d].all termB)) = true then (3 : Int) else if (!(([] : List Tm).all fun t => decide (t = (false, [])))) = true then 15 else 0) = _
    rw [if_neg (c := (!(([] : List Tm).all fun t => decide (t = (false, [])))) = true) (by decide)]
theorem check_pad0 {s p : List UInt8} {L : List Tm} (h4 : L.length ≤ 4) : checkA (padA s p L) = 0 ↔ principalB s = true ∧ principalB p = true ∧ ∀ t ∈ L, termB t = true := by
  rw [check_pad h4]
  constructor
  · intro h
    by_cases hp : (!(principalB s && principalB p)) = true
    · rw [if_pos hp] at h; cases h
    rw [if_neg hp] at h
    by_cases ht : (!(L.all termB)) = true
    · rw [if_pos ht] at h; cases h
    simp only [Bool.not_eq_true', Bool.not_eq_false, Bool.and_eq_true, List.all_eq_true] at hp ht
    exact ⟨hp.1, hp.2, ht⟩
  · rintro ⟨h1, h2, h3⟩
    rw [h1, h2, if_neg (by decide), List.all_eq_true.2 h3, if_neg (by decide)]
theorem pad_args {s p : List UInt8} {L : List Tm} (h4 : L.length ≤ 4) (k : Nat) (hk : k < L.length) (hk' : k < (argsL (padA s p L)).length) : (argsL (padA s p L))[k] = L[k] := by
  match L, h4, k, hk with
  | [a], _, 0, _ => rfl
  | [a, b], _, 0, _ => rfl
  | [a, b], _, 1, _ => rfl
  | [a, b, c], _, 0, _ => rfl
  | [a, b, c], _, 1, _ => rfl
  | [a, b, c], _, 2, _ => rfl
  | [a, b, c, d], _, 0, _ => rfl
  | [a, b, c, d], _, 1, _ => rfl
  | [a, b, c, d], _, 2, _ => rfl
  | [a, b, c, d], _, 3, _ => rfl
theorem made_of {s p : List UInt8} {L : List Tm} (h4 : L.length ≤ 4) : madeA s p L = if (checkA (padA s p L) != 0) = true then (zeroA, checkA (padA s p L)) else (padA s p L, 0) := by
  rw [madeA, if_neg (by omega)]
theorem rowOf_cut {α : Type} {K : Nat} {f : α → List Value} {W : World} {a : Option Addr} {n c : Nat} {L : List α} (h : RowOf K f W (.slice a n c) L) (m : Nat) (hm : m ≤ n) : RowOf K f W (.slice a m c) (L.take m) := by
  obtain ⟨a', c', h1, h2, h3, h4⟩ := h
  injection h1 with h1 h5 h6
  subst h1 h5 h6
  have hl : (L.take m).length = m := by rw [List.length_take]; omega
  refine ⟨a, c, by rw [hl], by omega, h3, fun h0 => ?_⟩
  obtain ⟨b, o, e, hc⟩ := h4 (by omega)
  refine ⟨b, o, e, fun k hk j u hu => ?_⟩
  rw [List.getElem_take] at hu
  exact hc k (by omega) j u hu
end Go.Proofs.YtapkafdlbocmmaaDoor
