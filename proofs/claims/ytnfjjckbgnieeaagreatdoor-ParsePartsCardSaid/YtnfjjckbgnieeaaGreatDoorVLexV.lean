/- Tokens' '==', rows of tokens that are read. -/
import Derived.Test.YtnfjjckbgnieeaaGreatDoorVLexA
namespace Go.Proofs.YtnfjjckbgnieeaaGreatDoor
open Go.RowKit

theorem tk_get : ∀ (L : List Tk) (i k : Nat) (h : i < L.length), k < 3 → (L.flatMap tkL)[3 * i + k]? = (tkL L[i])[k]?
  | t :: r, 0, k, h, hk => by
    rw [List.flatMap_cons, Nat.mul_zero, Nat.zero_add, List.getElem?_append_left (by rw [tkL_len]; exact hk)]; rfl
  | t :: r, i + 1, k, h, hk => by
    rw [List.flatMap_cons, List.getElem?_append_right (by rw [tkL_len]; omega), tkL_len, show 3 * (i + 1) + k - 3 = 3 * i + k by omega]
    exact tk_get r i k (by simpa using h) hk
theorem tk_flen (L : List Tk) : (L.flatMap tkL).length = 3 * L.length := by
  induction L with
  | nil => rfl
  | cons t r ih => rw [List.flatMap_cons, List.length_append, ih, tkL_len, List.length_cons]; omega
/-- A token in a row of tokens: its three cells. -/
theorem tk_cells {w : World} {b o : Nat} {L : List Tk} (h : ∀ (j : Nat) (h : j < (L.flatMap tkL).length), w.cell? ⟨b, o + j, none⟩ = some (L.flatMap tkL)[j]) {i : Nat} (hi : i < L.length) :
    w.cell? ⟨b, o + 3 * i, none⟩ = some (.int .i64 L[i].1) ∧ w.cell? ⟨b, o + (3 * i + 1), none⟩ = some (.string ⟨L[i].2.1.toArray⟩) ∧ w.cell? ⟨b, o + (3 * i + 2), none⟩ = some (.int .i64 (L[i].2.2 : Int)) := by
  have g : ∀ k, k < 3 → w.cell? ⟨b, o + (3 * i + k), none⟩ = (tkL L[i])[k]? := by
    intro k hk
    have hj : 3 * i + k < (L.flatMap tkL).length := by rw [tk_flen]; omega
    rw [h _ hj, ← tk_get L i k hi hk, List.getElem?_eq_getElem hj]
  exact ⟨g 0 (by omega), g 1 (by omega), g 2 (by omega)⟩
end Go.Proofs.YtnfjjckbgnieeaaGreatDoor
