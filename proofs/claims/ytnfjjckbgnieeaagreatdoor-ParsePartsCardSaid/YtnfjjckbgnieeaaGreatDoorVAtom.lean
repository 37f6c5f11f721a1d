/- Terms and atoms as the program holds them: what is read at a place of an atom's box; LightAtom. -/
import Derived.Test.YtnfjjckbgnieeaaGreatDoorVBase
namespace Go.Proofs.YtnfjjckbgnieeaaGreatDoor
open Go.RowKit

/-- A term: is it a variable, its name. -/
abbrev Tm := Bool × List UInt8
/-- An atom: who says it, the predicate, N, four terms. -/
abbrev Atm := List UInt8 × List UInt8 × Int × Tm × Tm × Tm × Tm
def argsL (a : Atm) : List Tm := [a.2.2.2.1, a.2.2.2.2.1, a.2.2.2.2.2.1, a.2.2.2.2.2.2]
theorem argsL_len (a : Atm) : (argsL a).length = 4 := rfl
/-- The terms of an atom's box, by places. -/
def ArgsAt (W : World) (b : Nat) (L : List Tm) : Prop :=
  L.length = 4 ∧ ∀ k, (h : k < L.length) → W.cell? ⟨b, 3 + k * 2, none⟩ = some (.bool L[k].1) ∧ W.cell? ⟨b, 3 + k * 2 + 1, none⟩ = some (.string ⟨L[k].2.toArray⟩)
theorem ArgsAt.next {W W' : World} {b : Nat} {L : List Tm} (h : ArgsAt W b L) (hs : Since W W') : ArgsAt W' b L :=
  ⟨h.1, fun k hk => ⟨hs.cell (h.2 k hk).1, hs.cell (h.2 k hk).2⟩⟩
/-- An atom's eleven cells. -/
def atmC (a : Atm) : Array Value :=
  #[.string ⟨a.1.toArray⟩, .string ⟨a.2.1.toArray⟩, .int .i64 a.2.2.1, .bool a.2.2.2.1.1, .string ⟨a.2.2.2.1.2.toArray⟩, .bool a.2.2.2.2.1.1, .string ⟨a.2.2.2.2.1.2.toArray⟩, .bool a.2.2.2.2.2.1.1, .string ⟨a.2.2.2.2.2.1.2.toArray⟩, .bool a.2.2.2.2.2.2.1, .string ⟨a.2.2.2.2.2.2.2.toArray⟩]
/-- A block whose first cells are an atom's. -/
def Box (W : World) (b : Nat) (a : Atm) : Prop := ∀ j, (h : j < (atmC a).size) → W.cell? ⟨b, j, none⟩ = some (atmC a)[j]
theorem Box.next {W W' : World} {b : Nat} {a : Atm} (h : Box W b a) (hs : Since W W') : Box W' b a := fun j hj => hs.cell (h j hj)
theorem box_new (w : World) (a : Atm) (t : TypeId) : Box (w.alloc (.cells (atmC a) t)) w.heap.size a := by
  intro j hj
  rw [World.cell?_alloc_new, Array.getElem?_eq_getElem hj]
theorem Box.s {W : World} {b : Nat} {a : Atm} (h : Box W b a) : W.cell? ⟨b, 0, none⟩ = some (.string ⟨a.1.toArray⟩) := h 0 (by simp [atmC])
theorem Box.p {W : World} {b : Nat} {a : Atm} (h : Box W b a) : W.cell? ⟨b, 1, none⟩ = some (.string ⟨a.2.1.toArray⟩) := h 1 (by simp [atmC])
theorem Box.n {W : World} {b : Nat} {a : Atm} (h : Box W b a) : W.cell? ⟨b, 2, none⟩ = some (.int .i64 a.2.2.1) := h 2 (by simp [atmC])
theorem Box.args {W : World} {b : Nat} {a : Atm} (h : Box W b a) : ArgsAt W b (argsL a) := by
  refine ⟨rfl, fun k hk => ?_⟩
  have hk' : k < 4 := hk
  match k, hk' with
  | 0, _ => exact ⟨h 3 (by simp [atmC]), h 4 (by simp [atmC])⟩
  | 1, _ => exact ⟨h 5 (by simp [atmC]), h 6 (by simp [atmC])⟩
  | 2, _ => exact ⟨h 7 (by simp [atmC]), h 8 (by simp [atmC])⟩
  | 3, _ => exact ⟨h 9 (by simp [atmC]), h 10 (by simp [atmC])⟩
/-- The eleven cells, one by one. -/
theorem Box.all {W : World} {b : Nat} {a : Atm} (h : Box W b a) :
    W.cell? ⟨b, 0, none⟩ = some (.string ⟨a.1.toArray⟩) ∧ W.cell? ⟨b, 1, none⟩ = some (.string ⟨a.2.1.toArray⟩) ∧ W.cell? ⟨b, 2, none⟩ = some (.int .i64 a.2.2.1) ∧ W.cell? ⟨b, 3, none⟩ = some (.bool a.2.2.2.1.1) ∧ W.cell? ⟨b, 4, none⟩ = some (.string ⟨a.2.2.2.1.2.toArray⟩) ∧ W.cell? ⟨b, 5, none⟩ = some (.bool a.2.2.2.2.1.1) ∧ W.cell? ⟨b, 6, none⟩ = some (.string ⟨a.2.2.2.2.1.2.toArray⟩) ∧ W.cell? ⟨b, 7, none⟩ = some (.bool a.2.2.2.2.2.1.1) ∧ W.cell? ⟨b, 8, none⟩ = some (.string ⟨a.2.2.2.2.2.1.2.toArray⟩) ∧ W.cell? ⟨b, 9, none⟩ = some (.bool a.2.2.2.2.2.2.1) ∧ W.cell? ⟨b, 10, none⟩ = some (.string ⟨a.2.2.2.2.2.2.2.toArray⟩) :=
  ⟨h.s, h.p, h.n, h 3 (by simp [atmC]), h 4 (by simp [atmC]), h 5 (by simp [atmC]), h 6 (by simp [atmC]), h 7 (by simp [atmC]), h 8 (by simp [atmC]), h 9 (by simp [atmC]), h 10 (by simp [atmC])⟩
theorem all_step {α : Type} {m : α → Bool} {l : List α} {k : Nat} (h : k < l.length) : (l.drop k).all m = (m l[k] && (l.drop (k + 1)).all m) := by
  rw [List.drop_eq_getElem_cons h, List.all_cons]
theorem all_done {α : Type} {m : α → Bool} {l : List α} {k : Nat} (h : ¬ k < l.length) : (l.drop k).all m = true := by
  rw [List.drop_eq_nil_of_le (by omega), List.all_nil]
end Go.Proofs.YtnfjjckbgnieeaaGreatDoor
