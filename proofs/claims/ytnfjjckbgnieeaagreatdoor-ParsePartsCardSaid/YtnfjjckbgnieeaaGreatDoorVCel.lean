/- A block's cells. -/
import Derived.Test.YtnfjjckbgnieeaaGreatDoorVBase
namespace Go.Proofs.YtnfjjckbgnieeaaGreatDoor
open Go.RowKit

/-- A block's cells. -/
def Cel (W : World) (B : Nat) (cs : Array Value) (T : TypeId) : Prop := W.heap[B]? = some (.cells cs T (0, 0))
section
variable {W W' : World} {B : Nat} {cs : Array Value} {T : TypeId}
theorem Cel.cell (h : Cel W B cs T) (j : Nat) : W.cell? ⟨B, j, none⟩ = cs[j]? := by
  unfold Cel at h
  simp [World.cell?, h]
theorem Cel.free (h : Cel W B cs T) (j : Nat) : W.frozen? ⟨B, j, none⟩ = false := by
  unfold Cel at h; simp [World.frozen?, h]
theorem Cel.lt (h : Cel W B cs T) : B < W.heap.size := (Array.getElem?_eq_some_iff.1 h).1
theorem Cel.grown {row : Option Nat} (h : Cel W B cs T) (hg : W.grownBy W' row) (hr : some B ≠ row) : Cel W' B cs T := (hg.block B h.lt hr).trans h
theorem Cel.next (h : Cel W B cs T) (hs : Since W W') : Cel W' B cs T := (Below.block hs B h.lt).trans h
theorem Cel.far (h : Cel W B cs T) {p : Addr} (hp : B ≠ p.block) (u : Value) : Cel (W.setCell p u) B cs T := (Below.heap_setCell W p u B hp).trans h
theorem Cel.row (h : Cel W B cs T) (ds : Array Value) : Cel (W.setRow B ds) B ds T := setRow_heap W B _ _ T (0, 0) h
theorem Cel.set (h : Cel W B cs T) {j : Nat} {u : Value} {ds : Array Value} (he : cs.setIfInBounds j u = ds) : Cel (W.setCell ⟨B, j, none⟩ u) B ds T := by
  unfold Cel at h ⊢
  rw [setCell_eq_setRow W B j _ T (0, 0) _ h, setRow_heap W B _ _ T (0, 0) h, he]
end
section
variable {W : World} {B : Nat} {T : TypeId} {c0 c1 c2 : Value}
theorem Cel.two (h : Cel W B #[c0, c1] T) : W.cell? ⟨B, 0, none⟩ = some c0 ∧ W.cell? ⟨B, 1, none⟩ = some c1 := ⟨h.cell 0, h.cell 1⟩
theorem Cel.one (h : Cel W B #[c0] T) : W.cell? ⟨B, 0, none⟩ = some c0 := h.cell 0
theorem Cel.three (h : Cel W B #[c0, c1, c2] T) : W.cell? ⟨B, 0, none⟩ = some c0 ∧ W.cell? ⟨B, 1, none⟩ = some c1 ∧ W.cell? ⟨B, 2, none⟩ = some c2 := ⟨h.cell 0, h.cell 1, h.cell 2⟩
end
end Go.Proofs.YtnfjjckbgnieeaaGreatDoor
