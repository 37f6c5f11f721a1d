/- The reader's step (under way). -/
import Derived.Test.YtiadjmfdahendaaDoorCertG
import Derived.Test.YtiadjmfdahendaaDoorCertS
namespace Go.Proofs.YtiadjmfdahendaaDoor
open Go.RowKit

/-- A step's thirteen cells. -/
def stpA (x : Stp) (v : Value) : Array Value := #[.string ⟨x.1.1.toArray⟩, .string ⟨x.1.2.1.toArray⟩, .int .i64 x.1.2.2.1, .bool x.1.2.2.2.1.1, .string ⟨x.1.2.2.2.1.2.toArray⟩, .bool x.1.2.2.2.2.1.1, .string ⟨x.1.2.2.2.2.1.2.toArray⟩, .bool x.1.2.2.2.2.2.1.1, .string ⟨x.1.2.2.2.2.2.1.2.toArray⟩, .bool x.1.2.2.2.2.2.2.1, .string ⟨x.1.2.2.2.2.2.2.2.toArray⟩, .int .i64 x.2.1, v]
def BlkS (W : World) (B : Nat) (x : Stp) (v : Value) : Prop := W.heap[B]? = some (.cells (stpA x v) 39 (0, 0))
section
variable {W W' : World} {B g : Nat} {x : Stp} {v : Value}
theorem BlkS.cell (h : BlkS W B x v) (j : Nat) : W.cell? ⟨B, j, none⟩ = (stpA x v)[j]? := by
  unfold BlkS at h
  simp [World.cell?, h]
theorem BlkS.free (h : BlkS W B x v) (j : Nat) : W.frozen? ⟨B, j, none⟩ = false := by
  unfold BlkS at h; simp [World.frozen?, h]
theorem BlkS.lt (h : BlkS W B x v) : B < W.heap.size := (Array.getElem?_eq_some_iff.1 h).1
theorem BlkS.grown {row : Option Nat} (h : BlkS W B x v) (hg : W.grownBy W' row) (hr : some B ≠ row) : BlkS W' B x v := (hg.block B h.lt hr).trans h
theorem BlkS.next (h : BlkS W B x v) (hs : Since W W') : BlkS W' B x v := (Below.block hs B h.lt).trans h
theorem BlkS.far (h : BlkS W B x v) {p : Addr} (hp : B ≠ p.block) (u : Value) : BlkS (W.setCell p u) B x v := (Below.heap_setCell W p u B hp).trans h
theorem BlkS.set (h : BlkS W B x v) {j : Nat} {u : Value} {x' : Stp} {v' : Value} (he : (stpA x v).setIfInBounds j u = stpA x' v') : BlkS (W.setCell ⟨B, j, none⟩ u) B x' v' := by
  unfold BlkS at h ⊢
  rw [setCell_eq_setRow W B j _ _ (0, 0) _ h, setRow_heap W B _ _ _ (0, 0) h, he]
end
def RStepPost (s : List UInt8) (i : Nat) (bad : Bool) (g : Nat) (T : TypeId) (w : World) (e : Ending) (w' : World) : Prop :=
  ∃ sv, e = .returned (.agg (stpA (stepS s i bad).1 sv)) ∧ w'.ownsRow w.heap.size 3 1 sv (stepS s i bad).1.2.2.length ((stepS s i bad).1.2.2.map intV) ∧ Rdr w' g T s (stepS s i bad).2.1 (stepS s i bad).2.2 ∧ w.grownBy w' (some g)
end Go.Proofs.YtiadjmfdahendaaDoor
