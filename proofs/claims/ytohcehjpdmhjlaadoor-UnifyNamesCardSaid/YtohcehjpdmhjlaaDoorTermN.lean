/- Package term: Ground, names, Vars, Consts: what they answer at every atom. -/
import Derived.Test.YtohcehjpdmhjlaaDoorTerm
namespace Go.Proofs.YtohcehjpdmhjlaaDoor
open Go.RowKit

theorem tmRow_at {W : World} {b o n c : Nat} {L : List Tm} (h : TmRow W (.slice (some ⟨b, o, none⟩) n c) L) : ∀ k, (h : k < L.length) → W.cell? ⟨b, o + k * 2, none⟩ = some (.bool L[k].1) ∧ W.cell? ⟨b, o + k * 2 + 1, none⟩ = some (.string ⟨L[k].2.toArray⟩) := by
  rcases h with ⟨h, _⟩ | ⟨b', o', c', h1, _, h3⟩
  · cases h
  · injection h1 with h1 _ _
    injection h1 with h1
    injection h1 with hb ho _
    subst hb ho
    exact h3
theorem any_ground (L : List Tm) : (!(L.any fun t => t.1)) = L.all fun t => !t.1 := by
  induction L with
  | nil => rfl
  | cons t r ih => rw [List.any_cons, List.all_cons, Bool.not_or, ih]

/-- The names of terms of one sort, each once, in the order of their first occurrence. -/
def namesF (vars : Bool) : List Tm → List (List UInt8) → List (List UInt8)
  | [], acc => acc
  | t :: r, acc => namesF vars r (if (t.1 == vars) && !acc.contains t.2 then acc ++ [t.2] else acc)
def namesA (a : Atm) (vars : Bool) : List (List UInt8) := namesF vars ((argsL a).take (countA a)) []
/-- A result that is a list of texts in new memory. -/
def Strs (w : World) (L : List (List UInt8)) (e : Ending) (w' : World) : Prop := ∃ v, e = .returned v ∧ w'.ownsRow w.heap.size 9 1 v L.length (L.map strV) ∧ Since w w'

theorem infoStr : (Tryd.prog.info? 9).map (fun i => (i.zero, i.size, i.bytes)) = some (some (.string ByteArray.empty), 1, 16) := by kernel_rfl

end Go.Proofs.YtohcehjpdmhjlaaDoor
