/- The reference: an atom under bindings (Apply). -/
import Derived.Test.YtohcehjpdmhjlaaDoorUniAH
import Derived.Laws.Rows
import Derived.Laws.Tables
namespace Go.Proofs.YtohcehjpdmhjlaaDoor
open Go.RowKit

theorem ainfoA : (Tryd.prog.info? 26).map (·.size) = some 11 := by kernel_rfl
def zeroAtmU : Atm := ([], [], 0, (false, []), (false, []), (false, []), (false, []))
/-- The first k terms of an atom under bindings. -/
def partA (l : List Bnd) (k : Nat) (a : Atm) : Atm :=
  let f := fun (i : Nat) (t : Tm) => if i < k then termS l t else t
  (a.1, a.2.1, a.2.2.1, f 0 a.2.2.2.1, f 1 a.2.2.2.2.1, f 2 a.2.2.2.2.2.1, f 3 a.2.2.2.2.2.2)
theorem partA_zero (l : List Bnd) (a : Atm) : partA l 0 a = a := rfl
theorem partA_end (l : List Bnd) (a : Atm) : partA l (countA a) a = applyA l a := rfl
theorem partA_set (l : List Bnd) (a : Atm) : ∀ (k : Nat) (_ : k < 4) (h2 : k < (argsL (partA l k a)).length),
    ((atmC (partA l k a)).setIfInBounds (3 + k * 2) (.bool (termS l ((argsL (partA l k a))[k]'h2)).1)).setIfInBounds (3 + k * 2 + 1) (.string ⟨(termS l ((argsL (partA l k a))[k]'h2)).2.toArray⟩) = atmC (partA l (k + 1) a)
  | 0, _, _ => rfl
  | 1, _, _ => rfl
  | 2, _, _ => rfl
  | 3, _, _ => rfl
theorem grown_rowU {w : World} (W : World) (B : Nat) (cs : Array Value) (hB : w.heap.size ≤ B) (h : Since w W) : Since w (W.setRow B cs) :=
  Below.grown h (row := some B) ⟨rfl, rfl, rfl, by simp, fun k hk hne => setRow_other W B k cs (fun e => hne (by rw [e]))⟩ h.size (fun k hk => by injection hk with hk; omega)
theorem Cel.box' {W : World} {B : Nat} {a : Atm} {T : TypeId} (h : Cel W B (atmC a) T) : Box W B a := by
  intro j hj
  rw [h.cell j, Array.getElem?_eq_getElem hj]
end Go.Proofs.YtohcehjpdmhjlaaDoor
