/- The reference of layer 3: Term, Check, Count, Ground: what they answer at every term and atom. -/
import Derived.Test.YtnfjjckbgnieeaaGreatDoorQAtom
import Derived.Test.YtnfjjckbgnieeaaGreatDoorQRef01
namespace Go.Proofs.YtnfjjckbgnieeaaGreatDoor
open Go.RowKit

theorem rpri_any' (l : List UInt8) (w : World) (hl : l.length ≤ maxLen) :
    Calls Tryz.prog 13 #[.string ⟨l.toArray⟩] w fun e w' => e = .returned (.bool (principalB l)) ∧ Since w w' := by
  have h := rprincipal_any l w hl; rwa [rprincipal_eq] at h
theorem rpre_any' (l : List UInt8) (w : World) (hl : l.length ≤ maxLen) :
    Calls Tryz.prog 14 #[.string ⟨l.toArray⟩] w fun e w' => e = .returned (.bool (principalB l)) ∧ Since w w' := by
  have h := rpredicate_any l w hl; rwa [rprincipal_eq] at h
end Go.Proofs.YtnfjjckbgnieeaaGreatDoor
