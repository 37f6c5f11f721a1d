/- Package spell, as it reads the table strings.asciiSpace of the library: what Words, Reserved, Principal, Predicate, Constant and Variable answer, at every string of at most maxLen bytes, in every world in which that table stands. -/
import Derived.Test.YtohcehjpdmhjlaaDoorSpSpelled
import Derived.Lib.Space
import Derived.Lib.Fields
import Derived.Lib.SlicesS
import Derived.Test.YtohcehjpdmhjlaaDoorShelf
namespace Go.Proofs.YtohcehjpdmhjlaaDoor
open Go.RowKit

/-- The world's package variables that the code reads: strings.asciiSpace. -/
def Env (w : World) : Prop := Lib.TabIs Tryd.prog w "strings.asciiSpace" .u8 Lib.asciiSpaceTab
theorem fields_reserved : Lib.fields reservedL = wordsL := by decide +kernel
theorem ascii_reserved : ∀ (j : Nat) (b : UInt8), reservedL[j]? = some b → b.toNat < 128 := by
  intro j b h
  have h2 : b ∈ reservedL := List.mem_of_getElem? h
  have : ∀ x ∈ reservedL, x.toNat < 128 := by decide +kernel
  exact this b h2

theorem cell_words (w : World) (j : Nat) (hj : j < (wordsL.map fun l => ByteArray.mk l.toArray).length) :
    (w.alloc wordsO).cell? ⟨w.heap.size, 0 + j, none⟩ = some (.string ((wordsL.map fun l => ByteArray.mk l.toArray).getD j ByteArray.empty)) := by
  rw [wordsO, World.cell?_alloc_new, Nat.zero_add]
  simp only [List.getElem?_toArray, List.getElem?_map, List.getD_eq_getElem?_getD]
  have hj' : j < wordsL.length := by simpa using hj
  simp [List.getElem?_eq_getElem hj']
theorem containsS_words (l : List UInt8) : Lib.containsS (wordsL.map fun l => ByteArray.mk l.toArray) ⟨l.toArray⟩ = reservedB l := by
  rw [Bool.eq_iff_iff, Lib.containsS_iff, reservedB, List.contains_iff_mem, List.mem_map]
  constructor
  · rintro ⟨a, ha, e⟩
    have : a = l := by simpa using e
    rw [← this]; exact ha
  · intro h; exact ⟨l, h, rfl⟩

end Go.Proofs.YtohcehjpdmhjlaaDoor
