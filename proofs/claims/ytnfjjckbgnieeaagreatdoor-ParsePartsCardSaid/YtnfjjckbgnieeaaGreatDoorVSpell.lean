/- Package spell, as it reads the table strings.asciiSpace of the library: what Words, Reserved, Principal, Predicate, Constant and Variable answer, at every string of at most maxLen bytes, in every world in which that table stands. -/
import Derived.Test.YtnfjjckbgnieeaaGreatDoorVSpSpelled
import Derived.Lib.Space
import Derived.Lib.Fields
import Derived.Lib.SlicesS
import Derived.Test.YtnfjjckbgnieeaaGreatDoorVShelf
namespace Go.Proofs.YtnfjjckbgnieeaaGreatDoor
open Go.RowKit

/-- The world's package variables that the code reads: strings.asciiSpace. -/
def Env (w : World) : Prop := Lib.TabIs Tryz.prog w "strings.asciiSpace" .u8 Lib.asciiSpaceTab
theorem globalAscii : Tryz.prog.globalNamed "strings.asciiSpace" = some 1 := by kernel_rfl
theorem Env.next {w w' : World} (h : Env w) (hs : Since w w') : Env w' := by
  have h0 : w.var? Tryz.prog "strings.asciiSpace" = some (Lib.asciiSpaceTab.map fun z => Value.int .u8 z).toArray := h
  refine var?_below hs globalAscii ?_ h0
  rcases Nat.lt_or_ge 1 w.heap.size with h' | h'
  · exact h'
  · unfold World.var? at h0
    simp only [globalAscii, Option.bind_some, Array.getElem?_eq_none h'] at h0
    cases h0
theorem fields_reserved : Lib.fields reservedL = wordsL := by decide +kernel
theorem ascii_reserved : ∀ (j : Nat) (b : UInt8), reservedL[j]? = some b → b.toNat < 128 := by
  intro j b h
  have h2 : b ∈ reservedL := List.mem_of_getElem? h
  have : ∀ x ∈ reservedL, x.toNat < 128 := by decide +kernel
  exact this b h2
theorem words_any (w : World) (hE : Env w) :
    Calls Tryz.prog 118 #[] w fun e w' => e = .returned (.slice (some ⟨w.heap.size, 0, none⟩) 8 8) ∧ w.alloc wordsO = w' := by
  have hc := Tryz.strings_Fields_laid ⟨reservedL.toArray⟩ w (by decide +kernel) ascii_reserved hE
  have hf : Lib.fields (ByteArray.mk reservedL.toArray).data.toList = wordsL := fields_reserved
  rw [hf] at hc
  have HC := Lib.hid hc
  clear hc hf hE
  go_enter Tryz.func118, Tryz.ntmps118
  go_wp2_with fail
  refine HC.out.mono ?_
  rintro e w' ⟨rfl, rfl⟩
  go_wp2_with fail
  go_ret
  exact ⟨rfl, rfl⟩
theorem cell_words (w : World) (j : Nat) (hj : j < (wordsL.map fun l => ByteArray.mk l.toArray).length) :
    (w.alloc wordsO).cell? ⟨w.heap.size, 0 + j, none⟩ = some (.string ((wordsL.map fun l => ByteArray.mk l.toArray).getD j ByteArray.empty)) := by
  rw [wordsO, World.cell?_alloc_new, Nat.zero_add]
  simp only [List.getElem?_toArray, List.getElem?_map, List.getD_eq_getElem?_getD]
  have hj' : j < wordsL.length := by simpa using hj
  simp [List.getElem?_eq_getElem hj']
theorem containsS_words (l : List UInt8) : Lib.containsS (wordsL.map fun l => ByteArray.mk l.toArray) ⟨l.toArray⟩ = reservedB l := by
  rw [Bool.eq_iff_iff, Lib.containsS_iff, reservedB, List.contains_iff_mem, List.mem_map]
  constructor
  · rintro ⟨a, ha, e⟩
    have : a = l := by simpa using e
    rw [← this]; exact ha
  · intro h; exact ⟨l, h, rfl⟩
theorem reserved_any (l : List UInt8) (w : World) (hE : Env w) :
    Calls Tryz.prog 105 #[.string ⟨l.toArray⟩] w fun e w' => e = .returned (.bool (reservedB l)) ∧ Since w w' := by
  have HW := Lib.hid (words_any w hE)
  have hc := Tryz.slices_Contains_string w.heap.size 0 8 8 (wordsL.map fun l => ByteArray.mk l.toArray) ⟨l.toArray⟩ (w.alloc wordsO) (by decide) (by decide) (cell_words w)
  rw [show List.take 8 (wordsL.map fun l => ByteArray.mk l.toArray) = (wordsL.map fun l => ByteArray.mk l.toArray) from rfl, containsS_words] at hc
  have HC := Lib.hid hc
  clear hc hE
  go_enter Tryz.func105, Tryz.ntmps105
  go_wp2_with fail
  refine HW.out.mono ?_
  rintro e w' ⟨rfl, rfl⟩
  go_wp2_with fail
  refine HC.out.mono ?_
  rintro e w' ⟨rfl, rfl⟩
  go_wp2_with fail
  go_ret
  exact ⟨rfl, (Since.refl _).alloc _⟩
theorem principal_any (l : List UInt8) (w : World) (hl : l.length ≤ maxLen) (hE : Env w) :
    Calls Tryz.prog 84 #[.string ⟨l.toArray⟩] w fun e w' => e = .returned (.bool (principalB l)) ∧ Since w w' := by
  have HS := Lib.hid (spelled_word l w hl)
  have HR := Lib.hid (reserved_any l w hE)
  clear hE
  cases h : spelledB smallB lowB l
  · go_enter Tryz.func84, Tryz.ntmps84
    go_wp2_with (go_at_call 102; refine HS.out.mono ?_; rintro e w' ⟨rfl, rfl⟩)
    go_ret
    exact ⟨ret_bool (by rw [principalB, h, Bool.false_and]), Since.refl _⟩
  · go_enter Tryz.func84, Tryz.ntmps84
    go_wp2_with (first | (go_at_call 102; refine HS.out.mono ?_; rintro e w' ⟨rfl, rfl⟩) | (go_at_call 105; refine HR.out.mono ?_; rintro e w' ⟨rfl, hb⟩))
    go_ret
    exact ⟨ret_bool (by rw [principalB, h, Bool.true_and]), hb⟩
theorem constant_any (l : List UInt8) (w : World) (hl : l.length ≤ maxLen) (hE : Env w) :
    Calls Tryz.prog 129 #[.string ⟨l.toArray⟩] w fun e w' => e = .returned (.bool (constantB l)) ∧ Since w w' := by
  have HS := Lib.hid (spelled_con l w hl)
  have HR := Lib.hid (reserved_any l w hE)
  clear hE
  cases h : spelledB firstB lowB l
  · go_enter Tryz.func129, Tryz.ntmps129
    go_wp2_with (go_at_call 102; refine HS.out.mono ?_; rintro e w' ⟨rfl, rfl⟩)
    go_ret
    exact ⟨ret_bool (by rw [constantB, h, Bool.false_and]), Since.refl _⟩
  · go_enter Tryz.func129, Tryz.ntmps129
    go_wp2_with (first | (go_at_call 102; refine HS.out.mono ?_; rintro e w' ⟨rfl, rfl⟩) | (go_at_call 105; refine HR.out.mono ?_; rintro e w' ⟨rfl, hb⟩))
    go_ret
    exact ⟨ret_bool (by rw [constantB, h, Bool.true_and]), hb⟩
theorem predicate_any (l : List UInt8) (w : World) (hl : l.length ≤ maxLen) (hE : Env w) :
    Calls Tryz.prog 85 #[.string ⟨l.toArray⟩] w fun e w' => e = .returned (.bool (principalB l)) ∧ Since w w' := by
  have HS := Lib.hid (principal_any l w hl hE)
  clear hE
  go_enter Tryz.func85, Tryz.ntmps85
  go_wp2_with (go_at_call 84; refine HS.out.mono ?_; rintro e w' ⟨rfl, hb⟩)
  go_ret
  exact ⟨rfl, hb⟩
theorem variable_any (l : List UInt8) (w : World) (hl : l.length ≤ maxLen) :
    Calls Tryz.prog 112 #[.string ⟨l.toArray⟩] w fun e w' => e = .returned (.bool (variableB l)) ∧ w = w' := by
  have HS := Lib.hid (spelled_var l w hl)
  go_enter Tryz.func112, Tryz.ntmps112
  go_wp2_with (go_at_call 102; refine HS.out.mono ?_; rintro e w' ⟨rfl, rfl⟩)
  go_ret
  exact ⟨rfl, rfl⟩
end Go.Proofs.YtnfjjckbgnieeaaGreatDoor
