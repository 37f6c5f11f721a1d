/- Bindings opened to plain data by their readings. -/
import Derived.Test.YtohcehjpdmhjlaaOpen
import Derived.Test.YtohcehjpdmhjlaaUniA
namespace Go.Proofs.Ytohcehjpdmhjlaa
open Go.RowKit Go.ChangeShapes Go.WideShapes Go.Deep

theorem cells_binding : Try.prog.cellsOf 37 = 3 := by kernel_rfl
theorem three_of {cs : List Value} {n : Nat} (h : cs.length = n) (hn : n = 3) : ∃ c0 c1 c2, cs = [c0, c1, c2] := by
  subst hn
  match cs, h with
  | [c0, c1, c2], _ => exact ⟨_, _, _, rfl⟩
section
variable {H : Type} {enc : TypeId × Value → H} {w : World} {base : Nat} {sp : Nat → Bool} {held : Bool} {fuel : Nat} {cs : List Value} {x : DataW H × List MemPlace}
theorem rd_bndC (h : DataW.trod enc Try.prog w base sp held fuel 37 cs = some x) : ∃ b : Bnd, cs = bndC b ∧ (b.1.length ≤ maxLen ∧ b.2.2.length ≤ maxLen) := by
  obtain ⟨ys, n, _, _, hlen, hyl, hf⟩ := DataW.trod_struct Try.underlying37 h
  obtain ⟨a, b, c, rfl⟩ := three_of hlen cells_binding
  have l0 : 0 < ys.length := by rw [hyl]; decide
  have l1 : 1 < ys.length := by rw [hyl]; decide
  have h0 : DataW.trod enc Try.prog w base sp held n 9 (([a, b, c].drop 0).take (Try.prog.cellsOf 9)) = some ys[0] := (hf 0 _ rfl).trans (List.getElem?_eq_getElem l0)
  have h1 : DataW.trod enc Try.prog w base sp held n 23 (([a, b, c].drop 1).take (Try.prog.cellsOf 23)) = some ys[1] := (hf 1 _ rfl).trans (List.getElem?_eq_getElem l1)
  rw [cells_string] at h0
  rw [cells_term] at h1
  obtain ⟨s, e0, hs⟩ := rd_str Try.underlying9 h0
  obtain ⟨t, e1, ht⟩ := rd_term h1
  have e0' : [a] = [Value.string ⟨s.toArray⟩] := e0
  have e1' : [b, c] = [Value.bool t.1, .string ⟨t.2.toArray⟩] := e1
  injection e0' with e0' _
  injection e1' with e1a e1b
  injection e1b with e1b _
  exact ⟨(s, t), by rw [e0', e1a, e1b]; rfl, hs, ht⟩
end
end Go.Proofs.Ytohcehjpdmhjlaa
