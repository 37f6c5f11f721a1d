/- Package term: Term, Check, Ground: what they answer at every term and atom, in every world in which the library's table strings.asciiSpace stands. -/
import Derived.Test.YtnfjjckbgnieeaaGreatDoorVRef03
import Derived.Test.YtnfjjckbgnieeaaGreatDoorVSpell
namespace Go.Proofs.YtnfjjckbgnieeaaGreatDoor
open Go.RowKit

/-- A slice value that reads as terms. -/
def TmRow (W : World) (v : Value) (L : List Tm) : Prop :=
  (v = .slice none 0 0 ∧ L = []) ∨ ∃ b o c, v = .slice (some ⟨b, o, none⟩) L.length c ∧ L.length ≤ c ∧ ∀ k, (h : k < L.length) → W.cell? ⟨b, o + k * 2, none⟩ = some (.bool L[k].1) ∧ W.cell? ⟨b, o + k * 2 + 1, none⟩ = some (.string ⟨L[k].2.toArray⟩)
theorem TmRow.next {W W' : World} {v : Value} {L : List Tm} (h : TmRow W v L) (hs : Since W W') : TmRow W' v L := by
  rcases h with h | ⟨b, o, c, h1, h2, h3⟩
  · exact .inl h
  · exact .inr ⟨b, o, c, h1, h2, fun k hk => ⟨hs.cell (h3 k hk).1, hs.cell (h3 k hk).2⟩⟩
theorem TmRow.some {W : World} {v : Value} {L : List Tm} (h : TmRow W v L) (hn : 0 < L.length) : ∃ b o c, v = .slice (some ⟨b, o, none⟩) L.length c ∧ L.length ≤ c ∧ ∀ k, (h : k < L.length) → W.cell? ⟨b, o + k * 2, none⟩ = some (.bool L[k].1) ∧ W.cell? ⟨b, o + k * 2 + 1, none⟩ = some (.string ⟨L[k].2.toArray⟩) := by
  rcases h with ⟨_, h⟩ | h
  · rw [h] at hn; simp at hn
  · exact h
/-- The terms that are looked at are those up to N. -/
theorem countA_in {a : Atm} (h0 : 0 ≤ a.2.2.1) (h4 : a.2.2.1 ≤ 4) : countA a = a.2.2.1.toNat := by unfold countA; omega
end Go.Proofs.YtnfjjckbgnieeaaGreatDoor
