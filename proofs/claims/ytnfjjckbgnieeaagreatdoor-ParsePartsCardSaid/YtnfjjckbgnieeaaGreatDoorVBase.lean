/- Words that all texts of this seat share: what stands since a call began; what a slice in memory reads as; results. -/
import Derived.Test.YtnfjjckbgnieeaaGreatDoorProg
import Derived.WalkKit
import Derived.WalkSpells
import Derived.WalkLawsBesides
import Derived.Lib.Hide
import Derived.Deep.QuietTactic
import Derived.BigQuiet
namespace Go.Proofs.YtnfjjckbgnieeaaGreatDoor
open Go.RowKit

theorem ret_bool {a b : Bool} (h : a = b) : Ending.returned (.bool a) = .returned (.bool b) := by rw [h]
theorem ret_int {k : IntKind} {a b : Int} (h : a = b) : Ending.returned (.int k a) = .returned (.int k b) := by rw [h]
/-- What was there when a call began stands: only new blocks, and draws. -/
def Since (w w' : World) : Prop := Below w.heap.size w w'
theorem Since.refl (w : World) : Since w w := Below.refl _ _
theorem Since.trans {a b c : World} (h : Since a b) (k : Since b c) : Since a c := Below.trans h (Below.mono k h.size)
theorem Since.alloc {a b : World} (h : Since a b) (o : Obj) : Since a (b.alloc o) := Below.alloc h h.size o
theorem Since.drew {a b : World} (h : Since a b) : Since a b.drew := Below.drew h
theorem Since.drewN {a b : World} (h : Since a b) (n : Nat) : Since a (b.drewN n) := _root_.Go.below_drewN (B := a.heap.size) h n
theorem Since.setCell {a b : World} (h : Since a b) {p : Addr} (hp : a.heap.size ≤ p.block) (u : Value) : Since a (b.setCell p u) := Below.setCell h hp u
theorem Since.cell {w w' : World} (h : Since w w') {a : Addr} {v : Value} (hc : w.cell? a = some v) : w'.cell? a = some v := (Below.cell h (World.block_lt_of_cell? w a hc)).trans hc
/-- A slice value of n elements whose cells are cs. -/
def Row (w : World) (v : Value) (n : Nat) (cs : List Value) : Prop :=
  (v = .slice none 0 0 ∧ n = 0 ∧ cs = []) ∨ ∃ b o c, v = .slice (some ⟨b, o, none⟩) n c ∧ n ≤ c ∧ ∀ j, (h : j < cs.length) → w.cell? ⟨b, o + j, none⟩ = some cs[j]
theorem Row.next {w w' : World} {v : Value} {n : Nat} {cs : List Value} (h : Row w v n cs) (hs : Since w w') : Row w' v n cs := by
  rcases h with h | ⟨b, o, c, h1, h2, h3⟩
  · exact .inl h
  · exact .inr ⟨b, o, c, h1, h2, fun j hj => hs.cell (h3 j hj)⟩
theorem Row.len {w : World} {v : Value} {n : Nat} {cs : List Value} (h : Row w v n cs) : ∃ a c, v = .slice a n c := by
  rcases h with ⟨h, rfl, _⟩ | ⟨b, o, c, h1, _, _⟩
  · exact ⟨_, _, h⟩
  · exact ⟨_, _, h1⟩
theorem Row.some {w : World} {v : Value} {n : Nat} {cs : List Value} (h : Row w v n cs) (hn : 0 < n) : ∃ b o c, v = .slice (some ⟨b, o, none⟩) n c ∧ n ≤ c ∧ ∀ j, (h : j < cs.length) → w.cell? ⟨b, o + j, none⟩ = some cs[j] := by
  rcases h with ⟨_, h, _⟩ | h
  · omega
  · exact h
/-- What the call made, read. -/
theorem row_of_own {w : World} {base : Nat} {e : TypeId} {size : Nat} {v : Value} {n : Nat} {xs : List Value} (h : w.ownsRow base e size v n xs) : Row w v n xs := by
  obtain ⟨hl, h | ⟨g, cap, cur, hv, _, hg, hn, _, hs, ht⟩⟩ := h
  · obtain ⟨rfl, rfl⟩ := h
    exact .inl ⟨rfl, rfl, List.eq_nil_of_length_eq_zero (by omega)⟩
  · refine .inr ⟨g, 0, cap, hv, hn, fun j hj => ?_⟩
    subst ht
    have hj' : j < cur.toList.length := Nat.lt_of_lt_of_le hj (List.length_take_le' _ _)
    rw [List.getElem_take]
    simp only [Array.length_toList] at hj'
    simp [World.cell?, hg, hj']
theorem own_ge {B : Nat} {wr : World} {e : TypeId} {size : Nat} {v : Value} {n : Nat} {xs : List Value} (hown : wr.ownsRow B e size v n xs) : ∀ k, v.ownBlock = some k → B ≤ k := by
  intro k hk
  obtain ⟨_, h | ⟨g, cap, cur, hv, hgb, _⟩⟩ := hown
  · rw [h.1] at hk; cases hk
  · rw [hv] at hk
    have : g = k := by simpa [Value.ownBlock] using hk
    omega
theorem own_down {B B' : Nat} {w : World} {e : TypeId} {size : Nat} {v : Value} {n : Nat} {xs : List Value} (h : w.ownsRow B e size v n xs) (hB : B' ≤ B) : w.ownsRow B' e size v n xs := by
  obtain ⟨hl, h | ⟨g, cap, cur, hv, hgb, r⟩⟩ := h
  · exact ⟨hl, .inl h⟩
  · exact ⟨hl, .inr ⟨g, cap, cur, hv, Nat.le_trans hB hgb, r⟩⟩
theorem at_bytes (l : List UInt8) (i : Nat) (_h : i < (ByteArray.mk l.toArray).size) (h' : i < l.length) : (ByteArray.mk l.toArray)[i] = l[i] := rfl
theorem ext_bytes (l : List UInt8) (a b : Nat) : (ByteArray.mk l.toArray).extract a b = ByteArray.mk ((l.take b).drop a).toArray := by
  apply ByteArray.ext
  apply Array.ext'
  simp [List.drop_take]
def strV (l : List UInt8) : Value := .string ⟨l.toArray⟩
end Go.Proofs.YtnfjjckbgnieeaaGreatDoor
