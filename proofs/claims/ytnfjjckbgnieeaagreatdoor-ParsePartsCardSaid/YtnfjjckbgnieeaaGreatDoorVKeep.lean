/- Worlds that differ in some blocks alone. -/
import Derived.Test.YtnfjjckbgnieeaaGreatDoorVKRow
import Derived.Test.YtnfjjckbgnieeaaGreatDoorVNest
namespace Go.Proofs.YtnfjjckbgnieeaaGreatDoor
open Go.RowKit

theorem own_stand {w w' : World} {B : Nat} {e : TypeId} {K n : Nat} {v : Value} {xs : List Value} (h : w.ownsRow B e K v n xs) (hb : ∀ b, v.ownBlock = some b → w'.heap[b]? = w.heap[b]?) : w'.ownsRow B e K v n xs := by
  refine ⟨h.1, ?_⟩
  rcases h.2 with hn | ⟨g, cap, cur, rfl, hbg, hg, rest⟩
  · exact .inl hn
  · exact .inr ⟨g, cap, cur, rfl, hbg, (hb g rfl).trans hg, rest⟩
theorem cel_stand {w w' : World} {g : Nat} {cs : Array Value} {T : TypeId} (h : Cel w g cs T) (hb : w'.heap[g]? = w.heap[g]?) : Cel w' g cs T := hb.trans h
theorem cel_own_ne {W : World} {g : Nat} {cs : Array Value} {T : TypeId} {B : Nat} {e : TypeId} {K m : Nat} {v : Value} {xs : List Value} (hc : Cel W g cs T) (hr : W.ownsRow B e K v m xs) (he : e ≠ T) : some g ≠ v.ownBlock := by
  intro hh
  rcases own_cel_ne hr hc he with h0 | h0
  · rw [h0] at hh; cases hh
  · exact h0 hh.symm
/-- But for the blocks of Z, and what is new, nothing has changed. -/
structure Keep (Z : Nat → Prop) (W W' : World) : Prop where
  os : W'.os = W.os
  tape : W'.tape = W.tape
  output : W'.output = W.output
  size : W.heap.size ≤ W'.heap.size
  block : ∀ k, k < W.heap.size → ¬ Z k → W'.heap[k]? = W.heap[k]?
theorem Keep.refl (Z : Nat → Prop) (W : World) : Keep Z W W := ⟨rfl, rfl, rfl, Nat.le_refl _, fun _ _ _ => rfl⟩
theorem Keep.of_since {Z : Nat → Prop} {W W' : World} (h : Since W W') : Keep Z W W' := ⟨h.os, h.tape, h.output, h.size, fun k hk _ => h.block k hk⟩
theorem Keep.of_grown {Z : Nat → Prop} {W W' : World} {row : Option Nat} (h : W.grownBy W' row) (hr : ∀ b, row = some b → Z b) : Keep Z W W' := ⟨h.os, h.tape, h.output, h.size, fun k hk hz => h.block k hk (fun e => hz (hr k e.symm))⟩
theorem Keep.trans {Z Z' : Nat → Prop} {a b c : World} (h : Keep Z a b) (k : Keep Z' b c) (hz : ∀ x, Z' x → Z x ∨ a.heap.size ≤ x) : Keep Z a c :=
  ⟨k.os.trans h.os, k.tape.trans h.tape, k.output.trans h.output, Nat.le_trans h.size k.size, fun i hi hn => (k.block i (Nat.lt_of_lt_of_le hi h.size) (fun hz' => (hz i hz').elim hn (fun hl => absurd hi (by omega)))).trans (h.block i hi hn)⟩
theorem Keep.mono {Z Z' : Nat → Prop} {a b : World} (h : Keep Z a b) (hz : ∀ x, Z x → Z' x) : Keep Z' a b := ⟨h.os, h.tape, h.output, h.size, fun k hk hn => h.block k hk (fun e => hn (hz k e))⟩
theorem Keep.since {Z : Nat → Prop} {w0 a b : World} (h : Keep Z a b) (h0 : Since w0 a) (hz : ∀ x, Z x → w0.heap.size ≤ x) : Since w0 b :=
  Below.trans h0 ⟨h.os, h.tape, h.output, h.size, fun k hk => h.block k (Nat.lt_of_lt_of_le hk h0.size) (fun e => absurd (hz k e) (by omega))⟩
theorem Keep.cel {Z : Nat → Prop} {W W' : World} (hk : Keep Z W W') {g : Nat} {cs : Array Value} {T : TypeId} (h : Cel W g cs T) (hz : ¬ Z g) : Cel W' g cs T := cel_stand h (hk.block g h.lt hz)
theorem Keep.own {Z : Nat → Prop} {w w' : World} (hk : Keep Z w w') {B : Nat} {e : TypeId} {K n : Nat} {v : Value} {xs : List Value} (h : w.ownsRow B e K v n xs) (hz : ∀ b, v.ownBlock = some b → ¬ Z b) : w'.ownsRow B e K v n xs :=
  own_stand h fun b hb => hk.block b (h.lt b hb).2 (hz b hb)
theorem cel_cel_ne {W : World} {g g' : Nat} {cs cs' : Array Value} {T T' : TypeId} (h : Cel W g cs T) (h' : Cel W g' cs' T') (hT : T ≠ T') : g ≠ g' := by
  rintro rfl
  unfold Cel at h h'
  rw [h] at h'
  injection h' with h'
  injection h' with _ h'
  exact hT h'
end Go.Proofs.YtnfjjckbgnieeaaGreatDoor
