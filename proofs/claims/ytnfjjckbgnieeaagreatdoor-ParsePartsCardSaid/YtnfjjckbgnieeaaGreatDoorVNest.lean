/- Rows of the call's own whose elements hold rows of their own; vouchsafekit.Own of atoms. -/
import Derived.Test.YtnfjjckbgnieeaaGreatDoorVKRow
import Derived.Test.YtnfjjckbgnieeaaGreatDoorVRef3N
import Derived.Test.YtnfjjckbgnieeaaGreatDoorVAuto
import Derived.Test.YtnfjjckbgnieeaaGreatDoorVAppendOwn
import Derived.Lib.OwnKind
namespace Go.Proofs.YtnfjjckbgnieeaaGreatDoor
open Go.RowKit

section
variable {w w' : World} {base B B' : Nat} {e e' : TypeId} {size size' : Nat} {v v' : Value} {n n' : Nat} {xs xs' : List Value}
theorem own_base (h : w.ownsRow B e size v n xs) (hb : B' ≤ B) : w.ownsRow B' e size v n xs := by
  obtain ⟨hl, h | ⟨g, cap, cur, hv, hgb, r⟩⟩ := h
  · exact ⟨hl, .inl h⟩
  · exact ⟨hl, .inr ⟨g, cap, cur, hv, Nat.le_trans hb hgb, r⟩⟩
theorem own_kind_apart (h1 : w.ownsRow B e size v n xs) (h2 : w.ownsRow B' e' size' v' n' xs') (he : e ≠ e') : v.ownBlock = none ∨ v.ownBlock ≠ v'.ownBlock := by
  cases hb : v.ownBlock with
  | none => exact .inl rfl
  | some b =>
    refine .inr fun h => ?_
    obtain ⟨c1, f1, k1⟩ := Lib.ownsRow_kind h1 b hb
    obtain ⟨c2, f2, k2⟩ := Lib.ownsRow_kind h2 b h.symm
    rw [k1] at k2
    injection k2 with k2
    injection k2 with _ k2
    exact he k2
theorem own_cel_ne {g : Nat} {cs : Array Value} {T : TypeId} (h : w.ownsRow B e size v n xs) (hc : Cel w g cs T) (he : e ≠ T) : v.ownBlock = none ∨ v.ownBlock ≠ some g := by
  cases hb : v.ownBlock with
  | none => exact .inl rfl
  | some b =>
    refine .inr fun h' => ?_
    injection h' with h'
    subst h'
    obtain ⟨c1, f1, k1⟩ := Lib.ownsRow_kind h b hb
    unfold Cel at hc
    rw [hc] at k1
    injection k1 with k1
    injection k1 with _ k1
    exact he k1.symm
/-- Another row grows. -/
theorem own_other (h : w.ownsRow B e size v n xs) (h2 : w.ownsRow B' e' size' v' n' xs') (he : e ≠ e') (hg : w.grownBy w' v'.ownBlock) : w'.ownsRow B e size v n xs := h.kept hg (own_kind_apart h h2 he)
theorem grown_setRow (w : World) (g : Nat) (cs : Array Value) : w.grownBy (w.setRow g cs) (some g) := ⟨rfl, rfl, rfl, by simp, fun k _ hne => setRow_other w g k cs (fun e => hne (by rw [e]))⟩
theorem grown_setCell (w : World) (g j : Nat) (u : Value) : w.grownBy (w.setCell ⟨g, j, none⟩ u) (some g) := by
  have b := Below.setCell (p := ⟨g, j, none⟩) (Below.refl 0 w) (Nat.zero_le _) u
  exact ⟨b.os, b.tape, b.output, b.size, fun k _ hk => Below.heap_setCell w _ u k (fun e => hk (by rw [e]))⟩
theorem own_setRow {g : Nat} {cs ds : Array Value} {T : TypeId} (h : w.ownsRow B e size v n xs) (hc : Cel w g cs T) (he : e ≠ T) : (w.setRow g ds).ownsRow B e size v n xs := h.kept (grown_setRow w g ds) (own_cel_ne h hc he)
theorem own_setCell {g j : Nat} {cs : Array Value} {T : TypeId} {u : Value} (h : w.ownsRow B e size v n xs) (hc : Cel w g cs T) (he : e ≠ T) : (w.setCell ⟨g, j, none⟩ u).ownsRow B e size v n xs := h.kept (grown_setCell w g j u) (own_cel_ne h hc he)
theorem cel_own {g : Nat} {cs : Array Value} {T : TypeId} (hc : Cel w g cs T) (h : w.ownsRow B e size v n xs) (he : e ≠ T) (hg : w.grownBy w' v.ownBlock) : Cel w' g cs T := by
  refine hc.grown hg fun hh => ?_
  rcases own_cel_ne h hc he with h0 | h0
  · rw [h0] at hh; cases hh
  · exact h0 hh.symm
theorem own_slice (h : w.ownsRow B e size v n xs) : ∃ a c, v = .slice a n c := (row_of_own h).len
end
def apartV (u v : Value) : Prop := u.ownBlock = none ∨ u.ownBlock ≠ v.ownBlock
/-- A row of the call's own, each of whose elements holds a row of its own. -/
structure Nest {α : Type} (W : World) (B : Nat) (e1 : TypeId) (K1 : Nat) (c : α → Value → List Value) (e2 : TypeId) (K2 : Nat) (cnt : α → Nat) (inn : α → List Value) (v : Value) (L : List (α × Value)) : Prop where
  row : W.ownsRow B e1 K1 v L.length (L.flatMap fun p => c p.1 p.2)
  ins : ∀ p ∈ L, W.ownsRow B e2 K2 p.2 (cnt p.1) (inn p.1)
  apart : L.Pairwise fun p q => apartV p.2 q.2
section
variable {α : Type} {W W' : World} {B : Nat} {e1 : TypeId} {K1 : Nat} {c : α → Value → List Value} {e2 : TypeId} {K2 : Nat} {cnt : α → Nat} {inn : α → List Value} {v : Value} {L : List (α × Value)}
theorem Nest.nil : Nest W B e1 K1 c e2 K2 cnt inn (.slice none 0 0) [] := ⟨World.ownsRow_nil _ _ _ _, (fun _ h => by cases h), List.Pairwise.nil⟩
theorem Nest.next (h : Nest W B e1 K1 c e2 K2 cnt inn v L) (hs : Since W W') : Nest W' B e1 K1 c e2 K2 cnt inn v L := ⟨own_since h.row hs, fun p hp => own_since (h.ins p hp) hs, h.apart⟩
/-- Something of another kind grows, or is stored to. -/
theorem Nest.other {row : Option Nat} (h : Nest W B e1 K1 c e2 K2 cnt inn v L) (hg : W.grownBy W' row) (h1 : v.ownBlock = none ∨ v.ownBlock ≠ row) (h2 : ∀ p ∈ L, p.2.ownBlock = none ∨ p.2.ownBlock ≠ row) : Nest W' B e1 K1 c e2 K2 cnt inn v L := ⟨h.row.kept hg h1, fun p hp => (h.ins p hp).kept hg (h2 p hp), h.apart⟩
theorem Nest.cel {g : Nat} {cs : Array Value} {T : TypeId} (h : Nest W B e1 K1 c e2 K2 cnt inn v L) (hc : Cel W g cs T) (hg : W.grownBy W' (some g)) (h1 : e1 ≠ T) (h2 : e2 ≠ T) : Nest W' B e1 K1 c e2 K2 cnt inn v L :=
  h.other hg (own_cel_ne h.row hc h1) (fun p hp => own_cel_ne (h.ins p hp) hc h2)
theorem Nest.own {B' : Nat} {e' : TypeId} {size' n' : Nat} {v' : Value} {xs' : List Value} (h : Nest W B e1 K1 c e2 K2 cnt inn v L) (hr : W.ownsRow B' e' size' v' n' xs') (hg : W.grownBy W' v'.ownBlock) (h1 : e1 ≠ e') (h2 : e2 ≠ e') : Nest W' B e1 K1 c e2 K2 cnt inn v L :=
  h.other hg (own_kind_apart h.row hr h1) (fun p hp => own_kind_apart (h.ins p hp) hr h2)
/-- One more: its row was made behind W0, in which the others stood. -/
theorem Nest.push {W0 : World} {x : α} {u v' : Value} {xs : List Value} (h : Nest W B e1 K1 c e2 K2 cnt inn v L) (h0 : ∀ p ∈ L, ∀ b, p.2.ownBlock = some b → b < W0.heap.size) (hu : W.ownsRow W0.heap.size e2 K2 u (cnt x) (inn x)) (hB : B ≤ W0.heap.size)
    (hv : W'.ownsRow B e1 K1 v' (L.length + 1) ((L.flatMap fun p => c p.1 p.2) ++ xs)) (hx : xs = c x u) (hg : W.grownBy W' v.ownBlock) (he : e2 ≠ e1) : Nest W' B e1 K1 c e2 K2 cnt inn v' (L ++ [(x, u)]) := by
  subst hx
  refine ⟨?_, fun p hp => ?_, ?_⟩
  · rw [List.length_append, List.flatMap_append]
    simpa using hv
  · rcases List.mem_append.1 hp with hp | hp
    · exact (h.ins p hp).kept hg (own_kind_apart (h.ins p hp) h.row he)
    · have e : p = (x, u) := by simpa using hp
      subst e
      exact (own_base hu hB).kept hg (own_kind_apart hu h.row he)
  · rw [List.pairwise_append]
    refine ⟨h.apart, List.pairwise_singleton _ _, fun p hp q hq => ?_⟩
    have e : q = (x, u) := by simpa using hq
    subst e
    show p.2.ownBlock = none ∨ p.2.ownBlock ≠ u.ownBlock
    cases hb : p.2.ownBlock with
    | none => exact .inl rfl
    | some b =>
      refine .inr fun hh => ?_
      have l1 := h0 p hp b hb
      have l2 := (hu.lt b hh.symm).1
      omega
end
def atmL (x : Atm) : List Value := (atmC x).toList
theorem flat_oneK {α : Type} {f : α → List Value} (hf : ∀ a, ∀ u ∈ f a, u.oneCell' = true) (L : List α) : ∀ u ∈ L.flatMap f, u.oneCell' = true := by
  intro u hu
  obtain ⟨t, _, h⟩ := List.mem_flatMap.1 hu
  exact hf t u h
/-- A result that is a new row. -/
def NewRow (e : TypeId) (K : Nat) (w : World) (n : Nat) (xs : List Value) (x : Ending) (w' : World) : Prop := ∃ v, x = .returned v ∧ w'.ownsRow w.heap.size e K v n xs ∧ Since w w'
theorem own_made0 (w : World) (e : TypeId) (K : Nat) : (w.alloc (.cells #[] e)).ownsRow w.heap.size e K (.slice (some ⟨w.heap.size, 0, none⟩) 0 0) 0 [] :=
  ⟨by simp, .inr ⟨w.heap.size, 0, #[], rfl, Nat.le_refl _, heap_alloc_new w _, Nat.le_refl _, Nat.zero_le _, by simp, by simp⟩⟩
end Go.Proofs.YtnfjjckbgnieeaaGreatDoor
