/- Variants in plain words: an atom's canonical form. -/
import Derived.Test.YtbgdljcgbhhfdaaGreatDoorIdxM
import Derived.Test.YtbgdljcgbhhfdaaGreatDoorTermN
namespace Go.Proofs.YtbgdljcgbhhfdaaGreatDoor
open Go.RowKit

/-- The n-th canonical name. -/
def vN (n : Nat) : List UInt8 := 86 :: Lib.decDigits n
def canT (ns : List (List UInt8)) (t : Tm) : Tm := if t.1 then (true, vN ((posF ns t.2 0).getD 0)) else t
/-- The first k terms of an atom made canonical. -/
def partC (ns : List (List UInt8)) (k : Nat) (a : Atm) : Atm :=
  let f := fun (i : Nat) (t : Tm) => if i < k then canT ns t else t
  (a.1, a.2.1, a.2.2.1, f 0 a.2.2.2.1, f 1 a.2.2.2.2.1, f 2 a.2.2.2.2.2.1, f 3 a.2.2.2.2.2.2)
def canA (a : Atm) : Atm := partC (namesA a true) (countA a) a
theorem partC_at (ns : List (List UInt8)) (a : Atm) : ∀ (k : Nat) (h : k < (argsL (partC ns k a)).length) (h2 : k < (argsL a).length), (argsL (partC ns k a))[k]'h = (argsL a)[k]'h2
  | 0, _, _ => rfl
  | 1, _, _ => rfl
  | 2, _, _ => rfl
  | 3, _, _ => rfl
  | k + 4, h, _ => absurd h (by rw [argsL_len]; omega)
theorem partC_set (ns : List (List UInt8)) (a : Atm) : ∀ (k : Nat) (_ : k < 4) (h2 : k < (argsL (partC ns k a)).length), ((argsL (partC ns k a))[k]'h2).1 = true →
    (atmC (partC ns k a)).setIfInBounds (3 + k * 2 + 1) (.string ⟨(vN ((posF ns ((argsL (partC ns k a))[k]'h2).2 0).getD 0)).toArray⟩) = atmC (partC ns (k + 1) a)
  | 0, _, h2, h => by
    obtain ⟨s, p, n, ⟨v0, l0⟩, ⟨v1, l1⟩, ⟨v2, l2⟩, ⟨v3, l3⟩⟩ := a
    have e : v0 = true := h
    subst e; rfl
  | 1, _, h2, h => by
    obtain ⟨s, p, n, ⟨v0, l0⟩, ⟨v1, l1⟩, ⟨v2, l2⟩, ⟨v3, l3⟩⟩ := a
    have e : v1 = true := h
    subst e; rfl
  | 2, _, h2, h => by
    obtain ⟨s, p, n, ⟨v0, l0⟩, ⟨v1, l1⟩, ⟨v2, l2⟩, ⟨v3, l3⟩⟩ := a
    have e : v2 = true := h
    subst e; rfl
  | 3, _, h2, h => by
    obtain ⟨s, p, n, ⟨v0, l0⟩, ⟨v1, l1⟩, ⟨v2, l2⟩, ⟨v3, l3⟩⟩ := a
    have e : v3 = true := h
    subst e; rfl
theorem partC_skip (ns : List (List UInt8)) (a : Atm) : ∀ (k : Nat) (_ : k < 4) (h2 : k < (argsL (partC ns k a)).length), ((argsL (partC ns k a))[k]'h2).1 = false → partC ns (k + 1) a = partC ns k a
  | 0, _, h2, h => by
    obtain ⟨s, p, n, ⟨v0, l0⟩, ⟨v1, l1⟩, ⟨v2, l2⟩, ⟨v3, l3⟩⟩ := a
    have e : v0 = false := h
    subst e; rfl
  | 1, _, h2, h => by
    obtain ⟨s, p, n, ⟨v0, l0⟩, ⟨v1, l1⟩, ⟨v2, l2⟩, ⟨v3, l3⟩⟩ := a
    have e : v1 = false := h
    subst e; rfl
  | 2, _, h2, h => by
    obtain ⟨s, p, n, ⟨v0, l0⟩, ⟨v1, l1⟩, ⟨v2, l2⟩, ⟨v3, l3⟩⟩ := a
    have e : v2 = false := h
    subst e; rfl
  | 3, _, h2, h => by
    obtain ⟨s, p, n, ⟨v0, l0⟩, ⟨v1, l1⟩, ⟨v2, l2⟩, ⟨v3, l3⟩⟩ := a
    have e : v3 = false := h
    subst e; rfl
theorem posF_append {α : Type} [DecidableEq α] {a : α} : ∀ {P S : List α} {i j : Nat}, posF P a i = some j → posF (P ++ S) a i = some j
  | [], _, _, _, h => by cases h
  | x :: r, S, i, j, h => by
    rw [List.cons_append, posF]
    rw [posF] at h
    by_cases hx : x = a
    · rw [if_pos hx] at h ⊢; exact h
    · rw [if_neg hx] at h ⊢; exact posF_append h
theorem namesF_ext (vars : Bool) : ∀ (L : List Tm) (acc : List (List UInt8)), ∃ S, namesF vars L acc = acc ++ S
  | [], acc => ⟨[], by rw [namesF, List.append_nil]⟩
  | t :: r, acc => by
    rw [namesF]
    by_cases h : ((t.1 == vars) && !acc.contains t.2) = true
    · rw [if_pos h]
      obtain ⟨S, hS⟩ := namesF_ext vars r (acc ++ [t.2])
      exact ⟨[t.2] ++ S, by rw [hS, List.append_assoc]⟩
    · rw [if_neg h]; exact namesF_ext vars r acc
theorem namesF_cat (vars : Bool) : ∀ (L M : List Tm) (acc : List (List UInt8)), namesF vars (L ++ M) acc = namesF vars M (namesF vars L acc)
  | [], M, acc => rfl
  | t :: r, M, acc => by rw [List.cons_append, namesF, namesF, namesF_cat vars r M]
theorem namesF_nodupV (vars : Bool) : ∀ (L : List Tm) (acc : List (List UInt8)), acc.Nodup → (namesF vars L acc).Nodup
  | [], acc, h => h
  | t :: r, acc, h => by
    rw [namesF]
    by_cases hc : ((t.1 == vars) && !acc.contains t.2) = true
    · rw [if_pos hc]
      refine namesF_nodupV vars r _ ?_
      rw [Bool.and_eq_true] at hc
      have h2 : t.2 ∉ acc := by simpa using hc.2
      rw [List.nodup_append]
      refine ⟨h, by simp, fun x hx y hy => ?_⟩
      obtain rfl := List.mem_singleton.1 hy
      exact fun e => h2 (e ▸ hx)
    · rw [if_neg hc]; exact namesF_nodupV vars r acc h
theorem namesF_lenV (vars : Bool) : ∀ (L : List Tm) (acc : List (List UInt8)), (namesF vars L acc).length ≤ acc.length + L.length
  | [], acc => by rw [namesF]; simp
  | t :: r, acc => by
    rw [namesF]
    split
    · have := namesF_lenV vars r (acc ++ [t.2]); rw [List.length_append, List.length_singleton] at this; rw [List.length_cons]; omega
    · have := namesF_lenV vars r acc; rw [List.length_cons]; omega
/-- The names of the first k terms' variables. -/
def nmK (a : Atm) (k : Nat) : List (List UInt8) := namesF true ((argsL a).take k) []
theorem nmK_nodup (a : Atm) (k : Nat) : (nmK a k).Nodup := namesF_nodupV _ _ _ List.nodup_nil
theorem nmK_len (a : Atm) (k : Nat) : (nmK a k).length ≤ k := by
  have h := namesF_lenV true ((argsL a).take k) []
  have h2 := List.length_take_le k (argsL a)
  unfold nmK
  simp only [List.length_nil, Nat.zero_add] at h
  omega
theorem nmK_next (a : Atm) {k : Nat} (h : k < (argsL a).length) : nmK a (k + 1) = if ((argsL a)[k]).1 && !(nmK a k).contains ((argsL a)[k]).2 then nmK a k ++ [((argsL a)[k]).2] else nmK a k := by
  unfold nmK
  rw [List.take_succ_eq_append_getElem h, namesF_cat, namesF, namesF]
  simp only [beq_true]
theorem nmK_ext (a : Atm) {k : Nat} (h : k ≤ countA a) : ∃ S, namesA a true = nmK a k ++ S := by
  unfold namesA nmK
  have e : (argsL a).take (countA a) = (argsL a).take k ++ ((argsL a).take (countA a)).drop k := by
    have := (List.take_append_drop k ((argsL a).take (countA a))).symm
    rwa [List.take_take, Nat.min_eq_left h] at this
  rw [e, namesF_cat]
  exact namesF_ext _ _ _
/-- A variable's number: the same among the first terms as among all. -/
theorem can_old {a : Atm} {k j : Nat} {s : List UInt8} (h : k ≤ countA a) (hp : posF (nmK a k) s 0 = some j) : posF (namesA a true) s 0 = some j := by
  obtain ⟨S, hS⟩ := nmK_ext a h
  rw [hS]; exact posF_append hp
theorem can_new {a : Atm} {k : Nat} (h : k < countA a) (hl : k < (argsL a).length) (hv : ((argsL a)[k]).1 = true) (hp : posF (nmK a k) ((argsL a)[k]).2 0 = none) : nmK a (k + 1) = nmK a k ++ [((argsL a)[k]).2] ∧ posF (namesA a true) ((argsL a)[k]).2 0 = some (nmK a k).length := by
  have hc : (nmK a k).contains ((argsL a)[k]).2 = false := by
    have h1 := posF_none.1 hp
    simpa using h1
  have e := nmK_next a hl
  rw [hv, hc] at e
  have e2 : nmK a (k + 1) = nmK a k ++ [((argsL a)[k]).2] := e
  refine ⟨e2, can_old (k := k + 1) h ?_⟩
  rw [e2, posF_snoc, hp]
  simp
theorem can_same {a : Atm} {k j : Nat} (hl : k < (argsL a).length) (hp : posF (nmK a k) ((argsL a)[k]).2 0 = some j) : nmK a (k + 1) = nmK a k := by
  have hc : (nmK a k).contains ((argsL a)[k]).2 = true := by
    have h1 : ¬ posF (nmK a k) ((argsL a)[k]).2 0 = none := by rw [hp]; simp
    rw [posF_none] at h1
    simpa using h1
  rw [nmK_next a hl, hc]; simp
theorem can_const {a : Atm} {k : Nat} (hl : k < (argsL a).length) (hv : ((argsL a)[k]).1 = false) : nmK a (k + 1) = nmK a k := by
  rw [nmK_next a hl, hv]; simp
end Go.Proofs.YtbgdljcgbhhfdaaGreatDoor
