/- Maps whose values are the places of their keys in a list: with atoms, with texts as keys. -/
import Derived.Test.YtbgdljcgbhhfdaaGreatDoorASet
namespace Go.Proofs.YtbgdljcgbhhfdaaGreatDoor
open Go.RowKit Go.Maps Go.WideMaps

section
variable {α : Type} [DecidableEq α]
/-- The first place of a thing in a list. -/
def posF : List α → α → Nat → Option Nat
  | [], _, _ => none
  | x :: r, a, i => if x = a then some i else posF r a (i + 1)
theorem posF_none {a : α} : ∀ {P : List α} {i : Nat}, posF P a i = none ↔ a ∉ P
  | [], _ => by simp [posF]
  | x :: r, i => by
    rw [posF]
    by_cases h : x = a
    · subst h; rw [if_pos rfl]; simp
    · rw [if_neg h, posF_none (P := r), List.mem_cons]
      constructor
      · rintro h1 (rfl | h2)
        · exact h rfl
        · exact h1 h2
      · exact fun h1 h2 => h1 (.inr h2)
theorem posF_snoc {a b : α} : ∀ {P : List α} {i : Nat}, posF (P ++ [b]) a i = match posF P a i with | some j => some j | none => if b = a then some (i + P.length) else none
  | [], i => by simp [posF]
  | x :: r, i => by
    rw [List.cons_append, posF, posF]
    by_cases h : x = a
    · rw [if_pos h, if_pos h]
    · rw [if_neg h, if_neg h, posF_snoc (P := r), List.length_cons, show i + 1 + r.length = i + (r.length + 1) by omega]
theorem posF_lt {a : α} : ∀ {P : List α} {i j : Nat}, posF P a i = some j → i ≤ j ∧ j < i + P.length ∧ P[j - i]? = some a
  | [], _, _, h => by cases h
  | x :: r, i, j, h => by
    rw [posF] at h
    by_cases hx : x = a
    · rw [if_pos hx] at h; cases h
      exact ⟨Nat.le_refl _, by simp, by simp [hx]⟩
    · rw [if_neg hx] at h
      obtain ⟨h1, h2, h3⟩ := posF_lt (P := r) h
      refine ⟨by omega, by rw [List.length_cons]; omega, ?_⟩
      rw [show j - i = (j - (i + 1)) + 1 by omega, List.getElem?_cons_succ]
      exact h3
/-- What was found, as a number. -/
def posV : Option Nat → Int
  | some j => (j : Int)
  | none => 0
def idxF (kl : α → Lit) : List α → Nat → DataW Unit → DataW Unit
  | [], _, m => m
  | x :: r, i, m => idxF kl r (i + 1) (m.put (kl x) (.lit (.int .i64 (i : Int))))
omit [DecidableEq α] in
theorem idxF_snoc (kl : α → Lit) (a : α) : ∀ (P : List α) (i : Nat) (m : DataW Unit), idxF kl (P ++ [a]) i m = (idxF kl P i m).put (kl a) (.lit (.int .i64 ((i + P.length : Nat) : Int)))
  | [], i, m => rfl
  | x :: r, i, m => by
    rw [List.cons_append, idxF, idxF, idxF_snoc kl a r (i + 1), List.length_cons, show i + 1 + r.length = i + (r.length + 1) by omega]
theorem atKey_idxF (kl : α → Lit) (a : α) (z : DataW Unit) (hk : ∀ x, WideAt.IsKeyLit (kl x)) : ∀ (P : List α) (i : Nat) (m : DataW Unit), IsMap m → P.Nodup → (∀ x ∈ P, kl x = kl a → x = a) →
    (idxF kl P i m).atKey (kl a) z = match posF P a i with | some j => .lit (.int .i64 (j : Int)) | none => m.atKey (kl a) z
  | [], i, m, _, _, _ => rfl
  | x :: r, i, m, hm, hn, hi => by
    have hn2 := List.nodup_cons.1 hn
    rw [idxF, atKey_idxF kl a z hk r (i + 1) _ (hm.put _ _) hn2.2 (fun y hy => hi y (List.mem_cons_of_mem _ hy)), posF]
    by_cases h : x = a
    · subst h
      rw [if_pos rfl, posF_none.2 hn2.1]
      exact atKey_put_same hm (hk x) _ _
    · rw [if_neg h]
      cases posF r a (i + 1) with
      | some j => rfl
      | none => exact atKey_put_other (fun e => h (hi x List.mem_cons_self e.symm)) _ _
theorem has_idxF (kl : α → Lit) (a : α) (hk : ∀ x, WideAt.IsKeyLit (kl x)) : ∀ (P : List α) (i : Nat) (m : DataW Unit), IsMap m → (∀ x ∈ P, kl x = kl a → x = a) →
    Maps.has (idxF kl P i m) (kl a) = (Maps.has m (kl a) || (posF P a i).isSome)
  | [], i, m, _, _ => by rw [idxF, posF]; simp
  | x :: r, i, m, hm, hi => by
    rw [idxF, has_idxF kl a hk r (i + 1) _ (hm.put _ _) (fun y hy => hi y (List.mem_cons_of_mem _ hy)), posF]
    by_cases h : x = a
    · subst h
      rw [if_pos rfl, has_put_same hm (hk x)]
      simp
    · rw [if_neg h, has_put_other (fun e => h (hi x List.mem_cons_self e.symm))]
end
theorem size_idxF {α : Type} (kl : α → Lit) (hk : ∀ x, WideAt.IsKeyLit (kl x)) : ∀ (P : List α) (i : Nat) (m : DataW Unit), Tidy m → P.Nodup → (∀ x ∈ P, ∀ y ∈ P, kl x = kl y → x = y) → (∀ x ∈ P, Maps.has m (kl x) = false) →
    Maps.size (idxF kl P i m) = Maps.size m + P.length
  | [], i, m, _, _, _, _ => rfl
  | x :: r, i, m, hm, hn, hi, hf => by
    have hn2 := List.nodup_cons.1 hn
    rw [idxF, size_idxF kl hk r (i + 1) _ (hm.put (hk x) _) hn2.2 (fun a ha b hb => hi a (List.mem_cons_of_mem _ ha) b (List.mem_cons_of_mem _ hb)) (fun y hy => by
      rw [has_put_other (fun e => hn2.1 (by have := hi y (List.mem_cons_of_mem _ hy) x List.mem_cons_self e; rwa [this] at hy))]
      exact hf y (List.mem_cons_of_mem _ hy)), size_put hm, hf x List.mem_cons_self, List.length_cons]
    simp only [Bool.false_eq_true, if_false]
    omega
def litNum : DataW Unit → Int
  | .lit (.int _ n) => n
  | _ => 0
theorem zeroI (w : World) : (zeroValue 3).run Tryz.prog w = .ok (.int .i64 0) w := by kernel_rfl
theorem intPlain (n : Int) (h : -9223372036854775808 ≤ n ∧ n ≤ 9223372036854775807) : plainElem (H := Unit) Tryz.prog 3 (.int .i64 n) = some (.lit (.int .i64 n), []) :=
  plainElem_int Tryz.underlying3 (by simp [Lit.wf, IntKind.min, IntKind.max, IntKind.signed, IntKind.bits]; omega)
/-- A map from keys of a type to their places in a list. -/
def KIdx {α : Type} (k : TypeId) (kl : α → Lit) (W : World) (b n : Nat) (P : List α) : Prop := W.ownsMap Tryz.prog k (plainElem (H := Unit) Tryz.prog 3) b n (idxF kl P 0 (.map []))
section
variable {α : Type} {k : TypeId} {kl : α → Lit} {W W' : World} {b n : Nat} {P : List α}
theorem KIdx.next (h : KIdx k kl W b n P) (hs : Since W W') : KIdx k kl W' b n P := by
  have hlt := World.ownsMap.lt h
  obtain ⟨es, clock, hb, r⟩ := h
  exact ⟨es, clock, (hs.block b hlt).trans hb, r⟩
theorem KIdx.lt (h : KIdx k kl W b n P) : b < W.heap.size := World.ownsMap.lt h
theorem KIdx.far {row : Option Nat} (h : KIdx k kl W b n P) (hg : W.grownBy W' row) (hr : some b ≠ row) : KIdx k kl W' b n P := World.ownsMap.kept h hg hr
theorem kidx_made (k : TypeId) (kl : α → Lit) (w : World) : KIdx k kl (w.alloc (.map #[] 0)) w.heap.size 0 [] := World.ownsMap_made _ _ _ _
theorem kidx_look [DecidableEq α] {t : TypeId} (h : KIdx k kl W b n P) (K : Keyed Tryz.prog k) (ht : Tryz.prog.underlying t = some (.map k 3)) (hk : ∀ x, WideAt.IsKeyLit (kl x)) (a : α) (hn : P.Nodup) (hi : ∀ x ∈ P, kl x = kl a → x = a) {key : Value} (hkey : keyOf Tryz.prog k key = some (kl a)) :
    (Instr.lookup t (.map (some b)) key true).run Tryz.prog W = .ok (.tuple #[.int .i64 (posV (posF P a 0)), .bool (posF P a 0).isSome]) W := by
  obtain ⟨v, ps, hrun, hv⟩ := World.ownsMap.look_ok h K ht (zeroI W) (intPlain 0 (by omega)) hkey
  rw [has_idxF kl a hk P 0 _ isMap_empty hi] at hrun
  rw [atKey_idxF kl a _ hk P 0 _ isMap_empty hn hi] at hv
  have h0 : Maps.has (.map [] : DataW Unit) (kl a) = false := rfl
  rw [h0, Bool.false_or] at hrun
  obtain ⟨c, rfl, hc, -⟩ := plainElem_int_inv Tryz.underlying3 hv
  rw [hrun]
  cases hp : posF P a 0 with
  | some j =>
    rw [hp] at hc
    have e : (j : Int) = c := congrArg (fun z : DataW Unit × List MemPlace => litNum z.1) hc
    subst e
    simp only [posV, Option.isSome_some]
  | none =>
    rw [hp] at hc
    have e : (0 : Int) = c := congrArg (fun z : DataW Unit × List MemPlace => litNum z.1) hc
    subst e
    simp only [posV, Option.isSome_none]
theorem kidx_put {t : TypeId} (h : KIdx k kl W b n P) (K : Keyed Tryz.prog k) (ht : Tryz.prog.underlying t = some (.map k 3)) (a : α) (hn : n < maxLen) (hl : P.length ≤ 1000000) {key : Value} (hkey : keyOf Tryz.prog k key = some (kl a)) :
    ∃ w', (Instr.mapUpdate t (.map (some b)) key (.int .i64 (P.length : Int))).run Tryz.prog W = .ok () w' ∧ KIdx k kl w' b (n + 1) (P ++ [a]) ∧ W.grownBy w' (some b) := by
  obtain ⟨w', h1, h2, h3⟩ := World.ownsMap.update h K ht hn hkey (intPlain (P.length : Int) (by omega))
  refine ⟨w', h1, ?_, h3⟩
  unfold KIdx
  rw [idxF_snoc, Nat.zero_add]
  exact h2
end
abbrev AIdx := KIdx 33 keyA
abbrev TIdx := KIdx 9 (fun l : Txt => Lit.string l)
end Go.Proofs.YtbgdljcgbhhfdaaGreatDoor
