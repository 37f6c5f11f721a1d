/- Canonical forms, plain: the canonical form of a canonical form. -/
import Derived.Test.YtbgdljcgbhhfdaaGreatDoorTermP
import Derived.Test.YtbgdljcgbhhfdaaGreatDoorVarP
namespace Go.Proofs.YtbgdljcgbhhfdaaGreatDoor

theorem posF_map {α β : Type} [DecidableEq α] [DecidableEq β] (f : α → β) (a : α) : ∀ (P : List α) (i : Nat), (∀ x ∈ P, f x = f a → x = a) → posF (P.map f) (f a) i = posF P a i
  | [], _, _ => rfl
  | x :: r, i, h => by
    rw [List.map_cons, posF, posF, posF_map f a r (i + 1) (fun y hy => h y (List.mem_cons_of_mem _ hy))]
    by_cases hx : x = a
    · subst hx; rw [if_pos rfl, if_pos rfl]
    · rw [if_neg hx, if_neg (fun e => hx (h x List.mem_cons_self e))]
theorem vN_inj {i j : Nat} (hi : i < 4) (hj : j < 4) (h : vN i = vN j) : i = j := by
  have h1 : Lib.decDigits i = [UInt8.ofNat (48 + i)] := by rw [Lib.decDigits, dif_pos (by omega)]
  have h2 : Lib.decDigits j = [UInt8.ofNat (48 + j)] := by rw [Lib.decDigits, dif_pos (by omega)]
  unfold vN at h
  rw [h1, h2] at h
  injection h with _ h
  injection h with h _
  have h3 := congrArg UInt8.toNat h
  simp at h3
  omega
/-- A name's new name. -/
def newN (ns : List (List UInt8)) (s : List UInt8) : List UInt8 := vN ((posF ns s 0).getD 0)
theorem newN_inj {ns : List (List UInt8)} (hl : ns.length ≤ 4) {s t : List UInt8} (hs : s ∈ ns) (ht : t ∈ ns) (h : newN ns s = newN ns t) : s = t := by
  cases h1 : posF ns s 0 with
  | none => exact absurd hs (posF_none.1 h1)
  | some i =>
    cases h2 : posF ns t 0 with
    | none => exact absurd ht (posF_none.1 h2)
    | some j =>
      have a1 := posF_lt h1
      have a2 := posF_lt h2
      unfold newN at h
      rw [h1, h2] at h
      have e : i = j := vN_inj (by omega) (by omega) h
      subst e
      have := a1.2.2.symm.trans a2.2.2
      injection this
theorem canT_var {ns : List (List UInt8)} (s : List UInt8) : canT ns (true, s) = (true, newN ns s) := by simp [canT, newN]
theorem canT_const {ns : List (List UInt8)} {t : Tm} (h : t.1 = false) : canT ns t = t := by simp [canT, h]
/-- Names of terms whose variables are renamed. -/
theorem namesF_ren (ns : List (List UInt8)) (hl : ns.length ≤ 4) : ∀ (L : List Tm) (acc : List (List UInt8)), (∀ s ∈ acc, s ∈ ns) → (∀ t ∈ L, t.1 = true → t.2 ∈ ns) → namesF true (L.map (canT ns)) (acc.map (newN ns)) = (namesF true L acc).map (newN ns)
  | [], acc, _, _ => rfl
  | (v, s) :: r, acc, ha, hL => by
    have hr := fun t ht => hL t (List.mem_cons_of_mem _ ht)
    rw [List.map_cons, namesF, namesF]
    cases v with
    | false =>
      rw [canT_const rfl]
      simp only [Bool.false_eq_true, beq_iff_eq, Bool.and_eq_true, false_and, if_false]
      exact namesF_ren ns hl r acc ha hr
    | true =>
      rw [canT_var]
      have hs : s ∈ ns := hL (true, s) List.mem_cons_self rfl
      have hc : (acc.map (newN ns)).contains (newN ns s) = acc.contains s := by
        rw [Bool.eq_iff_iff, List.contains_iff_mem, List.contains_iff_mem]
        constructor
        · intro h
          obtain ⟨x, hx, e⟩ := List.mem_map.1 h
          rw [← newN_inj hl (ha x hx) hs e]; exact hx
        · exact fun h => List.mem_map.2 ⟨s, h, rfl⟩
      simp only [hc]
      by_cases h : acc.contains s = true
      · simp only [h, Bool.not_true, Bool.and_false, Bool.false_eq_true, if_false]
        exact namesF_ren ns hl r acc ha hr
      · have h0 : acc.contains s = false := by cases hh : acc.contains s <;> simp_all
        simp only [h0, Bool.not_false, beq_self_eq_true, Bool.and_self, if_true]
        have := namesF_ren ns hl r (acc ++ [s]) (fun x hx => by
          rcases List.mem_append.1 hx with hx | hx
          · exact ha x hx
          · have : x = s := by simpa using hx
            rw [this]; exact hs) hr
        rw [List.map_append] at this
        exact this
theorem argsL_partC (ns : List (List UInt8)) (k : Nat) (a : Atm) : (argsL (partC ns k a)).take k = ((argsL a).take k).map (canT ns) := by
  obtain ⟨s, p, n, t0, t1, t2, t3⟩ := a
  unfold argsL partC
  match k with
  | 0 => rfl
  | 1 => rfl
  | 2 => rfl
  | 3 => rfl
  | j + 4 => simp [show 0 < j + 4 by omega, show 1 < j + 4 by omega, show 2 < j + 4 by omega, show 3 < j + 4 by omega]
theorem namesA_len (a : Atm) : (namesA a true).length ≤ 4 := Nat.le_trans (nmK_len a (countA a)) (countA_le a)
theorem vars_in {a : Atm} {t : Tm} (h : t ∈ (argsL a).take (countA a)) (hv : t.1 = true) : t.2 ∈ namesA a true := by
  rw [namesA, namesF_mem]
  exact .inr (by rw [← hv]; exact h)
theorem namesA_can (a : Atm) : namesA (canA a) true = (namesA a true).map (newN (namesA a true)) := by
  have hc : countA (canA a) = countA a := rfl
  have h := namesF_ren (namesA a true) (namesA_len a) ((argsL a).take (countA a)) [] (fun _ h => by cases h) (fun t ht hv => vars_in ht hv)
  show namesF true ((argsL (canA a)).take (countA (canA a))) [] = _
  rw [hc]
  unfold canA
  rw [argsL_partC]
  exact h
theorem canT_can (a : Atm) {t : Tm} (h : t ∈ (argsL a).take (countA a)) : canT (namesA (canA a) true) (canT (namesA a true) t) = canT (namesA a true) t := by
  obtain ⟨v, s⟩ := t
  cases v with
  | false => rw [canT_const rfl, canT_const rfl]
  | true =>
    have hs := vars_in h rfl
    rw [canT_var, canT_var, namesA_can]
    congr 1
    unfold newN
    have := posF_map (newN (namesA a true)) s (namesA a true) 0 (fun x hx e => newN_inj (namesA_len a) hx hs e)
    unfold newN at this
    rw [this]
/-- The canonical form of a canonical form is itself. -/
theorem canA_canA (a : Atm) : canA (canA a) = canA a := by
  have hk := fun i t (h : ((argsL a).take (countA a))[i]? = some t) => canT_can a (List.mem_of_getElem? h)
  have hc : countA (canA a) = countA a := rfl
  obtain ⟨s, p, n, t0, t1, t2, t3⟩ := a
  show partC (namesA (canA _) true) (countA (canA _)) (canA _) = _
  rw [hc]
  have key : ∀ (i : Nat) (t : Tm), (argsL ((s, p, n, t0, t1, t2, t3) : Atm))[i]? = some t → (if i < countA ((s, p, n, t0, t1, t2, t3) : Atm) then canT (namesA (canA (s, p, n, t0, t1, t2, t3)) true) (if i < countA ((s, p, n, t0, t1, t2, t3) : Atm) then canT (namesA (s, p, n, t0, t1, t2, t3) true) t else t) else (if i < countA ((s, p, n, t0, t1, t2, t3) : Atm) then canT (namesA (s, p, n, t0, t1, t2, t3) true) t else t)) = if i < countA ((s, p, n, t0, t1, t2, t3) : Atm) then canT (namesA (s, p, n, t0, t1, t2, t3) true) t else t := by
    intro i t hi
    by_cases h : i < countA ((s, p, n, t0, t1, t2, t3) : Atm)
    · rw [if_pos h, if_pos h]
      exact hk i t (by rw [List.getElem?_take, if_pos h]; exact hi)
    · rw [if_neg h, if_neg h]
  have k0 := key 0 t0 rfl
  have k1 := key 1 t1 rfl
  have k2 := key 2 t2 rfl
  have k3 := key 3 t3 rfl
  generalize namesA (canA (s, p, n, t0, t1, t2, t3)) true = ns' at *
  unfold canA partC
  simp only
  rw [k0, k1, k2, k3]
end Go.Proofs.YtbgdljcgbhhfdaaGreatDoor
