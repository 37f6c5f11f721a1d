/- Plain facts on the names and texts of atoms; no program's function in sight. -/
import Derived.Test.YtnfjjckbgnieeaaGreatDoorTermT
namespace Go.Proofs.YtnfjjckbgnieeaaGreatDoor
open Go.RowKit

theorem namesF_split (vars : Bool) : ∀ (L : List Tm) (acc : List (List UInt8)), ∃ s, namesF vars L acc = acc ++ s ∧ (s.map fun x => ((vars, x) : Tm)).Sublist L
  | [], acc => ⟨[], by simp [namesF], by simp⟩
  | t :: r, acc => by
    rw [namesF]
    by_cases h : ((t.1 == vars) && !acc.contains t.2) = true
    · rw [if_pos h]
      obtain ⟨s, h1, h2⟩ := namesF_split vars r (acc ++ [t.2])
      have e : t = (vars, t.2) := by
        rw [Bool.and_eq_true, beq_iff_eq] at h
        rw [← h.1]
      refine ⟨t.2 :: s, by rw [h1]; simp, ?_⟩
      rw [List.map_cons, ← e]
      exact h2.cons_cons _
    · rw [if_neg h]
      obtain ⟨s, h1, h2⟩ := namesF_split vars r acc
      exact ⟨s, h1, h2.cons _⟩
theorem namesF_mem (vars : Bool) (x : List UInt8) : ∀ (L : List Tm) (acc : List (List UInt8)), x ∈ namesF vars L acc ↔ x ∈ acc ∨ ((vars, x) : Tm) ∈ L
  | [], acc => by simp [namesF]
  | t :: r, acc => by
    rw [namesF, namesF_mem vars x r, List.mem_cons]
    obtain ⟨tv, tl⟩ := t
    by_cases h : ((tv == vars) && !acc.contains tl) = true
    · rw [if_pos h]
      rw [Bool.and_eq_true, beq_iff_eq] at h
      obtain ⟨rfl, _⟩ := h
      simp only [List.mem_append, List.mem_singleton, Prod.mk.injEq, true_and]
      constructor
      · rintro ((h | h) | h)
        · exact .inl h
        · exact .inr (.inl h)
        · exact .inr (.inr h)
      · rintro (h | h | h)
        · exact .inl (.inl h)
        · exact .inl (.inr h)
        · exact .inr h
    · rw [if_neg h]
      constructor
      · rintro (h | h)
        · exact .inl h
        · exact .inr (.inr h)
      · rintro (h' | h' | h')
        · exact .inl h'
        · injection h' with h1 h2
          subst h1 h2
          left
          simp only [beq_self_eq_true, Bool.true_and, Bool.not_eq_true', Bool.not_eq_false] at h
          exact List.contains_iff_mem.1 h
        · exact .inr h'
theorem namesF_nodup (vars : Bool) : ∀ (L : List Tm) (acc : List (List UInt8)), acc.Nodup → (namesF vars L acc).Nodup
  | [], _, h => h
  | t :: r, acc, h => by
    rw [namesF]
    by_cases hc : ((t.1 == vars) && !acc.contains t.2) = true
    · rw [if_pos hc]
      refine namesF_nodup vars r _ ?_
      rw [Bool.and_eq_true, Bool.not_eq_true'] at hc
      have hn : t.2 ∉ acc := by
        intro hm
        have := List.contains_iff_mem.2 hm
        rw [hc.2] at this; cases this
      rw [List.nodup_append]
      exact ⟨h, by simp, fun a ha b hb e => by simp at hb; subst hb; subst e; exact hn ha⟩
    · rw [if_neg hc]; exact namesF_nodup vars r _ h
theorem namesF_len : ∀ (L : List Tm) (a b : List (List UInt8)), (namesF true L a).length + (namesF false L b).length ≤ a.length + b.length + L.length
  | [], a, b => by simp [namesF]
  | t :: r, a, b => by
    rw [namesF, namesF, List.length_cons]
    obtain ⟨tv, tl⟩ := t
    cases tv
    · have h1 := namesF_len r a (if ((false : Bool) == false) && !b.contains tl then b ++ [tl] else b)
      have e : (if ((false : Bool) == true) && !a.contains tl then a ++ [tl] else a) = a := if_neg (by simp)
      have l : (if ((false : Bool) == false) && !b.contains tl then b ++ [tl] else b).length ≤ b.length + 1 := by split <;> simp
      simp only [e]
      omega
    · have h1 := namesF_len r (if ((true : Bool) == true) && !a.contains tl then a ++ [tl] else a) b
      have e : (if ((true : Bool) == false) && !b.contains tl then b ++ [tl] else b) = b := if_neg (by simp)
      have l : (if ((true : Bool) == true) && !a.contains tl then a ++ [tl] else a).length ≤ a.length + 1 := by split <;> simp
      simp only [e]
      omega
/-- The terms that are looked at. -/
def termsA (a : Atm) : List Tm := (argsL a).take (countA a)
theorem termsA_len (a : Atm) : (termsA a).length = countA a := by
  rw [termsA, List.length_take, argsL_len]
  have := countA_le a
  omega
theorem ground_names (a : Atm) : groundA a = ((namesA a true).length == 0) := by
  rw [Bool.eq_iff_iff, beq_iff_eq, groundA, List.all_eq_true, List.length_eq_zero_iff]
  constructor
  · intro h
    apply List.eq_nil_iff_forall_not_mem.2
    intro x hx
    rw [namesA, namesF_mem] at hx
    rcases hx with hx | hx
    · cases hx
    · have := h _ hx
      cases this
  · intro h t ht
    obtain ⟨tv, tl⟩ := t
    cases tv
    · rfl
    · have : tl ∈ namesA a true := by rw [namesA, namesF_mem]; exact .inr ht
      rw [h] at this; cases this
theorem names_len (a : Atm) : (namesA a true).length + (namesA a false).length ≤ countA a := by
  have := namesF_len (termsA a) [] []
  rw [termsA_len] at this
  simpa [namesA, termsA] using this
theorem names_has (a : Atm) {t : Tm} (h : t ∈ termsA a) : (namesA a t.1).count t.2 = 1 := by
  have h1 : t.2 ∈ namesA a t.1 := by rw [namesA, namesF_mem]; exact .inr h
  have h2 : (namesA a t.1).Nodup := namesF_nodup _ _ _ (by simp)
  have h3 := List.nodup_iff_count.1 h2 t.2
  have h4 := List.count_pos_iff.2 h1
  omega

/-- No blank, bracket or comma in it. -/
def Clean (l : List UInt8) : Prop := ∀ c ∈ l, c ≠ 32 ∧ c ≠ 40 ∧ c ≠ 41 ∧ c ≠ 44
theorem var_clean {c : UInt8} (h : varB c.toNat = true) : c ≠ 32 ∧ c ≠ 40 ∧ c ≠ 41 ∧ c ≠ 44 := by
  refine ⟨?_, ?_, ?_, ?_⟩ <;> (rintro rfl; revert h; decide)
theorem spelled_clean {f m : Int → Bool} (hf : ∀ n, f n = true → varB n = true) (hm : ∀ n, m n = true → varB n = true) {l : List UInt8} (h : spelledB f m l = true) : Clean l := by
  cases l with
  | nil => intro c hc; cases hc
  | cons d r =>
    simp only [spelledB, Bool.and_eq_true, List.all_eq_true] at h
    intro c hc
    rcases List.mem_cons.1 hc with rfl | hc
    · exact var_clean (hf _ h.1.2)
    · exact var_clean (hm _ (h.2 c hc))
theorem low_varB (n : Int) (h : lowB n = true) : varB n = true := by rw [varB, h, Bool.true_or]
theorem small_varB (n : Int) (h : smallB n = true) : varB n = true := by rw [varB, lowB, h]; rfl
theorem first_varB (n : Int) (h : firstB n = true) : varB n = true := by unfold firstB at h; rw [varB, lowB, h]; rfl
theorem principal_clean {l : List UInt8} (h : principalB l = true) : Clean l := by
  rw [principalB, Bool.and_eq_true] at h; exact spelled_clean small_varB low_varB h.1
theorem constant_clean {l : List UInt8} (h : constantB l = true) : Clean l := by
  rw [constantB, Bool.and_eq_true] at h; exact spelled_clean first_varB low_varB h.1
theorem variable_clean {l : List UInt8} (h : variableB l = true) : Clean l := spelled_clean (fun _ => var_great) (fun _ h => h) h
theorem term_clean {t : Tm} (h : termB t = true) : Clean t.2 := by
  unfold termB at h
  split at h
  · exact variable_clean h
  · exact constant_clean h
theorem great_not_first {n : Int} (h : greatB n = true) : firstB n = false := by
  simp only [greatB, firstB, smallB, digitB, Bool.and_eq_true, decide_eq_true_eq] at *
  rw [Bool.eq_false_iff]; simp; omega
theorem var_not_con {l : List UInt8} (h : variableB l = true) : constantB l = false := by
  cases l with
  | nil => simp [variableB, spelledB] at h
  | cons c r =>
    simp only [variableB, spelledB, Bool.and_eq_true] at h
    simp only [constantB, spelledB, great_not_first h.1.2, Bool.and_false, Bool.false_and]
/-- A valid term is told by its name. -/
theorem term_name {t u : Tm} (ht : termB t = true) (hu : termB u = true) (h : t.2 = u.2) : t = u := by
  obtain ⟨tv, tl⟩ := t
  obtain ⟨uv, ul⟩ := u
  obtain rfl : tl = ul := h
  cases tv <;> cases uv
  · rfl
  · have h1 : constantB tl = true := ht
    have h2 : variableB tl = true := hu
    rw [var_not_con h2] at h1; cases h1
  · have h1 : variableB tl = true := ht
    have h2 : constantB tl = true := hu
    rw [var_not_con h1] at h2; cases h2
  · rfl

theorem split_at {c : UInt8} : ∀ {x x' r r' : List UInt8}, x ++ c :: r = x' ++ c :: r' → c ∉ x → c ∉ x' → x = x' ∧ r = r'
  | [], [], _, _, h, _, _ => by simpa using h
  | [], d :: x', _, _, h, _, h2 => by
    simp only [List.nil_append, List.cons_append, List.cons.injEq] at h
    exact absurd (by rw [h.1]; simp) h2
  | d :: x, [], _, _, h, h1, _ => by
    simp only [List.nil_append, List.cons_append, List.cons.injEq] at h
    exact absurd (by rw [h.1]; simp) h1
  | d :: x, e :: x', _, _, h, h1, h2 => by
    simp only [List.cons_append, List.cons.injEq] at h
    have := split_at h.2 (fun hm => h1 (by simp [hm])) (fun hm => h2 (by simp [hm]))
    exact ⟨by rw [h.1, this.1], this.2⟩
theorem join_two (x y : List UInt8) (r : List (List UInt8)) : Lib.join (x :: y :: r) [44, 32] = x ++ 44 :: 32 :: Lib.join (y :: r) [44, 32] := by
  simp [Lib.join, List.intercalate]
theorem join_one (x : List UInt8) : Lib.join [x] [44, 32] = x := by simp [Lib.join, List.intercalate]
theorem join_inj : ∀ {xs ys : List (List UInt8)}, (∀ x ∈ xs, Clean x) → (∀ y ∈ ys, Clean y) → xs ≠ [] → ys ≠ [] → Lib.join xs [44, 32] = Lib.join ys [44, 32] → xs = ys
  | [], _, _, _, h, _, _ => absurd rfl h
  | _, [], _, _, _, h, _ => absurd rfl h
  | [x], [y], _, _, _, _, h => by rw [join_one, join_one] at h; rw [h]
  | [x], y :: z :: r, hx, _, _, _, h => by
    rw [join_one, join_two] at h
    exact absurd rfl (hx x (by simp) 44 (by rw [h]; simp)).2.2.2
  | x :: z :: r, [y], _, hy, _, _, h => by
    rw [join_one, join_two] at h
    exact absurd rfl (hy y (by simp) 44 (by rw [← h]; simp)).2.2.2
  | x :: z :: r, y :: u :: s, hx, hy, _, _, h => by
    rw [join_two, join_two] at h
    have := split_at h (fun hm => (hx x (by simp) 44 hm).2.2.2 rfl) (fun hm => (hy y (by simp) 44 hm).2.2.2 rfl)
    have h2 := this.2
    simp only [List.cons.injEq, true_and] at h2
    rw [this.1, join_inj (fun a ha => hx a (by simp [ha])) (fun a ha => hy a (by simp [ha])) (by simp) (by simp) h2]
theorem join_snoc (xs : List (List UInt8)) (x : List UInt8) (h : xs ≠ []) : Lib.join (xs ++ [x]) [44, 32] = Lib.join xs [44, 32] ++ 44 :: 32 :: x := by
  match xs, h with
  | [a], _ => rw [join_one]; exact (join_two a x []).trans (by rw [join_one])
  | a :: b :: r, _ =>
    rw [show (a :: b :: r) ++ [x] = a :: b :: (r ++ [x]) from rfl, join_two, join_two]
    have := join_snoc (b :: r) x (by simp)
    rw [show (b :: r) ++ [x] = b :: (r ++ [x]) from rfl] at this
    rw [this]; simp

/-- What a valid atom is made of. -/
theorem valid_parts {a : Atm} (h : checkA a = 0) : principalB a.1 = true ∧ principalB a.2.1 = true ∧ 0 ≤ a.2.2.1 ∧ a.2.2.1 ≤ 4 ∧ (∀ t ∈ termsA a, termB t = true) ∧ (countA a : Int) = a.2.2.1 ∧ ∀ t ∈ (argsL a).drop (countA a), t = (false, []) := by
  unfold checkA at h
  by_cases h1 : (!(principalB a.1 && principalB a.2.1)) = true
  · rw [if_pos h1] at h; cases h
  rw [if_neg h1] at h
  by_cases h2 : a.2.2.1 < 0 ∨ 4 < a.2.2.1
  · rw [if_pos h2] at h; cases h
  rw [if_neg h2] at h
  have hc := countA_in (a := a) (by omega) (by omega)
  by_cases h3 : (!(((argsL a).take a.2.2.1.toNat).all termB)) = true
  · rw [if_pos h3] at h; cases h
  rw [if_neg h3] at h
  by_cases h4 : (!(((argsL a).drop a.2.2.1.toNat).all fun t => decide (t = (false, [])))) = true
  · rw [if_pos h4] at h; cases h
  rw [← hc] at h3 h4
  simp only [Bool.not_eq_true', Bool.not_eq_false, Bool.and_eq_true, List.all_eq_true, decide_eq_true_eq] at h1 h3 h4
  exact ⟨h1.1, h1.2, by omega, by omega, h3, by omega, h4⟩
theorem names_ne {a : Atm} (h : countA a ≠ 0) : namesOf a ≠ [] := by
  intro e
  have := congrArg List.length e
  rw [namesOf, List.length_map] at this
  have h2 := termsA_len a
  rw [termsA] at h2
  rw [h2] at this
  exact h this
/-- Two valid atoms of one text are one. -/
theorem text_inj {a b : Atm} (ha : checkA a = 0) (hb : checkA b = 0) (h : textA a = textA b) : a = b := by
  obtain ⟨a1, a2, a3, a4, a5, a6, a7⟩ := valid_parts ha
  obtain ⟨b1, b2, b3, b4, b5, b6, b7⟩ := valid_parts hb
  have ca := principal_clean a1
  have cb := principal_clean b1
  have pa := principal_clean a2
  have pb := principal_clean b2
  rw [textA, textA, frontA, frontA, List.append_assoc, List.append_assoc] at h
  obtain ⟨e1, h⟩ := split_at (c := 32) (x := a.1) (x' := b.1) (r := [115, 97, 121, 115, 32] ++ a.2.1 ++ if countA a = 0 then [] else [40] ++ (Lib.join (namesOf a) [44, 32] ++ [41])) (r' := [115, 97, 121, 115, 32] ++ b.2.1 ++ if countA b = 0 then [] else [40] ++ (Lib.join (namesOf b) [44, 32] ++ [41])) (by simpa using h) (fun hm => (ca _ hm).1 rfl) (fun hm => (cb _ hm).1 rfl)
  have h' : a.2.1 ++ (if countA a = 0 then [] else [40] ++ (Lib.join (namesOf a) [44, 32] ++ [41])) = b.2.1 ++ (if countA b = 0 then [] else [40] ++ (Lib.join (namesOf b) [44, 32] ++ [41])) := by simpa using h
  clear h
  have key : a.2.1 = b.2.1 ∧ namesOf a = namesOf b := by
    by_cases za : countA a = 0 <;> by_cases zb : countA b = 0
    · rw [if_pos za, if_pos zb, List.append_nil, List.append_nil] at h'
      exact ⟨h', by rw [namesOf, namesOf, za, zb]; rfl⟩
    · rw [if_pos za, if_neg zb, List.append_nil] at h'
      exact absurd rfl (pa 40 (by rw [h']; simp)).2.1
    · rw [if_neg za, if_pos zb, List.append_nil] at h'
      exact absurd rfl (pb 40 (by rw [← h']; simp)).2.1
    · rw [if_neg za, if_neg zb] at h'
      obtain ⟨e2, h2⟩ := split_at (c := 40) (x := a.2.1) (x' := b.2.1) h' (fun hm => (pa _ hm).2.1 rfl) (fun hm => (pb _ hm).2.1 rfl)
      have h3 : Lib.join (namesOf a) [44, 32] = Lib.join (namesOf b) [44, 32] := List.append_cancel_right (bs := [41]) h2
      refine ⟨e2, join_inj ?_ ?_ (names_ne za) (names_ne zb) h3⟩
      · intro x hx
        obtain ⟨t, ht, rfl⟩ := List.mem_map.1 hx
        exact term_clean (a5 t ht)
      · intro x hx
        obtain ⟨t, ht, rfl⟩ := List.mem_map.1 hx
        exact term_clean (b5 t ht)
  obtain ⟨e2, hn⟩ := key
  have hl := congrArg List.length hn
  have la := termsA_len a
  have lb := termsA_len b
  have na : namesOf a = (termsA a).map (·.2) := rfl
  have nb : namesOf b = (termsA b).map (·.2) := rfl
  rw [na, nb, List.length_map, List.length_map, la, lb] at hl
  have ht : termsA a = termsA b := by
    apply List.ext_getElem (by omega)
    intro i h1 h2
    have hi : ((termsA a).map (·.2))[i]'(by simpa using h1) = ((termsA b).map (·.2))[i]'(by simpa using h2) := by
      simp only [← na, ← nb, hn]
    rw [List.getElem_map, List.getElem_map] at hi
    exact term_name (a5 _ (List.getElem_mem h1)) (b5 _ (List.getElem_mem h2)) hi
  have hd : (argsL a).drop (countA a) = (argsL b).drop (countA b) := by
    apply List.ext_getElem (by simp [argsL_len, hl])
    intro i h1 h2
    rw [a7 _ (List.getElem_mem h1), b7 _ (List.getElem_mem h2)]
  have hA : argsL a = argsL b := by
    rw [← List.take_append_drop (countA a) (argsL a), ← List.take_append_drop (countA b) (argsL b), hd]
    exact congrArg (· ++ _) ht
  obtain ⟨s, p, n, t0, t1, t2, t3⟩ := a
  obtain ⟨s', p', n', u0, u1, u2, u3⟩ := b
  have e3 : n = n' := by
    have a6' : (countA (s, p, n, t0, t1, t2, t3) : Int) = n := a6
    have b6' : (countA (s', p', n', u0, u1, u2, u3) : Int) = n' := b6
    rw [← a6', ← b6', hl]
  have e1' : s = s' := e1
  have e2' : p = p' := e2
  have hA' : [t0, t1, t2, t3] = [u0, u1, u2, u3] := hA
  simp only [List.cons.injEq, and_true] at hA'
  rw [e1', e2', e3, hA'.1, hA'.2.1, hA'.2.2.1, hA'.2.2.2]
theorem text_len {a : Atm} (h : Light a) (_h : True) : (textA a).length ≤ 3000 := by
  obtain ⟨h1, h2, h3⟩ := h
  have hj := join_len [44, 32] (namesOf a) 300 (by
    intro x hx
    obtain ⟨t, ht, rfl⟩ := List.mem_map.1 hx
    exact h3 t (List.mem_of_mem_take ht))
  have hl : (namesOf a).length ≤ 4 := by
    have := termsA_len a
    rw [namesOf, List.length_map]
    rw [termsA] at this
    rw [this]; exact countA_le a
  have h5 : (namesOf a).length * (300 + [(44 : UInt8), 32].length) ≤ 4 * 302 := Nat.mul_le_mul hl (by decide)
  rw [textA, frontA]
  split <;> simp <;> omega
end Go.Proofs.YtnfjjckbgnieeaaGreatDoor
