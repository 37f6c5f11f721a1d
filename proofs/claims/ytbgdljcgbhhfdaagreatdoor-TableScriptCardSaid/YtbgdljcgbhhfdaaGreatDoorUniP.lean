/- Bindings: what stands for a name, one binding more, what makes two lists of terms one, and that it is the most general; no program in sight. -/
import Derived.Test.YtbgdljcgbhhfdaaGreatDoorRef03
namespace Go.Proofs.YtbgdljcgbhhfdaaGreatDoor
open Go.RowKit
set_option linter.unusedVariables false

/-- A binding: its variable, its term. -/
abbrev Bnd := List UInt8 × Tm
def getB : List Bnd → List UInt8 → Option Tm
  | [], _ => none
  | b :: l, v => if b.1 = v then some b.2 else getB l v
def termS (l : List Bnd) (t : Tm) : Tm := if t.1 then (getB l t.2).getD t else t
def Rises : List Bnd → Prop
  | a :: b :: r => a.1 < b.1 ∧ Rises (b :: r)
  | _ => True
def insB (b : Bnd) : List Bnd → List Bnd
  | [] => [b]
  | c :: l => if b.1 < c.1 then b :: c :: l else c :: insB b l
def underB (l m : List Bnd) : List Bnd := l.map fun b => (b.1, termS m b.2)
/-- One binding more: of a variable that is not bound. -/
def bindP (l : List Bnd) (v : List UInt8) (x : Tm) : List Bnd := insB (v, x) (underB l [(v, x)])
/-- Bindings that may be. -/
def InvB (l : List Bnd) : Prop := Rises l ∧ ∀ b ∈ l, b.1 ≠ [] ∧ b.2.2 ≠ [] ∧ (b.2.1 = true → getB l b.2.2 = none)
/-- A binding that may come to them: of a variable that is not bound, to a term under them. -/
def MayB (l : List Bnd) (v : List UInt8) (x : Tm) : Prop := v ≠ [] ∧ x.2 ≠ [] ∧ getB l v = none ∧ termS l x = x ∧ ¬ (x.1 = true ∧ x.2 = v)

theorem termS_const (l : List Bnd) {t : Tm} (h : t.1 = false) : termS l t = t := by unfold termS; rw [h]; rfl
theorem termS_nil (t : Tm) : termS [] t = t := by unfold termS; cases t.1 <;> rfl
theorem termS_one (v : List UInt8) (x t : Tm) : termS [(v, x)] t = if t.1 = true ∧ v = t.2 then x else t := by
  unfold termS getB getB
  cases t.1 <;> by_cases h : v = t.2 <;> simp [h]
theorem InvB.nil : InvB [] := ⟨trivial, fun b hb => by cases hb⟩
theorem getB_mem : ∀ {l : List Bnd} {v : List UInt8} {x : Tm}, getB l v = some x → (v, x) ∈ l
  | b :: l, v, x, h => by
    unfold getB at h
    split at h
    · rename_i e
      have h2 := Option.some.inj h
      rw [← e, ← h2]
      exact List.mem_cons_self
    · exact List.mem_cons_of_mem _ (getB_mem h)
theorem getB_under (m : List Bnd) : ∀ (l : List Bnd) (v : List UInt8), getB (underB l m) v = (getB l v).map (termS m)
  | [], v => rfl
  | b :: l, v => by
    show (if b.1 = v then some (termS m b.2) else getB (underB l m) v) = _
    rw [getB_under m l v, getB]
    split <;> rfl
theorem getB_ins : ∀ {l : List Bnd} {b : Bnd} (v : List UInt8), getB l b.1 = none → getB (insB b l) v = if b.1 = v then some b.2 else getB l v
  | [], b, v, h => rfl
  | c :: l, b, v, h => by
    rw [getB] at h
    split at h
    · cases h
    rename_i hc
    unfold insB
    split
    · rfl
    · rw [getB, getB_ins v h, getB]
      by_cases h1 : c.1 = v
      · rw [if_pos h1, if_pos h1, if_neg (fun e => hc (by rw [h1, e]))]
      · rw [if_neg h1, if_neg h1]
theorem getB_bind {l : List Bnd} {v : List UInt8} {x : Tm} (h : getB l v = none) (u : List UInt8) : getB (bindP l v x) u = if v = u then some x else (getB l u).map (termS [(v, x)]) := by
  unfold bindP
  rw [getB_ins u (by rw [getB_under, h]; rfl), getB_under]
theorem termS_bind {l : List Bnd} {v : List UInt8} {x : Tm} (h : getB l v = none) (t : Tm) : termS (bindP l v x) t = termS [(v, x)] (termS l t) := by
  cases hv : t.1
  · rw [termS_const _ hv, termS_const _ hv, termS_const _ hv]
  · have e : ∀ m : List Bnd, termS m t = (getB m t.2).getD t := fun m => by unfold termS; rw [hv]; rfl
    rw [e (bindP l v x), e l, getB_bind h]
    by_cases h1 : v = t.2
    · rw [if_pos h1, ← h1, h, Option.getD_some, Option.getD_none, termS_one, if_pos ⟨hv, h1⟩]
    · rw [if_neg h1]
      cases hg : getB l t.2 with
      | none => simp only [Option.map_none, Option.getD_none]; rw [termS_one, if_neg (fun hh => h1 hh.2)]
      | some y => rfl
theorem rises_under (m : List Bnd) : ∀ (l : List Bnd), Rises l → Rises (underB l m)
  | [], h => trivial
  | [a], h => trivial
  | a :: b :: r, h => ⟨h.1, rises_under m (b :: r) h.2⟩
theorem lt_tri {a b : List UInt8} (h1 : ¬ a < b) (h2 : a ≠ b) : b < a := by
  by_cases h3 : b < a
  · exact h3
  · exact absurd (List.le_antisymm (List.not_lt.1 h3) (List.not_lt.1 h1)) h2
theorem rises_ins {b : Bnd} : ∀ {l : List Bnd}, Rises l → getB l b.1 = none → Rises (insB b l)
  | [], h, hn => trivial
  | [c], h, hn => by
    rw [getB] at hn
    split at hn
    · cases hn
    rename_i hc
    unfold insB
    split
    · rename_i h1; exact ⟨h1, trivial⟩
    · rename_i h1; exact ⟨lt_tri h1 (fun e => hc e.symm), trivial⟩
  | c :: d :: r, h, hn => by
    rw [getB] at hn
    split at hn
    · cases hn
    rename_i hc
    have ih := rises_ins (b := b) h.2 hn
    unfold insB
    split
    · rename_i h1; exact ⟨h1, h⟩
    · rename_i h1
      have hcb := lt_tri h1 (fun e => hc e.symm)
      revert ih
      unfold insB
      split
      · exact fun ih => ⟨hcb, ih⟩
      · exact fun ih => ⟨h.1, ih⟩
theorem mem_ins {b x : Bnd} : ∀ {l : List Bnd}, x ∈ insB b l → x = b ∨ x ∈ l
  | [], h => by simpa [insB] using h
  | c :: l, h => by
    unfold insB at h
    split at h
    · simpa using h
    · rcases List.mem_cons.1 h with h | h
      · exact .inr (by rw [h]; exact List.mem_cons_self)
      · rcases mem_ins h with h | h
        · exact .inl h
        · exact .inr (List.mem_cons_of_mem _ h)
theorem termS_free {l : List Bnd} {x : Tm} (h : termS l x = x) (hi : InvB l) (hx : x.1 = true) : getB l x.2 = none := by
  cases hg : getB l x.2 with
  | none => rfl
  | some y =>
    have e : y = x := by unfold termS at h; rw [hx, hg] at h; exact h
    subst e
    have := (hi.2 _ (getB_mem hg)).2.2 hx
    rw [hg] at this
    exact this
theorem InvB.bind {l : List Bnd} {v : List UInt8} {x : Tm} (h : InvB l) (hm : MayB l v x) : InvB (bindP l v x) := by
  obtain ⟨hv, hx, hg, ht, ho⟩ := hm
  have hxn : x.1 = true → getB (bindP l v x) x.2 = none := by
    intro h1
    rw [getB_bind hg, if_neg (fun e => ho ⟨h1, e.symm⟩), termS_free ht h h1]; rfl
  refine ⟨rises_ins (rises_under _ _ h.1) (by rw [getB_under]; show (getB l v).map _ = none; rw [hg]; rfl), fun b hb => ?_⟩
  rcases mem_ins hb with rfl | hb
  · exact ⟨hv, hx, hxn⟩
  · obtain ⟨c, hc, rfl⟩ := List.mem_map.1 hb
    obtain ⟨h1, h2, h3⟩ := h.2 c hc
    refine ⟨h1, ?_, ?_⟩
    · show (termS [(v, x)] c.2).2 ≠ []
      rw [termS_one]; split
      · exact hx
      · exact h2
    · show (termS [(v, x)] c.2).1 = true → getB (bindP l v x) (termS [(v, x)] c.2).2 = none
      rw [termS_one]
      split
      · exact hxn
      · rename_i hn
        intro h4
        rw [getB_bind hg, h3 h4, if_neg (fun e => hn ⟨h4, e⟩)]; rfl
theorem termS_idem {l : List Bnd} (h : InvB l) (t : Tm) : termS l (termS l t) = termS l t := by
  cases hv : t.1
  · rw [termS_const _ hv, termS_const _ hv]
  · have e : termS l t = (getB l t.2).getD t := by unfold termS; rw [hv]; rfl
    cases hg : getB l t.2 with
    | none => rw [hg] at e; rw [e, Option.getD_none, e]; rfl
    | some y =>
      rw [hg] at e
      rw [e, Option.getD_some]
      cases hy : y.1
      · exact termS_const _ hy
      · unfold termS; rw [hy, (h.2 _ (getB_mem hg)).2.2 hy]; rfl
theorem termS_name {l : List Bnd} (h : InvB l) {t : Tm} (ht : t.2 ≠ []) : (termS l t).2 ≠ [] := by
  unfold termS
  split
  · cases hg : getB l t.2 with
    | none => exact ht
    | some y => exact (h.2 _ (getB_mem hg)).2.1
  · exact ht

/-- What makes two lists of terms one. -/
def uniF : List (Tm × Tm) → List Bnd → Option (List Bnd)
  | [], l => some l
  | p :: r, l => if termS l p.1 = termS l p.2 then uniF r l else if (termS l p.1).1 && (!(termS l p.2).1 || decide ((termS l p.2).2 < (termS l p.1).2)) then uniF r (bindP l (termS l p.1).2 (termS l p.2)) else if (termS l p.2).1 then uniF r (bindP l (termS l p.2).2 (termS l p.1)) else none
theorem mayB_of {l : List Bnd} {x y : Tm} (hi : InvB l) (hx : termS l x = x) (hy : termS l y = y) (hxn : x.2 ≠ []) (hyn : y.2 ≠ []) (hv : x.1 = true) (hne : x ≠ y) : MayB l x.2 y :=
  ⟨hxn, hyn, termS_free hx hi hv, hy, fun h => hne (Prod.ext (hv.trans h.1.symm) h.2.symm)⟩
/-- What binding at one pair asks for. -/
theorem uni_may1 {l : List Bnd} {p : Tm × Tm} (hi : InvB l) (h1 : p.1.2 ≠ []) (h2 : p.2.2 ≠ []) (hne : ¬ termS l p.1 = termS l p.2) (hv : (termS l p.1).1 = true) : MayB l (termS l p.1).2 (termS l p.2) :=
  mayB_of hi (termS_idem hi _) (termS_idem hi _) (termS_name hi h1) (termS_name hi h2) hv hne
theorem uni_may2 {l : List Bnd} {p : Tm × Tm} (hi : InvB l) (h1 : p.1.2 ≠ []) (h2 : p.2.2 ≠ []) (hne : ¬ termS l p.1 = termS l p.2) (hv : (termS l p.2).1 = true) : MayB l (termS l p.2).2 (termS l p.1) :=
  mayB_of hi (termS_idem hi _) (termS_idem hi _) (termS_name hi h2) (termS_name hi h1) hv (fun e => hne e.symm)
theorem bind_len (l : List Bnd) (v : List UInt8) (x : Tm) : (bindP l v x).length = l.length + 1 := by
  have h : ∀ (m : List Bnd) (b : Bnd), (insB b m).length = m.length + 1 := by
    intro m b
    induction m with
    | nil => rfl
    | cons c m ih => unfold insB; split <;> simp [ih]
  unfold bindP
  rw [h, underB, List.length_map]
theorem uni_len : ∀ {P : List (Tm × Tm)} {l m : List Bnd}, uniF P l = some m → m.length ≤ l.length + P.length
  | [], l, m, h => by cases h; simp
  | p :: r, l, m, h => by
    rw [uniF] at h
    split at h
    · have := uni_len h; simp only [List.length_cons]; omega
    split at h
    · have := uni_len h; rw [bind_len] at this; simp only [List.length_cons]; omega
    split at h
    · have := uni_len h; rw [bind_len] at this; simp only [List.length_cons]; omega
    · cases h
theorem uni_swap : ∀ (P : List (Tm × Tm)) (l : List Bnd), uniF (P.map Prod.swap) l = uniF P l
  | [], l => rfl
  | p :: r, l => by
    rw [List.map_cons, uniF, uniF]
    show (if termS l p.2 = termS l p.1 then uniF (r.map Prod.swap) l else if (termS l p.2).1 && (!(termS l p.1).1 || decide ((termS l p.1).2 < (termS l p.2).2)) then uniF (r.map Prod.swap) (bindP l (termS l p.2).2 (termS l p.1)) else if (termS l p.1).1 then uniF (r.map Prod.swap) (bindP l (termS l p.1).2 (termS l p.2)) else none) = _
    rw [uni_swap r, uni_swap r, uni_swap r]
    generalize termS l p.1 = x
    generalize termS l p.2 = y
    by_cases he : x = y
    · rw [if_pos he, if_pos he.symm]
    rw [if_neg he, if_neg (fun e => he e.symm)]
    cases hx : x.1 <;> cases hy : y.1
    · simp
    · simp
    · simp
    · have hn : x.2 ≠ y.2 := fun e => he (Prod.ext (hx.trans hy.symm) e)
      by_cases h1 : x.2 < y.2
      · have h2 : ¬ y.2 < x.2 := fun h => List.lt_asymm h1 h
        simp [h1, h2]
      · have h2 : y.2 < x.2 := lt_tri h1 hn
        simp [h1, h2]
def NamedP (P : List (Tm × Tm)) : Prop := ∀ p ∈ P, p.1.2 ≠ [] ∧ p.2.2 ≠ []
theorem uni_sound : ∀ {P : List (Tm × Tm)} {l m : List Bnd}, InvB l → NamedP P → uniF P l = some m → InvB m ∧ (∀ t, termS m (termS l t) = termS m t) ∧ ∀ p ∈ P, termS m p.1 = termS m p.2
  | [], l, m, hi, _, h => by
    cases h
    exact ⟨hi, termS_idem hi, fun p hp => by cases hp⟩
  | p :: r, l, m, hi, hn, h => by
    obtain ⟨n1, n2⟩ := hn p List.mem_cons_self
    have hr : NamedP r := fun q hq => hn q (List.mem_cons_of_mem _ hq)
    rw [uniF] at h
    have key : ∀ {l' : List Bnd}, InvB l' → (∀ t, termS l' (termS l t) = termS l' t) → termS l' p.1 = termS l' p.2 → uniF r l' = some m → InvB m ∧ (∀ t, termS m (termS l t) = termS m t) ∧ ∀ q ∈ p :: r, termS m q.1 = termS m q.2 := by
      intro l' hi' ht he hu
      obtain ⟨h1, h2, h3⟩ := uni_sound hi' hr hu
      refine ⟨h1, fun t => by rw [← h2 (termS l t), ht, h2], fun q hq => ?_⟩
      rcases List.mem_cons.1 hq with rfl | hq
      · rw [← h2 q.1, he, h2]
      · exact h3 q hq
    split at h
    · rename_i he
      exact key hi (termS_idem hi) he h
    rename_i hne
    split at h
    · rename_i hc
      simp only [Bool.and_eq_true] at hc
      have hm := uni_may1 hi n1 n2 hne hc.1
      refine key (hi.bind hm) (fun t => by rw [termS_bind hm.2.2.1, termS_idem hi, ← termS_bind hm.2.2.1]) ?_ h
      rw [termS_bind hm.2.2.1, termS_bind hm.2.2.1, termS_one, if_pos ⟨hc.1, rfl⟩, termS_one]
      split
      · rfl
      · rfl
    split at h
    · rename_i hc2
      have hm := uni_may2 hi n1 n2 hne hc2
      refine key (hi.bind hm) (fun t => by rw [termS_bind hm.2.2.1, termS_idem hi, ← termS_bind hm.2.2.1]) ?_ h
      rw [termS_bind hm.2.2.1, termS_bind hm.2.2.1, termS_one, termS_one, if_pos (c := (termS l p.2).1 = true ∧ _) ⟨hc2, rfl⟩]
      split
      · rfl
      · rfl
    · cases h
theorem uni_most {σ : Tm → Tm} (hσ : ∀ t : Tm, t.1 = false → σ t = t) : ∀ {P : List (Tm × Tm)} {l : List Bnd}, InvB l → NamedP P → (∀ t, σ (termS l t) = σ t) → (∀ p ∈ P, σ p.1 = σ p.2) → ∃ m, uniF P l = some m ∧ ∀ t, σ (termS m t) = σ t
  | [], l, hi, _, h, _ => ⟨l, rfl, h⟩
  | p :: r, l, hi, hn, h, hp => by
    obtain ⟨n1, n2⟩ := hn p List.mem_cons_self
    have hr : NamedP r := fun q hq => hn q (List.mem_cons_of_mem _ hq)
    have hpr : ∀ q ∈ r, σ q.1 = σ q.2 := fun q hq => hp q (List.mem_cons_of_mem _ hq)
    have he : σ (termS l p.1) = σ (termS l p.2) := by rw [h, h]; exact hp p List.mem_cons_self
    have hone : ∀ {v : List UInt8} {x : Tm}, σ (true, v) = σ x → ∀ t, σ (termS [(v, x)] t) = σ t := by
      intro v x hvx t
      rw [termS_one]
      split
      · rename_i hc
        rw [← hvx, hc.2, ← hc.1]
      · rfl
    rw [uniF]
    split
    · exact uni_most hσ hi hr h hpr
    rename_i hne
    split
    · rename_i hc
      simp only [Bool.and_eq_true] at hc
      have hm := uni_may1 hi n1 n2 hne hc.1
      refine uni_most hσ (hi.bind hm) hr (fun t => ?_) hpr
      rw [termS_bind hm.2.2.1, hone ?_, h]
      rw [← he, ← hc.1]
    split
    · rename_i hc2
      have hm := uni_may2 hi n1 n2 hne hc2
      refine uni_most hσ (hi.bind hm) hr (fun t => ?_) hpr
      rw [termS_bind hm.2.2.1, hone ?_, h]
      rw [he, ← hc2]
    · rename_i hc hc2
      exfalso
      rw [Bool.not_eq_true] at hc2
      have hx : (termS l p.1).1 = false := by
        cases hx : (termS l p.1).1
        · rfl
        · rw [hx, hc2] at hc; simp at hc
      rw [hσ _ hx, hσ _ hc2] at he
      exact hne he
end Go.Proofs.YtbgdljcgbhhfdaaGreatDoor
