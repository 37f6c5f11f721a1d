/- What is parsed is as it should be: words of their kinds, valid atoms, numbers of at most seven digits. No program's function in sight. -/
import Derived.Test.YtnfjjckbgnieeaaGreatDoorVPaP
import Derived.Test.YtnfjjckbgnieeaaGreatDoorVLexQ
import Derived.Test.YtnfjjckbgnieeaaGreatDoorVNmP
import Derived.Test.YtnfjjckbgnieeaaGreatDoorVRef03
namespace Go.Proofs.YtnfjjckbgnieeaaGreatDoor
open Go.RowKit

theorem eachF_keeps {σ : Type} {one : σ → Toks → Except PErr (σ × Toks)} {P : σ → Prop} (h : ∀ s r s1 r1, P s → one s r = .ok (s1, r1) → P s1) : ∀ (f : Nat) (s : σ) (r : Toks) (s1 : σ) (r1 : Toks), P s → eachF one f s r = .ok (s1, r1) → P s1
  | 0, _, _, _, _, _, e => by cases e
  | f + 1, s, r, s1, r1, hs, e => by
    rw [eachF] at e
    cases e1 : one s r with
    | error x => rw [e1] at e; cases e
    | ok q =>
      obtain ⟨s2, r2⟩ := q
      rw [e1] at e
      simp only at e
      have h2 := h _ _ _ _ hs e1
      split at e
      · exact eachF_keeps h f _ _ _ _ h2 e
      · injection e with e; injection e with e2 e3; subst e2; exact h2
theorem eachT_keeps {σ : Type} {one : σ → Toks → Except PErr (σ × Toks)} {P : σ → Prop} (h : ∀ s r s1 r1, P s → one s r = .ok (s1, r1) → P s1) {s : σ} {r : Toks} {s1 : σ} {r1 : Toks} (hs : P s) (e : eachT one s r = .ok (s1, r1)) : P s1 := eachF_keeps h _ _ _ _ _ hs e
theorem eachF_last {σ : Type} {one : σ → Toks → Except PErr (σ × Toks)} {P : σ → Prop} (h : ∀ s r s1 r1, one s r = .ok (s1, r1) → P s1) : ∀ (f : Nat) (s : σ) (r : Toks) (s1 : σ) (r1 : Toks), eachF one f s r = .ok (s1, r1) → P s1
  | 0, _, _, _, _, e => by cases e
  | f + 1, s, r, s1, r1, e => by
    rw [eachF] at e
    cases e1 : one s r with
    | error x => rw [e1] at e; cases e
    | ok q =>
      obtain ⟨s2, r2⟩ := q
      rw [e1] at e
      simp only at e
      split at e
      · exact eachF_last h f _ _ _ _ e
      · injection e with e; injection e with e2 e3; subst e2; exact h _ _ _ _ e1
/-- An atom of its kinds, with so many terms, and nothing behind them. -/
structure AOk (a : Atm) : Prop where
  who : principalB a.1 = true
  pred : principalB a.2.1 = true
  num : a.2.2.1 = 0 ∨ a.2.2.1 = 1 ∨ a.2.2.1 = 2 ∨ a.2.2.1 = 3 ∨ a.2.2.1 = 4
  some_ : ∀ k : Nat, (h : k < 4) → (k : Int) < a.2.2.1 → termB ((argsL a)[k]'h) = true
  none_ : ∀ k : Nat, (h : k < 4) → ¬ (k : Int) < a.2.2.1 → (argsL a)[k]'h = (false, [])
theorem AOk.check {a : Atm} (h : AOk a) : checkA a = 0 := by
  rw [checkA_go (by rw [h.who, h.pred]; rfl) (by have := h.num; omega) (by have := h.num; omega)]
  have h1 : ((argsL a).take a.2.2.1.toNat).all termB = true := by
    rw [List.all_eq_true]
    intro x hx
    obtain ⟨k, hk, rfl⟩ := List.mem_iff_getElem.1 hx
    rw [List.length_take, argsL_len] at hk
    rw [List.getElem_take]
    exact h.some_ k (by omega) (by omega)
  have h2 : (((argsL a).drop a.2.2.1.toNat).all fun t => decide (t = (false, []))) = true := by
    rw [List.all_eq_true]
    intro x hx
    obtain ⟨k, hk, rfl⟩ := List.mem_iff_getElem.1 hx
    rw [List.length_drop, argsL_len] at hk
    rw [List.getElem_drop, decide_eq_true_eq]
    exact h.none_ _ (by omega) (by have := h.num; omega)
  rw [h1, h2]; rfl
theorem term_made {s : Txt} (h : termT s = true) : termB (variableB s, s) = true := by
  cases hv : variableB s with
  | true => exact hv
  | false =>
    unfold termT at h
    rw [hv, Bool.or_false] at h
    exact h
theorem putT_ok {a : Atm} {t : Tm} (h : AOk a) (hn : ¬ a.2.2.1 = 4) (ht : termB t = true) : AOk (putT a t) := by
  obtain ⟨s, p, n, t0, t1, t2, t3⟩ := a
  obtain ⟨h1, h2, h3, h4, h5⟩ := h
  simp only at h1 h2 h3 hn
  have a0 := h4 0 (by omega)
  have a1 := h4 1 (by omega)
  have a2 := h4 2 (by omega)
  have b1 := h5 1 (by omega)
  have b2 := h5 2 (by omega)
  have b3 := h5 3 (by omega)
  simp only [argsL, List.getElem_cons_zero, List.getElem_cons_succ] at a0 a1 a2 b1 b2 b3
  rcases h3 with rfl | rfl | rfl | rfl | rfl
  · refine ⟨h1, h2, .inr (.inl rfl), ?_, ?_⟩
    · intro k hk hl
      have : k = 0 := by have : (k : Int) < 1 := hl; omega
      subst this; exact ht
    · intro k hk hl
      have : ¬ (k : Int) < 1 := hl
      have h6 : k = 1 ∨ k = 2 ∨ k = 3 := by omega
      rcases h6 with rfl | rfl | rfl
      · exact b1 (by omega)
      · exact b2 (by omega)
      · exact b3 (by omega)
  · refine ⟨h1, h2, .inr (.inr (.inl rfl)), ?_, ?_⟩
    · intro k hk hl
      have : (k : Int) < 2 := hl
      have h6 : k = 0 ∨ k = 1 := by omega
      rcases h6 with rfl | rfl
      · exact a0 (by omega)
      · exact ht
    · intro k hk hl
      have : ¬ (k : Int) < 2 := hl
      have h6 : k = 2 ∨ k = 3 := by omega
      rcases h6 with rfl | rfl
      · exact b2 (by omega)
      · exact b3 (by omega)
  · refine ⟨h1, h2, .inr (.inr (.inr (.inl rfl))), ?_, ?_⟩
    · intro k hk hl
      have : (k : Int) < 3 := hl
      have h6 : k = 0 ∨ k = 1 ∨ k = 2 := by omega
      rcases h6 with rfl | rfl | rfl
      · exact a0 (by omega)
      · exact a1 (by omega)
      · exact ht
    · intro k hk hl
      have : ¬ (k : Int) < 3 := hl
      have h6 : k = 3 := by omega
      subst h6
      exact b3 (by omega)
  · refine ⟨h1, h2, .inr (.inr (.inr (.inr rfl))), ?_, ?_⟩
    · intro k hk hl
      have h6 : k = 0 ∨ k = 1 ∨ k = 2 ∨ k = 3 := by omega
      rcases h6 with rfl | rfl | rfl | rfl
      · exact a0 (by omega)
      · exact a1 (by omega)
      · exact a2 (by omega)
      · exact ht
    · intro k hk hl
      have : ¬ (k : Int) < 4 := hl
      omega
  · exact absurd rfl hn
theorem atom0_ok {who pred : Txt} (h1 : principalB who = true) (h2 : principalB pred = true) : AOk (atom0 who pred) := by
  refine ⟨h1, h2, .inl rfl, fun k hk hl => ?_, fun k hk hl => ?_⟩
  · have : (k : Int) < 0 := hl
    omega
  · have h6 : k = 0 ∨ k = 1 ∨ k = 2 ∨ k = 3 := by omega
    rcases h6 with rfl | rfl | rfl | rfl <;> rfl
theorem termStep_ok {a : Atm} {r : Toks} {a1 : Atm} {r1 : Toks} (ha : AOk a) (h : termStep a r = .ok (a1, r1)) : AOk a1 := by
  rw [termStep] at h
  split at h
  · cases h
  · next s r2 hn =>
    split at h
    · cases h
    · next h4 =>
      injection h with h; injection h with h1 h2
      subst h1
      exact putT_ok ha h4 (term_made (nameT_ok hn).2)
theorem saidT_ok {who : Txt} {r : Toks} {a : Atm} {r1 : Toks} (hw : principalB who = true) (h : saidT who r = .ok (a, r1)) : AOk a := by
  rw [saidT] at h
  split at h
  · cases h
  · next s r2 hn =>
    have h0 := atom0_ok hw (nameT_ok hn).2
    split at h
    · split at h
      · cases h
      · next a2 r3 he =>
        split at h
        · cases h
        · injection h with h; injection h with h1 h2
          subst h1
          exact eachT_keeps (P := AOk) (fun _ _ _ _ => termStep_ok) h0 he
    · injection h with h; injection h with h1 h2
      subst h1
      exact h0
theorem atomT_ok {r : Toks} {a : Atm} {r1 : Toks} (h : atomT r = .ok (a, r1)) : AOk a := by
  rw [atomT] at h
  split at h
  · cases h
  · next s r2 hn =>
    split at h
    · cases h
    · exact saidT_ok (nameT_ok hn).2 h
theorem bodyT_ok {r : Toks} {l : List Atm} {r1 : Toks} (h : bodyT r = .ok (l, r1)) : ∀ a ∈ l, AOk a := by
  rw [bodyT] at h
  split at h
  · refine eachT_keeps (P := fun l => ∀ a ∈ l, AOk a) ?_ (fun _ h => by cases h) h
    intro s r s1 r1 hs e
    rw [atomStep] at e
    split at e
    · cases e
    · next a r2 hn =>
      injection e with e; injection e with e1 e2
      subst e1
      intro x hx
      rcases List.mem_append.1 hx with hx | hx
      · exact hs x hx
      · have : x = a := by simpa using hx
        subst this
        exact atomT_ok hn
  · injection h with h; injection h with h1 h2
    subst h1
    exact fun _ h => (by cases h)
theorem numV_lt : ∀ (l : Txt) (acc a : Nat), l.all (fun c => digitB c.toNat) = true → acc + 1 ≤ 10 ^ a → l.foldl (fun n c => 10 * n + (c.toNat - 48)) acc + 1 ≤ 10 ^ (a + l.length)
  | [], acc, a, _, h => h
  | x :: q, acc, a, hq, hh => by
    rw [List.all_cons, Bool.and_eq_true] at hq
    have hx := dig_bounds hq.1
    rw [List.foldl_cons, List.length_cons, show a + (q.length + 1) = (a + 1) + q.length by omega]
    exact numV_lt q _ (a + 1) hq.2 (by rw [Nat.pow_succ]; omega)
theorem numB_le {s : Txt} (h : numB s = true) : numV s ≤ 9999999 := by
  unfold numB at h
  simp only [Bool.and_eq_true] at h
  obtain ⟨⟨⟨_, h2⟩, h3⟩, _⟩ := h
  have h2 := of_decide_eq_true h2
  have h1 := numV_lt s 0 0 h3 (by omega)
  have h9 : (10 : Nat) ^ (0 + s.length) ≤ 10 ^ 7 := Nat.pow_le_pow_right (by omega) (by omega)
  have e7 : (10 : Nat) ^ 7 = 10000000 := by decide
  unfold numV
  omega
theorem numT_le {r : Toks} {n : Nat} {r1 : Toks} (h : numT r = .ok (n, r1)) : n ≤ 9999999 := by
  rw [numT] at h
  split at h
  · cases h
  · next s r2 hn =>
    injection h with h; injection h with h1 h2
    subst h1
    exact numB_le (nameT_ok hn).2
/-- A policy as it should be. -/
structure POk (p : Pol) : Prop where
  pr : ∀ x ∈ p.pr, principalB x = true
  pd : ∀ x ∈ p.pd, principalB x.1 = true ∧ 0 ≤ x.2 ∧ x.2 ≤ 9999999
  cl : ∀ x ∈ p.cl, principalB x.1 = true ∧ 0 < x.2.length
  qu : 0 ≤ p.qu ∧ p.qu ≤ 9999999
  bu : 0 ≤ p.bu ∧ p.bu ≤ 9999999
  ru : ∀ x ∈ p.ru, checkA x.1 = 0 ∧ ∀ a ∈ x.2, checkA a = 0
  gr : ∀ x ∈ p.gr, principalB x.1 = true ∧ checkA x.2.1 = 0 ∧ ∀ a ∈ x.2.2, checkA a = 0
theorem mem_snoc {α : Type} {l : List α} {x y : α} (h : x ∈ l ++ [y]) : x ∈ l ∨ x = y := by
  rcases List.mem_append.1 h with h | h
  · exact .inl h
  · exact .inr (by simpa using h)
theorem partT_ok {st : PSt} {r : Toks} {st1 : PSt} {r1 : Toks} (hp : POk st.p) (h : partT st r = .ok (st1, r1)) : POk st1.p := by
  rw [partT] at h
  split at h
  · rw [principalT] at h
    split at h
    · cases h
    · next s r2 hn =>
      injection h with h; injection h with h1 h2
      subst h1
      exact ⟨fun x hx => by rcases mem_snoc hx with hx | rfl; exact hp.pr x hx; exact (nameT_ok hn).2, hp.pd, hp.cl, hp.qu, hp.bu, hp.ru, hp.gr⟩
  split at h
  · rw [predT] at h
    split at h
    · cases h
    · next s r2 hn =>
      split at h
      · cases h
      · split at h
        · cases h
        · next n r4 hk =>
          injection h with h; injection h with h1 h2
          subst h1
          exact ⟨hp.pr, fun x hx => by
            rcases mem_snoc hx with hx | rfl
            · exact hp.pd x hx
            · have := numT_le hk
              exact ⟨(nameT_ok hn).2, by show (0 : Int) ≤ (n : Int); omega, by show (n : Int) ≤ _; omega⟩, hp.cl, hp.qu, hp.bu, hp.ru, hp.gr⟩
  split at h
  · rw [clearT] at h
    split at h
    · cases h
    · next s r2 hn =>
      split at h
      · cases h
      · split at h
        · cases h
        · next l r4 hk =>
          injection h with h; injection h with h1 h2
          subst h1
          refine ⟨hp.pr, hp.pd, fun x hx => ?_, hp.qu, hp.bu, hp.ru, hp.gr⟩
          rcases mem_snoc hx with hx | rfl
          · exact hp.cl x hx
          · refine ⟨(nameT_ok hn).2, eachF_last (P := fun l : List Txt => 0 < l.length) ?_ _ _ _ _ _ hk⟩
            intro s r s1 r1 e
            rw [readStep] at e
            split at e
            · cases e
            · injection e with e; injection e with e1 e2
              rw [← e1]; simp
  split at h
  · rw [quotaT, singleT] at h
    split at h
    · cases h
    · next n r2 hn =>
      split at hn
      · cases hn
      · injection h with h; injection h with h1 h2
        subst h1
        have := numT_le hn
        exact ⟨hp.pr, hp.pd, hp.cl, ⟨by show (0 : Int) ≤ (n : Int); omega, by show (n : Int) ≤ _; omega⟩, hp.bu, hp.ru, hp.gr⟩
  split at h
  · rw [budgetT, singleT] at h
    split at h
    · cases h
    · next n r2 hn =>
      split at hn
      · cases hn
      · injection h with h; injection h with h1 h2
        subst h1
        have := numT_le hn
        exact ⟨hp.pr, hp.pd, hp.cl, hp.qu, ⟨by show (0 : Int) ≤ (n : Int); omega, by show (n : Int) ≤ _; omega⟩, hp.ru, hp.gr⟩
  · rw [saysT] at h
    split at h
    · cases h
    · next who r2 hw =>
      split at h
      · cases h
      · split at h
        · rw [grantT] at h
          split at h
          · cases h
          · next to r4 ht =>
            split at h
            · cases h
            · split at h
              · cases h
              · next a r6 hs =>
                split at h
                · cases h
                · next l r7 hb =>
                  injection h with h; injection h with h1 h2
                  subst h1
                  refine ⟨hp.pr, hp.pd, hp.cl, hp.qu, hp.bu, hp.ru, fun x hx => ?_⟩
                  rcases mem_snoc hx with hx | rfl
                  · exact hp.gr x hx
                  · exact ⟨(nameT_ok ht).2, (saidT_ok (nameT_ok hw).2 hs).check, fun a ha => (bodyT_ok hb a ha).check⟩
        · rw [ruleT] at h
          split at h
          · cases h
          · next a r4 hs =>
            split at h
            · cases h
            · next l r5 hb =>
              injection h with h; injection h with h1 h2
              subst h1
              refine ⟨hp.pr, hp.pd, hp.cl, hp.qu, hp.bu, fun x hx => ?_, hp.gr⟩
              rcases mem_snoc hx with hx | rfl
              · exact hp.ru x hx
              · exact ⟨(saidT_ok (nameT_ok hw).2 hs).check, fun a ha => (bodyT_ok hb a ha).check⟩
theorem stmtT_ok {st : PSt} {r : Toks} {st1 : PSt} {r1 : Toks} (hp : POk st.p) (h : stmtT st r = .ok (st1, r1)) : POk st1.p := by
  rw [stmtT] at h
  split at h
  · cases h
  · next st2 r2 h2 =>
    split at h
    · cases h
    · injection h with h; injection h with h3 h4
      subst h3
      exact partT_ok hp h2
theorem polF_ok : ∀ (f : Nat) {st : PSt} {r : Toks} {st1 : PSt}, POk st.p → polF f st r = .ok st1 → POk st1.p
  | 0, _, _, _, _, h => by cases h
  | f + 1, st, r, st1, hp, h => by
    rw [polF] at h
    split at h
    · injection h with h; subst h; exact hp
    · split at h
      · cases h
      · next st2 r2 h2 => exact polF_ok f (stmtT_ok hp h2) h
theorem pol0_ok : POk pol0 := ⟨fun _ h => (by cases h), fun _ h => (by cases h), fun _ h => (by cases h), ⟨by decide, by decide⟩, ⟨by decide, by decide⟩, fun _ h => (by cases h), fun _ h => (by cases h)⟩
theorem polT_ok {ts : Toks} {st : PSt} (h : polT ts = .ok st) : POk st.p := polF_ok _ pol0_ok h
end Go.Proofs.YtnfjjckbgnieeaaGreatDoor
