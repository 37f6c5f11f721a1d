/- Tokens of texts that are written token by token, with what is passed over between them. No program's function in sight. What is parsed of two texts, one after the other; what errors there are. No program's function in sight. Errors of parsing; an atom with what ends it. No program's function in sight. Texts with other blanks between their tokens, in plain words. No program's function in sight. -/
import Derived.Test.YtnfjjckbgnieeaaGreatDoorVLexQ
import Derived.Test.YtnfjjckbgnieeaaGreatDoorVPaP
import Derived.Test.YtnfjjckbgnieeaaGreatDoorVPTr
namespace Go.Proofs.YtnfjjckbgnieeaaGreatDoor
open Go.RowKit

end Go.Proofs.YtnfjjckbgnieeaaGreatDoor

namespace Go.Proofs.YtnfjjckbgnieeaaGreatDoor
open Go.RowKit

/-- Nothing that might go on what stands ahead. -/
def Quiet (t : Toks) : Prop := isT [40] t = false ∧ isT [44] t = false ∧ isT wIf t = false ∧ isT wCansay t = false
def Cut (r1 t : Toks) : Prop := r1 ≠ [] ∨ Quiet t
theorem isT_app {s : Txt} {r : Toks} (h : r ≠ []) (t : Toks) : isT s (r ++ t) = isT s r := by
  cases r with
  | nil => exact absurd rfl h
  | cons x r => rfl
theorem drop_app {r : Toks} (h : r ≠ []) (t : Toks) : (r ++ t).drop 1 = r.drop 1 ++ t := by
  cases r with
  | nil => exact absurd rfl h
  | cons x r => rfl
theorem isT_some {s : Txt} {r : Toks} (h : isT s r = true) : r ≠ [] := by
  intro e; rw [e] at h; cases h
theorem isT_no {s : Txt} {r t : Toks} (h : isT s r = false) (hq : r ≠ [] ∨ isT s t = false) : isT s (r ++ t) = false := by
  cases r with
  | nil =>
    rcases hq with hq | hq
    · exact absurd rfl hq
    · exact hq
  | cons x r => exact h
theorem nameT_app {m : Txt → Bool} {r : Toks} {x : Txt} {r1 : Toks} (h : nameT m r = .ok (x, r1)) (t : Toks) : nameT m (r ++ t) = .ok (x, r1 ++ t) := by
  obtain ⟨rfl, hm⟩ := nameT_ok h
  rw [List.cons_append, nameT, if_pos hm]
theorem mustT_app {s : Txt} {r r1 : Toks} (h : mustT s r = .ok r1) (t : Toks) : mustT s (r ++ t) = .ok (r1 ++ t) := by
  rw [mustT_ok h, List.cons_append, mustT, if_pos rfl]
/-- What is read stays so if more stands behind. -/
def Exts {σ : Type} (one : σ → Toks → Except PErr (σ × Toks)) : Prop := ∀ s r s1 r1 t, one s r = .ok (s1, r1) → Cut r1 t → one s (r ++ t) = .ok (s1, r1 ++ t)
theorem eachF_exts {σ : Type} {one : σ → Toks → Except PErr (σ × Toks)} (h : Exts one) (t : Toks) : ∀ (f g : Nat) (s : σ) (r : Toks) (s1 : σ) (r1 : Toks), f ≤ g → eachF one f s r = .ok (s1, r1) → Cut r1 t → eachF one g s (r ++ t) = .ok (s1, r1 ++ t)
  | 0, _, _, _, _, _, _, e, _ => by cases e
  | _ + 1, 0, _, _, _, _, hg, _, _ => by omega
  | f + 1, g + 1, s, r, s1, r1, hg, e, hc => by
    rw [eachF] at e
    rw [eachF]
    cases e1 : one s r with
    | error x => rw [e1] at e; cases e
    | ok q =>
      obtain ⟨s2, r2⟩ := q
      rw [e1] at e
      simp only at e
      split at e
      · next hi =>
        have hn := isT_some hi
        rw [h _ _ _ _ _ e1 (.inl hn)]
        simp only
        rw [isT_app hn, if_pos hi, drop_app hn]
        exact eachF_exts h t f g _ _ _ _ (by omega) e hc
      · next hi =>
        injection e with e; injection e with e2 e3; subst e2; subst e3
        rw [h _ _ _ _ _ e1 hc]
        simp only
        rw [isT_no (by cases hb : isT [44] r2 with | true => exact absurd hb hi | false => rfl) (hc.imp id (·.2.1))]
        rfl
theorem eachT_exts {σ : Type} {one : σ → Toks → Except PErr (σ × Toks)} (h : Exts one) : Exts (eachT one) := fun s r s1 r1 t e hc => eachF_exts h t _ _ s r s1 r1 (by rw [List.length_append]; omega) e hc
theorem termStep_exts : Exts termStep := by
  intro a r a1 r1 t h _
  rw [termStep] at h ⊢
  split at h
  · cases h
  · next s r2 hn =>
    rw [nameT_app hn]
    split at h
    · cases h
    · next h4 =>
      simp only
      rw [if_neg h4]
      injection h with h; injection h with h1 h2
      rw [h1, h2]
theorem readStep_exts : Exts readStep := by
  intro a r a1 r1 t h _
  rw [readStep] at h ⊢
  split at h
  · cases h
  · next s r2 hn =>
    rw [nameT_app hn]
    injection h with h; injection h with h1 h2
    simp only
    rw [h1, h2]
theorem saidT_exts (who : Txt) {r : Toks} {a : Atm} {r1 t : Toks} (h : saidT who r = .ok (a, r1)) (hc : Cut r1 t) : saidT who (r ++ t) = .ok (a, r1 ++ t) := by
  rw [saidT] at h ⊢
  split at h
  · cases h
  · next s r2 hn =>
    rw [nameT_app hn]
    simp only
    split at h
    · next hi =>
      have hne := isT_some hi
      rw [isT_app hne, if_pos hi, drop_app hne]
      split at h
      · cases h
      · next a2 r3 he =>
        split at h
        · cases h
        · next r4 hm =>
          rw [eachT_exts termStep_exts _ _ _ _ t he (.inl (by rw [mustT_ok hm]; simp))]
          simp only
          rw [mustT_app hm]
          injection h with h; injection h with h1 h2
          rw [h1, h2]
    · next hi =>
      injection h with h; injection h with h1 h2
      subst h2
      rw [isT_no (by cases hb : isT [40] r2 with | true => exact absurd hb hi | false => rfl) (hc.imp id (·.1)), h1]
      rfl
theorem atomT_exts {r : Toks} {a : Atm} {r1 t : Toks} (h : atomT r = .ok (a, r1)) (hc : Cut r1 t) : atomT (r ++ t) = .ok (a, r1 ++ t) := by
  rw [atomT] at h ⊢
  split at h
  · cases h
  · next s r2 hn =>
    rw [nameT_app hn]
    simp only
    split at h
    · cases h
    · next r3 hm =>
      rw [mustT_app hm]
      exact saidT_exts s h hc
theorem atomStep_exts : Exts atomStep := by
  intro l r l1 r1 t h hc
  rw [atomStep] at h ⊢
  split at h
  · cases h
  · next a r2 hn =>
    injection h with h; injection h with h1 h2
    subst h2
    rw [atomT_exts hn hc, ← h1]
theorem bodyT_exts {r : Toks} {l : List Atm} {r1 t : Toks} (h : bodyT r = .ok (l, r1)) (hc : Cut r1 t) : bodyT (r ++ t) = .ok (l, r1 ++ t) := by
  rw [bodyT] at h ⊢
  split at h
  · next hi =>
    have hne := isT_some hi
    rw [isT_app hne, if_pos hi, drop_app hne]
    exact eachT_exts atomStep_exts _ _ _ _ t h hc
  · next hi =>
    injection h with h; injection h with h1 h2
    subst h2
    rw [isT_no (by cases hb : isT wIf r with | true => exact absurd hb hi | false => rfl) (hc.imp id (·.2.2.1)), h1]
    rfl
theorem numT_app {r : Toks} {n : Nat} {r1 : Toks} (h : numT r = .ok (n, r1)) (t : Toks) : numT (r ++ t) = .ok (n, r1 ++ t) := by
  rw [numT] at h ⊢
  split at h
  · cases h
  · next s r2 hn =>
    rw [nameT_app hn]
    injection h with h; injection h with h1 h2
    simp only
    rw [h1, h2]
theorem singleT_app {was : Bool} {r : Toks} {n : Nat} {r1 : Toks} (h : singleT was r = .ok (n, r1)) (t : Toks) : singleT was (r ++ t) = .ok (n, r1 ++ t) := by
  rw [singleT] at h ⊢
  split at h
  · cases h
  · next hw => rw [if_neg hw]; exact numT_app h t
theorem saysT_exts {st : PSt} {r : Toks} {st1 : PSt} {r1 t : Toks} (h : saysT st r = .ok (st1, r1)) (hc : Cut r1 t) : saysT st (r ++ t) = .ok (st1, r1 ++ t) := by
  rw [saysT] at h ⊢
  split at h
  · cases h
  · next who r2 hn =>
    rw [nameT_app hn]
    simp only
    split at h
    · cases h
    · next r3 hm =>
      rw [mustT_app hm]
      simp only
      split at h
      · next hi =>
        have hne : r3 ≠ [] := by intro e; rw [e] at hi; cases hi
        rw [drop_app hne, isT_app (isT_some hi), if_pos hi]
        rw [grantT] at h ⊢
        split at h
        · cases h
        · next to r4 ht =>
          rw [nameT_app ht]
          simp only
          split at h
          · cases h
          · next r5 h5 =>
            rw [mustT_app h5]
            simp only
            split at h
            · cases h
            · next a r6 hs =>
              split at h
              · cases h
              · next l r7 hb =>
                injection h with h; injection h with h1 h2
                subst h2
                have hc6 : Cut r6 t := by
                  obtain ⟨p, hp⟩ := bodyT_eats hb
                  rcases hc with hc | hc
                  · exact .inl (by rw [hp]; intro e; exact hc (List.append_eq_nil_iff.1 e).2)
                  · exact .inr hc
                rw [saidT_exts who hs hc6]
                simp only
                rw [bodyT_exts hb hc]
                simp only
                rw [h1]
      · next hi =>
        rw [ruleT] at h ⊢
        split at h
        · cases h
        · next a r6 hs =>
          split at h
          · cases h
          · next l r7 hb =>
            injection h with h; injection h with h1 h2
            subst h2
            have hc6 : Cut r6 t := by
              obtain ⟨p, hp⟩ := bodyT_eats hb
              rcases hc with hc | hc
              · exact .inl (by rw [hp]; intro e; exact hc (List.append_eq_nil_iff.1 e).2)
              · exact .inr hc
            have hne : r3 ≠ [] := by
              obtain ⟨p, hp, h6⟩ := saidT_eats hs
              intro e
              rw [e] at h6
              exact hp (List.append_eq_nil_iff.1 h6.symm).1
            have hno : isT wCansay ((r3 ++ t).drop 1) = false := by
              rw [drop_app hne]
              refine isT_no (by cases hb : isT wCansay (r3.drop 1) with | true => exact absurd hb hi | false => rfl) ?_
              rcases hc6 with h0 | h0
              · left
                obtain ⟨p, hp, h6⟩ := saidT_eats hs
                cases p with
                | nil => exact absurd rfl hp
                | cons x p => rw [h6]; intro e; exact h0 (List.append_eq_nil_iff.1 (show p ++ r6 = [] from e)).2
              · exact .inr h0.2.2.2
            rw [hno, if_neg (by decide), saidT_exts who hs hc6]
            simp only
            rw [bodyT_exts hb hc]
            simp only
            rw [h1]
theorem partT_exts {st : PSt} {r : Toks} {st1 : PSt} {r1 t : Toks} (h : partT st r = .ok (st1, r1)) (hc : Cut r1 t) : partT st (r ++ t) = .ok (st1, r1 ++ t) := by
  have hne : r ≠ [] := by
    intro e
    rw [e] at h
    cases h
  rw [partT] at h ⊢
  simp only [isT_app hne, drop_app hne]
  split at h
  · next hi =>
    rw [if_pos hi]
    rw [principalT] at h ⊢
    split at h
    · cases h
    · next s r2 hn =>
      rw [nameT_app hn]
      injection h with h; injection h with h1 h2
      simp only
      rw [h1, h2]
  rw [if_neg (by assumption)]
  split at h
  · next hi =>
    rw [if_pos hi]
    rw [predT] at h ⊢
    split at h
    · cases h
    · next s r2 hn =>
      rw [nameT_app hn]
      simp only
      split at h
      · cases h
      · next r3 hm =>
        rw [mustT_app hm]
        simp only
        split at h
        · cases h
        · next n r4 hk =>
          rw [numT_app hk]
          injection h with h; injection h with h1 h2
          simp only
          rw [h1, h2]
  rw [if_neg (by assumption)]
  split at h
  · next hi =>
    rw [if_pos hi]
    rw [clearT] at h ⊢
    split at h
    · cases h
    · next s r2 hn =>
      rw [nameT_app hn]
      simp only
      split at h
      · cases h
      · next r3 hm =>
        rw [mustT_app hm]
        simp only
        split at h
        · cases h
        · next n r4 hk =>
          injection h with h; injection h with h1 h2
          subst h2
          rw [eachT_exts readStep_exts _ _ _ _ t hk hc]
          simp only
          rw [h1]
  rw [if_neg (by assumption)]
  split at h
  · next hi =>
    rw [if_pos hi]
    rw [quotaT] at h ⊢
    split at h
    · cases h
    · next n r2 hn =>
      rw [singleT_app hn]
      injection h with h; injection h with h1 h2
      simp only
      rw [h1, h2]
  rw [if_neg (by assumption)]
  split at h
  · next hi =>
    rw [if_pos hi]
    rw [budgetT] at h ⊢
    split at h
    · cases h
    · next n r2 hn =>
      rw [singleT_app hn]
      injection h with h; injection h with h1 h2
      simp only
      rw [h1, h2]
  rw [if_neg (by assumption)]
  exact saysT_exts h hc
theorem stmtT_app {st : PSt} {r : Toks} {st1 : PSt} {r1 : Toks} (h : stmtT st r = .ok (st1, r1)) (t : Toks) : stmtT st (r ++ t) = .ok (st1, r1 ++ t) := by
  rw [stmtT] at h ⊢
  split at h
  · cases h
  · next st2 r2 h2 =>
    split at h
    · cases h
    · next r3 hm =>
      rw [partT_exts h2 (.inl (by rw [mustT_ok hm]; simp))]
      simp only
      rw [mustT_app hm]
      injection h with h; injection h with h3 h4
      simp only
      rw [h3, h4]
theorem polG_app (b : Toks) : ∀ (f : Nat) (st : PSt) (a : Toks) (st1 : PSt), a.length < f → polF f st a = .ok st1 → polG st (a ++ b) = polG st1 b
  | 0, _, _, _, h, _ => by omega
  | f + 1, st, a, st1, h, e => by
    rw [polF] at e
    split at e
    · next h0 =>
      injection e with e
      subst e
      rw [List.eq_nil_of_length_eq_zero h0]; rfl
    · next h0 =>
      split at e
      · cases e
      · next st2 r2 hs =>
        have hl := stmtT_eats.len hs
        rw [polG_step, if_neg (by rw [List.length_append]; omega), stmtT_app hs]
        exact polG_app b f st2 r2 st1 (by omega) e
/-- A policy ahead of another one. -/
def mrg (a b : PSt) : PSt := ⟨⟨a.p.pr ++ b.p.pr, a.p.pd ++ b.p.pd, a.p.cl ++ b.p.cl, if b.q then b.p.qu else a.p.qu, if b.b then b.p.bu else a.p.bu, a.p.ru ++ b.p.ru, a.p.gr ++ b.p.gr⟩, a.q || b.q, a.b || b.b⟩
theorem mrg_0 (a : PSt) : mrg a pst0 = a := by
  obtain ⟨⟨pr, pd, cl, qu, bu, ru, gr⟩, q, b⟩ := a
  simp [mrg, pst0, pol0]
def Mrgs (f : PSt → Toks → Except PErr (PSt × Toks)) : Prop := ∀ a st r st1 r1, f st r = .ok (st1, r1) → f (mrg a st) r = .ok (mrg a st1, r1) ∨ ∃ k, f (mrg a st) r = .error (k, 5)
theorem partT_mrg : Mrgs partT := by
  intro a st r st1 r1 h
  obtain ⟨⟨pr, pd, cl, qu, bu, ru, gr⟩, q, b⟩ := st
  rw [partT] at h ⊢
  split at h
  · next hi =>
    rw [if_pos hi]
    rw [principalT] at h ⊢
    split at h
    · cases h
    · next s r2 hn =>
      injection h with h; injection h with h1 h2
      subst h1; subst h2
      left
      simp [mrg]
  rw [if_neg (by assumption)]
  split at h
  · next hi =>
    rw [if_pos hi]
    rw [predT] at h ⊢
    split at h
    · cases h
    · next s r2 hn =>
      split at h
      · cases h
      · next r3 hm =>
        split at h
        · cases h
        · next n r4 hk =>
          injection h with h; injection h with h1 h2
          subst h1; subst h2
          left
          simp [mrg]
  rw [if_neg (by assumption)]
  split at h
  · next hi =>
    rw [if_pos hi]
    rw [clearT] at h ⊢
    split at h
    · cases h
    · next s r2 hn =>
      split at h
      · cases h
      · next r3 hm =>
        split at h
        · cases h
        · next n r4 hk =>
          injection h with h; injection h with h1 h2
          subst h1; subst h2
          left
          simp [mrg]
  rw [if_neg (by assumption)]
  split at h
  · next hi =>
    rw [if_pos hi]
    rw [quotaT] at h ⊢
    split at h
    · cases h
    · next n r2 hn =>
      injection h with h; injection h with h1 h2
      subst h1; subst h2
      rw [singleT] at hn ⊢
      split at hn
      · cases hn
      · next hq =>
        have hq2 : q = false := by cases q with | true => exact absurd rfl hq | false => rfl
        subst hq2
        cases ha : a.q with
        | true => exact .inr ⟨(r.drop 1).length + 1, by simp [mrg, ha]⟩
        | false => exact .inl (by rw [List.drop_one] at hn; simp [mrg, ha, hn])
  rw [if_neg (by assumption)]
  split at h
  · next hi =>
    rw [if_pos hi]
    rw [budgetT] at h ⊢
    split at h
    · cases h
    · next n r2 hn =>
      injection h with h; injection h with h1 h2
      subst h1; subst h2
      rw [singleT] at hn ⊢
      split at hn
      · cases hn
      · next hq =>
        have hq2 : b = false := by cases b with | true => exact absurd rfl hq | false => rfl
        subst hq2
        cases ha : a.b with
        | true => exact .inr ⟨(r.drop 1).length + 1, by simp [mrg, ha]⟩
        | false => exact .inl (by rw [List.drop_one] at hn; simp [mrg, ha, hn])
  rw [if_neg (by assumption)]
  left
  rw [saysT] at h ⊢
  split at h
  · cases h
  · next who r2 hn =>
    split at h
    · cases h
    · next r3 hm =>
      split at h
      · next hi =>
        rw [if_pos hi]
        rw [grantT] at h ⊢
        split at h
        · cases h
        · next to r4 ht =>
          split at h
          · cases h
          · next r5 h5 =>
            split at h
            · cases h
            · next x r6 hs =>
              split at h
              · cases h
              · next l r7 hb =>
                injection h with h; injection h with h1 h2
                subst h1; subst h2
                simp [mrg]
      · next hi =>
        rw [if_neg hi]
        rw [ruleT] at h ⊢
        split at h
        · cases h
        · next x r6 hs =>
          split at h
          · cases h
          · next l r7 hb =>
            injection h with h; injection h with h1 h2
            subst h1; subst h2
            simp [mrg]
theorem stmtT_mrg : Mrgs stmtT := by
  intro a st r st1 r1 h
  rw [stmtT] at h ⊢
  split at h
  · cases h
  · next st2 r2 h2 =>
    split at h
    · cases h
    · next r3 hm =>
      injection h with h; injection h with h3 h4
      subst h3; subst h4
      rcases partT_mrg a _ _ _ _ h2 with h | ⟨k, h⟩
      · left; rw [h]; simp only; rw [hm]
      · right; exact ⟨k, by rw [h]⟩
theorem polF_mrg (a : PSt) : ∀ (f : Nat) (st : PSt) (r : Toks) (st1 : PSt), polF f st r = .ok st1 → polF f (mrg a st) r = .ok (mrg a st1) ∨ ∃ k, polF f (mrg a st) r = .error (k, 5)
  | 0, _, _, _, e => by cases e
  | f + 1, st, r, st1, e => by
    rw [polF] at e ⊢
    split at e
    · next h0 =>
      injection e with e
      subst e
      exact .inl (by rw [if_pos h0])
    · next h0 =>
      rw [if_neg h0]
      split at e
      · cases e
      · next st2 r2 hs =>
        rcases stmtT_mrg a _ _ _ _ hs with h | ⟨k, h⟩
        · rw [h]; exact polF_mrg a f st2 r2 st1 e
        · exact .inr ⟨k, by rw [h]⟩
/-- Two policies, one after the other. -/
theorem polT_two {a b : Toks} {s1 s2 : PSt} (ha : polT a = .ok s1) (hb : polT b = .ok s2) : polT (a ++ b) = .ok (mrg s1 s2) ∨ ∃ k, polT (a ++ b) = .error (k, 5) := by
  have h1 : polT (a ++ b) = polG s1 b := polG_app b _ _ _ _ (Nat.lt_succ_self _) ha
  rw [h1]
  have := polF_mrg s1 _ _ _ _ hb
  rw [mrg_0] at this
  exact this
theorem polF_q : ∀ (f : Nat) (st : PSt) (r : Toks) (st1 : PSt), polF f st r = .ok st1 → (st.q = false → st.p.qu = 0) → (st.b = false → st.p.bu = 0) → (st1.q = false → st1.p.qu = 0) ∧ (st1.b = false → st1.p.bu = 0)
  | 0, _, _, _, e, _, _ => by cases e
  | f + 1, st, r, st1, e, h1, h2 => by
    rw [polF] at e
    split at e
    · injection e with e
      subst e
      exact ⟨h1, h2⟩
    · split at e
      · cases e
      · next st2 r2 hs =>
        refine polF_q f st2 r2 st1 e ?_ ?_
        all_goals
          rw [stmtT] at hs
          split at hs
          · cases hs
          · next st3 r3 h3 =>
            split at hs
            · cases hs
            · injection hs with hs; injection hs with e1 e2
              subst e1
              rw [partT] at h3
              split at h3
              · rw [principalT] at h3
                split at h3
                · cases h3
                · injection h3 with h3; injection h3 with e3 e4; subst e3; assumption
              split at h3
              · rw [predT] at h3
                split at h3
                · cases h3
                · split at h3
                  · cases h3
                  · split at h3
                    · cases h3
                    · injection h3 with h3; injection h3 with e3 e4; subst e3; assumption
              split at h3
              · rw [clearT] at h3
                split at h3
                · cases h3
                · split at h3
                  · cases h3
                  · split at h3
                    · cases h3
                    · injection h3 with h3; injection h3 with e3 e4; subst e3; assumption
              split at h3
              · rw [quotaT] at h3
                split at h3
                · cases h3
                · injection h3 with h3; injection h3 with e3 e4; subst e3; first | assumption | exact fun h => by cases h
              split at h3
              · rw [budgetT] at h3
                split at h3
                · cases h3
                · injection h3 with h3; injection h3 with e3 e4; subst e3; first | assumption | exact fun h => by cases h
              · rw [saysT] at h3
                split at h3
                · cases h3
                · split at h3
                  · cases h3
                  · split at h3
                    · rw [grantT] at h3
                      split at h3
                      · cases h3
                      · split at h3
                        · cases h3
                        · split at h3
                          · cases h3
                          · split at h3
                            · cases h3
                            · injection h3 with h3; injection h3 with e3 e4; subst e3; assumption
                    · rw [ruleT] at h3
                      split at h3
                      · cases h3
                      · split at h3
                        · cases h3
                        · injection h3 with h3; injection h3 with e3 e4; subst e3; assumption
end Go.Proofs.YtnfjjckbgnieeaaGreatDoor

namespace Go.Proofs.YtnfjjckbgnieeaaGreatDoor
open Go.RowKit

def Bad (x : PErr) : Prop := x.2 = 3 ∨ x.2 = 4 ∨ x.2 = 5
theorem nameT_bad {m : Txt → Bool} {r : Toks} {e : PErr} (h : nameT m r = .error e) : Bad e := by rw [nameT_err h]; exact .inl rfl
theorem mustT_bad {s : Txt} {r : Toks} {e : PErr} (h : mustT s r = .error e) : Bad e := by rw [mustT_err h]; exact .inl rfl
theorem eachF_bad {σ : Type} {one : σ → Toks → Except PErr (σ × Toks)} (h : ∀ s r e, one s r = .error e → Bad e) : ∀ (f : Nat) (s : σ) (r : Toks) (e : PErr), eachF one f s r = .error e → Bad e
  | 0, _, _, _, e => by rw [eachF] at e; injection e with e; rw [← e]; exact .inl rfl
  | f + 1, s, r, x, e => by
    rw [eachF] at e
    split at e
    · next e1 => injection e with e; rw [← e]; exact h _ _ _ e1
    · split at e
      · exact eachF_bad h f _ _ _ e
      · cases e
theorem termStep_bad (a : Atm) (r : Toks) (e : PErr) (h : termStep a r = .error e) : Bad e := by
  rw [termStep] at h
  split at h
  · next hn => injection h with h; rw [← h]; exact nameT_bad hn
  · split at h
    · injection h with h; rw [← h]; exact .inr (.inl rfl)
    · cases h
theorem readStep_bad (a : List Txt) (r : Toks) (e : PErr) (h : readStep a r = .error e) : Bad e := by
  rw [readStep] at h
  split at h
  · next hn => injection h with h; rw [← h]; exact nameT_bad hn
  · cases h
theorem saidT_bad {who : Txt} {r : Toks} {e : PErr} (h : saidT who r = .error e) : Bad e := by
  rw [saidT] at h
  split at h
  · next hn => injection h with h; rw [← h]; exact nameT_bad hn
  · split at h
    · split at h
      · next he => injection h with h; rw [← h]; exact eachF_bad termStep_bad _ _ _ _ he
      · split at h
        · next hm => injection h with h; rw [← h]; exact mustT_bad hm
        · cases h
    · cases h
theorem atomT_bad {r : Toks} {e : PErr} (h : atomT r = .error e) : Bad e := by
  rw [atomT] at h
  split at h
  · next hn => injection h with h; rw [← h]; exact nameT_bad hn
  · split at h
    · next hm => injection h with h; rw [← h]; exact mustT_bad hm
    · exact saidT_bad h
theorem atomStep_bad (a : List Atm) (r : Toks) (e : PErr) (h : atomStep a r = .error e) : Bad e := by
  rw [atomStep] at h
  split at h
  · next hn => injection h with h; rw [← h]; exact atomT_bad hn
  · cases h
theorem bodyT_bad {r : Toks} {e : PErr} (h : bodyT r = .error e) : Bad e := by
  rw [bodyT] at h
  split at h
  · exact eachF_bad atomStep_bad _ _ _ _ h
  · cases h
theorem numT_bad {r : Toks} {e : PErr} (h : numT r = .error e) : Bad e := by
  rw [numT] at h
  split at h
  · next hn => injection h with h; rw [← h]; exact nameT_bad hn
  · cases h
theorem singleT_bad {was : Bool} {r : Toks} {e : PErr} (h : singleT was r = .error e) : Bad e := by
  rw [singleT] at h
  split at h
  · injection h with h; rw [← h]; exact .inr (.inr rfl)
  · exact numT_bad h
theorem partT_bad {st : PSt} {r : Toks} {e : PErr} (h : partT st r = .error e) : Bad e := by
  rw [partT] at h
  split at h
  · rw [principalT] at h
    split at h
    · next hn => injection h with h; rw [← h]; exact nameT_bad hn
    · cases h
  split at h
  · rw [predT] at h
    split at h
    · next hn => injection h with h; rw [← h]; exact nameT_bad hn
    · split at h
      · next hm => injection h with h; rw [← h]; exact mustT_bad hm
      · split at h
        · next hk => injection h with h; rw [← h]; exact numT_bad hk
        · cases h
  split at h
  · rw [clearT] at h
    split at h
    · next hn => injection h with h; rw [← h]; exact nameT_bad hn
    · split at h
      · next hm => injection h with h; rw [← h]; exact mustT_bad hm
      · split at h
        · next hk => injection h with h; rw [← h]; exact eachF_bad readStep_bad _ _ _ _ hk
        · cases h
  split at h
  · rw [quotaT] at h
    split at h
    · next hn => injection h with h; rw [← h]; exact singleT_bad hn
    · cases h
  split at h
  · rw [budgetT] at h
    split at h
    · next hn => injection h with h; rw [← h]; exact singleT_bad hn
    · cases h
  · rw [saysT] at h
    split at h
    · next hn => injection h with h; rw [← h]; exact nameT_bad hn
    · split at h
      · next hm => injection h with h; rw [← h]; exact mustT_bad hm
      · split at h
        · rw [grantT] at h
          split at h
          · next hn => injection h with h; rw [← h]; exact nameT_bad hn
          · split at h
            · next hm => injection h with h; rw [← h]; exact mustT_bad hm
            · split at h
              · next hs => injection h with h; rw [← h]; exact saidT_bad hs
              · split at h
                · next hb => injection h with h; rw [← h]; exact bodyT_bad hb
                · cases h
        · rw [ruleT] at h
          split at h
          · next hs => injection h with h; rw [← h]; exact saidT_bad hs
          · split at h
            · next hb => injection h with h; rw [← h]; exact bodyT_bad hb
            · cases h
theorem polF_bad : ∀ (f : Nat) (st : PSt) (r : Toks) (e : PErr), polF f st r = .error e → Bad e
  | 0, _, _, _, e => by rw [polF] at e; injection e with e; rw [← e]; exact .inl rfl
  | f + 1, st, r, x, e => by
    rw [polF] at e
    split at e
    · cases e
    · split at e
      · next hs =>
        injection e with e
        subst e
        rw [stmtT] at hs
        split at hs
        · next hp => injection hs with hs; rw [← hs]; exact partT_bad hp
        · split at hs
          · next hm => injection hs with hs; rw [← hs]; exact mustT_bad hm
          · cases hs
      · exact polF_bad f _ _ _ e
theorem oneT_bad {stop : Option Txt} {ts : Toks} {e : PErr} (h : oneT stop ts = .error e) : Bad e := by
  rw [oneT] at h
  split at h
  · next ha => injection h with h; rw [← h]; exact atomT_bad ha
  · split at h
    · next hs =>
      injection h with h; rw [← h]
      cases stop with
      | none => cases hs
      | some x => exact mustT_bad hs
    · split at h
      · cases h
      · injection h with h; rw [← h]; exact .inl rfl
theorem bad_ne {e : PErr} (h : Bad e) : e.2 ≠ 0 := by rcases h with h | h | h <;> rw [h] <;> decide
/-- How a policy's text is read. -/
theorem policy_cases (s : Txt) : (∃ st, (allL s).2.2 = 0 ∧ polT (txtsK (allL s).1) = .ok st ∧ policyL s = (st.p, 0, 0)) ∨ ((policyL s).2.2 ≠ 0 ∧ (policyL s).1 = pol0 ∧ ((allL s).2.2 = 0 → ∃ e, polT (txtsK (allL s).1) = .error e)) := by
  unfold policyL
  by_cases h0 : (allL s).2.2 = 0
  · rw [if_pos h0]
    cases h : polT (txtsK (allL s).1) with
    | ok st => exact .inl ⟨st, h0, rfl, rfl⟩
    | error e =>
      have hb := bad_ne (polF_bad _ _ _ _ h)
      obtain ⟨k, er⟩ := e
      exact .inr ⟨hb, rfl, fun _ => ⟨_, rfl⟩⟩
  · rw [if_neg h0]
    exact .inr ⟨h0, rfl, fun h => absurd h h0⟩
theorem one_cases (stop : Option Txt) (s : Txt) : (∃ a, (allL s).2.2 = 0 ∧ oneT stop (txtsK (allL s).1) = .ok a ∧ oneL stop s = (a, 0, 0)) ∨ ((oneL stop s).2.2 ≠ 0 ∧ (oneL stop s).1 = zeroA ∧ ((allL s).2.2 = 0 → ∃ e, oneT stop (txtsK (allL s).1) = .error e)) := by
  unfold oneL
  by_cases h0 : (allL s).2.2 = 0
  · rw [if_pos h0]
    cases h : oneT stop (txtsK (allL s).1) with
    | ok st => exact .inl ⟨st, h0, rfl, rfl⟩
    | error e =>
      have hb := bad_ne (oneT_bad h)
      obtain ⟨k, er⟩ := e
      exact .inr ⟨hb, rfl, fun _ => ⟨_, rfl⟩⟩
  · rw [if_neg h0]
    exact .inr ⟨h0, rfl, fun h => absurd h h0⟩
/-- What was read stays so without what stands behind it. -/
theorem nameT_back {m : Txt → Bool} {r t r1 : Toks} {x : Txt} (h : nameT m (r ++ t) = .ok (x, r1 ++ t)) : nameT m r = .ok (x, r1) := by
  obtain ⟨h1, hm⟩ := nameT_ok h
  have : r = x :: r1 := List.append_cancel_right (show r ++ t = (x :: r1) ++ t from h1)
  rw [this, nameT, if_pos hm]
theorem isT_back {s : Txt} {r t : Toks} (h : isT s (r ++ t) = false) : isT s r = false := by
  cases r with
  | nil => rfl
  | cons x r => exact h
theorem termStep_back {a : Atm} {r t : Toks} {a1 : Atm} {r1 : Toks} (h : termStep a (r ++ t) = .ok (a1, r1 ++ t)) : termStep a r = .ok (a1, r1) := by
  rw [termStep] at h
  split at h
  · cases h
  · next s r2 hn =>
    split at h
    · cases h
    · next h4 =>
      injection h with h; injection h with h1 h2
      subst h2
      rw [termStep, nameT_back hn]
      simp only
      rw [if_neg h4, h1]
theorem eachF_back : ∀ (f : Nat) (a : Atm) (r t : Toks) (a1 : Atm) (r1 : Toks), eachF termStep f a (r ++ t) = .ok (a1, r1 ++ t) → eachT termStep a r = .ok (a1, r1)
  | 0, _, _, _, _, _, e => by cases e
  | f + 1, a, r, t, a1, r1, e => by
    rw [eachF] at e
    rw [eachT_step termStep_eats]
    cases e1 : termStep a (r ++ t) with
    | error x => rw [e1] at e; cases e
    | ok q =>
      obtain ⟨a2, r2⟩ := q
      rw [e1] at e
      simp only at e
      split at e
      · next hi =>
        have hr2 := isT_yes hi
        obtain ⟨p, hp, hp2⟩ := eachF_eats termStep_eats _ _ _ _ _ e
        have e2 : r2 = ([44] :: (p ++ r1)) ++ t := by rw [hr2, hp2]; simp
        rw [e2] at e1
        rw [termStep_back e1]
        simp only
        rw [if_pos (by rfl)]
        rw [hp2, ← List.append_assoc] at e
        exact eachF_back f a2 (p ++ r1) t a1 r1 e
      · next hi =>
        injection e with e; injection e with e2 e3
        subst e3
        rw [termStep_back e1]
        simp only
        rw [if_neg (by rw [isT_back (r := r1) (t := t) (by cases hb : isT [44] (r1 ++ t) with | true => exact absurd hb hi | false => rfl)]; decide), e2]
theorem saidT_back {who : Txt} {r t : Toks} {a : Atm} {r1 : Toks} (h : saidT who (r ++ t) = .ok (a, r1 ++ t)) : saidT who r = .ok (a, r1) := by
  rw [saidT] at h ⊢
  split at h
  · cases h
  · next s r2 hn =>
    split at h
    · next hi =>
      split at h
      · cases h
      · next a2 r3 he =>
        split at h
        · cases h
        · next r4 hm =>
          injection h with h; injection h with h1 h2
          subst h1; subst h2
          have hm2 := mustT_ok hm
          obtain ⟨p, hp, hp2⟩ := eachT_eats termStep_eats _ _ _ _ he
          have hr2 := isT_yes hi
          have e2 : r2 = ([40] :: (p ++ ([41] :: r1))) ++ t := by rw [hr2, hp2, hm2]; simp
          rw [e2] at hn
          rw [nameT_back hn]
          simp only
          rw [if_pos (by rfl)]
          have e3 : r2.drop 1 = (p ++ ([41] :: r1)) ++ t := by rw [e2]; rfl
          rw [e3, hm2] at he
          have he2 := eachF_back _ _ _ t _ ([41] :: r1) he
          have e4 : ([40] :: (p ++ ([41] :: r1))).drop 1 = p ++ ([41] :: r1) := rfl
          rw [e4, he2]
          simp only
          rw [mustT, if_pos rfl]
    · next hi =>
      injection h with h; injection h with h1 h2
      subst h1; subst h2
      rw [nameT_back hn]
      simp only
      rw [if_neg (by rw [isT_back (r := r1) (t := t) (by cases hb : isT [40] (r1 ++ t) with | true => exact absurd hb hi | false => rfl)]; decide)]
theorem atomT_back {r t : Toks} {a : Atm} {r1 : Toks} (h : atomT (r ++ t) = .ok (a, r1 ++ t)) : atomT r = .ok (a, r1) := by
  rw [atomT] at h ⊢
  split at h
  · cases h
  · next s r2 hn =>
    split at h
    · cases h
    · next r3 hm =>
      obtain ⟨p, hp, hp2⟩ := saidT_eats h
      have e3 : r3 = (p ++ r1) ++ t := by rw [hp2]; simp
      have e2 : r2 = (wSays :: (p ++ r1)) ++ t := by rw [mustT_ok hm, e3]; rfl
      rw [e2] at hn
      rw [nameT_back hn]
      simp only
      rw [mustT, if_pos rfl]
      rw [e3] at h
      exact saidT_back h
theorem quiet_stop {x : Txt} (h : x = [63] ∨ x = [46]) : Quiet [x] := by
  rcases h with rfl | rfl <;> exact ⟨by decide, by decide, by decide, by decide⟩
/-- An atom alone, and with a stop behind it. -/
theorem one_stop (x : Txt) (hx : x = [63] ∨ x = [46]) (ts : Toks) : (∀ a, oneT none ts = .ok a → oneT (some x) (ts ++ [x]) = .ok a) ∧ (∀ a, oneT (some x) (ts ++ [x]) = .ok a → oneT none ts = .ok a) := by
  constructor
  · intro a h
    rw [oneT] at h
    split at h
    · cases h
    · next b r1 ha =>
      simp only [stopT] at h
      split at h
      · next h0 =>
        injection h with h
        subst h
        have e := List.eq_nil_of_length_eq_zero h0
        subst e
        rw [oneT, atomT_exts ha (.inr (quiet_stop hx))]
        simp only [List.nil_append, stopT, mustT, if_true, List.length_nil]
      · cases h
  · intro a h
    rw [oneT] at h
    split at h
    · cases h
    · next b r1 ha =>
      simp only [stopT] at h
      split at h
      · cases h
      · next r2 hm =>
        split at h
        · next h0 =>
          injection h with h
          subst h
          have e := List.eq_nil_of_length_eq_zero h0
          subst e
          have e1 := mustT_ok hm
          subst e1
          rw [oneT, atomT_back (r1 := []) (t := [x]) ha]
          simp only [stopT, List.length_nil, if_true]
        · cases h
theorem princ_words {x : Txt} (h : principalB x = true) : x ≠ wPrincipal ∧ x ≠ wPred ∧ x ≠ wClear ∧ x ≠ wQuota ∧ x ≠ wBudget ∧ x ≠ wSays ∧ x ≠ wIf ∧ x ≠ wCansay := by
  refine ⟨?_, ?_, ?_, ?_, ?_, ?_, ?_, ?_⟩ <;> (intro e; subst e; exact absurd h (by decide))
/-- A rule of an atom alone. -/
theorem pol_stop {ts : Toks} {a : Atm} (h : oneT none ts = .ok a) : polT (ts ++ [[46]]) = .ok { pst0 with p := { pol0 with ru := [(a, [])] } } := by
  rw [oneT] at h
  split at h
  · cases h
  · next b r1 ha =>
    simp only [stopT] at h
    split at h
    · next h0 =>
      injection h with h
      subst h
      have e := List.eq_nil_of_length_eq_zero h0
      subst e
      have hx := atomT_exts (t := [[46]]) ha (.inr (quiet_stop (.inr rfl)))
      rw [List.nil_append] at hx
      show polG pst0 (ts ++ [[46]]) = _
      rw [polG_step, if_neg (by simp)]
      rw [atomT] at hx
      split at hx
      · cases hx
      · next s r2 hn =>
        obtain ⟨h2, h3⟩ := nameT_ok hn
        split at hx
        · cases hx
        · next r3 hm =>
          have w := princ_words h3
          have hno : ∀ k, s ≠ k → isT k (ts ++ [[46]]) = false := fun k hk => by rw [h2]; exact decide_eq_false hk
          have hcan : isT wCansay (r3.drop 1) = false := by
            obtain ⟨p, hp, hp2⟩ := saidT_eats hx
            rw [saidT] at hx
            split at hx
            · cases hx
            · next s5 r5 hn5 =>
              rw [(nameT_ok hn5).1]
              show isT wCansay r5 = false
              split at hx
              · next hi => rw [isT_yes hi]; rfl
              · injection hx with hx; injection hx with _ h7; rw [h7]; rfl
          have hst : stmtT pst0 (ts ++ [[46]]) = .ok ({ pst0 with p := { pol0 with ru := [(b, [])] } }, []) := by
            rw [stmtT, partT, hno _ w.1, hno _ w.2.1, hno _ w.2.2.1, hno _ w.2.2.2.1, hno _ w.2.2.2.2.1]
            simp only [Bool.false_eq_true, if_false]
            rw [saysT, hn]
            simp only
            rw [hm]
            simp only
            rw [hcan, if_neg (by decide), ruleT, hx]
            simp only
            rw [bodyT, show isT wIf [[46]] = false from by decide, if_neg (by decide)]
            rfl
          rw [hst]
          rfl
    · cases h
end Go.Proofs.YtnfjjckbgnieeaaGreatDoor

namespace Go.Proofs.YtnfjjckbgnieeaaGreatDoor
open Go.RowKit

theorem toksF_sum : ∀ (f : Nat) (r : Txt) (i : Nat), ((toksF f r i).1.map fun t => t.2.1.length).sum ≤ r.length
  | 0, _, _ => by simp [toksF]
  | f + 1, r, i => by
    have hk := skipN_le false r
    rw [toksF]
    cases h : tokN (r.drop (skipN false r)) with
    | none => simp
    | some y =>
      cases y with
      | error e => simp
      | ok p =>
        obtain ⟨q, t⟩ := p
        have ih := toksF_sum f (r.drop (skipN false r + t.length)) (i + skipN false r + t.length)
        obtain ⟨_, r', hr⟩ := tokN_len h
        have hl := congrArg List.length hr
        rw [List.length_drop, List.length_append] at hl
        rw [List.length_drop] at ih
        simp only [List.map_cons, List.sum_cons]
        omega
theorem allL_toks {s : Txt} (hs : s.length ≤ 65536) (h : (allL s).2.2 = 0) : (allL s).1 = (toksL s).1 := by
  unfold allL at h ⊢
  rw [if_neg (by omega)] at h ⊢
  cases h2 : toksL s with
  | mk l x =>
    cases x with
    | none => rfl
    | some y =>
      obtain ⟨a, e⟩ := y
      rw [h2] at h
      exact absurd h (toksF_err (s.length + 1) s 0 a e (by rw [show toksF (s.length + 1) s 0 = toksL s from rfl, h2])).2
theorem toks_many {s : Txt} : (toksL s).1.length ≤ s.length := by
  have h := toksF_sum (s.length + 1) s 0
  have hg := toksF_good (s.length + 1) s 0
  have h1 : ∀ (L : List Tk), (∀ t ∈ L, WordT t.1 t.2.1) → L.length ≤ (L.map fun t => t.2.1.length).sum := by
    intro L
    induction L with
    | nil => intro _; simp
    | cons t L ih =>
      intro hL
      have h2 := ih (fun u hu => hL u (List.mem_cons_of_mem _ hu))
      have h3 := List.length_pos_iff.2 (hL t List.mem_cons_self).2.2
      rw [List.length_cons, List.map_cons, List.sum_cons]
      omega
  exact Nat.le_trans (h1 _ (fun t ht => (hg t ht).1)) h
end Go.Proofs.YtnfjjckbgnieeaaGreatDoor
