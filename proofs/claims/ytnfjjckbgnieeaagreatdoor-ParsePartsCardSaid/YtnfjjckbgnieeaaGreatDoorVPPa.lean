/- Two texts of policies, one after the other; an atom with its delimiters. In plain words. No program's function in sight. -/
import Derived.Test.YtnfjjckbgnieeaaGreatDoorVPBk
import Derived.Test.YtnfjjckbgnieeaaGreatDoorVPTr
namespace Go.Proofs.YtnfjjckbgnieeaaGreatDoor
open Go.RowKit

theorem toks_two (s t : Txt) : toksL (s ++ 10 :: t) = match toksL s with
    | (l, some e) => (l, some e)
    | (l, none) => (l ++ (toksL t).1.map (fun u => (u.1, u.2.1, s.length + 1 + u.2.2)), (toksL t).2.map fun e => (s.length + 1 + e.1, e.2)) := by
  have h := toksF_join t (s.length + 1) s 0 ((s ++ 10 :: t).length + 1) (by omega) (by omega)
  have hm : toksF ((s ++ 10 :: t).length + 1) t (0 + s.length + 1) = ((toksL t).1.map (fun u => (u.1, u.2.1, s.length + 1 + u.2.2)), (toksL t).2.map fun e => (s.length + 1 + e.1, e.2)) := by
    have h1 := toksF_more (t.length + 1) ((s ++ 10 :: t).length + 1) t (0 + s.length + 1) (by omega) (by simp; omega)
    have h2 := toksF_shift (t.length + 1) t 0 (s.length + 1)
    rw [← h1, show 0 + s.length + 1 = s.length + 1 + 0 by omega, h2]; rfl
  rw [show toksL (s ++ 10 :: t) = toksF ((s ++ 10 :: t).length + 1) (s ++ 10 :: t) 0 from rfl, h, hm]; rfl
theorem allL_ok {s : Txt} (hs : s.length ≤ 65536) (h : (allL s).2.2 = 0) : (toksL s).2 = none ∧ (allL s).1 = (toksL s).1 := by
  unfold allL at h ⊢
  rw [if_neg (by omega)] at h ⊢
  cases h2 : toksL s with
  | mk l x =>
    cases x with
    | none => exact ⟨rfl, rfl⟩
    | some y =>
      obtain ⟨a, e⟩ := y
      rw [h2] at h
      exact absurd h (toksF_err (s.length + 1) s 0 a e (by rw [show toksF (s.length + 1) s 0 = toksL s from rfl, h2])).2
theorem allL_of {s : Txt} (hs : s.length ≤ 65536) (h : (toksL s).2 = none) : allL s = ((toksL s).1, 0, 0) := by
  unfold allL
  rw [if_neg (by omega)]
  cases h2 : toksL s with
  | mk l x =>
    rw [h2] at h
    have h3 : x = none := h
    subst h3
    rfl
theorem txts_shift (L : List Tk) (d : Nat) : txtsK (L.map (fun u => (u.1, u.2.1, d + u.2.2))) = txtsK L := by
  unfold txtsK
  rw [List.map_map]
  rfl
theorem txts_app (A B : List Tk) : txtsK (A ++ B) = txtsK A ++ txtsK B := by
  unfold txtsK
  rw [List.map_append]
/-- The tokens of two texts, one after the other. -/
theorem all_two {s t : Txt} (h1 : (s ++ 10 :: t).length ≤ 65536) : ((allL s).2.2 = 0 → (allL t).2.2 = 0 → (allL (s ++ 10 :: t)).2.2 = 0 ∧ txtsK (allL (s ++ 10 :: t)).1 = txtsK (allL s).1 ++ txtsK (allL t).1) ∧ (¬ (allL s).2.2 = 0 → ¬ (allL (s ++ 10 :: t)).2.2 = 0) := by
  have hl : (s ++ 10 :: t).length = s.length + (t.length + 1) := by rw [List.length_append, List.length_cons]
  have ht := toks_two s t
  constructor
  · intro hs hu
    obtain ⟨a1, a2⟩ := allL_ok (by omega) hs
    obtain ⟨b1, b2⟩ := allL_ok (by omega) hu
    cases h2 : toksL s with
    | mk l x =>
      rw [h2] at a1 a2 ht
      have h3 : x = none := a1
      subst h3
      simp only at ht a2
      have h4 : (toksL (s ++ 10 :: t)).2 = none := by rw [ht, b1]; rfl
      rw [allL_of h1 h4, ht, a2, b2]
      refine ⟨rfl, ?_⟩
      show txtsK (l ++ _) = _
      rw [txts_app, txts_shift]
  · intro hs h
    apply hs
    obtain ⟨a1, a2⟩ := allL_ok h1 h
    cases h2 : toksL s with
    | mk l x =>
      rw [h2] at ht
      cases x with
      | none => rw [allL_of (by omega) (by rw [h2])]
      | some e => rw [ht] at a1; cases a1
theorem part_once {a st : PSt} {r : Toks} {X st1 : PSt} {r1 r2 : Toks} (h : partT (mrg a st) r = .ok (X, r1)) (h1 : partT st r = .ok (st1, r2)) : (a.q = true → st1.q = st.q) ∧ (a.b = true → st1.b = st.b) := by
  rw [partT] at h h1
  split at h1
  · rw [principalT] at h1
    split at h1
    · cases h1
    · injection h1 with h1; injection h1 with e3 e4; subst e3; exact ⟨fun _ => rfl, fun _ => rfl⟩
  rw [if_neg (by assumption)] at h
  split at h1
  · rw [predT] at h1
    split at h1
    · cases h1
    · split at h1
      · cases h1
      · split at h1
        · cases h1
        · injection h1 with h1; injection h1 with e3 e4; subst e3; exact ⟨fun _ => rfl, fun _ => rfl⟩
  rw [if_neg (by assumption)] at h
  split at h1
  · rw [clearT] at h1
    split at h1
    · cases h1
    · split at h1
      · cases h1
      · split at h1
        · cases h1
        · injection h1 with h1; injection h1 with e3 e4; subst e3; exact ⟨fun _ => rfl, fun _ => rfl⟩
  rw [if_neg (by assumption)] at h
  split at h1
  · next hi =>
    rw [if_pos hi] at h
    rw [quotaT] at h h1
    split at h1
    · cases h1
    · injection h1 with h1; injection h1 with e3 e4; subst e3
      refine ⟨fun ha => ?_, fun _ => rfl⟩
      have hq : (mrg a st).q = true := by show (a.q || st.q) = true; rw [ha]; rfl
      rw [hq, singleT, if_pos rfl] at h
      cases h
  rw [if_neg (by assumption)] at h
  split at h1
  · next hi =>
    rw [if_pos hi] at h
    rw [budgetT] at h h1
    split at h1
    · cases h1
    · injection h1 with h1; injection h1 with e3 e4; subst e3
      refine ⟨fun _ => rfl, fun ha => ?_⟩
      have hq : (mrg a st).b = true := by show (a.b || st.b) = true; rw [ha]; rfl
      rw [hq, singleT, if_pos rfl] at h
      cases h
  · rw [saysT] at h1
    split at h1
    · cases h1
    · split at h1
      · cases h1
      · split at h1
        · rw [grantT] at h1
          split at h1
          · cases h1
          · split at h1
            · cases h1
            · split at h1
              · cases h1
              · split at h1
                · cases h1
                · injection h1 with h1; injection h1 with e3 e4; subst e3; exact ⟨fun _ => rfl, fun _ => rfl⟩
        · rw [ruleT] at h1
          split at h1
          · cases h1
          · split at h1
            · cases h1
            · injection h1 with h1; injection h1 with e3 e4; subst e3; exact ⟨fun _ => rfl, fun _ => rfl⟩
theorem polF_once (a : PSt) : ∀ (f : Nat) (st : PSt) (r : Toks) (X st1 : PSt), polF f (mrg a st) r = .ok X → polF f st r = .ok st1 → (a.q = true → st1.q = st.q) ∧ (a.b = true → st1.b = st.b)
  | 0, _, _, _, _, e, _ => by cases e
  | f + 1, st, r, X, st1, e, e1 => by
    rw [polF] at e e1
    split at e1
    · injection e1 with e1
      subst e1
      exact ⟨fun _ => rfl, fun _ => rfl⟩
    · next h0 =>
      rw [if_neg h0] at e
      split at e1
      · cases e1
      · next st2 r2 hs =>
        rcases stmtT_mrg a _ _ _ _ hs with h | ⟨k, h⟩
        · rw [h] at e
          have ih := polF_once a f st2 r2 X st1 e e1
          rw [stmtT] at h hs
          split at h
          · cases h
          · next sa ra hpa =>
            split at hs
            · cases hs
            · next sb rb hpb =>
              have hp := part_once hpa hpb
              split at hs
              · cases hs
              · injection hs with hs; injection hs with e3 e4
                subst e3
                exact ⟨fun ha => (ih.1 ha).trans (hp.1 ha), fun ha => (ih.2 ha).trans (hp.2 ha)⟩
        · rw [h] at e
          cases e
/-- Two policies' lists, one behind the other. -/
def bothP (a b : Pol) : Pol := ⟨a.pr ++ b.pr, a.pd ++ b.pd, a.cl ++ b.cl, max a.qu b.qu, max a.bu b.bu, a.ru ++ b.ru, a.gr ++ b.gr⟩
theorem mrg_both {a b : Toks} {s1 s2 : PSt} (ha : polT a = .ok s1) (hb : polT b = .ok s2) (h : polT (a ++ b) = .ok (mrg s1 s2)) : (mrg s1 s2).p = bothP s1.p s2.p := by
  have h1 : polT (a ++ b) = polG s1 b := polG_app b _ _ _ _ (Nat.lt_succ_self _) ha
  have h2 : polF (b.length + 1) (mrg s1 pst0) b = .ok (mrg s1 s2) := by rw [mrg_0]; exact h1.symm.trans h
  have ho := polF_once s1 _ pst0 b _ s2 h2 hb
  have q1 := polF_q _ _ _ _ ha (fun _ => rfl) (fun _ => rfl)
  have q2 := polF_q _ _ _ _ hb (fun _ => rfl) (fun _ => rfl)
  have k1 := polT_ok ha
  have k2 := polT_ok hb
  obtain ⟨⟨pr, pd, cl, qu, bu, ru, gr⟩, q, b1⟩ := s1
  obtain ⟨⟨pr2, pd2, cl2, qu2, bu2, ru2, gr2⟩, q', b2⟩ := s2
  obtain ⟨-, -, -, ⟨u1, -⟩, ⟨v1, -⟩, -, -⟩ := k1
  obtain ⟨-, -, -, ⟨u2, -⟩, ⟨v2, -⟩, -, -⟩ := k2
  simp only at u1 v1 u2 v2 q1 q2 ho
  have eq : (if q' = true then qu2 else qu) = max qu qu2 := by
    cases q' with
    | true =>
      have hq : q = false := by
        cases q with
        | false => rfl
        | true => exact absurd (ho.1 rfl) (by decide)
      have h0 := q1.1 hq
      rw [if_pos rfl]; omega
    | false =>
      have h0 := q2.1 rfl
      rw [if_neg (by decide)]; omega
  have eb : (if b2 = true then bu2 else bu) = max bu bu2 := by
    cases b2 with
    | true =>
      have hq : b1 = false := by
        cases b1 with
        | false => rfl
        | true => exact absurd (ho.2 rfl) (by decide)
      have h0 := q1.2 hq
      rw [if_pos rfl]; omega
    | false =>
      have h0 := q2.2 rfl
      rw [if_neg (by decide)]; omega
  unfold mrg bothP
  simp only [eq, eb]
/-- The texts of two policies, one after the other. -/
theorem parts_policy {s t : Txt} (hl : (s ++ 10 :: t).length ≤ 65536) (hs : (policyL s).2.2 = 0) (ht : (policyL t).2.2 = 0) :
    ((policyL (s ++ 10 :: t)).2.2 = 0 ∧ (policyL (s ++ 10 :: t)).1 = bothP (policyL s).1 (policyL t).1) ∨ (policyL (s ++ 10 :: t)).2.2 = 5 := by
  rcases policy_cases s with ⟨s1, a1, a2, a3⟩ | ⟨h, -⟩
  · rcases policy_cases t with ⟨s2, b1, b2, b3⟩ | ⟨h, -⟩
    · obtain ⟨c1, c2⟩ := (all_two hl).1 a1 b1
      rw [a3, b3]
      unfold policyL
      rw [if_pos c1, c2]
      rcases polT_two a2 b2 with h | ⟨k, h⟩
      · left
        rw [h]
        exact ⟨rfl, mrg_both a2 b2 h⟩
      · right
        rw [h]
    · exact absurd ht h
  · exact absurd hs h
theorem stop_toks {s : Txt} (c : UInt8) (hc : signB c.toNat = true) (hl : s.length ≤ 60000) :
    ((allL s).2.2 = 0 → (allL (s ++ [10, c])).2.2 = 0 ∧ txtsK (allL (s ++ [10, c])).1 = txtsK (allL s).1 ++ [[c]]) ∧ (¬ (allL s).2.2 = 0 → ¬ (allL (s ++ [10, c])).2.2 = 0) := by
  have h := all_two (s := s) (t := [c]) (by rw [List.length_append, List.length_cons, List.length_singleton]; omega)
  refine ⟨fun hs => ?_, h.2⟩
  have hw := toksL_word (word_sign hc)
  have ha : allL [c] = ([(3, [c], 0)], 0, 0) := by
    rw [allL_of (by rw [List.length_singleton]; omega) (by rw [hw]), hw]
  have h2 := h.1 hs (by rw [ha])
  rw [ha] at h2
  exact h2
theorem one_valid {ts : Toks} {a : Atm} (h : oneT none ts = .ok a) : AOk a := by
  rw [oneT] at h
  split at h
  · cases h
  · next b r1 ha =>
    simp only [stopT] at h
    split at h
    · injection h with h
      subst h
      exact atomT_ok ha
    · cases h
/-- An atom alone; with a question mark; with a stop. -/
theorem parts_one {s : Txt} (hl : s.length ≤ 60000) :
    (¬ (oneL none s).2.2 = 0 → ¬ (oneL (some [63]) (s ++ [10, 63])).2.2 = 0) ∧
    ((oneL none s).2.2 = 0 → (oneL (some [63]) (s ++ [10, 63])).2.2 = 0 ∧ (oneL (some [63]) (s ++ [10, 63])).1 = (oneL none s).1 ∧ (policyL (s ++ [10, 46])).2.2 = 0 ∧ (policyL (s ++ [10, 46])).1 = { pol0 with ru := [((oneL none s).1, [])] } ∧ checkA (oneL none s).1 = 0 ∧ AOk (oneL none s).1) := by
  have hg := stop_toks (s := s) 63 (by decide) hl
  have hp := stop_toks (s := s) 46 (by decide) hl
  rcases one_cases none s with ⟨a, a1, a2, a3⟩ | ⟨h1, -, h3⟩
  · rw [a3]
    refine ⟨fun h => absurd rfl h, fun _ => ?_⟩
    obtain ⟨g1, g2⟩ := hg.1 a1
    obtain ⟨p1, p2⟩ := hp.1 a1
    have k1 := (one_stop [63] (.inl rfl) _).1 a a2
    have k2 := pol_stop a2
    have e1 : oneL (some [63]) (s ++ [10, 63]) = (a, 0, 0) := by
      unfold oneL
      rw [if_pos g1, g2, k1]
    have e2 : policyL (s ++ [10, 46]) = ({ pol0 with ru := [(a, [])] }, 0, 0) := by
      unfold policyL
      rw [if_pos p1, p2, k2]
    rw [e1, e2]
    exact ⟨rfl, rfl, rfl, rfl, (one_valid a2).check, one_valid a2⟩
  · refine ⟨fun _ => ?_, fun h => absurd h h1⟩
    rcases one_cases (some [63]) (s ++ [10, 63]) with ⟨a, a1, a2, a3⟩ | ⟨h4, -⟩
    · by_cases h0 : (allL s).2.2 = 0
      · obtain ⟨e, he⟩ := h3 h0
        obtain ⟨g1, g2⟩ := hg.1 h0
        rw [g2] at a2
        have := (one_stop [63] (.inl rfl) _).2 a a2
        rw [this] at he
        cases he
      · exact absurd a1 (hg.2 h0)
    · exact h4
end Go.Proofs.YtnfjjckbgnieeaaGreatDoor
