/- Parsing, in plain words: what a list of tokens' texts is parsed to. No program's function in sight. Parsing, in plain words: what is eaten; steps of the loops. -/
import Derived.Test.YtnfjjckbgnieeaaGreatDoorVLexP
import Derived.Test.YtnfjjckbgnieeaaGreatDoorVPol
namespace Go.Proofs.YtnfjjckbgnieeaaGreatDoor
open Go.RowKit

/-- Where it fails (how many texts are left there), and the error. -/
abbrev PErr := Nat × Int
abbrev Toks := List Txt
def wSays : Txt := [115, 97, 121, 115]
def wIf : Txt := [105, 102]
def wCansay : Txt := [99, 97, 110, 115, 97, 121]
def wPrincipal : Txt := [112, 114, 105, 110, 99, 105, 112, 97, 108]
def wPred : Txt := [112, 114, 101, 100]
def wClear : Txt := [99, 108, 101, 97, 114]
def wQuota : Txt := [113, 117, 111, 116, 97]
def wBudget : Txt := [98, 117, 100, 103, 101, 116]
/-- Is the next text this one? -/
def isT (s : Txt) : Toks → Bool
  | [] => false
  | t :: _ => decide (t = s)
def mustT (s : Txt) : Toks → Except PErr Toks
  | [] => .error (0, 3)
  | t :: r => if t = s then .ok r else .error (r.length + 1, 3)
def nameT (m : Txt → Bool) : Toks → Except PErr (Txt × Toks)
  | [] => .error (0, 3)
  | t :: r => if m t then .ok (t, r) else .error (r.length + 1, 3)
def numB (s : Txt) : Bool := decide (0 < s.length) && decide (s.length ≤ 7) && s.all (fun c => digitB c.toNat) && (decide (s.length = 1) || !decide (s.head? = some 48))
def numV (s : Txt) : Nat := s.foldl (fun n c => 10 * n + (c.toNat - 48)) 0
def termT (s : Txt) : Bool := constantB s || variableB s
/-- One thing at least, and one more behind each comma. -/
def eachF {σ : Type} (one : σ → Toks → Except PErr (σ × Toks)) : Nat → σ → Toks → Except PErr (σ × Toks)
  | 0, _, r => .error (r.length, 3)
  | f + 1, s, r => match one s r with
    | .error e => .error e
    | .ok (s1, r1) => if isT [44] r1 then eachF one f s1 (r1.drop 1) else .ok (s1, r1)
def eachT {σ : Type} (one : σ → Toks → Except PErr (σ × Toks)) (s : σ) (r : Toks) : Except PErr (σ × Toks) := eachF one (r.length + 1) s r
/-- An atom with its next term. -/
def putT (a : Atm) (t : Tm) : Atm :=
  if a.2.2.1 = 0 then (a.1, a.2.1, 1, t, a.2.2.2.2)
  else if a.2.2.1 = 1 then (a.1, a.2.1, 2, a.2.2.2.1, t, a.2.2.2.2.2)
  else if a.2.2.1 = 2 then (a.1, a.2.1, 3, a.2.2.2.1, a.2.2.2.2.1, t, a.2.2.2.2.2.2)
  else (a.1, a.2.1, 4, a.2.2.2.1, a.2.2.2.2.1, a.2.2.2.2.2.1, t)
def termStep (a : Atm) (r : Toks) : Except PErr (Atm × Toks) := match nameT termT r with
  | .error e => .error e
  | .ok (s, r1) => if a.2.2.1 = 4 then .error (r.length, 4) else .ok (putT a (variableB s, s), r1)
def atom0 (who pred : Txt) : Atm := (who, pred, 0, (false, []), (false, []), (false, []), (false, []))
def saidT (who : Txt) (r : Toks) : Except PErr (Atm × Toks) := match nameT principalB r with
  | .error e => .error e
  | .ok (pred, r1) => if isT [40] r1 then (match eachT termStep (atom0 who pred) (r1.drop 1) with
      | .error e => .error e
      | .ok (a, r2) => match mustT [41] r2 with
        | .error e => .error e
        | .ok r3 => .ok (a, r3))
    else .ok (atom0 who pred, r1)
def atomT (r : Toks) : Except PErr (Atm × Toks) := match nameT principalB r with
  | .error e => .error e
  | .ok (who, r1) => match mustT wSays r1 with
    | .error e => .error e
    | .ok r2 => saidT who r2
def atomStep (l : List Atm) (r : Toks) : Except PErr (List Atm × Toks) := match atomT r with
  | .error e => .error e
  | .ok (a, r1) => .ok (l ++ [a], r1)
def bodyT (r : Toks) : Except PErr (List Atm × Toks) := if isT wIf r then eachT atomStep [] (r.drop 1) else .ok ([], r)
def readStep (l : List Txt) (r : Toks) : Except PErr (List Txt × Toks) := match nameT principalB r with
  | .error e => .error e
  | .ok (x, r1) => .ok (l ++ [x], r1)
/-- What has been read: the policy; was there a quota, a budget? -/
structure PSt where
  p : Pol
  q : Bool
  b : Bool
def pol0 : Pol := ⟨[], [], [], 0, 0, [], []⟩
def pst0 : PSt := ⟨pol0, false, false⟩
def principalT (st : PSt) (r : Toks) : Except PErr (PSt × Toks) := match nameT principalB r with
  | .error e => .error e
  | .ok (x, r1) => .ok ({ st with p := { st.p with pr := st.p.pr ++ [x] } }, r1)
def numT (r : Toks) : Except PErr (Nat × Toks) := match nameT numB r with
  | .error e => .error e
  | .ok (s, r1) => .ok (numV s, r1)
def predT (st : PSt) (r : Toks) : Except PErr (PSt × Toks) := match nameT principalB r with
  | .error e => .error e
  | .ok (x, r1) => match mustT [47] r1 with
    | .error e => .error e
    | .ok r2 => match numT r2 with
      | .error e => .error e
      | .ok (n, r3) => .ok ({ st with p := { st.p with pd := st.p.pd ++ [(x, (n : Int))] } }, r3)
def clearT (st : PSt) (r : Toks) : Except PErr (PSt × Toks) := match nameT principalB r with
  | .error e => .error e
  | .ok (x, r1) => match mustT [58] r1 with
    | .error e => .error e
    | .ok r2 => match eachT readStep [] r2 with
      | .error e => .error e
      | .ok (l, r3) => .ok ({ st with p := { st.p with cl := st.p.cl ++ [(x, l)] } }, r3)
def singleT (was : Bool) (r : Toks) : Except PErr (Nat × Toks) := if was then .error (r.length + 1, 5) else numT r
def quotaT (st : PSt) (r : Toks) : Except PErr (PSt × Toks) := match singleT st.q r with
  | .error e => .error e
  | .ok (n, r1) => .ok ({ st with p := { st.p with qu := n }, q := true }, r1)
def budgetT (st : PSt) (r : Toks) : Except PErr (PSt × Toks) := match singleT st.b r with
  | .error e => .error e
  | .ok (n, r1) => .ok ({ st with p := { st.p with bu := n }, b := true }, r1)
def ruleT (st : PSt) (who : Txt) (r : Toks) : Except PErr (PSt × Toks) := match saidT who r with
  | .error e => .error e
  | .ok (h, r1) => match bodyT r1 with
    | .error e => .error e
    | .ok (l, r2) => .ok ({ st with p := { st.p with ru := st.p.ru ++ [(h, l)] } }, r2)
def grantT (st : PSt) (who : Txt) (r : Toks) : Except PErr (PSt × Toks) := match nameT principalB r with
  | .error e => .error e
  | .ok (to, r1) => match mustT wCansay r1 with
    | .error e => .error e
    | .ok r2 => match saidT who r2 with
      | .error e => .error e
      | .ok (h, r3) => match bodyT r3 with
        | .error e => .error e
        | .ok (l, r4) => .ok ({ st with p := { st.p with gr := st.p.gr ++ [(to, h, l)] } }, r4)
def saysT (st : PSt) (r : Toks) : Except PErr (PSt × Toks) := match nameT principalB r with
  | .error e => .error e
  | .ok (who, r1) => match mustT wSays r1 with
    | .error e => .error e
    | .ok r2 => if isT wCansay (r2.drop 1) then grantT st who r2 else ruleT st who r2
/-- A statement without its stop. -/
def partT (st : PSt) (r : Toks) : Except PErr (PSt × Toks) :=
  if isT wPrincipal r then principalT st (r.drop 1)
  else if isT wPred r then predT st (r.drop 1)
  else if isT wClear r then clearT st (r.drop 1)
  else if isT wQuota r then quotaT st (r.drop 1)
  else if isT wBudget r then budgetT st (r.drop 1)
  else saysT st r
def stmtT (st : PSt) (r : Toks) : Except PErr (PSt × Toks) := match partT st r with
  | .error e => .error e
  | .ok (st1, r1) => match mustT [46] r1 with
    | .error e => .error e
    | .ok r2 => .ok (st1, r2)
def polF : Nat → PSt → Toks → Except PErr PSt
  | 0, _, r => .error (r.length, 3)
  | f + 1, st, r => if r.length = 0 then .ok st else match stmtT st r with
    | .error e => .error e
    | .ok (st1, r1) => polF f st1 r1
def polT (ts : Toks) : Except PErr PSt := polF (ts.length + 1) pst0 ts
def stopT : Option Txt → Toks → Except PErr Toks
  | none, r => .ok r
  | some x, r => mustT x r
def oneT (stop : Option Txt) (ts : Toks) : Except PErr Atm := match atomT ts with
  | .error e => .error e
  | .ok (a, r1) => match stopT stop r1 with
    | .error e => .error e
    | .ok r2 => if r2.length = 0 then .ok a else .error (r2.length, 3)
/-- The place at which so many tokens are left. -/
def placeK (L : List Tk) (n k : Nat) : Nat := match L.drop (L.length - k) with
  | t :: _ => t.2.2
  | [] => n
def txtsK (L : List Tk) : Toks := L.map fun t => t.2.1
def policyL (s : Txt) : Pol × Nat × Int :=
  if (allL s).2.2 = 0 then (match polT (txtsK (allL s).1) with
    | .ok st => (st.p, 0, 0)
    | .error (k, e) => (pol0, placeK (allL s).1 s.length k, e))
  else (pol0, (allL s).2.1, (allL s).2.2)
def zeroA : Atm := ([], [], 0, (false, []), (false, []), (false, []), (false, []))
def oneL (stop : Option Txt) (s : Txt) : Atm × Nat × Int :=
  if (allL s).2.2 = 0 then (match oneT stop (txtsK (allL s).1) with
    | .ok a => (a, 0, 0)
    | .error (k, e) => (zeroA, placeK (allL s).1 s.length k, e))
  else (zeroA, (allL s).2.1, (allL s).2.2)
end Go.Proofs.YtnfjjckbgnieeaaGreatDoor

namespace Go.Proofs.YtnfjjckbgnieeaaGreatDoor
open Go.RowKit

theorem nameT_ok {m : Txt → Bool} {r : Toks} {t : Txt} {r1 : Toks} (h : nameT m r = .ok (t, r1)) : r = t :: r1 ∧ m t = true := by
  cases r with
  | nil => cases h
  | cons x r =>
    rw [nameT] at h
    split at h
    · next hm => injection h with h; injection h with h1 h2; subst h1; subst h2; exact ⟨rfl, hm⟩
    · cases h
theorem nameT_err {m : Txt → Bool} {r : Toks} {e : PErr} (h : nameT m r = .error e) : e = (r.length, 3) := by
  cases r with
  | nil => injection h with h; exact h.symm
  | cons x r =>
    rw [nameT] at h
    split at h
    · cases h
    · injection h with h; exact h.symm
theorem mustT_ok {s : Txt} {r r1 : Toks} (h : mustT s r = .ok r1) : r = s :: r1 := by
  cases r with
  | nil => cases h
  | cons x r =>
    rw [mustT] at h
    split at h
    · next hm => injection h with h; subst h; rw [hm]
    · cases h
theorem mustT_err {s : Txt} {r : Toks} {e : PErr} (h : mustT s r = .error e) : e = (r.length, 3) := by
  cases r with
  | nil => injection h with h; exact h.symm
  | cons x r =>
    rw [mustT] at h
    split at h
    · cases h
    · injection h with h; exact h.symm
theorem isT_yes {s : Txt} {r : Toks} (h : isT s r = true) : r = s :: r.drop 1 := by
  cases r with
  | nil => cases h
  | cons x r => simp [isT] at h; rw [h]; rfl
/-- What is read is at the head of what was there. -/
def Eats {σ : Type} (one : σ → Toks → Except PErr (σ × Toks)) : Prop := ∀ s r s1 r1, one s r = .ok (s1, r1) → ∃ p, p ≠ [] ∧ r = p ++ r1
theorem Eats.len {σ : Type} {one : σ → Toks → Except PErr (σ × Toks)} (h : Eats one) {s s1 : σ} {r r1 : Toks} (e : one s r = .ok (s1, r1)) : r1.length < r.length := by
  obtain ⟨p, hp, rfl⟩ := h _ _ _ _ e
  rw [List.length_append]
  have : 0 < p.length := by cases p with | nil => exact absurd rfl hp | cons _ _ => simp
  omega
theorem eachF_fuel {σ : Type} {one : σ → Toks → Except PErr (σ × Toks)} (h : Eats one) : ∀ (f g : Nat) (s : σ) (r : Toks), r.length < f → r.length < g → eachF one f s r = eachF one g s r
  | 0, _, _, _, h1, _ => by omega
  | _ + 1, 0, _, _, _, h2 => by omega
  | f + 1, g + 1, s, r, h1, h2 => by
    rw [eachF, eachF]
    cases e : one s r with
    | error x => rfl
    | ok q =>
      obtain ⟨s1, r1⟩ := q
      have hl := h.len e
      have hd : (r1.drop 1).length ≤ r1.length := by rw [List.length_drop]; omega
      simp only
      rw [eachF_fuel h f g s1 (r1.drop 1) (by omega) (by omega)]
theorem eachT_step {σ : Type} {one : σ → Toks → Except PErr (σ × Toks)} (h : Eats one) (s : σ) (r : Toks) : eachT one s r = match one s r with
    | .error e => .error e
    | .ok (s1, r1) => if isT [44] r1 then eachT one s1 (r1.drop 1) else .ok (s1, r1) := by
  rw [eachT, eachF]
  cases e : one s r with
  | error x => rfl
  | ok q =>
    obtain ⟨s1, r1⟩ := q
    have hl := h.len e
    have hd : (r1.drop 1).length ≤ r1.length := by rw [List.length_drop]; omega
    simp only
    rw [eachT, eachF_fuel h r.length ((r1.drop 1).length + 1) s1 (r1.drop 1) (by omega) (by omega)]
theorem eachF_eats {σ : Type} {one : σ → Toks → Except PErr (σ × Toks)} (h : Eats one) : ∀ (f : Nat) (s : σ) (r : Toks) (s1 : σ) (r1 : Toks), eachF one f s r = .ok (s1, r1) → ∃ p, p ≠ [] ∧ r = p ++ r1
  | 0, _, _, _, _, e => by cases e
  | f + 1, s, r, s1, r1, e => by
    rw [eachF] at e
    cases e1 : one s r with
    | error x => rw [e1] at e; cases e
    | ok q =>
      obtain ⟨s2, r2⟩ := q
      rw [e1] at e
      simp only at e
      obtain ⟨p, hp, rfl⟩ := h _ _ _ _ e1
      split at e
      · next hi =>
        obtain ⟨p2, _, h2⟩ := eachF_eats h f _ _ _ _ e
        refine ⟨p ++ ([44] :: p2), by simp, ?_⟩
        rw [List.append_assoc, List.cons_append, ← h2, ← isT_yes hi]
      · injection e with e; injection e with e2 e3; subst e2; subst e3; exact ⟨p, hp, rfl⟩
theorem eachT_eats {σ : Type} {one : σ → Toks → Except PErr (σ × Toks)} (h : Eats one) : Eats (eachT one) := fun _ _ _ _ e => eachF_eats h _ _ _ _ _ e
theorem termStep_eats : Eats termStep := by
  intro a r a1 r1 h
  rw [termStep] at h
  split at h
  · cases h
  · next s r2 hn =>
    split at h
    · cases h
    · injection h with h; injection h with h1 h2
      obtain ⟨hr, _⟩ := nameT_ok hn
      exact ⟨[s], by simp, by rw [hr, h2]; rfl⟩
theorem readStep_eats : Eats readStep := by
  intro a r a1 r1 h
  rw [readStep] at h
  split at h
  · cases h
  · next s r2 hn =>
    injection h with h; injection h with h1 h2
    obtain ⟨hr, _⟩ := nameT_ok hn
    exact ⟨[s], by simp, by rw [hr, h2]; rfl⟩
theorem saidT_eats {who : Txt} {r : Toks} {a : Atm} {r1 : Toks} (h : saidT who r = .ok (a, r1)) : ∃ p, p ≠ [] ∧ r = p ++ r1 := by
  rw [saidT] at h
  split at h
  · cases h
  · next s r2 hn =>
    obtain ⟨hr, _⟩ := nameT_ok hn
    split at h
    · next hi =>
      split at h
      · cases h
      · next a2 r3 he =>
        split at h
        · cases h
        · next r4 hm =>
          injection h with h; injection h with h1 h2
          subst h2
          obtain ⟨p, hp, hp2⟩ := eachT_eats termStep_eats _ _ _ _ he
          have hi2 := isT_yes hi
          have hm2 := mustT_ok hm
          refine ⟨s :: [40] :: (p ++ [[41]]), by simp, ?_⟩
          rw [hr, hi2, hp2, hm2]
          simp
    · injection h with h; injection h with h1 h2
      exact ⟨[s], by simp, by rw [hr, h2]; rfl⟩
theorem atomT_eats {r : Toks} {a : Atm} {r1 : Toks} (h : atomT r = .ok (a, r1)) : ∃ p, p ≠ [] ∧ r = p ++ r1 := by
  rw [atomT] at h
  split at h
  · cases h
  · next s r2 hn =>
    obtain ⟨hr, _⟩ := nameT_ok hn
    split at h
    · cases h
    · next r3 hm =>
      obtain ⟨p, _, hp⟩ := saidT_eats h
      exact ⟨s :: wSays :: p, by simp, by rw [hr, mustT_ok hm, hp]; rfl⟩
theorem atomStep_eats : Eats atomStep := by
  intro l r l1 r1 h
  rw [atomStep] at h
  split at h
  · cases h
  · next a r2 hn =>
    injection h with h; injection h with h1 h2
    subst h2
    exact atomT_eats hn
theorem bodyT_eats {r : Toks} {l : List Atm} {r1 : Toks} (h : bodyT r = .ok (l, r1)) : ∃ p, r = p ++ r1 := by
  rw [bodyT] at h
  split at h
  · next hi =>
    obtain ⟨p, _, hp⟩ := eachT_eats atomStep_eats _ _ _ _ h
    exact ⟨wIf :: p, by rw [List.cons_append, ← hp]; exact isT_yes hi⟩
  · injection h with h; injection h with h1 h2
    exact ⟨[], by rw [h2]; rfl⟩
theorem principalT_eats {st : PSt} {r : Toks} {st1 : PSt} {r1 : Toks} (h : principalT st r = .ok (st1, r1)) : ∃ p, r = p ++ r1 := by
  rw [principalT] at h
  split at h
  · cases h
  · next s r2 hn =>
    injection h with h; injection h with h1 h2
    exact ⟨[s], by rw [(nameT_ok hn).1, h2]; rfl⟩
theorem numT_eats {r : Toks} {n : Nat} {r1 : Toks} (h : numT r = .ok (n, r1)) : ∃ p, r = p ++ r1 := by
  rw [numT] at h
  split at h
  · cases h
  · next s r2 hn =>
    injection h with h; injection h with h1 h2
    exact ⟨[s], by rw [(nameT_ok hn).1, h2]; rfl⟩
theorem predT_eats {st : PSt} {r : Toks} {st1 : PSt} {r1 : Toks} (h : predT st r = .ok (st1, r1)) : ∃ p, r = p ++ r1 := by
  rw [predT] at h
  split at h
  · cases h
  · next s r2 hn =>
    split at h
    · cases h
    · next r3 hm =>
      split at h
      · cases h
      · next n r4 hk =>
        injection h with h; injection h with h1 h2
        obtain ⟨p, hp⟩ := numT_eats hk
        exact ⟨s :: [47] :: p, by rw [(nameT_ok hn).1, mustT_ok hm, hp, h2]; rfl⟩
theorem clearT_eats {st : PSt} {r : Toks} {st1 : PSt} {r1 : Toks} (h : clearT st r = .ok (st1, r1)) : ∃ p, r = p ++ r1 := by
  rw [clearT] at h
  split at h
  · cases h
  · next s r2 hn =>
    split at h
    · cases h
    · next r3 hm =>
      split at h
      · cases h
      · next n r4 hk =>
        injection h with h; injection h with h1 h2
        obtain ⟨p, _, hp⟩ := eachT_eats readStep_eats _ _ _ _ hk
        exact ⟨s :: [58] :: p, by rw [(nameT_ok hn).1, mustT_ok hm, hp, h2]; rfl⟩
theorem quotaT_eats {st : PSt} {r : Toks} {st1 : PSt} {r1 : Toks} (h : quotaT st r = .ok (st1, r1)) : ∃ p, r = p ++ r1 := by
  rw [quotaT, singleT] at h
  split at h
  · cases h
  · next n r2 hn =>
    split at hn
    · cases hn
    · injection h with h; injection h with h1 h2
      subst h2
      exact numT_eats hn
theorem budgetT_eats {st : PSt} {r : Toks} {st1 : PSt} {r1 : Toks} (h : budgetT st r = .ok (st1, r1)) : ∃ p, r = p ++ r1 := by
  rw [budgetT, singleT] at h
  split at h
  · cases h
  · next n r2 hn =>
    split at hn
    · cases hn
    · injection h with h; injection h with h1 h2
      subst h2
      exact numT_eats hn
theorem ruleT_eats {st : PSt} {who : Txt} {r : Toks} {st1 : PSt} {r1 : Toks} (h : ruleT st who r = .ok (st1, r1)) : ∃ p, r = p ++ r1 := by
  rw [ruleT] at h
  split at h
  · cases h
  · next a r2 hn =>
    split at h
    · cases h
    · next l r3 hb =>
      injection h with h; injection h with h1 h2
      subst h2
      obtain ⟨p, _, hp⟩ := saidT_eats hn
      obtain ⟨q, hq⟩ := bodyT_eats hb
      exact ⟨p ++ q, by rw [hp, hq, List.append_assoc]⟩
theorem grantT_eats {st : PSt} {who : Txt} {r : Toks} {st1 : PSt} {r1 : Toks} (h : grantT st who r = .ok (st1, r1)) : ∃ p, r = p ++ r1 := by
  rw [grantT] at h
  split at h
  · cases h
  · next s r2 hn =>
    split at h
    · cases h
    · next r3 hm =>
      split at h
      · cases h
      · next a r4 hs =>
        split at h
        · cases h
        · next l r5 hb =>
          injection h with h; injection h with h1 h2
          subst h2
          obtain ⟨p, _, hp⟩ := saidT_eats hs
          obtain ⟨q, hq⟩ := bodyT_eats hb
          exact ⟨s :: wCansay :: (p ++ q), by rw [(nameT_ok hn).1, mustT_ok hm, hp, hq]; simp⟩
theorem saysT_eats {st : PSt} {r : Toks} {st1 : PSt} {r1 : Toks} (h : saysT st r = .ok (st1, r1)) : ∃ p, r = p ++ r1 := by
  rw [saysT] at h
  split at h
  · cases h
  · next s r2 hn =>
    split at h
    · cases h
    · next r3 hm =>
      have : ∃ p, r3 = p ++ r1 := by
        split at h
        · exact grantT_eats h
        · exact ruleT_eats h
      obtain ⟨p, hp⟩ := this
      exact ⟨s :: wSays :: p, by rw [(nameT_ok hn).1, mustT_ok hm, hp]; rfl⟩
theorem drop_pre {r r1 : Toks} (h : ∃ p, r.drop 1 = p ++ r1) : ∃ p, r = p ++ r1 := by
  obtain ⟨p, hp⟩ := h
  exact ⟨r.take 1 ++ p, by rw [List.append_assoc, ← hp, List.take_append_drop]⟩
theorem partT_eats {st : PSt} {r : Toks} {st1 : PSt} {r1 : Toks} (h : partT st r = .ok (st1, r1)) : ∃ p, r = p ++ r1 := by
  rw [partT] at h
  split at h
  · exact drop_pre (principalT_eats h)
  split at h
  · exact drop_pre (predT_eats h)
  split at h
  · exact drop_pre (clearT_eats h)
  split at h
  · exact drop_pre (quotaT_eats h)
  split at h
  · exact drop_pre (budgetT_eats h)
  · exact saysT_eats h
theorem stmtT_eats : Eats stmtT := by
  intro st r st1 r1 h
  rw [stmtT] at h
  split at h
  · cases h
  · next st2 r2 hp =>
    split at h
    · cases h
    · next r3 hm =>
      injection h with h; injection h with h1 h2
      subst h2
      obtain ⟨p, hp⟩ := partT_eats hp
      exact ⟨p ++ [[46]], by simp, by rw [hp, mustT_ok hm, List.append_assoc]; rfl⟩
theorem polF_fuel : ∀ (f g : Nat) (st : PSt) (r : Toks), r.length < f → r.length < g → polF f st r = polF g st r
  | 0, _, _, _, h1, _ => by omega
  | _ + 1, 0, _, _, _, h2 => by omega
  | f + 1, g + 1, st, r, h1, h2 => by
    rw [polF, polF]
    by_cases h0 : r.length = 0
    · rw [if_pos h0, if_pos h0]
    rw [if_neg h0, if_neg h0]
    cases e : stmtT st r with
    | error x => rfl
    | ok q =>
      obtain ⟨st1, r1⟩ := q
      have hl := stmtT_eats.len e
      simp only
      rw [polF_fuel f g st1 r1 (by omega) (by omega)]
/-- The policy from here on. -/
def polG (st : PSt) (r : Toks) : Except PErr PSt := polF (r.length + 1) st r
theorem polG_step (st : PSt) (r : Toks) : polG st r = if r.length = 0 then .ok st else match stmtT st r with
    | .error e => .error e
    | .ok (st1, r1) => polG st1 r1 := by
  rw [polG, polF]
  by_cases h0 : r.length = 0
  · rw [if_pos h0, if_pos h0]
  rw [if_neg h0, if_neg h0]
  cases e : stmtT st r with
  | error x => rfl
  | ok q =>
    obtain ⟨st1, r1⟩ := q
    have hl := stmtT_eats.len e
    simp only
    rw [polG, polF_fuel r.length (r1.length + 1) st1 r1 (by omega) (by omega)]
end Go.Proofs.YtnfjjckbgnieeaaGreatDoor
