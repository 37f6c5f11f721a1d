/- The reference's reader of policies, in plain words: a state is what is left, or where it failed. No program's function in sight. The reference's reader of policies in memory: fail, is, maybe, must. The reference's reader of policies in memory: sorts, next, number. The reference's reader of policies: what someone says, an atom. The reference's reader of policies: once, body, clear. The reference's reader of policies: clear. -/
import Derived.Test.YtnfjjckbgnieeaaGreatDoorQPTr
import Derived.Test.YtnfjjckbgnieeaaGreatDoorQParA
import Derived.Test.YtnfjjckbgnieeaaGreatDoorQRef03
import Derived.Test.YtnfjjckbgnieeaaGreatDoorQParE
import Derived.Test.YtnfjjckbgnieeaaGreatDoorQParJ
import Derived.Test.YtnfjjckbgnieeaaGreatDoorQParN
namespace Go.Proofs.YtnfjjckbgnieeaaGreatDoor
open Go.RowKit

abbrev RS := Except PErr Toks
/-- What the reader comes to agrees with what a text is parsed to. -/
def Agr {α : Type} (X : α × RS) (Y : Except PErr (α × Toks)) : Prop := match Y with
  | .ok (a, r) => X = (a, .ok r)
  | .error e => X.2 = .error e
def onS {α : Type} (q : RS) (f : Toks → Except PErr α) : Except PErr α := match q with
  | .ok r => f r
  | .error e => .error e
def mustS (s : Txt) (q : RS) : RS := onS q (mustT s)
def isS (s : Txt) : RS → Bool
  | .ok r => isT s r
  | .error _ => false
def maybeS (s : Txt) : RS → RS
  | .ok r => .ok (if isT s r = true then r.drop 1 else r)
  | .error e => .error e
def nextV (m : Txt → Bool) : RS → Txt
  | .ok r => (match nameT m r with
    | .ok (t, _) => t
    | .error _ => [])
  | .error _ => []
def nextS (m : Txt → Bool) : RS → RS
  | .ok r => (match nameT m r with
    | .ok (_, r1) => .ok r1
    | .error e => .error e)
  | .error e => .error e
def leftS : RS → Nat
  | .ok r => r.length + 1
  | .error _ => 0
theorem maybe_yes {s : Txt} {r : Toks} (h : isT s r = true) : maybeS s (.ok r) = .ok (r.drop 1) := by
  show Except.ok (if isT s r = true then r.drop 1 else r) = _
  rw [if_pos h]
theorem maybe_no {s : Txt} {r : Toks} (h : ¬ isT s r = true) : maybeS s (.ok r) = .ok r := by
  show Except.ok (if isT s r = true then r.drop 1 else r) = _
  rw [if_neg h]
theorem next_ok {m : Txt → Bool} {r : Toks} {t : Txt} {r1 : Toks} (h : nameT m r = .ok (t, r1)) : nextV m (.ok r) = t ∧ nextS m (.ok r) = .ok r1 := by
  simp only [nextV, nextS, h, and_self]
theorem next_bad {m : Txt → Bool} {r : Toks} {e : PErr} (h : nameT m r = .error e) : nextV m (.ok r) = [] ∧ nextS m (.ok r) = .error e := by
  simp only [nextV, nextS, h, and_self]
/-- One thing at least, and one more behind each comma. -/
def eachX {σ : Type} (one : σ → Toks → σ × RS) : Nat → σ → Toks → σ × RS
  | 0, s, r => (s, .error (r.length, 3))
  | f + 1, s, r => match one s r with
    | (s1, .error e) => (s1, .error e)
    | (s1, .ok r1) => if isT [44] r1 = true then eachX one f s1 (r1.drop 1) else (s1, .ok r1)
def eachS {σ : Type} (one : σ → Toks → σ × RS) (s : σ) (r : Toks) : σ × RS := eachX one (r.length + 1) s r
def Shr {σ : Type} (one : σ → Toks → σ × RS) : Prop := ∀ s r s1 r1, one s r = (s1, .ok r1) → r1.length < r.length
theorem eachX_fuel {σ : Type} {one : σ → Toks → σ × RS} (h : Shr one) : ∀ (f g : Nat) (s : σ) (r : Toks), r.length < f → r.length < g → eachX one f s r = eachX one g s r
  | 0, _, _, _, h1, _ => by omega
  | _ + 1, 0, _, _, _, h2 => by omega
  | f + 1, g + 1, s, r, h1, h2 => by
    rw [eachX, eachX]
    cases e : one s r with
    | mk s1 q1 =>
      cases q1 with
      | error x => rfl
      | ok r1 =>
        have hl := h _ _ _ _ e
        have hd : (r1.drop 1).length ≤ r1.length := by rw [List.length_drop]; omega
        simp only
        rw [eachX_fuel h f g s1 (r1.drop 1) (by omega) (by omega)]
theorem eachS_step {σ : Type} {one : σ → Toks → σ × RS} (h : Shr one) (s : σ) (r : Toks) : eachS one s r = match one s r with
    | (s1, .error e) => (s1, .error e)
    | (s1, .ok r1) => if isT [44] r1 = true then eachS one s1 (r1.drop 1) else (s1, .ok r1) := by
  rw [eachS, eachX]
  cases e : one s r with
  | mk s1 q1 =>
    cases q1 with
    | error x => rfl
    | ok r1 =>
      have hl := h _ _ _ _ e
      have hd : (r1.drop 1).length ≤ r1.length := by rw [List.length_drop]; omega
      simp only
      rw [eachS, eachX_fuel h r.length ((r1.drop 1).length + 1) s1 (r1.drop 1) (by omega) (by omega)]
theorem each_agr {σ : Type} {one : σ → Toks → σ × RS} {oneT : σ → Toks → Except PErr (σ × Toks)} (h : ∀ s r, Agr (one s r) (oneT s r)) : ∀ (f : Nat) (s : σ) (r : Toks), Agr (eachX one f s r) (eachF oneT f s r)
  | 0, _, _ => rfl
  | f + 1, s, r => by
    have h1 := h s r
    rw [eachX, eachF]
    cases e : oneT s r with
    | error x =>
      rw [e] at h1
      cases e1 : one s r with
      | mk s1 q1 =>
        have h2 : (one s r).2 = .error x := h1
        rw [e1] at h2
        have h3 : q1 = .error x := h2
        subst h3
        rfl
    | ok y =>
      obtain ⟨s1, r1⟩ := y
      rw [e] at h1
      have h2 : one s r = (s1, .ok r1) := h1
      rw [h2]
      simp only
      split
      · exact each_agr h f _ _
      · rfl
theorem shr_of {σ : Type} {one : σ → Toks → σ × RS} {oneT : σ → Toks → Except PErr (σ × Toks)} (h : ∀ s r, Agr (one s r) (oneT s r)) (he : Eats oneT) : Shr one := by
  intro s r s1 r1 e
  have h1 := h s r
  cases e2 : oneT s r with
  | error x =>
    rw [e2] at h1
    have h2 : (one s r).2 = .error x := h1
    rw [e] at h2
    cases h2
  | ok y =>
    obtain ⟨s2, r2⟩ := y
    rw [e2] at h1
    have h2 : one s r = (s2, .ok r2) := h1
    rw [e] at h2
    injection h2 with h3 h4
    injection h4 with h4
    rw [h4]
    exact he.len e2
/-- The loop over things with commas between them, in its middle. -/
def loopR {σ : Type} (one : σ → Toks → σ × RS) (more : Bool) (s : σ) : RS → σ × RS
  | .error e => (s, .error e)
  | .ok r => if more = true then eachS one s r else (s, .ok r)
theorem loop_step {σ : Type} {one : σ → Toks → σ × RS} (h : Shr one) (s : σ) (r : Toks) : loopR one true s (.ok r) = loopR one (isS [44] (one s r).2) (one s r).1 (maybeS [44] (one s r).2) := by
  show eachS one s r = _
  rw [eachS_step h]
  cases e : one s r with
  | mk s1 q1 =>
    cases q1 with
    | error x => rfl
    | ok r1 =>
      show (if isT [44] r1 = true then eachS one s1 (r1.drop 1) else (s1, .ok r1)) = loopR one (isT [44] r1) s1 (maybeS [44] (.ok r1))
      by_cases hi : isT [44] r1 = true
      · rw [if_pos hi, maybe_yes hi, hi]; rfl
      · rw [if_neg hi, maybe_no hi]
        cases hb : isT [44] r1 with
        | true => exact absurd hb hi
        | false => rfl
theorem loop_left {σ : Type} {one : σ → Toks → σ × RS} (h : Shr one) (s : σ) (r : Toks) : leftS (maybeS [44] (one s r).2) < leftS (.ok r) := by
  cases e : one s r with
  | mk s1 q1 =>
    cases q1 with
    | error x => exact Nat.succ_pos _
    | ok r1 =>
      have hl := h _ _ _ _ e
      have hd : (r1.drop 1).length ≤ r1.length := by rw [List.length_drop]; omega
      show leftS (maybeS [44] (.ok r1)) < r.length + 1
      by_cases hi : isT [44] r1 = true
      · rw [maybe_yes hi]; show (r1.drop 1).length + 1 < _; omega
      · rw [maybe_no hi]; show r1.length + 1 < _; omega
/-- A term more. -/
def termX (a : Atm) (r : Toks) : Atm × RS := match termStep a r with
  | .ok (a1, r1) => (a1, .ok r1)
  | .error e => (a, .error e)
theorem term_agr (a : Atm) (r : Toks) : Agr (termX a r) (termStep a r) := by
  unfold termX
  cases h : termStep a r with
  | error e => rfl
  | ok x => rfl
theorem term_shr : Shr termX := shr_of term_agr termStep_eats
def saidX (who : Txt) (q : RS) : Atm × RS :=
  if isS [40] (nextS principalB q) = true then
    ((loopR termX true (atom0 who (nextV principalB q)) (maybeS [40] (nextS principalB q))).1, mustS [41] (loopR termX true (atom0 who (nextV principalB q)) (maybeS [40] (nextS principalB q))).2)
  else (atom0 who (nextV principalB q), nextS principalB q)
theorem said_agr (who : Txt) (q : RS) : Agr (saidX who q) (onS q (saidT who)) := by
  cases q with
  | error e => rfl
  | ok r =>
    show Agr _ (saidT who r)
    rw [saidT]
    unfold saidX
    cases h : nameT principalB r with
    | error e =>
      obtain ⟨h1, h2⟩ := next_bad h
      rw [h1, h2]
      rfl
    | ok x =>
      obtain ⟨pred, r1⟩ := x
      obtain ⟨h1, h2⟩ := next_ok h
      rw [h1, h2]
      by_cases hi : isT [40] r1 = true
      · rw [if_pos (show isS [40] (.ok r1) = true from hi)]
        simp only
        rw [if_pos hi, maybe_yes hi]
        have ha := each_agr term_agr ((r1.drop 1).length + 1) (atom0 who pred) (r1.drop 1)
        show Agr ((eachX termX ((r1.drop 1).length + 1) (atom0 who pred) (r1.drop 1)).1, mustS [41] (eachX termX ((r1.drop 1).length + 1) (atom0 who pred) (r1.drop 1)).2) _
        rw [eachT]
        cases hx : eachF termStep ((r1.drop 1).length + 1) (atom0 who pred) (r1.drop 1) with
        | error e =>
          rw [hx] at ha
          have ha2 : (eachX termX ((r1.drop 1).length + 1) (atom0 who pred) (r1.drop 1)).2 = .error e := ha
          rw [ha2]
          rfl
        | ok y =>
          obtain ⟨a, r2⟩ := y
          rw [hx] at ha
          have ha2 : eachX termX ((r1.drop 1).length + 1) (atom0 who pred) (r1.drop 1) = (a, .ok r2) := ha
          rw [ha2]
          simp only [mustS, onS]
          cases hm : mustT [41] r2 with
          | error e => rfl
          | ok r3 => rfl
      · rw [if_neg (show ¬ isS [40] (.ok r1) = true from hi)]
        simp only
        rw [if_neg hi]
        rfl
def atomX (q : RS) : Atm × RS := saidX (nextV principalB q) (mustS wSays (nextS principalB q))
theorem atom_agr (q : RS) : Agr (atomX q) (onS q atomT) := by
  cases q with
  | error e => rfl
  | ok r =>
    show Agr _ (atomT r)
    rw [atomT]
    unfold atomX
    cases h : nameT principalB r with
    | error e =>
      obtain ⟨h1, h2⟩ := next_bad h
      rw [h1, h2]
      rfl
    | ok x =>
      obtain ⟨who, r1⟩ := x
      obtain ⟨h1, h2⟩ := next_ok h
      rw [h1, h2]
      have ha := said_agr who (mustS wSays (.ok r1))
      simp only [mustS, onS] at ha ⊢
      cases hm : mustT wSays r1 with
      | error e => rw [hm] at ha; exact ha
      | ok r2 => rw [hm] at ha; exact ha
def atomsX (l : List Atm) (r : Toks) : List Atm × RS := (l ++ [(atomX (.ok r)).1], (atomX (.ok r)).2)
theorem atoms_agr (l : List Atm) (r : Toks) : Agr (atomsX l r) (atomStep l r) := by
  have ha := atom_agr (.ok r)
  unfold atomsX
  rw [atomStep]
  simp only [onS] at ha
  cases h : atomT r with
  | error e =>
    rw [h] at ha
    exact ha
  | ok x =>
    obtain ⟨a, r1⟩ := x
    rw [h] at ha
    have ha2 : atomX (.ok r) = (a, .ok r1) := ha
    rw [ha2]
    rfl
theorem atoms_shr : Shr atomsX := shr_of atoms_agr atomStep_eats
def bodyX (q : RS) : List Atm × RS := if isS wIf q = true then loopR atomsX true [] (maybeS wIf q) else ([], q)
theorem body_agr (q : RS) : Agr (bodyX q) (onS q bodyT) := by
  cases q with
  | error e => rfl
  | ok r =>
    show Agr _ (bodyT r)
    rw [bodyT]
    unfold bodyX
    by_cases hi : isT wIf r = true
    · rw [if_pos (show isS wIf (.ok r) = true from hi), if_pos hi, maybe_yes hi]
      exact each_agr atoms_agr _ _ _
    · rw [if_neg (show ¬ isS wIf (.ok r) = true from hi), if_neg hi]
      rfl
def readX (l : List Txt) (r : Toks) : List Txt × RS := (l ++ [nextV principalB (.ok r)], nextS principalB (.ok r))
theorem read_agr (l : List Txt) (r : Toks) : Agr (readX l r) (readStep l r) := by
  unfold readX
  rw [readStep]
  cases h : nameT principalB r with
  | error e =>
    obtain ⟨h1, h2⟩ := next_bad h
    rw [h1, h2]
    rfl
  | ok x =>
    obtain ⟨a, r1⟩ := x
    obtain ⟨h1, h2⟩ := next_ok h
    rw [h1, h2]
    rfl
theorem read_shr : Shr readX := shr_of read_agr readStep_eats
def clearX (q : RS) : (Txt × List Txt) × RS :=
  ((nextV principalB q, (loopR readX true [] (mustS [58] (nextS principalB q))).1), (loopR readX true [] (mustS [58] (nextS principalB q))).2)
def numX (q : RS) : Nat × RS := (numV (nextV numB q), nextS numB q)
theorem num_agr (q : RS) : Agr (numX q) (onS q numT) := by
  cases q with
  | error e => rfl
  | ok r =>
    show Agr _ (numT r)
    rw [numT]
    unfold numX
    cases h : nameT numB r with
    | error e =>
      obtain ⟨h1, h2⟩ := next_bad h
      rw [h1, h2]
      rfl
    | ok x =>
      obtain ⟨a, r1⟩ := x
      obtain ⟨h1, h2⟩ := next_ok h
      rw [h1, h2]
      rfl
def onceS (was : Bool) : RS → RS
  | .ok r => if was = true then .error (r.length + 1, 5) else .ok r
  | .error e => .error e
def secS (s : Txt) : RS → Bool
  | .ok r => isT s (r.drop 1)
  | .error _ => false
def saysX (p : Pol) (q : RS) : Pol × RS :=
  let q2 := mustS wSays (nextS principalB q)
  if secS wCansay q2 = true then
    (let X := saidX (nextV principalB q) (mustS wCansay (nextS principalB q2))
     ({ p with gr := p.gr ++ [(nextV principalB q2, X.1, (bodyX X.2).1)] }, (bodyX X.2).2))
  else
    (let X := saidX (nextV principalB q) q2
     ({ p with ru := p.ru ++ [(X.1, (bodyX X.2).1)] }, (bodyX X.2).2))
/-- A statement without its stop, at r. -/
def partX (st : PSt) (r : Toks) : PSt × RS :=
  if isT wPrincipal r = true then ({ st with p := { st.p with pr := st.p.pr ++ [nextV principalB (.ok (r.drop 1))] } }, nextS principalB (.ok (r.drop 1)))
  else if isT wPred r = true then
    ({ st with p := { st.p with pd := st.p.pd ++ [(nextV principalB (.ok (r.drop 1)), ((numX (mustS [47] (nextS principalB (.ok (r.drop 1))))).1 : Int))] } }, (numX (mustS [47] (nextS principalB (.ok (r.drop 1))))).2)
  else if isT wClear r = true then ({ st with p := { st.p with cl := st.p.cl ++ [(clearX (.ok (r.drop 1))).1] } }, (clearX (.ok (r.drop 1))).2)
  else if isT wQuota r = true then ({ st with p := { st.p with qu := ((numX (onceS st.q (.ok (r.drop 1)))).1 : Int) }, q := true }, (numX (onceS st.q (.ok (r.drop 1)))).2)
  else if isT wBudget r = true then ({ st with p := { st.p with bu := ((numX (onceS st.b (.ok (r.drop 1)))).1 : Int) }, b := true }, (numX (onceS st.b (.ok (r.drop 1)))).2)
  else ({ st with p := (saysX st.p (.ok r)).1 }, (saysX st.p (.ok r)).2)
def stmtX (st : PSt) (r : Toks) : PSt × RS := ((partX st r).1, mustS [46] (partX st r).2)
theorem pred_agr (st : PSt) (r : Toks) : Agr ({ st with p := { st.p with pd := st.p.pd ++ [(nextV principalB (.ok r), ((numX (mustS [47] (nextS principalB (.ok r)))).1 : Int))] } }, (numX (mustS [47] (nextS principalB (.ok r)))).2) (predT st r) := by
  rw [predT]
  cases h : nameT principalB r with
  | error e =>
    obtain ⟨h1, h2⟩ := next_bad h
    rw [h1, h2]
    rfl
  | ok x =>
    obtain ⟨a, r1⟩ := x
    obtain ⟨h1, h2⟩ := next_ok h
    rw [h1, h2]
    simp only [mustS, onS]
    cases hm : mustT [47] r1 with
    | error e => rfl
    | ok r2 =>
      have hn := num_agr (.ok r2)
      simp only [onS] at hn
      simp only
      cases hk : numT r2 with
      | error e =>
        rw [hk] at hn
        exact hn
      | ok y =>
        obtain ⟨n, r3⟩ := y
        rw [hk] at hn
        have hn2 : numX (.ok r2) = (n, .ok r3) := hn
        rw [hn2]
        rfl
theorem clear_agr (st : PSt) (r : Toks) : Agr ({ st with p := { st.p with cl := st.p.cl ++ [(clearX (.ok r)).1] } }, (clearX (.ok r)).2) (clearT st r) := by
  rw [clearT]
  unfold clearX
  cases h : nameT principalB r with
  | error e =>
    obtain ⟨h1, h2⟩ := next_bad h
    rw [h1, h2]
    rfl
  | ok x =>
    obtain ⟨a, r1⟩ := x
    obtain ⟨h1, h2⟩ := next_ok h
    rw [h1, h2]
    simp only [mustS, onS]
    cases hm : mustT [58] r1 with
    | error e => rfl
    | ok r2 =>
      have ha := each_agr read_agr (r2.length + 1) [] r2
      simp only [loopR, if_true]
      rw [eachT]
      show Agr ({ st with p := { st.p with cl := st.p.cl ++ [(a, (eachX readX (r2.length + 1) [] r2).1)] } }, (eachX readX (r2.length + 1) [] r2).2) _
      cases hk : eachF readStep (r2.length + 1) [] r2 with
      | error e =>
        rw [hk] at ha
        exact ha
      | ok y =>
        obtain ⟨n, r3⟩ := y
        rw [hk] at ha
        have hn2 : eachX readX (r2.length + 1) [] r2 = (n, .ok r3) := ha
        rw [hn2]
        rfl
theorem single_agr (was : Bool) (r : Toks) : Agr (numX (onceS was (.ok r))) (singleT was r) := by
  unfold singleT
  cases was with
  | true => rfl
  | false => exact num_agr (.ok r)
theorem rule_agr (p : Pol) (st : PSt) (who : Txt) (r : Toks) (hp : st.p = p) : Agr ({ st with p := { p with ru := p.ru ++ [((saidX who (.ok r)).1, (bodyX (saidX who (.ok r)).2).1)] } }, (bodyX (saidX who (.ok r)).2).2) (ruleT st who r) := by
  subst hp
  rw [ruleT]
  have hs := said_agr who (.ok r)
  simp only [onS] at hs
  cases h : saidT who r with
  | error e =>
    rw [h] at hs
    have h2 : (saidX who (.ok r)).2 = .error e := hs
    rw [h2]
    rfl
  | ok x =>
    obtain ⟨a, r1⟩ := x
    rw [h] at hs
    have h2 : saidX who (.ok r) = (a, .ok r1) := hs
    rw [h2]
    have hb := body_agr (.ok r1)
    simp only [onS] at hb ⊢
    cases h3 : bodyT r1 with
    | error e =>
      rw [h3] at hb
      exact hb
    | ok y =>
      obtain ⟨l, r2⟩ := y
      rw [h3] at hb
      have h4 : bodyX (.ok r1) = (l, .ok r2) := hb
      rw [h4]
      rfl
theorem grant_agr (p : Pol) (st : PSt) (who : Txt) (r : Toks) (hp : st.p = p) : Agr ({ st with p := { p with gr := p.gr ++ [(nextV principalB (.ok r), (saidX who (mustS wCansay (nextS principalB (.ok r)))).1, (bodyX (saidX who (mustS wCansay (nextS principalB (.ok r)))).2).1)] } }, (bodyX (saidX who (mustS wCansay (nextS principalB (.ok r)))).2).2) (grantT st who r) := by
  subst hp
  rw [grantT]
  cases h : nameT principalB r with
  | error e =>
    obtain ⟨h1, h2⟩ := next_bad h
    rw [h1, h2]
    rfl
  | ok x =>
    obtain ⟨tw, r1⟩ := x
    obtain ⟨h1, h2⟩ := next_ok h
    rw [h1, h2]
    simp only [mustS, onS]
    cases hm : mustT wCansay r1 with
    | error e => rfl
    | ok r2 =>
      have hs := said_agr who (.ok r2)
      simp only [onS] at hs
      simp only
      cases h : saidT who r2 with
      | error e =>
        rw [h] at hs
        have h2 : (saidX who (.ok r2)).2 = .error e := hs
        rw [h2]
        rfl
      | ok x =>
        obtain ⟨a, r3⟩ := x
        rw [h] at hs
        have h2 : saidX who (.ok r2) = (a, .ok r3) := hs
        rw [h2]
        have hb := body_agr (.ok r3)
        simp only [onS] at hb ⊢
        cases h3 : bodyT r3 with
        | error e =>
          rw [h3] at hb
          exact hb
        | ok y =>
          obtain ⟨l, r4⟩ := y
          rw [h3] at hb
          have h4 : bodyX (.ok r3) = (l, .ok r4) := hb
          rw [h4]
          rfl
theorem says_agr (st : PSt) (r : Toks) : Agr ({ st with p := (saysX st.p (.ok r)).1 }, (saysX st.p (.ok r)).2) (saysT st r) := by
  rw [saysT]
  unfold saysX
  cases h : nameT principalB r with
  | error e =>
    obtain ⟨h1, h2⟩ := next_bad h
    rw [h1, h2]
    rfl
  | ok x =>
    obtain ⟨who, r1⟩ := x
    obtain ⟨h1, h2⟩ := next_ok h
    rw [h1, h2]
    cases hm : mustT wSays r1 with
    | error e =>
      rw [show mustS wSays (.ok r1) = .error e from hm]
      simp only
      rw [hm]
      rfl
    | ok r2 =>
      rw [show mustS wSays (.ok r1) = .ok r2 from hm]
      simp only
      rw [hm]
      simp only
      by_cases hi : isT wCansay (r2.drop 1) = true
      · rw [if_pos hi, if_pos (show secS wCansay (.ok r2) = true from hi)]
        exact grant_agr st.p st who r2 rfl
      · rw [if_neg hi, if_neg (show ¬ secS wCansay (.ok r2) = true from hi)]
        exact rule_agr st.p st who r2 rfl
theorem princ_agr (st : PSt) (r : Toks) : Agr ({ st with p := { st.p with pr := st.p.pr ++ [nextV principalB (.ok r)] } }, nextS principalB (.ok r)) (principalT st r) := by
  rw [principalT]
  cases h : nameT principalB r with
  | error e =>
    obtain ⟨h1, h2⟩ := next_bad h
    rw [h1, h2]
    rfl
  | ok x =>
    obtain ⟨a, r1⟩ := x
    obtain ⟨h1, h2⟩ := next_ok h
    rw [h1, h2]
    rfl
theorem quota_agr (st : PSt) (r : Toks) : Agr ({ st with p := { st.p with qu := ((numX (onceS st.q (.ok r))).1 : Int) }, q := true }, (numX (onceS st.q (.ok r))).2) (quotaT st r) := by
  have hs := single_agr st.q r
  rw [quotaT]
  cases h : singleT st.q r with
  | error e =>
    rw [h] at hs
    exact hs
  | ok x =>
    obtain ⟨a, r1⟩ := x
    rw [h] at hs
    have h2 : numX (onceS st.q (.ok r)) = (a, .ok r1) := hs
    rw [h2]
    rfl
theorem budget_agr (st : PSt) (r : Toks) : Agr ({ st with p := { st.p with bu := ((numX (onceS st.b (.ok r))).1 : Int) }, b := true }, (numX (onceS st.b (.ok r))).2) (budgetT st r) := by
  have hs := single_agr st.b r
  rw [budgetT]
  cases h : singleT st.b r with
  | error e =>
    rw [h] at hs
    exact hs
  | ok x =>
    obtain ⟨a, r1⟩ := x
    rw [h] at hs
    have h2 : numX (onceS st.b (.ok r)) = (a, .ok r1) := hs
    rw [h2]
    rfl
theorem part_agr (st : PSt) (r : Toks) : Agr (partX st r) (partT st r) := by
  rw [partX, partT]
  by_cases h1 : isT wPrincipal r = true
  · rw [if_pos h1, if_pos h1]; exact princ_agr st _
  rw [if_neg h1, if_neg h1]
  by_cases h2 : isT wPred r = true
  · rw [if_pos h2, if_pos h2]; exact pred_agr st _
  rw [if_neg h2, if_neg h2]
  by_cases h3 : isT wClear r = true
  · rw [if_pos h3, if_pos h3]; exact clear_agr st _
  rw [if_neg h3, if_neg h3]
  by_cases h4 : isT wQuota r = true
  · rw [if_pos h4, if_pos h4]; exact quota_agr st _
  rw [if_neg h4, if_neg h4]
  by_cases h5 : isT wBudget r = true
  · rw [if_pos h5, if_pos h5]; exact budget_agr st _
  rw [if_neg h5, if_neg h5]
  exact says_agr st r
theorem stmt_agr (st : PSt) (r : Toks) : Agr (stmtX st r) (stmtT st r) := by
  have h := part_agr st r
  unfold stmtX
  rw [stmtT]
  cases e : partT st r with
  | error x =>
    rw [e] at h
    have h2 : (partX st r).2 = .error x := h
    rw [h2]
    rfl
  | ok x =>
    obtain ⟨st1, r1⟩ := x
    rw [e] at h
    have h2 : partX st r = (st1, .ok r1) := h
    rw [h2]
    simp only [mustS, onS]
    cases hm : mustT [46] r1 with
    | error e => rfl
    | ok r2 => rfl
theorem stmt_shr : Shr stmtX := shr_of stmt_agr stmtT_eats
/-- The loop over statements, in its middle. -/
def polX : Nat → PSt → Toks → PSt × RS
  | 0, st, r => (st, .error (r.length, 3))
  | f + 1, st, r => if r.length = 0 then (st, .ok r) else match stmtX st r with
    | (s1, .error e) => (s1, .error e)
    | (s1, .ok r1) => polX f s1 r1
def polS (st : PSt) : RS → PSt × RS
  | .error e => (st, .error e)
  | .ok r => polX (r.length + 1) st r
theorem polX_fuel : ∀ (f g : Nat) (st : PSt) (r : Toks), r.length < f → r.length < g → polX f st r = polX g st r
  | 0, _, _, _, h1, _ => by omega
  | _ + 1, 0, _, _, _, h2 => by omega
  | f + 1, g + 1, st, r, h1, h2 => by
    rw [polX, polX]
    by_cases h0 : r.length = 0
    · rw [if_pos h0, if_pos h0]
    rw [if_neg h0, if_neg h0]
    cases e : stmtX st r with
    | mk s1 q1 =>
      cases q1 with
      | error x => rfl
      | ok r1 =>
        have hl := stmt_shr _ _ _ _ e
        simp only
        rw [polX_fuel f g s1 r1 (by omega) (by omega)]
theorem polS_step (st : PSt) (r : Toks) (h0 : ¬ r.length = 0) : polS st (.ok r) = polS (stmtX st r).1 (stmtX st r).2 := by
  rw [polS, polX, if_neg h0]
  cases e : stmtX st r with
  | mk s1 q1 =>
    cases q1 with
    | error x => rfl
    | ok r1 =>
      have hl := stmt_shr _ _ _ _ e
      simp only
      rw [polS, polX_fuel r.length (r1.length + 1) s1 r1 (by omega) (by omega)]
theorem polS_end (st : PSt) (r : Toks) (h0 : r.length = 0) : polS st (.ok r) = (st, .ok r) := by
  rw [polS, polX, if_pos h0]
theorem polS_left (st : PSt) (r : Toks) : leftS (stmtX st r).2 < leftS (.ok r) := by
  cases e : stmtX st r with
  | mk s1 q1 =>
    cases q1 with
    | error x => exact Nat.succ_pos _
    | ok r1 =>
      have hl := stmt_shr _ _ _ _ e
      show r1.length + 1 < r.length + 1
      omega
theorem polX_agr : ∀ (f : Nat) (st : PSt) (r : Toks), match polF f st r with
    | .ok st1 => ∃ r1, polX f st r = (st1, .ok r1)
    | .error e => (polX f st r).2 = .error e
  | 0, _, _ => rfl
  | f + 1, st, r => by
    rw [polF, polX]
    by_cases h0 : r.length = 0
    · rw [if_pos h0, if_pos h0]
      exact ⟨r, rfl⟩
    rw [if_neg h0, if_neg h0]
    have h := stmt_agr st r
    cases e : stmtT st r with
    | error x =>
      rw [e] at h
      have h2 : (stmtX st r).2 = .error x := h
      cases e1 : stmtX st r with
      | mk s1 q1 =>
        rw [e1] at h2
        have h3 : q1 = .error x := h2
        subst h3
        rfl
    | ok y =>
      obtain ⟨st1, r1⟩ := y
      rw [e] at h
      have h2 : stmtX st r = (st1, .ok r1) := h
      rw [h2]
      exact polX_agr f st1 r1
theorem pol_agr (ts : Toks) : match polT ts with
    | .ok st1 => ∃ r1, polS pst0 (.ok ts) = (st1, .ok r1)
    | .error e => (polS pst0 (.ok ts)).2 = .error e := polX_agr _ _ _
def stopS : Option Txt → RS → RS
  | none, q => q
  | some x, q => mustS x q
def restS : RS → RS
  | .ok r => if r.length = 0 then .ok r else .error (r.length, 3)
  | .error e => .error e
def oneX (stop : Option Txt) (ts : Toks) : Atm × RS := ((atomX (.ok ts)).1, restS (stopS stop (atomX (.ok ts)).2))
theorem one_agr (stop : Option Txt) (ts : Toks) : match oneT stop ts with
    | .ok a => ∃ r1, oneX stop ts = (a, .ok r1)
    | .error e => (oneX stop ts).2 = .error e := by
  unfold oneX
  rw [oneT]
  have ha := atom_agr (.ok ts)
  simp only [onS] at ha
  cases h : atomT ts with
  | error e =>
    rw [h] at ha
    have h2 : (atomX (.ok ts)).2 = .error e := ha
    rw [h2]
    cases stop <;> rfl
  | ok x =>
    obtain ⟨a, r1⟩ := x
    rw [h] at ha
    have h2 : atomX (.ok ts) = (a, .ok r1) := ha
    rw [h2]
    cases stop with
    | none =>
      simp only [stopT, stopS, restS]
      by_cases h0 : r1.length = 0
      · rw [if_pos h0, if_pos h0]
        exact ⟨r1, rfl⟩
      · rw [if_neg h0, if_neg h0]
    | some z =>
      simp only [stopT, stopS, mustS, onS]
      cases hm : mustT z r1 with
      | error e => rfl
      | ok r2 =>
        simp only [restS]
        by_cases h0 : r2.length = 0
        · rw [if_pos h0, if_pos h0]
          exact ⟨r2, rfl⟩
        · rw [if_neg h0, if_neg h0]
end Go.Proofs.YtnfjjckbgnieeaaGreatDoor

namespace Go.Proofs.YtnfjjckbgnieeaaGreatDoor
open Go.RowKit

theorem eqlE_no {o : Oper} {x y : Operand} {ev : Operand → Value} {s : Int} (ho : o.op = .binOp .eql 30 x y 30) (hx : ev x = .int .i64 s) (hy : ev y = .int .i64 0) (h : ¬ s = 0) (W : World) :
    (execOp ev o).run Tryz.prog W = .ok (.value (.bool false)) W := by
  rw [eql_intE ho hx hy W]
  have : (s == 0) = false := by simpa using h
  rw [this]
theorem lssP_no {o : Oper} {x y : Operand} {ev : Operand → Value} {s t : Int} (ho : o.op = .binOp .lss 3 x y 3) (hx : ev x = .int .i64 s) (hy : ev y = .int .i64 t) (h : ¬ s < t) (W : World) :
    (execOp ev o).run Tryz.prog W = .ok (.value (.bool false)) W := by
  rw [lss_int ho hx hy W, decide_eq_false h]
theorem lssP_yes {o : Oper} {x y : Operand} {ev : Operand → Value} {s t : Int} (ho : o.op = .binOp .lss 3 x y 3) (hx : ev x = .int .i64 s) (hy : ev y = .int .i64 t) (h : s < t) (W : World) :
    (execOp ev o).run Tryz.prog W = .ok (.value (.bool true)) W := by
  rw [lss_int ho hx hy W, decide_eq_true h]
def erI : RS → Int
  | .ok _ => 0
  | .error e => e.2
def plI (L : List Tk) (n : Nat) : RS → Nat
  | .ok _ => 0
  | .error e => placeK L n e.1
def failS (k : Nat) (er : Int) : RS → RS
  | .ok _ => .error (k, er)
  | .error e => .error e
/-- The reader's block. -/
structure Rdr (W : World) (g : Nat) (lv : Value) (L : List Tk) (n : Nat) (q : RS) (i : Nat) : Prop where
  cel : Cel W g #[lv, .int .i64 (i : Int), .int .i64 (n : Int), .int .i64 (plI L n q : Int), .int .i64 (erI q)] 95
  row : W.ownsRow 0 63 3 lv L.length (L.flatMap tkL)
  len : L.length ≤ 65536
  ile : i ≤ L.length
  ok : ∀ r, q = .ok r → i = L.length - r.length ∧ ∃ p, txtsK L = p ++ r
  bad : ∀ e, q = .error e → ¬ e.2 = 0
/-- The reader within a call that began in w0. -/
structure Rds (w0 W : World) (g : Nat) (lv : Value) (L : List Tk) (n : Nat) (q : RS) : Prop where
  rd : ∃ i, Rdr W g lv L n q i
  sin : Since w0 W
  low : w0.heap.size ≤ g
  fit : ∀ x ∈ txtsK L, x.length ≤ 65536
section
variable {w0 W W' : World} {g : Nat} {lv : Value} {L : List Tk} {n : Nat} {q q' : RS} {i : Nat}
theorem Rdr.next (h : Rdr W g lv L n q i) (hs : Since W W') : Rdr W' g lv L n q i := ⟨h.cel.next hs, own_since h.row hs, h.len, h.ile, h.ok, h.bad⟩
theorem Rdr.keep {Z : Nat → Prop} (h : Rdr W g lv L n q i) (hk : Keep Z W W') (hg : ¬ Z g) (hl : ∀ b, lv.ownBlock = some b → ¬ Z b) : Rdr W' g lv L n q i := ⟨hk.cel h.cel hg, hk.own h.row hl, h.len, h.ile, h.ok, h.bad⟩
theorem Rdr.off (h : Rdr W g lv L n q i) : ∀ b, lv.ownBlock = some b → ¬ (b = g) := fun b hb e => by
  subst e
  exact cel_own_ne h.cel h.row (by decide) hb.symm
theorem Rdr.sub {r : Toks} (h : Rdr W g lv L n (.ok r) i) : r.length ≤ L.length ∧ i + r.length = L.length := by
  obtain ⟨h1, p, hp⟩ := h.ok r rfl
  have := congrArg List.length hp
  simp [txtsK] at this
  omega
theorem Rds.next (h : Rds w0 W g lv L n q) (hs : Since W W') : Rds w0 W' g lv L n q := by
  obtain ⟨i, hr⟩ := h.rd
  exact ⟨⟨i, hr.next hs⟩, h.sin.trans hs, h.low, h.fit⟩
theorem Rds.only (h : Rds w0 W g lv L n q) (hk : OnlyG g W W') {j : Nat} (hp : Rdr W' g lv L n q' j) : Rds w0 W' g lv L n q' := ⟨⟨j, hp⟩, hk.since h.sin (fun x hx => by rw [hx]; exact h.low), h.low, h.fit⟩
theorem Rds.fits {r : Toks} (h : Rds w0 W g lv L n (.ok r)) : ∀ t ∈ r, t.length ≤ 65536 := by
  obtain ⟨i, hr⟩ := h.rd
  obtain ⟨_, p, hp⟩ := hr.ok r rfl
  exact fun t ht => h.fit t (by rw [hp]; exact List.mem_append_right _ ht)
/-- A store into the reader's block. -/
theorem Rdr.put (h : Rdr W g lv L n q i) {k j : Nat} {u : Value} (he : (#[lv, .int .i64 (i : Int), .int .i64 (n : Int), .int .i64 (plI L n q : Int), .int .i64 (erI q)] : Array Value).setIfInBounds k u = #[lv, .int .i64 (j : Int), .int .i64 (n : Int), .int .i64 (plI L n q' : Int), .int .i64 (erI q')])
    (h1 : j ≤ L.length) (h2 : ∀ r, q' = .ok r → j = L.length - r.length ∧ ∃ p, txtsK L = p ++ r) (h3 : ∀ e, q' = .error e → ¬ e.2 = 0) : Rdr (W.setCell ⟨g, k, none⟩ u) g lv L n q' j ∧ OnlyG g W (W.setCell ⟨g, k, none⟩ u) := by
  have hg := grown_setCell W g k u
  exact ⟨⟨h.cel.set he, h.row.kept hg (own_cel_ne h.row h.cel (by decide)), h.len, h1, h2, h3⟩, Keep.of_grown hg fun b hb => by injection hb with hb; exact hb.symm⟩
theorem place_ij {L : List Tk} {n j : Nat} (h : j ≤ L.length) : placeI L n j = placeK L n (L.length - j) := by
  unfold placeI placeK
  rw [show L.length - (L.length - j) = j by omega]
  cases hd : L.drop j with
  | nil => rw [List.getElem?_eq_none (by have := congrArg List.length hd; simp at this; omega)]
  | cons t q =>
    have : L[j]? = some t := by
      have := congrArg (fun l => l[0]?) hd
      simpa using this
    rw [this]
end
section
variable {w0 w : World} {g : Nat} {lv : Value} {L : List Tk} {n : Nat} {q : RS} {i : Nat}
theorem keep_two {a b c : World} (h : OnlyG g a b) (k : OnlyG g b c) : OnlyG g a c := h.trans k fun _ hx => .inl hx
set_option maxHeartbeats 2000000 in
theorem rfail_any (er : Int) (j : Nat) (her : ¬ er = 0) (h : Rdr w g lv L n q i) (hj : j ≤ L.length) :
    Calls Tryz.prog 77 #[.pointer (some ⟨g, 0, none⟩), .int .i64 er, .int .i64 (j : Int)] w fun e w' => e = .returned (.tuple #[]) ∧ Rdr w' g lv L n (failS (L.length - j) er q) i ∧ OnlyG g w w' := by
  have H := Lib.hid h
  cases q with
  | error x =>
    obtain ⟨k, e0⟩ := x
    have he : ¬ e0 = 0 := h.bad _ rfl
    have c4 : w.cell? ⟨g, 4, none⟩ = some (.int .i64 e0) := h.cel.cell 4
    clear h
    go_enter Tryz.func77, Tryz.ntmps77
    go_wp2_with fail
    refine bodyPost_ret (results_none rfl _ _ _) rfl ?_
    exact ⟨rfl, H.out, Keep.refl _ _⟩
  | ok r =>
    obtain ⟨la, lc, hlv⟩ := (own_tkrow h.row).slice
    subst hlv
    have c2 : w.cell? ⟨g, 2, none⟩ = some (.int .i64 (n : Int)) := h.cel.cell 2
    have c4 : w.cell? ⟨g, 4, none⟩ = some (.int .i64 0) := h.cel.cell 4
    have c3 : w.cell? ⟨g, 3, none⟩ = some (.int .i64 0) := h.cel.cell 3
    have z3 := h.cel.free 3
    have z4 := h.cel.free 4
    have hlt := h.cel.lt
    obtain ⟨w1, hw1⟩ : ∃ W, Hid (W = (w.setCell ⟨g, 4, none⟩ (.int .i64 er)).setCell ⟨g, 3, none⟩ (.int .i64 (n : Int))) := ⟨_, rfl⟩
    have hg1 := grown_setCell w g 4 (.int .i64 er)
    have hg2 := grown_setCell (w.setCell ⟨g, 4, none⟩ (.int .i64 er)) g 3 (.int .i64 (n : Int))
    have hc0 := h.cel.set (j := 4) (u := .int .i64 er) rfl
    have hr0 := h.row.kept hg1 (own_cel_ne h.row h.cel (by decide))
    have hc1 : Cel w1 g #[.slice la L.length lc, .int .i64 (i : Int), .int .i64 (n : Int), .int .i64 (n : Int), .int .i64 er] 95 := by rw [hw1.out]; exact hc0.set rfl
    have hr1 : w1.ownsRow 0 63 3 (.slice la L.length lc) L.length (L.flatMap tkL) := by rw [hw1.out]; exact hr0.kept hg2 (own_cel_ne hr0 hc0 (by decide))
    have hk1 : OnlyG g w w1 := by rw [hw1.out]; exact (Keep.of_grown hg1 fun b hb => by injection hb with hb; exact hb.symm).trans (Keep.of_grown (Z := fun b => b = g) hg2 fun b hb => by injection hb with hb; exact hb.symm) (fun _ hx => .inl hx)
    clear hg1 hg2 hc0 hr0
    have hbad : ∀ e : PErr, (Except.error (L.length - j, er) : RS) = .error e → ¬ e.2 = 0 := fun e he => by injection he with he; rw [← he]; exact her
    by_cases hlj : j < L.length
    · have h1 : (j : Int) < (L.length : Int) := by omega
      have h2 : (0 : Int) ≤ (j : Int) := by omega
      obtain ⟨b, o, rfl, hc, hat⟩ := (own_tkrow hr1).get (by omega)
      have hp : Hid (placeK L n (L.length - j) = (L[j]).2.2) := by show _ = _; rw [← place_ij hj]; unfold placeI; rw [List.getElem?_eq_getElem hlj]
      obtain ⟨p, hpp⟩ : ∃ p, Hid (p = (L[j]).2.2) := ⟨(L[j]).2.2, rfl⟩
      have k2 := (hat j hlj).2.2
      rw [← hpp.out] at k2
      have x0 : w1.cell? ⟨g, 0, none⟩ = some (.slice (some ⟨b, o, none⟩) L.length lc) := hc1.cell 0
      have x3 : w1.cell? ⟨g, 3, none⟩ = some (.int .i64 (n : Int)) := hc1.cell 3
      have y3 := hc1.free 3
      have hlt1 := hc1.lt
      have HF : Hid (Rdr (w1.setCell ⟨g, 3, none⟩ (.int .i64 (p : Int))) g (.slice (some ⟨b, o, none⟩) L.length lc) L n (.error (L.length - j, er)) i ∧ OnlyG g w (w1.setCell ⟨g, 3, none⟩ (.int .i64 (p : Int)))) := by
        have hg3 := grown_setCell w1 g 3 (.int .i64 (p : Int))
        refine ⟨⟨?_, hr1.kept hg3 (own_cel_ne hr1 hc1 (by decide)), h.len, h.ile, (fun r e => by cases e), hbad⟩, keep_two hk1 (Keep.of_grown hg3 fun b hb => by injection hb with hb; exact hb.symm)⟩
        have e : plI L n (.error (L.length - j, er)) = p := by rw [hpp.out, ← hp.out]; rfl
        rw [e]
        exact hc1.set rfl
      clear hat hp hpp H h hc1 hr1 hk1 hbad
      go_enter Tryz.func77, Tryz.ntmps77
      go_upto_region 2 with (fail)
      rw [← hw1.out]
      clear hw1 c2 c3 c4 z3 z4 hlt
      go_wp2_with fail
      go_end0
      exact ⟨rfl, HF.out⟩
    · have h1 : ¬ (j : Int) < (L.length : Int) := by omega
      have x0 : w1.cell? ⟨g, 0, none⟩ = some (.slice la L.length lc) := hc1.cell 0
      have HF : Hid (Rdr w1 g (.slice la L.length lc) L n (.error (L.length - j, er)) i ∧ OnlyG g w w1) := by
        refine ⟨⟨?_, hr1, h.len, h.ile, (fun r e => by cases e), hbad⟩, hk1⟩
        have e : plI L n (.error (L.length - j, er)) = n := by show placeK L n (L.length - j) = n; rw [← place_ij hj]; unfold placeI; rw [List.getElem?_eq_none (by omega)]
        rw [e]
        exact hc1
      clear H h hc1 hr1 hk1 hbad
      go_enter Tryz.func77, Tryz.ntmps77
      go_upto_region 2 with (fail)
      rw [← hw1.out]
      clear hw1 c2 c3 c4 z3 z4 hlt
      go_wp2_with fail
      go_end0
      exact ⟨rfl, HF.out⟩
set_option maxHeartbeats 2000000 in
theorem ris_any (s : Txt) (h : Rdr w g lv L n q i) :
    Calls Tryz.prog 75 #[.pointer (some ⟨g, 0, none⟩), .string ⟨s.toArray⟩] w fun e w' => e = .returned (.bool (isS s q)) ∧ Since w w' := by
  obtain ⟨la, lc, hlv⟩ := (own_tkrow h.row).slice
  subst hlv
  have c0 : w.cell? ⟨g, 0, none⟩ = some (.slice la L.length lc) := h.cel.cell 0
  have c1 : w.cell? ⟨g, 1, none⟩ = some (.int .i64 (i : Int)) := h.cel.cell 1
  cases q with
  | error x =>
    obtain ⟨k, e0⟩ := x
    have he : ¬ e0 = 0 := h.bad _ rfl
    have c4 : w.cell? ⟨g, 4, none⟩ = some (.int .i64 e0) := h.cel.cell 4
    show Calls _ _ _ _ fun e w' => e = .returned (.bool false) ∧ Since w w'
    have hE4 : At w g 4 #[.int .i64 e0] := At.one c4
    clear h
    go_enter Tryz.func75, Tryz.ntmps75
    go_upto_region 1 with (fail)
    have hs0 : Since w w.drew := (Since.refl _).drew
    refine hx_begin (S := fun W => Since w W) (by kernel_rfl) hs0 (by kernel_rfl) (fun _ _ _ _ _ h => h) (fun hns hQ => ?_)
    refine hx_take (i := 0) (oi := _) (v := .pointer (some ⟨g, 0, none⟩)) rfl rfl hns (by kernel_rfl) (by kernel_rfl) hQ (by kernel_rfl) (fun _ _ => by kernel_rfl) hs0 ?_
    refine hx_take (i := 1) (oi := _) (v := .pointer (some ⟨g, 0, none⟩)) rfl rfl hns (by kernel_rfl) (by kernel_rfl) hQ (by kernel_rfl) (fun _ _ => by kernel_rfl) hs0 ?_
    refine hx_take (i := 2) (oi := _) (v := .pointer (some ⟨g, 4, none⟩)) rfl rfl hns (by kernel_rfl) (by kernel_rfl) hQ (by kernel_rfl) (fun _ _ => by kernel_rfl) hs0 ?_
    refine hx_take (i := 3) (oi := _) (v := .int .i64 e0) rfl rfl hns (by kernel_rfl) (by kernel_rfl) hQ (by kernel_rfl) (fun W hW => ld_one rfl (by kernel_rfl) (by kernel_rfl) W (hE4.next hW 0 _ rfl)) hs0 ?_
    refine hx_take (i := 4) (oi := _) (v := .bool false) rfl rfl hns (by kernel_rfl) (by kernel_rfl) hQ (by kernel_rfl) (fun W _ => eqlE_no rfl (by kernel_rfl) (by kernel_rfl) he W) hs0 ?_
    refine hx_take (i := 5) (oi := _) (v := .bool false) rfl rfl hns (by kernel_rfl) (by kernel_rfl) hQ (by kernel_rfl) (fun _ _ => by kernel_rfl) hs0 ?_
    refine hx_off (i := 6) (oi := _) rfl rfl hns (by kernel_rfl) (by kernel_rfl) hQ (by kernel_rfl) hs0 ?_
    refine hx_off (i := 7) (oi := _) rfl rfl hns (by kernel_rfl) (by kernel_rfl) hQ (by kernel_rfl) hs0 ?_
    refine hx_off (i := 8) (oi := _) rfl rfl hns (by kernel_rfl) (by kernel_rfl) hQ (by kernel_rfl) hs0 ?_
    refine hx_off (i := 9) (oi := _) rfl rfl hns (by kernel_rfl) (by kernel_rfl) hQ (by kernel_rfl) hs0 ?_
    refine hx_off (i := 10) (oi := _) rfl rfl hns (by kernel_rfl) (by kernel_rfl) hQ (by kernel_rfl) hs0 ?_
    refine hx_off (i := 11) (oi := _) rfl rfl hns (by kernel_rfl) (by kernel_rfl) hQ (by kernel_rfl) hs0 ?_
    refine hx_off (i := 12) (oi := _) rfl rfl hns (by kernel_rfl) (by kernel_rfl) hQ (by kernel_rfl) hs0 ?_
    refine hx_off (i := 13) (oi := _) rfl rfl hns (by kernel_rfl) (by kernel_rfl) hQ (by kernel_rfl) hs0 ?_
    refine hx_off (i := 14) (oi := _) rfl rfl hns (by kernel_rfl) (by kernel_rfl) hQ (by kernel_rfl) hs0 ?_
    refine hx_off (i := 15) (oi := _) rfl rfl hns (by kernel_rfl) (by kernel_rfl) hQ (by kernel_rfl) hs0 ?_
    refine hx_take (i := 16) (oi := _) (v := .bool false) rfl rfl hns (by kernel_rfl) (by kernel_rfl) hQ (by kernel_rfl) (fun _ _ => by kernel_rfl) hs0 ?_
    refine hx_take (i := 17) (oi := _) (v := .bool false) rfl rfl hns (by kernel_rfl) (by kernel_rfl) hQ (by kernel_rfl) (fun _ _ => by kernel_rfl) hs0 ?_
    refine hx_off (i := 18) (oi := _) rfl rfl hns (by kernel_rfl) (by kernel_rfl) hQ (by kernel_rfl) hs0 ?_
    refine hx_off (i := 19) (oi := _) rfl rfl hns (by kernel_rfl) (by kernel_rfl) hQ (by kernel_rfl) hs0 ?_
    refine hx_off (i := 20) (oi := _) rfl rfl hns (by kernel_rfl) (by kernel_rfl) hQ (by kernel_rfl) hs0 ?_
    refine hx_off (i := 21) (oi := _) rfl rfl hns (by kernel_rfl) (by kernel_rfl) hQ (by kernel_rfl) hs0 ?_
    refine hx_off (i := 22) (oi := _) rfl rfl hns (by kernel_rfl) (by kernel_rfl) hQ (by kernel_rfl) hs0 ?_
    refine hx_off (i := 23) (oi := _) rfl rfl hns (by kernel_rfl) (by kernel_rfl) hQ (by kernel_rfl) hs0 ?_
    refine hx_off (i := 24) (oi := _) rfl rfl hns (by kernel_rfl) (by kernel_rfl) hQ (by kernel_rfl) hs0 ?_
    refine hx_off (i := 25) (oi := _) rfl rfl hns (by kernel_rfl) (by kernel_rfl) hQ (by kernel_rfl) hs0 ?_
    refine hx_off (i := 26) (oi := _) rfl rfl hns (by kernel_rfl) (by kernel_rfl) hQ (by kernel_rfl) hs0 ?_
    refine hx_off (i := 27) (oi := _) rfl rfl hns (by kernel_rfl) (by kernel_rfl) hQ (by kernel_rfl) hs0 ?_
    refine hx_off (i := 28) (oi := _) rfl rfl hns (by kernel_rfl) (by kernel_rfl) hQ (by kernel_rfl) hs0 ?_
    refine hx_off (i := 29) (oi := _) rfl rfl hns (by kernel_rfl) (by kernel_rfl) hQ (by kernel_rfl) hs0 ?_
    refine hx_off (i := 30) (oi := _) rfl rfl hns (by kernel_rfl) (by kernel_rfl) hQ (by kernel_rfl) hs0 ?_
    refine hx_take (i := 31) (oi := _) (v := .bool false) rfl rfl hns (by kernel_rfl) (by kernel_rfl) hQ (by kernel_rfl) (fun _ _ => by kernel_rfl) hs0 ?_
    refine hx_take (i := 32) (oi := _) (v := .bool false) rfl rfl hns (by kernel_rfl) (by kernel_rfl) hQ (by kernel_rfl) (fun _ _ => by kernel_rfl) hs0 ?_
    refine wpAnyH_done (by kernel_rfl) ?_ _
    clear hns hQ
    simp only [List.set_cons_zero, List.set_cons_succ]
    go_wp2_with fail
    go_ret
    exact ⟨rfl, hs0⟩
  | ok r =>
    have c4 : w.cell? ⟨g, 4, none⟩ = some (.int .i64 0) := h.cel.cell 4
    obtain ⟨hr1, hr2⟩ := h.sub
    cases r with
    | nil =>
      have h1 : ¬ (i : Int) < (L.length : Int) := by rw [List.length_nil] at hr2; omega
      show Calls _ _ _ _ fun e w' => e = .returned (.bool false) ∧ Since w w'
      have hE4 : At w g 4 #[.int .i64 0] := At.one c4
      have hI1 : At w g 1 #[.int .i64 (i : Int)] := At.one c1
      have hL0 : At w g 0 #[.slice la L.length lc] := At.one c0
      clear h hr1 hr2
      go_enter Tryz.func75, Tryz.ntmps75
      go_upto_region 1 with (fail)
      have hs0 : Since w w.drew := (Since.refl _).drew
      refine hx_begin (S := fun W => Since w W) (by kernel_rfl) hs0 (by kernel_rfl) (fun _ _ _ _ _ h => h) (fun hns hQ => ?_)
      refine hx_take (i := 0) (oi := _) (v := .pointer (some ⟨g, 0, none⟩)) rfl rfl hns (by kernel_rfl) (by kernel_rfl) hQ (by kernel_rfl) (fun _ _ => by kernel_rfl) hs0 ?_
      refine hx_take (i := 1) (oi := _) (v := .pointer (some ⟨g, 0, none⟩)) rfl rfl hns (by kernel_rfl) (by kernel_rfl) hQ (by kernel_rfl) (fun _ _ => by kernel_rfl) hs0 ?_
      refine hx_take (i := 2) (oi := _) (v := .pointer (some ⟨g, 4, none⟩)) rfl rfl hns (by kernel_rfl) (by kernel_rfl) hQ (by kernel_rfl) (fun _ _ => by kernel_rfl) hs0 ?_
      refine hx_take (i := 3) (oi := _) (v := .int .i64 0) rfl rfl hns (by kernel_rfl) (by kernel_rfl) hQ (by kernel_rfl) (fun W hW => ld_one rfl (by kernel_rfl) (by kernel_rfl) W (hE4.next hW 0 _ rfl)) hs0 ?_
      refine hx_take (i := 4) (oi := _) (v := .bool true) rfl rfl hns (by kernel_rfl) (by kernel_rfl) hQ (by kernel_rfl) (fun W _ => eqs_intE (s := 0) rfl (by kernel_rfl) (by kernel_rfl) W) hs0 ?_
      refine hx_take (i := 5) (oi := _) (v := .bool true) rfl rfl hns (by kernel_rfl) (by kernel_rfl) hQ (by kernel_rfl) (fun _ _ => by kernel_rfl) hs0 ?_
      refine hx_take (i := 6) (oi := _) (v := .pointer (some ⟨g, 0, none⟩)) rfl rfl hns (by kernel_rfl) (by kernel_rfl) hQ (by kernel_rfl) (fun _ _ => by kernel_rfl) hs0 ?_
      refine hx_take (i := 7) (oi := _) (v := .pointer (some ⟨g, 0, none⟩)) rfl rfl hns (by kernel_rfl) (by kernel_rfl) hQ (by kernel_rfl) (fun _ _ => by kernel_rfl) hs0 ?_
      refine hx_take (i := 8) (oi := _) (v := .pointer (some ⟨g, 1, none⟩)) rfl rfl hns (by kernel_rfl) (by kernel_rfl) hQ (by kernel_rfl) (fun _ _ => by kernel_rfl) hs0 ?_
      refine hx_take (i := 9) (oi := _) (v := .int .i64 (i : Int)) rfl rfl hns (by kernel_rfl) (by kernel_rfl) hQ (by kernel_rfl) (fun W hW => ld_one rfl (by kernel_rfl) (by kernel_rfl) W (hI1.next hW 0 _ rfl)) hs0 ?_
      refine hx_take (i := 10) (oi := _) (v := .pointer (some ⟨g, 0, none⟩)) rfl rfl hns (by kernel_rfl) (by kernel_rfl) hQ (by kernel_rfl) (fun _ _ => by kernel_rfl) hs0 ?_
      refine hx_take (i := 11) (oi := _) (v := .pointer (some ⟨g, 0, none⟩)) rfl rfl hns (by kernel_rfl) (by kernel_rfl) hQ (by kernel_rfl) (fun _ _ => by kernel_rfl) hs0 ?_
      refine hx_take (i := 12) (oi := _) (v := .pointer (some ⟨g, 0, none⟩)) rfl rfl hns (by kernel_rfl) (by kernel_rfl) hQ (by kernel_rfl) (fun _ _ => by kernel_rfl) hs0 ?_
      refine hx_take (i := 13) (oi := _) (v := .slice la L.length lc) rfl rfl hns (by kernel_rfl) (by kernel_rfl) hQ (by kernel_rfl) (fun W hW => ld_one rfl (by kernel_rfl) (by kernel_rfl) W (hL0.next hW 0 _ rfl)) hs0 ?_
      refine hx_take (i := 14) (oi := _) (v := .int .i64 (L.length : Int)) rfl rfl hns (by kernel_rfl) (by kernel_rfl) hQ (by kernel_rfl) (fun _ _ => by kernel_rfl) hs0 ?_
      refine hx_take (i := 15) (oi := _) (v := .bool false) rfl rfl hns (by kernel_rfl) (by kernel_rfl) hQ (by kernel_rfl) (fun W _ => lssP_no rfl (by kernel_rfl) (by kernel_rfl) h1 W) hs0 ?_
      refine hx_take (i := 16) (oi := _) (v := .bool false) rfl rfl hns (by kernel_rfl) (by kernel_rfl) hQ (by kernel_rfl) (fun _ _ => by kernel_rfl) hs0 ?_
      refine hx_take (i := 17) (oi := _) (v := .bool false) rfl rfl hns (by kernel_rfl) (by kernel_rfl) hQ (by kernel_rfl) (fun _ _ => by kernel_rfl) hs0 ?_
      refine hx_off (i := 18) (oi := _) rfl rfl hns (by kernel_rfl) (by kernel_rfl) hQ (by kernel_rfl) hs0 ?_
      refine hx_off (i := 19) (oi := _) rfl rfl hns (by kernel_rfl) (by kernel_rfl) hQ (by kernel_rfl) hs0 ?_
      refine hx_off (i := 20) (oi := _) rfl rfl hns (by kernel_rfl) (by kernel_rfl) hQ (by kernel_rfl) hs0 ?_
      refine hx_off (i := 21) (oi := _) rfl rfl hns (by kernel_rfl) (by kernel_rfl) hQ (by kernel_rfl) hs0 ?_
      refine hx_off (i := 22) (oi := _) rfl rfl hns (by kernel_rfl) (by kernel_rfl) hQ (by kernel_rfl) hs0 ?_
      refine hx_off (i := 23) (oi := _) rfl rfl hns (by kernel_rfl) (by kernel_rfl) hQ (by kernel_rfl) hs0 ?_
      refine hx_off (i := 24) (oi := _) rfl rfl hns (by kernel_rfl) (by kernel_rfl) hQ (by kernel_rfl) hs0 ?_
      refine hx_off (i := 25) (oi := _) rfl rfl hns (by kernel_rfl) (by kernel_rfl) hQ (by kernel_rfl) hs0 ?_
      refine hx_off (i := 26) (oi := _) rfl rfl hns (by kernel_rfl) (by kernel_rfl) hQ (by kernel_rfl) hs0 ?_
      refine hx_off (i := 27) (oi := _) rfl rfl hns (by kernel_rfl) (by kernel_rfl) hQ (by kernel_rfl) hs0 ?_
      refine hx_off (i := 28) (oi := _) rfl rfl hns (by kernel_rfl) (by kernel_rfl) hQ (by kernel_rfl) hs0 ?_
      refine hx_off (i := 29) (oi := _) rfl rfl hns (by kernel_rfl) (by kernel_rfl) hQ (by kernel_rfl) hs0 ?_
      refine hx_off (i := 30) (oi := _) rfl rfl hns (by kernel_rfl) (by kernel_rfl) hQ (by kernel_rfl) hs0 ?_
      refine hx_take (i := 31) (oi := _) (v := .bool false) rfl rfl hns (by kernel_rfl) (by kernel_rfl) hQ (by kernel_rfl) (fun _ _ => by kernel_rfl) hs0 ?_
      refine hx_take (i := 32) (oi := _) (v := .bool false) rfl rfl hns (by kernel_rfl) (by kernel_rfl) hQ (by kernel_rfl) (fun _ _ => by kernel_rfl) hs0 ?_
      refine wpAnyH_done (by kernel_rfl) ?_ _
      clear hns hQ
      simp only [List.set_cons_zero, List.set_cons_succ]
      go_wp2_with fail
      go_ret
      exact ⟨rfl, hs0⟩
    | cons t r =>
      rw [List.length_cons] at hr2
      have hi : i < L.length := by omega
      have h1 : (i : Int) < (L.length : Int) := by omega
      have h2 : (0 : Int) ≤ (i : Int) := by omega
      obtain ⟨h3, p, hp⟩ := h.ok _ rfl
      obtain ⟨b, o, rfl, hc, hat⟩ := (own_tkrow h.row).get (by omega)
      have k1 := (hat i hi).2.1
      have ht : (L[i]).2.1 = t := by
        have := txt_of hp 0
        rw [← h3] at this
        unfold txtI at this
        rw [Nat.add_zero, List.getElem?_eq_getElem hi] at this
        exact this
      rw [ht] at k1
      have hb : (t == s) = isT s (t :: r) := by
        show _ = decide (t = s)
        cases hd : decide (t = s) with
        | true => simp [of_decide_eq_true hd]
        | false => simp [of_decide_eq_false hd]
      show Calls _ _ _ _ fun e w' => e = .returned (.bool (isT s (t :: r))) ∧ Since w w'
      rw [← hb]
      have hE4 : At w g 4 #[.int .i64 0] := At.one c4
      have hI1 : At w g 1 #[.int .i64 (i : Int)] := At.one c1
      have hL0 : At w g 0 #[.slice (some ⟨b, o, none⟩) L.length lc] := At.one c0
      have hT : At w b (o + i * 3 + 1) #[.string ⟨t.toArray⟩] := At.one k1
      clear h hat hp h3 ht hb hr1 hr2
      go_enter Tryz.func75, Tryz.ntmps75
      go_upto_region 1 with (fail)
      have hs0 : Since w w.drew := (Since.refl _).drew
      refine hx_begin (S := fun W => Since w W) (by kernel_rfl) hs0 (by kernel_rfl) (fun _ _ _ _ _ h => h) (fun hns hQ => ?_)
      refine hx_take (i := 0) (oi := _) (v := .pointer (some ⟨g, 0, none⟩)) rfl rfl hns (by kernel_rfl) (by kernel_rfl) hQ (by kernel_rfl) (fun _ _ => by kernel_rfl) hs0 ?_
      refine hx_take (i := 1) (oi := _) (v := .pointer (some ⟨g, 0, none⟩)) rfl rfl hns (by kernel_rfl) (by kernel_rfl) hQ (by kernel_rfl) (fun _ _ => by kernel_rfl) hs0 ?_
      refine hx_take (i := 2) (oi := _) (v := .pointer (some ⟨g, 4, none⟩)) rfl rfl hns (by kernel_rfl) (by kernel_rfl) hQ (by kernel_rfl) (fun _ _ => by kernel_rfl) hs0 ?_
      refine hx_take (i := 3) (oi := _) (v := .int .i64 0) rfl rfl hns (by kernel_rfl) (by kernel_rfl) hQ (by kernel_rfl) (fun W hW => ld_one rfl (by kernel_rfl) (by kernel_rfl) W (hE4.next hW 0 _ rfl)) hs0 ?_
      refine hx_take (i := 4) (oi := _) (v := .bool true) rfl rfl hns (by kernel_rfl) (by kernel_rfl) hQ (by kernel_rfl) (fun W _ => eqs_intE (s := 0) rfl (by kernel_rfl) (by kernel_rfl) W) hs0 ?_
      refine hx_take (i := 5) (oi := _) (v := .bool true) rfl rfl hns (by kernel_rfl) (by kernel_rfl) hQ (by kernel_rfl) (fun _ _ => by kernel_rfl) hs0 ?_
      refine hx_take (i := 6) (oi := _) (v := .pointer (some ⟨g, 0, none⟩)) rfl rfl hns (by kernel_rfl) (by kernel_rfl) hQ (by kernel_rfl) (fun _ _ => by kernel_rfl) hs0 ?_
      refine hx_take (i := 7) (oi := _) (v := .pointer (some ⟨g, 0, none⟩)) rfl rfl hns (by kernel_rfl) (by kernel_rfl) hQ (by kernel_rfl) (fun _ _ => by kernel_rfl) hs0 ?_
      refine hx_take (i := 8) (oi := _) (v := .pointer (some ⟨g, 1, none⟩)) rfl rfl hns (by kernel_rfl) (by kernel_rfl) hQ (by kernel_rfl) (fun _ _ => by kernel_rfl) hs0 ?_
      refine hx_take (i := 9) (oi := _) (v := .int .i64 (i : Int)) rfl rfl hns (by kernel_rfl) (by kernel_rfl) hQ (by kernel_rfl) (fun W hW => ld_one rfl (by kernel_rfl) (by kernel_rfl) W (hI1.next hW 0 _ rfl)) hs0 ?_
      refine hx_take (i := 10) (oi := _) (v := .pointer (some ⟨g, 0, none⟩)) rfl rfl hns (by kernel_rfl) (by kernel_rfl) hQ (by kernel_rfl) (fun _ _ => by kernel_rfl) hs0 ?_
      refine hx_take (i := 11) (oi := _) (v := .pointer (some ⟨g, 0, none⟩)) rfl rfl hns (by kernel_rfl) (by kernel_rfl) hQ (by kernel_rfl) (fun _ _ => by kernel_rfl) hs0 ?_
      refine hx_take (i := 12) (oi := _) (v := .pointer (some ⟨g, 0, none⟩)) rfl rfl hns (by kernel_rfl) (by kernel_rfl) hQ (by kernel_rfl) (fun _ _ => by kernel_rfl) hs0 ?_
      refine hx_take (i := 13) (oi := _) (v := .slice (some ⟨b, o, none⟩) L.length lc) rfl rfl hns (by kernel_rfl) (by kernel_rfl) hQ (by kernel_rfl) (fun W hW => ld_one rfl (by kernel_rfl) (by kernel_rfl) W (hL0.next hW 0 _ rfl)) hs0 ?_
      refine hx_take (i := 14) (oi := _) (v := .int .i64 (L.length : Int)) rfl rfl hns (by kernel_rfl) (by kernel_rfl) hQ (by kernel_rfl) (fun _ _ => by kernel_rfl) hs0 ?_
      refine hx_take (i := 15) (oi := _) (v := .bool true) rfl rfl hns (by kernel_rfl) (by kernel_rfl) hQ (by kernel_rfl) (fun W _ => lssP_yes rfl (by kernel_rfl) (by kernel_rfl) h1 W) hs0 ?_
      refine hx_take (i := 16) (oi := _) (v := .bool true) rfl rfl hns (by kernel_rfl) (by kernel_rfl) hQ (by kernel_rfl) (fun _ _ => by kernel_rfl) hs0 ?_
      refine hx_take (i := 17) (oi := _) (v := .bool true) rfl rfl hns (by kernel_rfl) (by kernel_rfl) hQ (by kernel_rfl) (fun _ _ => by kernel_rfl) hs0 ?_
      refine hx_take (i := 18) (oi := _) (v := .pointer (some ⟨g, 0, none⟩)) rfl rfl hns (by kernel_rfl) (by kernel_rfl) hQ (by kernel_rfl) (fun _ _ => by kernel_rfl) hs0 ?_
      refine hx_take (i := 19) (oi := _) (v := .pointer (some ⟨g, 0, none⟩)) rfl rfl hns (by kernel_rfl) (by kernel_rfl) hQ (by kernel_rfl) (fun _ _ => by kernel_rfl) hs0 ?_
      refine hx_take (i := 20) (oi := _) (v := .pointer (some ⟨g, 0, none⟩)) rfl rfl hns (by kernel_rfl) (by kernel_rfl) hQ (by kernel_rfl) (fun _ _ => by kernel_rfl) hs0 ?_
      refine hx_take (i := 21) (oi := _) (v := .slice (some ⟨b, o, none⟩) L.length lc) rfl rfl hns (by kernel_rfl) (by kernel_rfl) hQ (by kernel_rfl) (fun W hW => ld_one rfl (by kernel_rfl) (by kernel_rfl) W (hL0.next hW 0 _ rfl)) hs0 ?_
      refine hx_take (i := 22) (oi := _) (v := .pointer (some ⟨g, 0, none⟩)) rfl rfl hns (by kernel_rfl) (by kernel_rfl) hQ (by kernel_rfl) (fun _ _ => by kernel_rfl) hs0 ?_
      refine hx_take (i := 23) (oi := _) (v := .pointer (some ⟨g, 0, none⟩)) rfl rfl hns (by kernel_rfl) (by kernel_rfl) hQ (by kernel_rfl) (fun _ _ => by kernel_rfl) hs0 ?_
      refine hx_take (i := 24) (oi := _) (v := .pointer (some ⟨g, 1, none⟩)) rfl rfl hns (by kernel_rfl) (by kernel_rfl) hQ (by kernel_rfl) (fun _ _ => by kernel_rfl) hs0 ?_
      refine hx_take (i := 25) (oi := _) (v := .int .i64 (i : Int)) rfl rfl hns (by kernel_rfl) (by kernel_rfl) hQ (by kernel_rfl) (fun W hW => ld_one rfl (by kernel_rfl) (by kernel_rfl) W (hI1.next hW 0 _ rfl)) hs0 ?_
      refine hx_take (i := 26) (oi := _) (v := .pointer (some ⟨b, o + i * 3, none⟩)) rfl rfl hns (by kernel_rfl) (by kernel_rfl) hQ (by kernel_rfl) (fun W _ => ix_sl (n := L.length) (c := lc) (K := 3) rfl (by kernel_rfl) (by kernel_rfl) (by kernel_rfl) rfl hi W) hs0 ?_
      refine hx_take (i := 27) (oi := _) (v := .pointer (some ⟨b, o + i * 3 + 1, none⟩)) rfl rfl hns (by kernel_rfl) (by kernel_rfl) hQ (by kernel_rfl) (fun _ _ => by kernel_rfl) hs0 ?_
      refine hx_take (i := 28) (oi := _) (v := .string ⟨t.toArray⟩) rfl rfl hns (by kernel_rfl) (by kernel_rfl) hQ (by kernel_rfl) (fun W hW => ld_one rfl (by kernel_rfl) (by kernel_rfl) W (hT.next hW 0 _ rfl)) hs0 ?_
      refine hx_take (i := 29) (oi := _) (v := .string ⟨s.toArray⟩) rfl rfl hns (by kernel_rfl) (by kernel_rfl) hQ (by kernel_rfl) (fun _ _ => by kernel_rfl) hs0 ?_
      refine hx_take (i := 30) (oi := _) (v := .bool (t == s)) rfl rfl hns (by kernel_rfl) (by kernel_rfl) hQ (by kernel_rfl) (fun W _ => eql_txt rfl (by kernel_rfl) (by kernel_rfl) W) hs0 ?_
      refine hx_take (i := 31) (oi := _) (v := .bool (t == s)) rfl rfl hns (by kernel_rfl) (by kernel_rfl) hQ (by kernel_rfl) (fun _ _ => by kernel_rfl) hs0 ?_
      refine hx_take (i := 32) (oi := _) (v := .bool (t == s)) rfl rfl hns (by kernel_rfl) (by kernel_rfl) hQ (by kernel_rfl) (fun _ _ => by kernel_rfl) hs0 ?_
      refine wpAnyH_done (by kernel_rfl) ?_ _
      clear hns hQ
      simp only [List.set_cons_zero, List.set_cons_succ]
      go_wp2_with fail
      go_ret
      exact ⟨rfl, hs0⟩
set_option maxHeartbeats 1000000 in
theorem rmaybe_any (s : Txt) (h : Rdr w g lv L n q i) :
    Calls Tryz.prog 49 #[.pointer (some ⟨g, 0, none⟩), .string ⟨s.toArray⟩] w fun e w' => e = .returned (.bool (isS s q)) ∧ (∃ j, Rdr w' g lv L n (maybeS s q) j ∧ (isS s q = false → j = i)) ∧ OnlyG g w w' := by
  have HI := Lib.hid (ris_any s h)
  have H := Lib.hid h
  obtain ⟨b, hb⟩ : ∃ b, Hid (isS s q = b) := ⟨_, rfl⟩
  rw [hb.out] at HI ⊢
  cases b with
  | false =>
    have hm : maybeS s q = q := by
      cases q with
      | error e => rfl
      | ok r => exact maybe_no (by rw [show isT s r = false from hb.out]; decide)
    rw [hm]
    clear h hb hm
    go_enter Tryz.func49, Tryz.ntmps49
    go_wp2_with fail
    refine HI.out.mono ?_
    rintro e w2 ⟨rfl, hb⟩
    go_wp2_with fail
    go_ret
    exact ⟨rfl, ⟨i, H.out.next hb, fun _ => rfl⟩, Keep.of_since hb⟩
  | true =>
    cases q with
    | error e => exact absurd (show false = true from hb.out) (by decide)
    | ok r =>
      have hi : isT s r = true := hb.out
      have hr := isT_yes hi
      have hw : wrap64 ((i : Int) + 1) = (i : Int) + 1 := IntWalk.wrap64_in _ (by have := h.len; have := h.ile; omega)
      have HP : Hid (∀ W, Since w W → Rdr (W.setCell ⟨g, 1, none⟩ (.int .i64 ((i : Int) + 1))) g lv L n (maybeS s (.ok r)) (i + 1) ∧ OnlyG g w (W.setCell ⟨g, 1, none⟩ (.int .i64 ((i : Int) + 1)))) := by
        intro W hW
        rw [maybe_yes hi]
        have h0 := h.sub
        have hl : r.length = (r.drop 1).length + 1 := congrArg List.length hr
        have hp := (h.next hW).put (k := 1) (u := .int .i64 ((i : Int) + 1)) (q' := .ok (r.drop 1)) (j := i + 1) (by rfl) (by omega) (fun r' e => by
          injection e with e
          subst e
          obtain ⟨h3, p, hp⟩ := h.ok _ rfl
          refine ⟨by omega, p ++ [s], ?_⟩
          rw [hp, List.append_assoc]
          congr 1) (fun e he => by cases he)
        exact ⟨hp.1, keep_two (Keep.of_since hW) hp.2⟩
      have HC : Hid (∀ W, Since w W → W.cell? ⟨g, 1, none⟩ = some (.int .i64 (i : Int)) ∧ W.frozen? ⟨g, 1, none⟩ = false ∧ g < W.heap.size) := fun W hW => ⟨(h.next hW).cel.cell 1, (h.next hW).cel.free 1, (h.next hW).cel.lt⟩
      clear h hb hi hr
      go_enter Tryz.func49, Tryz.ntmps49
      go_wp2_with fail
      refine HI.out.mono ?_
      rintro e w2 ⟨rfl, hb⟩
      obtain ⟨c1, z1, z2⟩ := HC.out _ hb
      clear HC HI
      go_wp2_with fail
      go_ret
      obtain ⟨k1, k2⟩ := HP.out _ hb
      exact ⟨rfl, ⟨i + 1, k1, fun h => by cases h⟩, k2⟩
set_option maxHeartbeats 1000000 in
theorem rmust_any (s : Txt) (h : Rdr w g lv L n q i) :
    Calls Tryz.prog 51 #[.pointer (some ⟨g, 0, none⟩), .string ⟨s.toArray⟩] w fun e w' => e = .returned (.tuple #[]) ∧ (∃ j, Rdr w' g lv L n (mustS s q) j) ∧ OnlyG g w w' := by
  have HM := Lib.hid (rmaybe_any s h)
  obtain ⟨b, hb⟩ : ∃ b, Hid (isS s q = b) := ⟨_, rfl⟩
  rw [hb.out] at HM
  cases b with
  | false =>
    have hm : Hid (maybeS s q = q ∧ failS (L.length - i) 3 q = mustS s q) := by
      show _ ∧ _
      cases q with
      | error e => exact ⟨rfl, rfl⟩
      | ok r =>
        have hn : isT s r = false := hb.out
        refine ⟨maybe_no (by rw [hn]; decide), ?_⟩
        have h0 := h.sub
        show Except.error (L.length - i, 3) = mustT s r
        rw [show L.length - i = r.length by omega]
        cases r with
        | nil => rfl
        | cons t r =>
          rw [mustT, if_neg (of_decide_eq_false hn)]
          rfl
    rw [hm.out.1] at HM
    have HF : Hid (∀ W j, Rdr W g lv L n q j → j = i → Calls Tryz.prog 77 #[.pointer (some ⟨g, 0, none⟩), .int .i64 3, .int .i64 (i : Int)] W fun e w' => e = .returned (.tuple #[]) ∧ Rdr w' g lv L n (mustS s q) i ∧ OnlyG g W w') := fun W j hW hj => by
      subst hj
      have h := rfail_any 3 j (by decide) hW hW.ile
      rwa [hm.out.2] at h
    clear h hm hb
    go_enter Tryz.func51, Tryz.ntmps51
    go_wp2_with fail
    refine HM.out.mono ?_
    rintro e w2 ⟨rfl, ⟨j, hp, hj⟩, hk⟩
    obtain rfl := hj trivial
    have c1 : w2.cell? ⟨g, 1, none⟩ = some (.int .i64 (j : Int)) := hp.cel.cell 1
    clear HM
    go_wp2_with fail
    refine (HF.out _ _ hp rfl).mono ?_
    rintro e w3 ⟨rfl, hp3, hk3⟩
    go_wp2_with fail
    go_end0
    exact ⟨rfl, ⟨_, hp3⟩, keep_two hk hk3⟩
  | true =>
    have hm : maybeS s q = mustS s q := by
      cases q with
      | error e => exact absurd (show false = true from hb.out) (by decide)
      | ok r =>
        have hi : isT s r = true := hb.out
        rw [maybe_yes hi]
        show _ = mustT s r
        rw [isT_yes hi, mustT, if_pos rfl]
        rfl
    rw [hm] at HM
    clear h hb hm
    go_enter Tryz.func51, Tryz.ntmps51
    go_wp2_with fail
    refine HM.out.mono ?_
    rintro e w2 ⟨rfl, ⟨j, hp, hj⟩, hk⟩
    go_wp2_with fail
    go_end0
    exact ⟨rfl, ⟨_, hp⟩, hk⟩
end
end Go.Proofs.YtnfjjckbgnieeaaGreatDoor

namespace Go.Proofs.YtnfjjckbgnieeaaGreatDoor
open Go.RowKit

theorem rcon_b (s : Txt) (w : World) (hs : s.length ≤ maxLen) : Calls Tryz.prog 42 #[.string ⟨s.toArray⟩] w fun e w' => e = .returned (.bool (constantB s)) ∧ Since w w' := by
  have h := rconstant_any s w hs
  rwa [rconstant_eq] at h
theorem rvar_b (s : Txt) (w : World) (hs : s.length ≤ maxLen) : Calls Tryz.prog 69 #[.string ⟨s.toArray⟩] w fun e w' => e = .returned (.bool (variableB s)) ∧ Since w w' := by
  refine (rvariable_any s w hs).mono ?_
  rintro e w' ⟨rfl, rfl⟩
  exact ⟨rfl, Since.refl _⟩
set_option maxHeartbeats 1000000 in
theorem rmay_princ (s : Txt) (w : World) (hs : s.length ≤ 65536) : Calls Tryz.prog 76 #[.int .i64 0, .string ⟨s.toArray⟩] w fun e w' => e = .returned (.bool (principalB s)) ∧ Since w w' := by
  have HP := Lib.hid (rpri_any' s w (by unfold maxLen; omega))
  go_enter Tryz.func76, Tryz.ntmps76
  go_wp2_with fail
  refine HP.out.mono ?_
  rintro e w2 ⟨rfl, hb⟩
  go_wp2_with fail
  go_ret
  exact ⟨rfl, hb⟩
set_option maxHeartbeats 1000000 in
theorem rmay_pred (s : Txt) (w : World) (hs : s.length ≤ 65536) : Calls Tryz.prog 76 #[.int .i64 1, .string ⟨s.toArray⟩] w fun e w' => e = .returned (.bool (principalB s)) ∧ Since w w' := by
  have HP := Lib.hid (rpre_any' s w (by unfold maxLen; omega))
  go_enter Tryz.func76, Tryz.ntmps76
  go_wp2_with fail
  refine HP.out.mono ?_
  rintro e w2 ⟨rfl, hb⟩
  go_wp2_with fail
  go_ret
  exact ⟨rfl, hb⟩
set_option maxHeartbeats 1000000 in
theorem rmay_term (s : Txt) (w : World) (hs : s.length ≤ 65536) : Calls Tryz.prog 76 #[.int .i64 2, .string ⟨s.toArray⟩] w fun e w' => e = .returned (.bool (termT s)) ∧ Since w w' := by
  have HC := Lib.hid (rcon_b s w (by unfold maxLen; omega))
  have HV := Lib.hid (fun W => rvar_b s W (by unfold maxLen; omega))
  have ht : termT s = (constantB s || variableB s) := rfl
  rw [ht]
  clear ht
  cases hc : constantB s with
  | true =>
    have HC2 : Hid (Calls Tryz.prog 42 #[.string ⟨s.toArray⟩] w fun e w' => e = .returned (.bool true) ∧ Since w w') := by rw [← hc]; exact HC
    clear HC HV hc
    go_enter Tryz.func76, Tryz.ntmps76
    go_wp2_with fail
    refine HC2.out.mono ?_
    rintro e w2 ⟨rfl, hb⟩
    go_wp2_with fail
    go_ret
    exact ⟨rfl, hb⟩
  | false =>
    have HC2 : Hid (Calls Tryz.prog 42 #[.string ⟨s.toArray⟩] w fun e w' => e = .returned (.bool false) ∧ Since w w') := by rw [← hc]; exact HC
    clear HC hc
    go_enter Tryz.func76, Tryz.ntmps76
    go_wp2_with fail
    refine HC2.out.mono ?_
    rintro e w2 ⟨rfl, hb⟩
    go_wp2_with fail
    refine (HV.out _).mono ?_
    rintro e w3 ⟨rfl, hb3⟩
    go_wp2_with fail
    go_ret
    exact ⟨rfl, hb.trans hb3⟩
theorem num_all {s : Txt} (h : numB s = true) : s.all (fun c => digitB c.toNat) = true := by
  unfold numB at h
  simp only [Bool.and_eq_true] at h
  exact h.1.2
theorem all_at {s : Txt} {p : UInt8 → Bool} {k : Nat} (h : k < s.length) (hp : p s[k] = false) : s.all p = false := by
  rw [List.all_eq_false]
  exact ⟨s[k], List.getElem_mem h, by rw [hp]; decide⟩
set_option maxHeartbeats 2000000 in
theorem rmay_num (s : Txt) (w : World) (hs : s.length ≤ 65536) : Calls Tryz.prog 76 #[.int .i64 3, .string ⟨s.toArray⟩] w fun e w' => e = .returned (.bool (numB s)) ∧ Since w w' := by
  obtain ⟨R, hR⟩ : ∃ R, Hid (R = numB s) := ⟨_, rfl⟩
  rw [← hR.out]
  go_enter Tryz.func76, Tryz.ntmps76
  go_wp2_with fail
  go_loopw [5] (fun i wr => ∃ k : Nat, k ≤ s.length ∧ i = .int .i64 (k : Int) ∧ Since w wr ∧ Hid (∀ c ∈ s.take k, digitB c.toNat = true)) (fun i _ => s.length - (intOf i).toNat)
  case atStart => exact ⟨0, Nat.zero_le _, rfl, Since.refl _, fun c h => by simp at h⟩
  case round =>
  obtain ⟨k, hk, rfl, hS, hd⟩ := hrel
  by_cases hlt : k < s.length
  · have hlt2 : (k : Int) < (s.length : Int) := by omega
    have hlt0 : (0 : Int) ≤ (k : Int) := by omega
    have hst : s.take (k + 1) = s.take k ++ [s[k]] := List.take_succ_eq_append_getElem hlt
    have hbt := at_bytes s k hlt hlt
    obtain ⟨c, hc⟩ : ∃ c, Hid (c = s[k]) := ⟨s[k], rfl⟩
    rw [← hc.out] at hst hbt
    have HST := Lib.hid hst
    cases hg : digitB (((ByteArray.mk s.toArray)[k]'hlt).toNat : Int) with
    | false =>
      have hr : R = false := by
        rw [hR.out]
        cases hn : numB s with
        | false => rfl
        | true =>
          have h1 := num_all hn
          rw [all_at hlt (by rw [← hc.out, ← hbt]; exact hg)] at h1
          cases h1
      subst hr
      clear hR hd hst hbt hc HST
      go_wp2_with (go_at_call 93; refine (rDigit_any _ _).mono ?_; rintro e w' ⟨rfl, rfl⟩)
      go_ret
      exact ⟨rfl, hS⟩
    | true =>
      have hd2 : Hid (∀ c ∈ s.take (k + 1), digitB c.toNat = true) := fun x hx => by
        rw [HST.out, List.mem_append] at hx
        rcases hx with hx | hx
        · exact hd.out x hx
        · rw [List.mem_singleton.1 hx, ← hbt]; exact hg
      clear hst hbt hc HST hd
      have hk1 : wrap64 ((k : Int) + 1) = ((k + 1 : Nat) : Int) := by rw [IntWalk.wrap64_in _ (by omega)]; omega
      go_wp2_with (go_at_call 93; refine (rDigit_any _ _).mono ?_; rintro e w' ⟨rfl, rfl⟩)
      go_roundw
      case rel => exact ⟨k + 1, by omega, by first | rfl | go_num, hS, hd2⟩
      case measure => simp [intOf]; omega
  · have hlt2 : ¬ (k : Int) < (s.length : Int) := by omega
    obtain rfl : k = s.length := by omega
    rw [List.take_length] at hd
    have hall : s.all (fun c => digitB c.toNat) = true := by rw [List.all_eq_true]; exact hd.out
    have hRn := hR.out
    unfold numB at hRn
    rw [hall] at hRn
    clear hall hd hR hk
    cases s with
    | nil =>
      have hr : R = false := by rw [hRn]; rfl
      subst hr
      clear hRn
      go_wp2_with fail
      go_ret
      exact ⟨rfl, hS⟩
    | cons c l =>
      have he : (c :: l).isEmpty = false := rfl
      by_cases h7 : (c :: l).length ≤ 7
      · have h7i : ((c :: l).length : Int) ≤ 7 := by omega
        rw [decide_eq_true (show 0 < (c :: l).length by simp), decide_eq_true h7] at hRn
        by_cases h1 : (c :: l).length = 1
        · have h1i : ((c :: l).length : Int) = 1 := by omega
          rw [decide_eq_true h1] at hRn
          have hr : R = true := hRn
          subst hr
          clear hRn
          go_wp2_with fail
          go_ret
          exact ⟨rfl, hS⟩
        · have h1i : ¬ ((c :: l).length : Int) = 1 := by omega
          have h1j : ¬ (l.length : Int) + 1 = 1 := by rw [List.length_cons] at h1; omega
          have h1b : ((l.length : Int) + 1 == 1) = false := by simpa using h1j
          rw [decide_eq_false h1] at hRn
          simp only [Bool.true_and, Bool.and_true, Bool.false_or, List.head?_cons, Option.some.injEq] at hRn
          have h0 : (0 : Nat) < (c :: l).length := by simp
          have hcb : (ByteArray.mk (c :: l).toArray)[0]'h0 = c := rfl
          by_cases hc : c = 48
          · subst hc
            have hr : R = false := by rw [hRn]; rfl
            subst hr
            clear hRn
            go_wp2_with fail
            go_ret
            exact ⟨rfl, hS⟩
          · have hr : R = true := by rw [hRn, decide_eq_false hc]; rfl
            subst hr
            have hcm : ((c.toNat : Int) != 48) = true := by
              have : ¬ (c.toNat : Int) = 48 := fun h => hc (UInt8.toNat_inj.1 (by show c.toNat = 48; omega))
              simpa using this
            have hcn : ¬ (c.toNat : Int) = 48 := fun h => hc (UInt8.toNat_inj.1 (by show c.toNat = 48; omega))
            clear hRn
            go_wp2_with fail
            go_ret
            exact ⟨rfl, hS⟩
      · have h7i : ¬ ((c :: l).length : Int) ≤ 7 := by omega
        rw [decide_eq_false h7] at hRn
        have hr : R = false := by rw [hRn]; simp
        subst hr
        clear hRn
        go_wp2_with fail
        go_ret
        exact ⟨rfl, hS⟩
theorem subP_int {o : Oper} {x y : Operand} {ev : Operand → Value} {a b c : Int} (ho : o.op = .binOp .sub 3 x y 3) (hx : ev x = .int .i64 a) (hy : ev y = .int .i64 b) (h : IntKind.i64.wrap (a - b) = c) (W : World) :
    (execOp ev o).run Tryz.prog W = .ok (.value (.int .i64 c)) W := by
  simp only [execOp, ho]
  go_simp
section
variable {w0 w : World} {g : Nat} {lv : Value} {L : List Tk} {n : Nat} {q : RS} {i : Nat}
set_option maxHeartbeats 4000000 in
set_option maxRecDepth 100000 in
theorem rnext_any (k : Int) (m : Txt → Bool) (hm : ∀ (t : Txt) (W : World), t.length ≤ 65536 → Calls Tryz.prog 76 #[.int .i64 k, .string ⟨t.toArray⟩] W fun e w' => e = .returned (.bool (m t)) ∧ Since W w') (hf : ∀ x ∈ txtsK L, x.length ≤ 65536) (h : Rdr w g lv L n q i) :
    Calls Tryz.prog 50 #[.pointer (some ⟨g, 0, none⟩), .int .i64 k] w fun e w' => e = .returned (.string ⟨(nextV m q).toArray⟩) ∧ (∃ j, Rdr w' g lv L n (nextS m q) j) ∧ OnlyG g w w' := by
  obtain ⟨la, lc, hlv⟩ := (own_tkrow h.row).slice
  subst hlv
  have c0 : w.cell? ⟨g, 0, none⟩ = some (.slice la L.length lc) := h.cel.cell 0
  have c1 : w.cell? ⟨g, 1, none⟩ = some (.int .i64 (i : Int)) := h.cel.cell 1
  have HFL : Hid (∀ W, Since w W → Calls Tryz.prog 77 #[.pointer (some ⟨g, 0, none⟩), .int .i64 3, .int .i64 (i : Int)] W fun e w' => e = .returned (.tuple #[]) ∧ Rdr w' g (.slice la L.length lc) L n (failS (L.length - i) 3 q) i ∧ OnlyG g W w') := fun W hW => rfail_any 3 i (by decide) (h.next hW) h.ile
  cases q with
  | error x =>
    obtain ⟨k0, e0⟩ := x
    have he : ¬ e0 = 0 := h.bad _ rfl
    have c4 : w.cell? ⟨g, 4, none⟩ = some (.int .i64 e0) := h.cel.cell 4
    show Calls _ _ _ _ fun e w' => e = .returned (.string ⟨#[]⟩) ∧ (∃ j, Rdr w' g (.slice la L.length lc) L n (.error (k0, e0)) j) ∧ OnlyG g w w'
    have hE4 : At w g 4 #[.int .i64 e0] := At.one c4
    clear h hm hf
    go_enter Tryz.func50, Tryz.ntmps50
    go_upto_region 1 with (fail)
    have hs0 : Since w w.drew := (Since.refl _).drew
    refine hx_begin (S := fun W => Since w W) (by kernel_rfl) hs0 (by kernel_rfl) (fun _ _ _ _ _ h => h) (fun hns hQ => ?_)
    refine hx_take (i := 0) (oi := _) (v := .pointer (some ⟨g, 0, none⟩)) rfl rfl hns (by kernel_rfl) (by kernel_rfl) hQ (by kernel_rfl) (fun _ _ => by kernel_rfl) hs0 ?_
    refine hx_take (i := 1) (oi := _) (v := .pointer (some ⟨g, 0, none⟩)) rfl rfl hns (by kernel_rfl) (by kernel_rfl) hQ (by kernel_rfl) (fun _ _ => by kernel_rfl) hs0 ?_
    refine hx_take (i := 2) (oi := _) (v := .pointer (some ⟨g, 4, none⟩)) rfl rfl hns (by kernel_rfl) (by kernel_rfl) hQ (by kernel_rfl) (fun _ _ => by kernel_rfl) hs0 ?_
    refine hx_take (i := 3) (oi := _) (v := .int .i64 e0) rfl rfl hns (by kernel_rfl) (by kernel_rfl) hQ (by kernel_rfl) (fun W hW => ld_one rfl (by kernel_rfl) (by kernel_rfl) W (hE4.next hW 0 _ rfl)) hs0 ?_
    refine hx_take (i := 4) (oi := _) (v := .bool false) rfl rfl hns (by kernel_rfl) (by kernel_rfl) hQ (by kernel_rfl) (fun W _ => eqlE_no rfl (by kernel_rfl) (by kernel_rfl) he W) hs0 ?_
    refine hx_take (i := 5) (oi := _) (v := .bool false) rfl rfl hns (by kernel_rfl) (by kernel_rfl) hQ (by kernel_rfl) (fun _ _ => by kernel_rfl) hs0 ?_
    refine hx_off (i := 6) (oi := _) rfl rfl hns (by kernel_rfl) (by kernel_rfl) hQ (by kernel_rfl) hs0 ?_
    refine hx_off (i := 7) (oi := _) rfl rfl hns (by kernel_rfl) (by kernel_rfl) hQ (by kernel_rfl) hs0 ?_
    refine hx_off (i := 8) (oi := _) rfl rfl hns (by kernel_rfl) (by kernel_rfl) hQ (by kernel_rfl) hs0 ?_
    refine hx_off (i := 9) (oi := _) rfl rfl hns (by kernel_rfl) (by kernel_rfl) hQ (by kernel_rfl) hs0 ?_
    refine hx_off (i := 10) (oi := _) rfl rfl hns (by kernel_rfl) (by kernel_rfl) hQ (by kernel_rfl) hs0 ?_
    refine hx_off (i := 11) (oi := _) rfl rfl hns (by kernel_rfl) (by kernel_rfl) hQ (by kernel_rfl) hs0 ?_
    refine hx_off (i := 12) (oi := _) rfl rfl hns (by kernel_rfl) (by kernel_rfl) hQ (by kernel_rfl) hs0 ?_
    refine hx_off (i := 13) (oi := _) rfl rfl hns (by kernel_rfl) (by kernel_rfl) hQ (by kernel_rfl) hs0 ?_
    refine hx_off (i := 14) (oi := _) rfl rfl hns (by kernel_rfl) (by kernel_rfl) hQ (by kernel_rfl) hs0 ?_
    refine hx_off (i := 15) (oi := _) rfl rfl hns (by kernel_rfl) (by kernel_rfl) hQ (by kernel_rfl) hs0 ?_
    refine hx_take (i := 16) (oi := _) (v := .bool false) rfl rfl hns (by kernel_rfl) (by kernel_rfl) hQ (by kernel_rfl) (fun _ _ => by kernel_rfl) hs0 ?_
    refine hx_take (i := 17) (oi := _) (v := .bool false) rfl rfl hns (by kernel_rfl) (by kernel_rfl) hQ (by kernel_rfl) (fun _ _ => by kernel_rfl) hs0 ?_
    refine hx_off (i := 18) (oi := _) rfl rfl hns (by kernel_rfl) (by kernel_rfl) hQ (by kernel_rfl) hs0 ?_
    refine hx_off (i := 19) (oi := _) rfl rfl hns (by kernel_rfl) (by kernel_rfl) hQ (by kernel_rfl) hs0 ?_
    refine hx_off (i := 20) (oi := _) rfl rfl hns (by kernel_rfl) (by kernel_rfl) hQ (by kernel_rfl) hs0 ?_
    refine hx_off (i := 21) (oi := _) rfl rfl hns (by kernel_rfl) (by kernel_rfl) hQ (by kernel_rfl) hs0 ?_
    refine hx_off (i := 22) (oi := _) rfl rfl hns (by kernel_rfl) (by kernel_rfl) hQ (by kernel_rfl) hs0 ?_
    refine hx_off (i := 23) (oi := _) rfl rfl hns (by kernel_rfl) (by kernel_rfl) hQ (by kernel_rfl) hs0 ?_
    refine hx_off (i := 24) (oi := _) rfl rfl hns (by kernel_rfl) (by kernel_rfl) hQ (by kernel_rfl) hs0 ?_
    refine hx_off (i := 25) (oi := _) rfl rfl hns (by kernel_rfl) (by kernel_rfl) hQ (by kernel_rfl) hs0 ?_
    refine hx_off (i := 26) (oi := _) rfl rfl hns (by kernel_rfl) (by kernel_rfl) hQ (by kernel_rfl) hs0 ?_
    refine hx_off (i := 27) (oi := _) rfl rfl hns (by kernel_rfl) (by kernel_rfl) hQ (by kernel_rfl) hs0 ?_
    refine hx_off (i := 28) (oi := _) rfl rfl hns (by kernel_rfl) (by kernel_rfl) hQ (by kernel_rfl) hs0 ?_
    refine hx_off (i := 29) (oi := _) rfl rfl hns (by kernel_rfl) (by kernel_rfl) hQ (by kernel_rfl) hs0 ?_
    refine hx_off (i := 30) (oi := _) rfl rfl hns (by kernel_rfl) (by kernel_rfl) hQ (by kernel_rfl) hs0 ?_
    refine hx_take (i := 31) (oi := _) (v := .bool false) rfl rfl hns (by kernel_rfl) (by kernel_rfl) hQ (by kernel_rfl) (fun _ _ => by kernel_rfl) hs0 ?_
    refine wpAnyH_done (by kernel_rfl) ?_ _
    clear hns hQ
    simp only [List.set_cons_zero, List.set_cons_succ]
    have d1 := hs0.cell c1
    clear c0 c1 c4 hE4
    go_wp2_with fail
    refine (HFL.out _ hs0).mono ?_
    rintro e w2 ⟨rfl, hr, hk⟩
    go_wp2_with fail
    go_ret
    exact ⟨rfl, ⟨_, hr⟩, keep_two (Keep.of_since hs0) hk⟩
  | ok r =>
    have c4 : w.cell? ⟨g, 4, none⟩ = some (.int .i64 0) := h.cel.cell 4
    obtain ⟨hr1, hr2⟩ := h.sub
    have hE4 : At w g 4 #[.int .i64 0] := At.one c4
    have hI1 : At w g 1 #[.int .i64 (i : Int)] := At.one c1
    cases r with
    | nil =>
      have hil : L.length - i = 0 := by rw [List.length_nil] at hr2; omega
      rw [hil] at HFL
      have h1 : ¬ (i : Int) < (L.length : Int) := by rw [List.length_nil] at hr2; omega
      show Calls _ _ _ _ fun e w' => e = .returned (.string ⟨#[]⟩) ∧ (∃ j, Rdr w' g (.slice la L.length lc) L n (.error (0, 3)) j) ∧ OnlyG g w w'
      have hL0 : At w g 0 #[.slice la L.length lc] := At.one c0
      clear h hr1 hr2 hm hf hil
      go_enter Tryz.func50, Tryz.ntmps50
      go_upto_region 1 with (fail)
      have hs0 : Since w w.drew := (Since.refl _).drew
      refine hx_begin (S := fun W => Since w W) (by kernel_rfl) hs0 (by kernel_rfl) (fun _ _ _ _ _ h => h) (fun hns hQ => ?_)
      refine hx_take (i := 0) (oi := _) (v := .pointer (some ⟨g, 0, none⟩)) rfl rfl hns (by kernel_rfl) (by kernel_rfl) hQ (by kernel_rfl) (fun _ _ => by kernel_rfl) hs0 ?_
      refine hx_take (i := 1) (oi := _) (v := .pointer (some ⟨g, 0, none⟩)) rfl rfl hns (by kernel_rfl) (by kernel_rfl) hQ (by kernel_rfl) (fun _ _ => by kernel_rfl) hs0 ?_
      refine hx_take (i := 2) (oi := _) (v := .pointer (some ⟨g, 4, none⟩)) rfl rfl hns (by kernel_rfl) (by kernel_rfl) hQ (by kernel_rfl) (fun _ _ => by kernel_rfl) hs0 ?_
      refine hx_take (i := 3) (oi := _) (v := .int .i64 0) rfl rfl hns (by kernel_rfl) (by kernel_rfl) hQ (by kernel_rfl) (fun W hW => ld_one rfl (by kernel_rfl) (by kernel_rfl) W (hE4.next hW 0 _ rfl)) hs0 ?_
      refine hx_take (i := 4) (oi := _) (v := .bool true) rfl rfl hns (by kernel_rfl) (by kernel_rfl) hQ (by kernel_rfl) (fun W _ => eqs_intE (s := 0) rfl (by kernel_rfl) (by kernel_rfl) W) hs0 ?_
      refine hx_take (i := 5) (oi := _) (v := .bool true) rfl rfl hns (by kernel_rfl) (by kernel_rfl) hQ (by kernel_rfl) (fun _ _ => by kernel_rfl) hs0 ?_
      refine hx_take (i := 6) (oi := _) (v := .pointer (some ⟨g, 0, none⟩)) rfl rfl hns (by kernel_rfl) (by kernel_rfl) hQ (by kernel_rfl) (fun _ _ => by kernel_rfl) hs0 ?_
      refine hx_take (i := 7) (oi := _) (v := .pointer (some ⟨g, 0, none⟩)) rfl rfl hns (by kernel_rfl) (by kernel_rfl) hQ (by kernel_rfl) (fun _ _ => by kernel_rfl) hs0 ?_
      refine hx_take (i := 8) (oi := _) (v := .pointer (some ⟨g, 1, none⟩)) rfl rfl hns (by kernel_rfl) (by kernel_rfl) hQ (by kernel_rfl) (fun _ _ => by kernel_rfl) hs0 ?_
      refine hx_take (i := 9) (oi := _) (v := .int .i64 (i : Int)) rfl rfl hns (by kernel_rfl) (by kernel_rfl) hQ (by kernel_rfl) (fun W hW => ld_one rfl (by kernel_rfl) (by kernel_rfl) W (hI1.next hW 0 _ rfl)) hs0 ?_
      refine hx_take (i := 10) (oi := _) (v := .pointer (some ⟨g, 0, none⟩)) rfl rfl hns (by kernel_rfl) (by kernel_rfl) hQ (by kernel_rfl) (fun _ _ => by kernel_rfl) hs0 ?_
      refine hx_take (i := 11) (oi := _) (v := .pointer (some ⟨g, 0, none⟩)) rfl rfl hns (by kernel_rfl) (by kernel_rfl) hQ (by kernel_rfl) (fun _ _ => by kernel_rfl) hs0 ?_
      refine hx_take (i := 12) (oi := _) (v := .pointer (some ⟨g, 0, none⟩)) rfl rfl hns (by kernel_rfl) (by kernel_rfl) hQ (by kernel_rfl) (fun _ _ => by kernel_rfl) hs0 ?_
      refine hx_take (i := 13) (oi := _) (v := .slice la L.length lc) rfl rfl hns (by kernel_rfl) (by kernel_rfl) hQ (by kernel_rfl) (fun W hW => ld_one rfl (by kernel_rfl) (by kernel_rfl) W (hL0.next hW 0 _ rfl)) hs0 ?_
      refine hx_take (i := 14) (oi := _) (v := .int .i64 (L.length : Int)) rfl rfl hns (by kernel_rfl) (by kernel_rfl) hQ (by kernel_rfl) (fun _ _ => by kernel_rfl) hs0 ?_
      refine hx_take (i := 15) (oi := _) (v := .bool false) rfl rfl hns (by kernel_rfl) (by kernel_rfl) hQ (by kernel_rfl) (fun W _ => lssP_no rfl (by kernel_rfl) (by kernel_rfl) h1 W) hs0 ?_
      refine hx_take (i := 16) (oi := _) (v := .bool false) rfl rfl hns (by kernel_rfl) (by kernel_rfl) hQ (by kernel_rfl) (fun _ _ => by kernel_rfl) hs0 ?_
      refine hx_take (i := 17) (oi := _) (v := .bool false) rfl rfl hns (by kernel_rfl) (by kernel_rfl) hQ (by kernel_rfl) (fun _ _ => by kernel_rfl) hs0 ?_
      refine hx_off (i := 18) (oi := _) rfl rfl hns (by kernel_rfl) (by kernel_rfl) hQ (by kernel_rfl) hs0 ?_
      refine hx_off (i := 19) (oi := _) rfl rfl hns (by kernel_rfl) (by kernel_rfl) hQ (by kernel_rfl) hs0 ?_
      refine hx_off (i := 20) (oi := _) rfl rfl hns (by kernel_rfl) (by kernel_rfl) hQ (by kernel_rfl) hs0 ?_
      refine hx_off (i := 21) (oi := _) rfl rfl hns (by kernel_rfl) (by kernel_rfl) hQ (by kernel_rfl) hs0 ?_
      refine hx_off (i := 22) (oi := _) rfl rfl hns (by kernel_rfl) (by kernel_rfl) hQ (by kernel_rfl) hs0 ?_
      refine hx_off (i := 23) (oi := _) rfl rfl hns (by kernel_rfl) (by kernel_rfl) hQ (by kernel_rfl) hs0 ?_
      refine hx_off (i := 24) (oi := _) rfl rfl hns (by kernel_rfl) (by kernel_rfl) hQ (by kernel_rfl) hs0 ?_
      refine hx_off (i := 25) (oi := _) rfl rfl hns (by kernel_rfl) (by kernel_rfl) hQ (by kernel_rfl) hs0 ?_
      refine hx_off (i := 26) (oi := _) rfl rfl hns (by kernel_rfl) (by kernel_rfl) hQ (by kernel_rfl) hs0 ?_
      refine hx_off (i := 27) (oi := _) rfl rfl hns (by kernel_rfl) (by kernel_rfl) hQ (by kernel_rfl) hs0 ?_
      refine hx_off (i := 28) (oi := _) rfl rfl hns (by kernel_rfl) (by kernel_rfl) hQ (by kernel_rfl) hs0 ?_
      refine hx_off (i := 29) (oi := _) rfl rfl hns (by kernel_rfl) (by kernel_rfl) hQ (by kernel_rfl) hs0 ?_
      refine hx_off (i := 30) (oi := _) rfl rfl hns (by kernel_rfl) (by kernel_rfl) hQ (by kernel_rfl) hs0 ?_
      refine hx_take (i := 31) (oi := _) (v := .bool false) rfl rfl hns (by kernel_rfl) (by kernel_rfl) hQ (by kernel_rfl) (fun _ _ => by kernel_rfl) hs0 ?_
      refine wpAnyH_done (by kernel_rfl) ?_ _
      clear hns hQ
      simp only [List.set_cons_zero, List.set_cons_succ]
      have d1 := hs0.cell c1
      clear c0 c1 c4 hE4 hI1 hL0
      go_wp2_with fail
      refine (HFL.out _ hs0).mono ?_
      rintro e w2 ⟨rfl, hr, hk⟩
      go_wp2_with fail
      go_ret
      exact ⟨rfl, ⟨_, hr⟩, keep_two (Keep.of_since hs0) hk⟩
    | cons t r =>
      rw [List.length_cons] at hr2
      have hil : L.length - i = r.length + 1 := by omega
      rw [hil] at HFL
      have hi : i < L.length := by omega
      have h1 : (i : Int) < (L.length : Int) := by omega
      have h2 : (0 : Int) ≤ (i : Int) := by omega
      obtain ⟨h3, p, hp⟩ := h.ok _ rfl
      obtain ⟨b, o, rfl, hc, hat⟩ := (own_tkrow h.row).get (by omega)
      have htl : (L[i]).2.1 = t := by
        have := txt_of hp 0
        rw [← h3] at this
        unfold txtI at this
        rw [Nat.add_zero, List.getElem?_eq_getElem hi] at this
        exact this
      have k1 := (hat i hi).2.1
      rw [htl] at k1
      have hL0 : At w g 0 #[.slice (some ⟨b, o, none⟩) L.length lc] := At.one c0
      have hT : At w b (o + i * 3 + 1) #[.string ⟨t.toArray⟩] := At.one k1
      have HM := Lib.hid (fun W => hm t W (hf t (by rw [hp]; simp)))
      cases hmt : m t with
      | false =>
        rw [hmt] at HM
        obtain ⟨e1, e2⟩ := next_bad (m := m) (r := t :: r) (e := (r.length + 1, 3)) (by rw [nameT, hmt, if_neg (by decide)])
        rw [e1, e2]
        clear h hat hp h3 htl hr1 hr2 hm hf hil e1 e2 hmt
        go_enter Tryz.func50, Tryz.ntmps50
        go_upto_region 1 with (fail)
        have hs0 : Since w w.drew := (Since.refl _).drew
        refine hx_begin (S := fun W => Since w W) (by kernel_rfl) hs0 (by kernel_rfl) (fun _ _ _ _ _ h => h) (fun hns hQ => ?_)
        refine hx_take (i := 0) (oi := _) (v := .pointer (some ⟨g, 0, none⟩)) rfl rfl hns (by kernel_rfl) (by kernel_rfl) hQ (by kernel_rfl) (fun _ _ => by kernel_rfl) hs0 ?_
        refine hx_take (i := 1) (oi := _) (v := .pointer (some ⟨g, 0, none⟩)) rfl rfl hns (by kernel_rfl) (by kernel_rfl) hQ (by kernel_rfl) (fun _ _ => by kernel_rfl) hs0 ?_
        refine hx_take (i := 2) (oi := _) (v := .pointer (some ⟨g, 4, none⟩)) rfl rfl hns (by kernel_rfl) (by kernel_rfl) hQ (by kernel_rfl) (fun _ _ => by kernel_rfl) hs0 ?_
        refine hx_take (i := 3) (oi := _) (v := .int .i64 0) rfl rfl hns (by kernel_rfl) (by kernel_rfl) hQ (by kernel_rfl) (fun W hW => ld_one rfl (by kernel_rfl) (by kernel_rfl) W (hE4.next hW 0 _ rfl)) hs0 ?_
        refine hx_take (i := 4) (oi := _) (v := .bool true) rfl rfl hns (by kernel_rfl) (by kernel_rfl) hQ (by kernel_rfl) (fun W _ => eqs_intE (s := 0) rfl (by kernel_rfl) (by kernel_rfl) W) hs0 ?_
        refine hx_take (i := 5) (oi := _) (v := .bool true) rfl rfl hns (by kernel_rfl) (by kernel_rfl) hQ (by kernel_rfl) (fun _ _ => by kernel_rfl) hs0 ?_
        refine hx_take (i := 6) (oi := _) (v := .pointer (some ⟨g, 0, none⟩)) rfl rfl hns (by kernel_rfl) (by kernel_rfl) hQ (by kernel_rfl) (fun _ _ => by kernel_rfl) hs0 ?_
        refine hx_take (i := 7) (oi := _) (v := .pointer (some ⟨g, 0, none⟩)) rfl rfl hns (by kernel_rfl) (by kernel_rfl) hQ (by kernel_rfl) (fun _ _ => by kernel_rfl) hs0 ?_
        refine hx_take (i := 8) (oi := _) (v := .pointer (some ⟨g, 1, none⟩)) rfl rfl hns (by kernel_rfl) (by kernel_rfl) hQ (by kernel_rfl) (fun _ _ => by kernel_rfl) hs0 ?_
        refine hx_take (i := 9) (oi := _) (v := .int .i64 (i : Int)) rfl rfl hns (by kernel_rfl) (by kernel_rfl) hQ (by kernel_rfl) (fun W hW => ld_one rfl (by kernel_rfl) (by kernel_rfl) W (hI1.next hW 0 _ rfl)) hs0 ?_
        refine hx_take (i := 10) (oi := _) (v := .pointer (some ⟨g, 0, none⟩)) rfl rfl hns (by kernel_rfl) (by kernel_rfl) hQ (by kernel_rfl) (fun _ _ => by kernel_rfl) hs0 ?_
        refine hx_take (i := 11) (oi := _) (v := .pointer (some ⟨g, 0, none⟩)) rfl rfl hns (by kernel_rfl) (by kernel_rfl) hQ (by kernel_rfl) (fun _ _ => by kernel_rfl) hs0 ?_
        refine hx_take (i := 12) (oi := _) (v := .pointer (some ⟨g, 0, none⟩)) rfl rfl hns (by kernel_rfl) (by kernel_rfl) hQ (by kernel_rfl) (fun _ _ => by kernel_rfl) hs0 ?_
        refine hx_take (i := 13) (oi := _) (v := .slice (some ⟨b, o, none⟩) L.length lc) rfl rfl hns (by kernel_rfl) (by kernel_rfl) hQ (by kernel_rfl) (fun W hW => ld_one rfl (by kernel_rfl) (by kernel_rfl) W (hL0.next hW 0 _ rfl)) hs0 ?_
        refine hx_take (i := 14) (oi := _) (v := .int .i64 (L.length : Int)) rfl rfl hns (by kernel_rfl) (by kernel_rfl) hQ (by kernel_rfl) (fun _ _ => by kernel_rfl) hs0 ?_
        refine hx_take (i := 15) (oi := _) (v := .bool true) rfl rfl hns (by kernel_rfl) (by kernel_rfl) hQ (by kernel_rfl) (fun W _ => lssP_yes rfl (by kernel_rfl) (by kernel_rfl) h1 W) hs0 ?_
        refine hx_take (i := 16) (oi := _) (v := .bool true) rfl rfl hns (by kernel_rfl) (by kernel_rfl) hQ (by kernel_rfl) (fun _ _ => by kernel_rfl) hs0 ?_
        refine hx_take (i := 17) (oi := _) (v := .bool true) rfl rfl hns (by kernel_rfl) (by kernel_rfl) hQ (by kernel_rfl) (fun _ _ => by kernel_rfl) hs0 ?_
        refine hx_take (i := 18) (oi := _) (v := .int .i64 k) rfl rfl hns (by kernel_rfl) (by kernel_rfl) hQ (by kernel_rfl) (fun _ _ => by kernel_rfl) hs0 ?_
        refine hx_take (i := 19) (oi := _) (v := .pointer (some ⟨g, 0, none⟩)) rfl rfl hns (by kernel_rfl) (by kernel_rfl) hQ (by kernel_rfl) (fun _ _ => by kernel_rfl) hs0 ?_
        refine hx_take (i := 20) (oi := _) (v := .pointer (some ⟨g, 0, none⟩)) rfl rfl hns (by kernel_rfl) (by kernel_rfl) hQ (by kernel_rfl) (fun _ _ => by kernel_rfl) hs0 ?_
        refine hx_take (i := 21) (oi := _) (v := .pointer (some ⟨g, 0, none⟩)) rfl rfl hns (by kernel_rfl) (by kernel_rfl) hQ (by kernel_rfl) (fun _ _ => by kernel_rfl) hs0 ?_
        refine hx_take (i := 22) (oi := _) (v := .slice (some ⟨b, o, none⟩) L.length lc) rfl rfl hns (by kernel_rfl) (by kernel_rfl) hQ (by kernel_rfl) (fun W hW => ld_one rfl (by kernel_rfl) (by kernel_rfl) W (hL0.next hW 0 _ rfl)) hs0 ?_
        refine hx_take (i := 23) (oi := _) (v := .pointer (some ⟨g, 0, none⟩)) rfl rfl hns (by kernel_rfl) (by kernel_rfl) hQ (by kernel_rfl) (fun _ _ => by kernel_rfl) hs0 ?_
        refine hx_take (i := 24) (oi := _) (v := .pointer (some ⟨g, 0, none⟩)) rfl rfl hns (by kernel_rfl) (by kernel_rfl) hQ (by kernel_rfl) (fun _ _ => by kernel_rfl) hs0 ?_
        refine hx_take (i := 25) (oi := _) (v := .pointer (some ⟨g, 1, none⟩)) rfl rfl hns (by kernel_rfl) (by kernel_rfl) hQ (by kernel_rfl) (fun _ _ => by kernel_rfl) hs0 ?_
        refine hx_take (i := 26) (oi := _) (v := .int .i64 (i : Int)) rfl rfl hns (by kernel_rfl) (by kernel_rfl) hQ (by kernel_rfl) (fun W hW => ld_one rfl (by kernel_rfl) (by kernel_rfl) W (hI1.next hW 0 _ rfl)) hs0 ?_
        refine hx_take (i := 27) (oi := _) (v := .pointer (some ⟨b, o + i * 3, none⟩)) rfl rfl hns (by kernel_rfl) (by kernel_rfl) hQ (by kernel_rfl) (fun W _ => ix_sl (n := L.length) (c := lc) (K := 3) rfl (by kernel_rfl) (by kernel_rfl) (by kernel_rfl) rfl hi W) hs0 ?_
        refine hx_take (i := 28) (oi := _) (v := .pointer (some ⟨b, o + i * 3 + 1, none⟩)) rfl rfl hns (by kernel_rfl) (by kernel_rfl) hQ (by kernel_rfl) (fun _ _ => by kernel_rfl) hs0 ?_
        refine hx_take (i := 29) (oi := _) (v := .string ⟨t.toArray⟩) rfl rfl hns (by kernel_rfl) (by kernel_rfl) hQ (by kernel_rfl) (fun W hW => ld_one rfl (by kernel_rfl) (by kernel_rfl) W (hT.next hW 0 _ rfl)) hs0 ?_
        refine hx_call (i := 30) (oi := _) 76 #[.int .i64 k, .string ⟨t.toArray⟩] rfl rfl (by kernel_rfl) (by kernel_rfl) (by kernel_rfl) (HM.out _) ?_
        rintro e wx51 ⟨rfl, hb⟩
        have hs1 : Since w wx51 := hs0.trans hb
        clear hb
        refine ⟨_, rfl, hs1, ?_⟩
        refine hx_take (i := 31) (oi := _) (v := .bool false) rfl rfl hns (by kernel_rfl) (by kernel_rfl) hQ (by kernel_rfl) (fun _ _ => by kernel_rfl) hs1 ?_
        refine wpAnyH_done (by kernel_rfl) ?_ _
        clear hns hQ
        simp only [List.set_cons_zero, List.set_cons_succ]
        have d1 := hs1.cell c1
        clear c0 c1 c4 hE4 hI1 hL0 hT k1
        go_wp2_with fail
        refine (HFL.out _ hs1).mono ?_
        rintro e w2 ⟨rfl, hr, hk⟩
        go_wp2_with fail
        go_ret
        exact ⟨rfl, ⟨_, hr⟩, keep_two (Keep.of_since hs1) hk⟩
      | true =>
        rw [hmt] at HM
        obtain ⟨e1, e2⟩ := next_ok (m := m) (r := t :: r) (t := t) (r1 := r) (by rw [nameT, hmt, if_pos rfl])
        rw [e1, e2]
        have hw : wrap64 ((i : Int) + 1) = (i : Int) + 1 := IntWalk.wrap64_in _ (by have := h.len; omega)
        have hs : IntKind.i64.wrap ((i : Int) + 1 - 1) = (i : Int) := by rw [show (i : Int) + 1 - 1 = (i : Int) by omega]; exact IntWalk.i64_in _ (by have := h.len; omega)
        have HPT : Hid (∀ W, Since w W → Rdr (W.setCell ⟨g, 1, none⟩ (.int .i64 ((i : Int) + 1))) g (.slice (some ⟨b, o, none⟩) L.length lc) L n (.ok r) (i + 1) ∧ OnlyG g W (W.setCell ⟨g, 1, none⟩ (.int .i64 ((i : Int) + 1))) ∧ W.frozen? ⟨g, 1, none⟩ = false ∧ g < W.heap.size) := by
          intro W hW
          have hh := h.next hW
          obtain ⟨x1, x2⟩ := hh.put (k := 1) (u := .int .i64 ((i : Int) + 1)) (q' := .ok r) (j := i + 1) (by rfl) (by omega) (fun r' e => by
            injection e with e
            subst e
            refine ⟨by omega, p ++ [t], ?_⟩
            rw [hp, List.append_assoc]
            rfl) (fun e he => by cases he)
          exact ⟨x1, x2, hh.cel.free 1, hh.cel.lt⟩
        have HTL := Lib.hid htl
        clear h hat hp h3 htl hr1 hr2 hm hf hil e1 e2 hmt HFL
        go_enter Tryz.func50, Tryz.ntmps50
        go_upto_region 1 with (fail)
        have hs0 : Since w w.drew := (Since.refl _).drew
        refine hx_begin (S := fun W => Since w W) (by kernel_rfl) hs0 (by kernel_rfl) (fun _ _ _ _ _ h => h) (fun hns hQ => ?_)
        refine hx_take (i := 0) (oi := _) (v := .pointer (some ⟨g, 0, none⟩)) rfl rfl hns (by kernel_rfl) (by kernel_rfl) hQ (by kernel_rfl) (fun _ _ => by kernel_rfl) hs0 ?_
        refine hx_take (i := 1) (oi := _) (v := .pointer (some ⟨g, 0, none⟩)) rfl rfl hns (by kernel_rfl) (by kernel_rfl) hQ (by kernel_rfl) (fun _ _ => by kernel_rfl) hs0 ?_
        refine hx_take (i := 2) (oi := _) (v := .pointer (some ⟨g, 4, none⟩)) rfl rfl hns (by kernel_rfl) (by kernel_rfl) hQ (by kernel_rfl) (fun _ _ => by kernel_rfl) hs0 ?_
        refine hx_take (i := 3) (oi := _) (v := .int .i64 0) rfl rfl hns (by kernel_rfl) (by kernel_rfl) hQ (by kernel_rfl) (fun W hW => ld_one rfl (by kernel_rfl) (by kernel_rfl) W (hE4.next hW 0 _ rfl)) hs0 ?_
        refine hx_take (i := 4) (oi := _) (v := .bool true) rfl rfl hns (by kernel_rfl) (by kernel_rfl) hQ (by kernel_rfl) (fun W _ => eqs_intE (s := 0) rfl (by kernel_rfl) (by kernel_rfl) W) hs0 ?_
        refine hx_take (i := 5) (oi := _) (v := .bool true) rfl rfl hns (by kernel_rfl) (by kernel_rfl) hQ (by kernel_rfl) (fun _ _ => by kernel_rfl) hs0 ?_
        refine hx_take (i := 6) (oi := _) (v := .pointer (some ⟨g, 0, none⟩)) rfl rfl hns (by kernel_rfl) (by kernel_rfl) hQ (by kernel_rfl) (fun _ _ => by kernel_rfl) hs0 ?_
        refine hx_take (i := 7) (oi := _) (v := .pointer (some ⟨g, 0, none⟩)) rfl rfl hns (by kernel_rfl) (by kernel_rfl) hQ (by kernel_rfl) (fun _ _ => by kernel_rfl) hs0 ?_
        refine hx_take (i := 8) (oi := _) (v := .pointer (some ⟨g, 1, none⟩)) rfl rfl hns (by kernel_rfl) (by kernel_rfl) hQ (by kernel_rfl) (fun _ _ => by kernel_rfl) hs0 ?_
        refine hx_take (i := 9) (oi := _) (v := .int .i64 (i : Int)) rfl rfl hns (by kernel_rfl) (by kernel_rfl) hQ (by kernel_rfl) (fun W hW => ld_one rfl (by kernel_rfl) (by kernel_rfl) W (hI1.next hW 0 _ rfl)) hs0 ?_
        refine hx_take (i := 10) (oi := _) (v := .pointer (some ⟨g, 0, none⟩)) rfl rfl hns (by kernel_rfl) (by kernel_rfl) hQ (by kernel_rfl) (fun _ _ => by kernel_rfl) hs0 ?_
        refine hx_take (i := 11) (oi := _) (v := .pointer (some ⟨g, 0, none⟩)) rfl rfl hns (by kernel_rfl) (by kernel_rfl) hQ (by kernel_rfl) (fun _ _ => by kernel_rfl) hs0 ?_
        refine hx_take (i := 12) (oi := _) (v := .pointer (some ⟨g, 0, none⟩)) rfl rfl hns (by kernel_rfl) (by kernel_rfl) hQ (by kernel_rfl) (fun _ _ => by kernel_rfl) hs0 ?_
        refine hx_take (i := 13) (oi := _) (v := .slice (some ⟨b, o, none⟩) L.length lc) rfl rfl hns (by kernel_rfl) (by kernel_rfl) hQ (by kernel_rfl) (fun W hW => ld_one rfl (by kernel_rfl) (by kernel_rfl) W (hL0.next hW 0 _ rfl)) hs0 ?_
        refine hx_take (i := 14) (oi := _) (v := .int .i64 (L.length : Int)) rfl rfl hns (by kernel_rfl) (by kernel_rfl) hQ (by kernel_rfl) (fun _ _ => by kernel_rfl) hs0 ?_
        refine hx_take (i := 15) (oi := _) (v := .bool true) rfl rfl hns (by kernel_rfl) (by kernel_rfl) hQ (by kernel_rfl) (fun W _ => lssP_yes rfl (by kernel_rfl) (by kernel_rfl) h1 W) hs0 ?_
        refine hx_take (i := 16) (oi := _) (v := .bool true) rfl rfl hns (by kernel_rfl) (by kernel_rfl) hQ (by kernel_rfl) (fun _ _ => by kernel_rfl) hs0 ?_
        refine hx_take (i := 17) (oi := _) (v := .bool true) rfl rfl hns (by kernel_rfl) (by kernel_rfl) hQ (by kernel_rfl) (fun _ _ => by kernel_rfl) hs0 ?_
        refine hx_take (i := 18) (oi := _) (v := .int .i64 k) rfl rfl hns (by kernel_rfl) (by kernel_rfl) hQ (by kernel_rfl) (fun _ _ => by kernel_rfl) hs0 ?_
        refine hx_take (i := 19) (oi := _) (v := .pointer (some ⟨g, 0, none⟩)) rfl rfl hns (by kernel_rfl) (by kernel_rfl) hQ (by kernel_rfl) (fun _ _ => by kernel_rfl) hs0 ?_
        refine hx_take (i := 20) (oi := _) (v := .pointer (some ⟨g, 0, none⟩)) rfl rfl hns (by kernel_rfl) (by kernel_rfl) hQ (by kernel_rfl) (fun _ _ => by kernel_rfl) hs0 ?_
        refine hx_take (i := 21) (oi := _) (v := .pointer (some ⟨g, 0, none⟩)) rfl rfl hns (by kernel_rfl) (by kernel_rfl) hQ (by kernel_rfl) (fun _ _ => by kernel_rfl) hs0 ?_
        refine hx_take (i := 22) (oi := _) (v := .slice (some ⟨b, o, none⟩) L.length lc) rfl rfl hns (by kernel_rfl) (by kernel_rfl) hQ (by kernel_rfl) (fun W hW => ld_one rfl (by kernel_rfl) (by kernel_rfl) W (hL0.next hW 0 _ rfl)) hs0 ?_
        refine hx_take (i := 23) (oi := _) (v := .pointer (some ⟨g, 0, none⟩)) rfl rfl hns (by kernel_rfl) (by kernel_rfl) hQ (by kernel_rfl) (fun _ _ => by kernel_rfl) hs0 ?_
        refine hx_take (i := 24) (oi := _) (v := .pointer (some ⟨g, 0, none⟩)) rfl rfl hns (by kernel_rfl) (by kernel_rfl) hQ (by kernel_rfl) (fun _ _ => by kernel_rfl) hs0 ?_
        refine hx_take (i := 25) (oi := _) (v := .pointer (some ⟨g, 1, none⟩)) rfl rfl hns (by kernel_rfl) (by kernel_rfl) hQ (by kernel_rfl) (fun _ _ => by kernel_rfl) hs0 ?_
        refine hx_take (i := 26) (oi := _) (v := .int .i64 (i : Int)) rfl rfl hns (by kernel_rfl) (by kernel_rfl) hQ (by kernel_rfl) (fun W hW => ld_one rfl (by kernel_rfl) (by kernel_rfl) W (hI1.next hW 0 _ rfl)) hs0 ?_
        refine hx_take (i := 27) (oi := _) (v := .pointer (some ⟨b, o + i * 3, none⟩)) rfl rfl hns (by kernel_rfl) (by kernel_rfl) hQ (by kernel_rfl) (fun W _ => ix_sl (n := L.length) (c := lc) (K := 3) rfl (by kernel_rfl) (by kernel_rfl) (by kernel_rfl) rfl hi W) hs0 ?_
        refine hx_take (i := 28) (oi := _) (v := .pointer (some ⟨b, o + i * 3 + 1, none⟩)) rfl rfl hns (by kernel_rfl) (by kernel_rfl) hQ (by kernel_rfl) (fun _ _ => by kernel_rfl) hs0 ?_
        refine hx_take (i := 29) (oi := _) (v := .string ⟨t.toArray⟩) rfl rfl hns (by kernel_rfl) (by kernel_rfl) hQ (by kernel_rfl) (fun W hW => ld_one rfl (by kernel_rfl) (by kernel_rfl) W (hT.next hW 0 _ rfl)) hs0 ?_
        refine hx_call (i := 30) (oi := _) 76 #[.int .i64 k, .string ⟨t.toArray⟩] rfl rfl (by kernel_rfl) (by kernel_rfl) (by kernel_rfl) (HM.out _) ?_
        rintro e wx51 ⟨rfl, hb⟩
        have hs1 : Since w wx51 := hs0.trans hb
        clear hb
        refine ⟨_, rfl, hs1, ?_⟩
        refine hx_take (i := 31) (oi := _) (v := .bool true) rfl rfl hns (by kernel_rfl) (by kernel_rfl) hQ (by kernel_rfl) (fun _ _ => by kernel_rfl) hs1 ?_
        refine wpAnyH_done (by kernel_rfl) ?_ _
        clear hns hQ
        simp only [List.set_cons_zero, List.set_cons_succ]
        obtain ⟨x1, x2, x3, x4⟩ := HPT.out _ hs1
        have d1 := hs1.cell c1
        obtain ⟨w2, hw2⟩ : ∃ W, Hid (W = wx51.setCell ⟨g, 1, none⟩ (.int .i64 ((i : Int) + 1))) := ⟨_, rfl⟩
        rw [← hw2.out] at x1 x2
        clear c0 c1 c4 hE4 hI1 hL0 hT k1 HPT HM
        go_upto_region 3 with (fail)
        rw [← hw2.out]
        clear hw2 x3 x4 d1
        have hL0 : At w2 g 0 #[.slice (some ⟨b, o, none⟩) L.length lc] := At.one (x1.cel.cell 0)
        have hI1 : At w2 g 1 #[.int .i64 ((i : Int) + 1)] := At.one (x1.cel.cell 1)
        obtain ⟨b', o', eb, hc', hat'⟩ := (own_tkrow x1.row).get (by omega)
        injection eb with eb
        injection eb with e3 e4
        subst e3; subst e4
        have k1 := (hat' i hi).2.1
        rw [HTL.out] at k1
        have hT : At w2 b (o + i * 3 + 1) #[.string ⟨t.toArray⟩] := At.one k1
        clear hat' k1 hc'
        have hsz0 : Since w2 w2.drew := (Since.refl _).drew
        refine hx_begin (S := fun W => Since w2 W) (by kernel_rfl) hsz0 (by kernel_rfl) (fun _ _ _ _ _ h => h) (fun hns hQ => ?_)
        refine hx_take (i := 0) (oi := _) (v := .pointer (some ⟨g, 0, none⟩)) rfl rfl hns (by kernel_rfl) (by kernel_rfl) hQ (by kernel_rfl) (fun _ _ => by kernel_rfl) hsz0 ?_
        refine hx_take (i := 1) (oi := _) (v := .pointer (some ⟨g, 0, none⟩)) rfl rfl hns (by kernel_rfl) (by kernel_rfl) hQ (by kernel_rfl) (fun _ _ => by kernel_rfl) hsz0 ?_
        refine hx_take (i := 2) (oi := _) (v := .pointer (some ⟨g, 0, none⟩)) rfl rfl hns (by kernel_rfl) (by kernel_rfl) hQ (by kernel_rfl) (fun _ _ => by kernel_rfl) hsz0 ?_
        refine hx_take (i := 3) (oi := _) (v := .slice (some ⟨b, o, none⟩) L.length lc) rfl rfl hns (by kernel_rfl) (by kernel_rfl) hQ (by kernel_rfl) (fun W hW => ld_one rfl (by kernel_rfl) (by kernel_rfl) W (hL0.next hW 0 _ rfl)) hsz0 ?_
        refine hx_take (i := 4) (oi := _) (v := .pointer (some ⟨g, 0, none⟩)) rfl rfl hns (by kernel_rfl) (by kernel_rfl) hQ (by kernel_rfl) (fun _ _ => by kernel_rfl) hsz0 ?_
        refine hx_take (i := 5) (oi := _) (v := .pointer (some ⟨g, 0, none⟩)) rfl rfl hns (by kernel_rfl) (by kernel_rfl) hQ (by kernel_rfl) (fun _ _ => by kernel_rfl) hsz0 ?_
        refine hx_take (i := 6) (oi := _) (v := .pointer (some ⟨g, 1, none⟩)) rfl rfl hns (by kernel_rfl) (by kernel_rfl) hQ (by kernel_rfl) (fun _ _ => by kernel_rfl) hsz0 ?_
        refine hx_take (i := 7) (oi := _) (v := .int .i64 ((i : Int) + 1)) rfl rfl hns (by kernel_rfl) (by kernel_rfl) hQ (by kernel_rfl) (fun W hW => ld_one rfl (by kernel_rfl) (by kernel_rfl) W (hI1.next hW 0 _ rfl)) hsz0 ?_
        refine hx_take (i := 8) (oi := _) (v := .int .i64 (i : Int)) rfl rfl hns (by kernel_rfl) (by kernel_rfl) hQ (by kernel_rfl) (fun W _ => subP_int rfl (by kernel_rfl) (by kernel_rfl) hs W) hsz0 ?_
        refine hx_take (i := 9) (oi := _) (v := .pointer (some ⟨b, o + i * 3, none⟩)) rfl rfl hns (by kernel_rfl) (by kernel_rfl) hQ (by kernel_rfl) (fun W _ => ix_sl (n := L.length) (c := lc) (K := 3) rfl (by kernel_rfl) (by kernel_rfl) (by kernel_rfl) rfl hi W) hsz0 ?_
        refine hx_take (i := 10) (oi := _) (v := .pointer (some ⟨b, o + i * 3 + 1, none⟩)) rfl rfl hns (by kernel_rfl) (by kernel_rfl) hQ (by kernel_rfl) (fun _ _ => by kernel_rfl) hsz0 ?_
        refine hx_take (i := 11) (oi := _) (v := .string ⟨t.toArray⟩) rfl rfl hns (by kernel_rfl) (by kernel_rfl) hQ (by kernel_rfl) (fun W hW => ld_one rfl (by kernel_rfl) (by kernel_rfl) W (hT.next hW 0 _ rfl)) hsz0 ?_
        refine hx_take (i := 12) (oi := _) (v := .string ⟨t.toArray⟩) rfl rfl hns (by kernel_rfl) (by kernel_rfl) hQ (by kernel_rfl) (fun _ _ => by kernel_rfl) hsz0 ?_
        refine wpAnyH_done (by kernel_rfl) ?_ _
        clear hns hQ
        simp only [List.set_cons_zero, List.set_cons_succ]
        clear hL0 hI1 hT
        go_wp2_with fail
        go_ret
        exact ⟨rfl, ⟨_, x1.next hsz0⟩, keep_two (keep_two (Keep.of_since hs1) x2) (Keep.of_since hsz0)⟩
theorem numV_snocX (l : Txt) (c : UInt8) : numV (l ++ [c]) = 10 * numV l + (c.toNat - 48) := by
  unfold numV
  rw [List.foldl_append]
  rfl
theorem next_num (q : RS) : (∀ c ∈ nextV numB q, digitB c.toNat = true) ∧ (nextV numB q).length ≤ 7 := by
  have key : ∀ t : Txt, numB t = true → (∀ c ∈ t, digitB c.toNat = true) ∧ t.length ≤ 7 := fun t h => by
    refine ⟨List.all_eq_true.1 (num_all h), ?_⟩
    unfold numB at h
    simp only [Bool.and_eq_true, decide_eq_true_eq] at h
    exact h.1.1.2
  have hnil : (∀ c ∈ ([] : Txt), digitB c.toNat = true) ∧ ([] : Txt).length ≤ 7 := ⟨fun c h => (by cases h), by decide⟩
  cases q with
  | error e => exact hnil
  | ok r =>
    cases hn : nameT numB r with
    | error e => rw [(next_bad hn).1]; exact hnil
    | ok x =>
      obtain ⟨t, r1⟩ := x
      rw [(next_ok hn).1]
      exact key t (nameT_ok hn).2
theorem digit_le {c : UInt8} (h : digitB c.toNat = true) : 48 ≤ c.toNat ∧ c.toNat ≤ 57 := by
  unfold digitB at h
  simp only [Bool.and_eq_true, decide_eq_true_eq] at h
  omega
theorem numV_seven {t : Txt} (h : ∀ c ∈ t, digitB c.toNat = true) (hl : t.length ≤ 7) : numV t ≤ 9999999 := by
  have h1 := numV_lt t 0 0 (List.all_eq_true.2 h) (by decide)
  have h2 : (10 : Nat) ^ (0 + t.length) ≤ 10 ^ 7 := Nat.pow_le_pow_right (by decide) (by omega)
  unfold numV
  omega
set_option maxHeartbeats 4000000 in
set_option maxRecDepth 100000 in
theorem rnumber_any (hf : ∀ x ∈ txtsK L, x.length ≤ 65536) (h : Rdr w g lv L n q i) :
    Calls Tryz.prog 52 #[.pointer (some ⟨g, 0, none⟩)] w fun e w' => e = .returned (.int .i64 ((numX q).1 : Int)) ∧ (∃ j, Rdr w' g lv L n (numX q).2 j) ∧ OnlyG g w w' := by
  have HN := Lib.hid (rnext_any 3 numB (fun t W ht => rmay_num t W ht) hf h)
  have hd := next_num q
  unfold numX
  obtain ⟨s, hs⟩ : ∃ s, Hid (s = nextV numB q) := ⟨_, rfl⟩
  rw [← hs.out] at HN hd
  simp only
  rw [← hs.out]
  obtain ⟨hd1, hd2⟩ := hd
  have HD := Lib.hid hd1
  clear h hf hs hd1
  go_enter Tryz.func52, Tryz.ntmps52
  go_wp2_with fail
  refine HN.out.mono ?_
  rintro e w2 ⟨rfl, hr, hk⟩
  clear HN
  go_wp2_with fail
  go_loopw [4, 5] (fun nv iv wr => ∃ k : Nat, k ≤ s.length ∧ nv = .int .i64 (numV (s.take k) : Int) ∧ iv = .int .i64 (k : Int) ∧ Since w2 wr) (fun _ iv _ => s.length - (intOf iv).toNat)
  case atStart => exact ⟨0, Nat.zero_le _, rfl, rfl, Since.refl _⟩
  case round =>
  obtain ⟨k, hk0, rfl, rfl, hS⟩ := hrel
  by_cases hlt : k < s.length
  · have hlt2 : (k : Int) < (s.length : Int) := by omega
    have hlt0 : (0 : Int) ≤ (k : Int) := by omega
    have hst : s.take (k + 1) = s.take k ++ [s[k]] := List.take_succ_eq_append_getElem hlt
    have hbt := at_bytes s k hlt hlt
    have hdg := digit_le (HD.out _ (List.getElem_mem hlt))
    have hv := numV_snocX (s.take k) s[k]
    rw [← hst] at hv
    have h7 := numV_seven (t := s.take k) (fun c hc => HD.out c (List.mem_of_mem_take hc)) (by rw [List.length_take]; omega)
    rw [← hbt] at hv hdg
    obtain ⟨c, hc⟩ : ∃ c : Nat, Hid (c = ((ByteArray.mk s.toArray)[k]'hlt).toNat) := ⟨((ByteArray.mk s.toArray)[k]'hlt).toNat, rfl⟩
    rw [← hc.out] at hv hdg
    obtain ⟨V, hV⟩ : ∃ V, Hid (V = numV (s.take k)) := ⟨_, rfl⟩
    obtain ⟨V2, hV2⟩ : ∃ V, Hid (V = numV (s.take (k + 1))) := ⟨_, rfl⟩
    rw [← hV.out, ← hV2.out] at hv
    rw [← hV.out] at h7 ⊢
    obtain ⟨hd3, hd4⟩ := hdg
    have hcn : (((ByteArray.mk s.toArray)[k]'hlt).toNat : Int) = (c : Int) := by rw [hc.out]
    have q1 : wrap64 (10 * (V : Int)) = 10 * (V : Int) := IntWalk.wrap64_in _ (by omega)
    have q2 : IntKind.u8.wrap ((c : Int) - 48) = (c : Int) - 48 := IntWalk.u8_in _ (by omega)
    have q3 : wrap64 (10 * (V : Int) + ((c : Int) - 48)) = 10 * (V : Int) + ((c : Int) - 48) := IntWalk.wrap64_in _ (by omega)
    have hV3 : Hid (10 * (V : Int) + ((c : Int) - 48) = (V2 : Int)) := by show _ = _; omega
    have hk1 : wrap64 ((k : Int) + 1) = ((k + 1 : Nat) : Int) := by rw [IntWalk.wrap64_in _ (by omega)]; omega
    clear hst hbt hv h7 hc hV
    go_wp2_with fail
    go_roundw
    case rel => exact ⟨k + 1, by omega, by rw [← hV2.out, ← hV3.out, q3], by first | rfl | go_num, hS⟩
    case measure => simp [intOf]; omega
  · have hlt2 : ¬ (k : Int) < (s.length : Int) := by omega
    obtain rfl : k = s.length := by omega
    rw [List.take_length]
    obtain ⟨j, hr⟩ := hr
    go_wp2_with fail
    go_ret
    exact ⟨rfl, ⟨_, hr.next hS⟩, keep_two hk (Keep.of_since hS)⟩
end
end Go.Proofs.YtnfjjckbgnieeaaGreatDoor

namespace Go.Proofs.YtnfjjckbgnieeaaGreatDoor
open Go.RowKit

/-- What said works on: the reader, the atom's box, the result's box. -/
structure SaidR (w wr : World) (g : Nat) (lv : Value) (L : List Tk) (n : Nat) (q : RS) (rb ab : Nat) (a : Atm) : Prop where
  rd : ∃ j, Rdr wr g lv L n q j
  at_ : Cel wr ab (atmC a) 44
  rs : Cel wr rb #[.string ⟨#[]⟩, .string ⟨#[]⟩, .int .i64 0, .bool false, .string ⟨#[]⟩, .bool false, .string ⟨#[]⟩, .bool false, .string ⟨#[]⟩, .bool false, .string ⟨#[]⟩] 44
  og : OnlyG g w wr
  lo : w.heap.size ≤ ab ∧ w.heap.size ≤ rb ∧ ¬ ab = g ∧ ¬ rb = g ∧ ¬ rb = ab
  n0 : 0 ≤ a.2.2.1
  n4 : a.2.2.1 ≤ 4
theorem rdr_z {W W' : World} {g ab : Nat} {lv : Value} {L : List Tk} {n : Nat} {q : RS} {i : Nat} {cs : Array Value} (h : Rdr W g lv L n q i) (hne : ¬ ab = g) (hc : Cel W ab cs 44) (hk : Keep (fun b => b = ab) W W') : Rdr W' g lv L n q i :=
  h.keep hk (fun e => hne e.symm) (fun b hb e => cel_own_ne hc h.row (by decide) (by rw [hb, e]))
section
variable {w wr W' : World} {g : Nat} {lv : Value} {L : List Tk} {n : Nat} {q q' : RS} {rb ab : Nat} {a a' : Atm}
theorem SaidR.only (h : SaidR w wr g lv L n q rb ab a) (hr : ∃ j, Rdr W' g lv L n q' j) (hk : OnlyG g wr W') : SaidR w W' g lv L n q' rb ab a := ⟨hr, hk.cel h.at_ h.lo.2.2.1, hk.cel h.rs h.lo.2.2.2.1, only_only h.og hk, h.lo, h.n0, h.n4⟩
theorem SaidR.next (h : SaidR w wr g lv L n q rb ab a) (hs : Since wr W') : SaidR w W' g lv L n q rb ab a := by
  obtain ⟨j, hr⟩ := h.rd
  exact h.only ⟨j, hr.next hs⟩ (Keep.of_since hs)
theorem SaidR.put (h : SaidR w wr g lv L n q rb ab a) (hk : Keep (fun b => b = ab) wr W') (hc : Cel W' ab (atmC a') 44) (h0 : 0 ≤ a'.2.2.1) (h4 : a'.2.2.1 ≤ 4) : SaidR w W' g lv L n q rb ab a' := by
  obtain ⟨j, hr⟩ := h.rd
  exact ⟨⟨j, rdr_z hr h.lo.2.2.1 h.at_ hk⟩, hc, hk.cel h.rs h.lo.2.2.2.2, only_new h.og hk h.lo.1, h.lo, h0, h4⟩
/-- The result has been stored. -/
theorem SaidR.fin (h : SaidR w wr g lv L n q rb ab a) (hk : Keep (fun b => b = rb) wr W') : (∃ j, Rdr W' g lv L n q j) ∧ OnlyG g w W' := by
  obtain ⟨j, hr⟩ := h.rd
  exact ⟨⟨j, rdr_z hr h.lo.2.2.2.1 h.rs hk⟩, only_new h.og hk h.lo.2.1⟩
end
theorem term_bad {a : Atm} {r : Toks} {e : PErr} (h : nameT termT r = .error e) : termX a r = (a, .error e) := by
  have h2 : termStep a r = .error e := by rw [termStep, h]
  unfold termX
  rw [h2]
theorem term_long {a : Atm} {r r1 : Toks} {t : Txt} (h : nameT termT r = .ok (t, r1)) (h4 : a.2.2.1 = 4) : termX a r = (a, .error (r.length, 4)) := by
  have h2 : termStep a r = .error (r.length, 4) := by rw [termStep, h]; simp only; rw [if_pos h4]
  unfold termX
  rw [h2]
theorem term_good {a : Atm} {r r1 : Toks} {t : Txt} (h : nameT termT r = .ok (t, r1)) (h4 : ¬ a.2.2.1 = 4) : termX a r = (putT a (variableB t, t), .ok r1) := by
  have h2 : termStep a r = .ok (putT a (variableB t, t), r1) := by rw [termStep, h]; simp only; rw [if_neg h4]
  unfold termX
  rw [h2]
set_option maxHeartbeats 8000000 in
set_option maxRecDepth 100000 in
theorem rsaid10_any {w : World} {g : Nat} {lv : Value} {L : List Tk} {n : Nat} {q : RS} {i : Nat} (who : Txt) (hf : ∀ x ∈ txtsK L, x.length ≤ 65536) (h : Rdr w g lv L n q i) :
    Calls Tryz.prog 78 #[.pointer (some ⟨g, 0, none⟩), .string ⟨who.toArray⟩] w fun e w' => e = .returned (.agg (atmC (saidX who q).1)) ∧ (∃ j, Rdr w' g lv L n (saidX who q).2 j) ∧ OnlyG g w w' := by
  obtain ⟨X, hX⟩ : ∃ X, Hid (X = saidX who q) := ⟨_, rfl⟩
  rw [← hX.out]
  obtain ⟨K, hK⟩ : ∃ K : Ending → World → Prop, Hid (K = fun e w' => e = .returned (.agg (atmC X.1)) ∧ (∃ j, Rdr w' g lv L n X.2 j) ∧ OnlyG g w w') := ⟨_, rfl⟩
  have hgood : Hid (∀ a q1 w', X = (a, q1) → ((∃ j, Rdr w' g lv L n q1 j) ∧ OnlyG g w w') → K (.returned (.agg (atmC a))) w') := fun a q1 w' e h => by rw [hK.out, e]; exact ⟨rfl, h⟩
  rw [← hK.out]
  have HF := Lib.hid hf
  have HN1 : Hid (∀ W i, Rdr W g lv L n q i → Calls Tryz.prog 50 #[.pointer (some ⟨g, 0, none⟩), .int .i64 1] W fun e w' => e = .returned (.string ⟨(nextV principalB q).toArray⟩) ∧ (∃ j, Rdr w' g lv L n (nextS principalB q) j) ∧ OnlyG g W w') := fun W i hW => rnext_any 1 principalB (fun t W ht => rmay_pred t W ht) hf hW
  have HM : Hid (∀ s W q i, Rdr W g lv L n q i → Calls Tryz.prog 49 #[.pointer (some ⟨g, 0, none⟩), .string ⟨s.toArray⟩] W fun e w' => e = .returned (.bool (isS s q)) ∧ (∃ j, Rdr w' g lv L n (maybeS s q) j ∧ (isS s q = false → j = i)) ∧ OnlyG g W w') := fun s W q i hW => rmaybe_any s hW
  have HMU : Hid (∀ s W q i, Rdr W g lv L n q i → Calls Tryz.prog 51 #[.pointer (some ⟨g, 0, none⟩), .string ⟨s.toArray⟩] W fun e w' => e = .returned (.tuple #[]) ∧ (∃ j, Rdr w' g lv L n (mustS s q) j) ∧ OnlyG g W w') := fun s W q i hW => rmust_any s hW
  unfold saidX at hX
  have hgl := h.cel.lt
  have hS1 : Since w (w.alloc (.cells #[.string ⟨#[]⟩, .string ⟨#[]⟩, .int .i64 0, .bool false, .string ⟨#[]⟩, .bool false, .string ⟨#[]⟩, .bool false, .string ⟨#[]⟩, .bool false, .string ⟨#[]⟩] 44)) := (Since.refl w).alloc _
  have hR1 : Cel (w.alloc (.cells #[.string ⟨#[]⟩, .string ⟨#[]⟩, .int .i64 0, .bool false, .string ⟨#[]⟩, .bool false, .string ⟨#[]⟩, .bool false, .string ⟨#[]⟩, .bool false, .string ⟨#[]⟩] 44)) w.heap.size #[.string ⟨#[]⟩, .string ⟨#[]⟩, .int .i64 0, .bool false, .string ⟨#[]⟩, .bool false, .string ⟨#[]⟩, .bool false, .string ⟨#[]⟩, .bool false, .string ⟨#[]⟩] 44 := heap_alloc_new w _
  have h1 := h.next hS1
  have HRg : Hid (¬ w.heap.size = g ∧ w.heap.size < (w.alloc (.cells #[.string ⟨#[]⟩, .string ⟨#[]⟩, .int .i64 0, .bool false, .string ⟨#[]⟩, .bool false, .string ⟨#[]⟩, .bool false, .string ⟨#[]⟩, .bool false, .string ⟨#[]⟩] 44)).heap.size) := ⟨by omega, hR1.lt⟩
  clear h hK hf
  go_enter Tryz.func78, Tryz.ntmps78
  go_upto_region 1 with (fail)
  generalize (w.alloc (.cells #[.string ⟨#[]⟩, .string ⟨#[]⟩, .int .i64 0, .bool false, .string ⟨#[]⟩, .bool false, .string ⟨#[]⟩, .bool false, .string ⟨#[]⟩, .bool false, .string ⟨#[]⟩] 44)) = w1 at *
  obtain ⟨rb, hrb⟩ : ∃ x, Hid (x = w.heap.size) := ⟨_, rfl⟩
  simp only [← hrb.out]
  rw [← hrb.out] at hR1 HRg
  go_wp2_with fail
  refine (HN1.out _ _ h1).mono ?_
  rintro e w2 ⟨rfl, ⟨i2, h2⟩, hk2⟩
  clear HN1
  obtain ⟨pred, hpred⟩ : ∃ x, Hid (x = nextV principalB q) := ⟨_, rfl⟩
  obtain ⟨q1, hq1⟩ : ∃ x, Hid (x = nextS principalB q) := ⟨_, rfl⟩
  rw [← hpred.out]
  rw [← hq1.out] at h2
  rw [← hpred.out, ← hq1.out] at hX
  have hSR : SaidR w (w2.alloc (.cells #[.string ⟨who.toArray⟩, .string ⟨pred.toArray⟩, .int .i64 0, .bool false, .string ⟨#[]⟩, .bool false, .string ⟨#[]⟩, .bool false, .string ⟨#[]⟩, .bool false, .string ⟨#[]⟩] 44)) g lv L n q1 rb w2.heap.size (atom0 who pred) := by
    have hs := (Since.refl w2).alloc (.cells #[.string ⟨who.toArray⟩, .string ⟨pred.toArray⟩, .int .i64 0, .bool false, .string ⟨#[]⟩, .bool false, .string ⟨#[]⟩, .bool false, .string ⟨#[]⟩, .bool false, .string ⟨#[]⟩] 44)
    have hg2 := only_since hS1 hk2
    have k3 := h2.cel.lt
    have k4 := hk2.size
    have k5 := HRg.out
    exact ⟨⟨_, h2.next hs⟩, heap_alloc_new w2 _, (hk2.cel hR1 k5.1).next hs, only_then hg2 hs, ⟨hg2.size, by rw [hrb.out]; exact Nat.le_refl _, by omega, k5.1, by omega⟩, by show (0 : Int) ≤ 0; decide, by show (0 : Int) ≤ 4; decide⟩
  clear h1 h2 hk2 hR1 HRg hS1 hrb hpred hq1 hgl
  go_upto_region 2 with (fail)
  obtain ⟨ab, hab⟩ : ∃ x, Hid (x = w2.heap.size) := ⟨_, rfl⟩
  simp only [← hab.out]
  rw [← hab.out] at hSR
  clear hab
  generalize (w2.alloc (.cells #[.string ⟨who.toArray⟩, .string ⟨pred.toArray⟩, .int .i64 0, .bool false, .string ⟨#[]⟩, .bool false, .string ⟨#[]⟩, .bool false, .string ⟨#[]⟩, .bool false, .string ⟨#[]⟩] 44)) = w3 at *
  obtain ⟨i3, h3⟩ := hSR.rd
  have HMA := Lib.hid (HM.out [40] _ _ _ h3)
  obtain ⟨b, hb⟩ : ∃ b, Hid (isS [40] q1 = b) := ⟨_, rfl⟩
  obtain ⟨q2, hq2⟩ : ∃ q, Hid (maybeS [40] q1 = q) := ⟨_, rfl⟩
  rw [hb.out, hq2.out] at HMA
  rw [hb.out, hq2.out] at hX
  cases b with
  | false =>
    have hm : q2 = q1 := by
      rw [← hq2.out]
      cases q1 with
      | error e => rfl
      | ok r => exact maybe_no (by rw [show isT [40] r = false from hb.out]; decide)
    subst hm
    have HX2 : Hid (X = (atom0 who pred, q2)) := hX.out
    clear hX hq2 hb h3 HM HMU HF
    go_wp2_with fail
    refine HMA.out.mono ?_
    rintro e w4 ⟨rfl, ⟨i4, h4, _⟩, hk4⟩
    have hSR4 := hSR.only ⟨i4, h4⟩ hk4
    clear HMA hSR h4 hk4
    have y0 : (w4).cell? ⟨ab, 0, none⟩ = some (.string ⟨who.toArray⟩) := hSR4.at_.cell 0
    have y1 : (w4).cell? ⟨ab, 1, none⟩ = some (.string ⟨pred.toArray⟩) := hSR4.at_.cell 1
    have y2 : (w4).cell? ⟨ab, 2, none⟩ = some (.int .i64 0) := hSR4.at_.cell 2
    have y3 : (w4).cell? ⟨ab, 3, none⟩ = some (.bool false) := hSR4.at_.cell 3
    have y4 : (w4).cell? ⟨ab, 4, none⟩ = some (.string ⟨#[]⟩) := hSR4.at_.cell 4
    have y5 : (w4).cell? ⟨ab, 5, none⟩ = some (.bool false) := hSR4.at_.cell 5
    have y6 : (w4).cell? ⟨ab, 6, none⟩ = some (.string ⟨#[]⟩) := hSR4.at_.cell 6
    have y7 : (w4).cell? ⟨ab, 7, none⟩ = some (.bool false) := hSR4.at_.cell 7
    have y8 : (w4).cell? ⟨ab, 8, none⟩ = some (.string ⟨#[]⟩) := hSR4.at_.cell 8
    have y9 : (w4).cell? ⟨ab, 9, none⟩ = some (.bool false) := hSR4.at_.cell 9
    have y10 : (w4).cell? ⟨ab, 10, none⟩ = some (.string ⟨#[]⟩) := hSR4.at_.cell 10
    have hone : Hid (((#[.string ⟨who.toArray⟩, .string ⟨pred.toArray⟩, .int .i64 0, .bool false, .string ⟨#[]⟩, .bool false, .string ⟨#[]⟩, .bool false, .string ⟨#[]⟩, .bool false, .string ⟨#[]⟩] : Array Value).all (·.oneCell')) = true) := by show _ = _; simp [Value.oneCell']
    have hR6 := hSR4.rs
    go_wp2_with (refine wpList_store_row rfl 44 (.tmp 4) (.tmp 16) rfl rb #[.string ⟨who.toArray⟩, .string ⟨pred.toArray⟩, .int .i64 0, .bool false, .string ⟨#[]⟩, .bool false, .string ⟨#[]⟩, .bool false, .string ⟨#[]⟩, .bool false, .string ⟨#[]⟩] rfl rfl 44 #[.string ⟨#[]⟩, .string ⟨#[]⟩, .int .i64 0, .bool false, .string ⟨#[]⟩, .bool false, .string ⟨#[]⟩, .bool false, .string ⟨#[]⟩, .bool false, .string ⟨#[]⟩] hR6 ainfoC rfl hone.out ?_)
    have hbx : Cel (w4.setRow rb #[.string ⟨who.toArray⟩, .string ⟨pred.toArray⟩, .int .i64 0, .bool false, .string ⟨#[]⟩, .bool false, .string ⟨#[]⟩, .bool false, .string ⟨#[]⟩, .bool false, .string ⟨#[]⟩]) rb #[.string ⟨who.toArray⟩, .string ⟨pred.toArray⟩, .int .i64 0, .bool false, .string ⟨#[]⟩, .bool false, .string ⟨#[]⟩, .bool false, .string ⟨#[]⟩, .bool false, .string ⟨#[]⟩] 44 := hR6.row #[.string ⟨who.toArray⟩, .string ⟨pred.toArray⟩, .int .i64 0, .bool false, .string ⟨#[]⟩, .bool false, .string ⟨#[]⟩, .bool false, .string ⟨#[]⟩, .bool false, .string ⟨#[]⟩]
    have e0 : (w4.setRow rb #[.string ⟨who.toArray⟩, .string ⟨pred.toArray⟩, .int .i64 0, .bool false, .string ⟨#[]⟩, .bool false, .string ⟨#[]⟩, .bool false, .string ⟨#[]⟩, .bool false, .string ⟨#[]⟩]).cell? ⟨rb, 0, none⟩ = some (.string ⟨who.toArray⟩) := hbx.cell 0
    have e1 : (w4.setRow rb #[.string ⟨who.toArray⟩, .string ⟨pred.toArray⟩, .int .i64 0, .bool false, .string ⟨#[]⟩, .bool false, .string ⟨#[]⟩, .bool false, .string ⟨#[]⟩, .bool false, .string ⟨#[]⟩]).cell? ⟨rb, 1, none⟩ = some (.string ⟨pred.toArray⟩) := hbx.cell 1
    have e2 : (w4.setRow rb #[.string ⟨who.toArray⟩, .string ⟨pred.toArray⟩, .int .i64 0, .bool false, .string ⟨#[]⟩, .bool false, .string ⟨#[]⟩, .bool false, .string ⟨#[]⟩, .bool false, .string ⟨#[]⟩]).cell? ⟨rb, 2, none⟩ = some (.int .i64 0) := hbx.cell 2
    have e3 : (w4.setRow rb #[.string ⟨who.toArray⟩, .string ⟨pred.toArray⟩, .int .i64 0, .bool false, .string ⟨#[]⟩, .bool false, .string ⟨#[]⟩, .bool false, .string ⟨#[]⟩, .bool false, .string ⟨#[]⟩]).cell? ⟨rb, 3, none⟩ = some (.bool false) := hbx.cell 3
    have e4 : (w4.setRow rb #[.string ⟨who.toArray⟩, .string ⟨pred.toArray⟩, .int .i64 0, .bool false, .string ⟨#[]⟩, .bool false, .string ⟨#[]⟩, .bool false, .string ⟨#[]⟩, .bool false, .string ⟨#[]⟩]).cell? ⟨rb, 4, none⟩ = some (.string ⟨#[]⟩) := hbx.cell 4
    have e5 : (w4.setRow rb #[.string ⟨who.toArray⟩, .string ⟨pred.toArray⟩, .int .i64 0, .bool false, .string ⟨#[]⟩, .bool false, .string ⟨#[]⟩, .bool false, .string ⟨#[]⟩, .bool false, .string ⟨#[]⟩]).cell? ⟨rb, 5, none⟩ = some (.bool false) := hbx.cell 5
    have e6 : (w4.setRow rb #[.string ⟨who.toArray⟩, .string ⟨pred.toArray⟩, .int .i64 0, .bool false, .string ⟨#[]⟩, .bool false, .string ⟨#[]⟩, .bool false, .string ⟨#[]⟩, .bool false, .string ⟨#[]⟩]).cell? ⟨rb, 6, none⟩ = some (.string ⟨#[]⟩) := hbx.cell 6
    have e7 : (w4.setRow rb #[.string ⟨who.toArray⟩, .string ⟨pred.toArray⟩, .int .i64 0, .bool false, .string ⟨#[]⟩, .bool false, .string ⟨#[]⟩, .bool false, .string ⟨#[]⟩, .bool false, .string ⟨#[]⟩]).cell? ⟨rb, 7, none⟩ = some (.bool false) := hbx.cell 7
    have e8 : (w4.setRow rb #[.string ⟨who.toArray⟩, .string ⟨pred.toArray⟩, .int .i64 0, .bool false, .string ⟨#[]⟩, .bool false, .string ⟨#[]⟩, .bool false, .string ⟨#[]⟩, .bool false, .string ⟨#[]⟩]).cell? ⟨rb, 8, none⟩ = some (.string ⟨#[]⟩) := hbx.cell 8
    have e9 : (w4.setRow rb #[.string ⟨who.toArray⟩, .string ⟨pred.toArray⟩, .int .i64 0, .bool false, .string ⟨#[]⟩, .bool false, .string ⟨#[]⟩, .bool false, .string ⟨#[]⟩, .bool false, .string ⟨#[]⟩]).cell? ⟨rb, 9, none⟩ = some (.bool false) := hbx.cell 9
    have e10 : (w4.setRow rb #[.string ⟨who.toArray⟩, .string ⟨pred.toArray⟩, .int .i64 0, .bool false, .string ⟨#[]⟩, .bool false, .string ⟨#[]⟩, .bool false, .string ⟨#[]⟩, .bool false, .string ⟨#[]⟩]).cell? ⟨rb, 10, none⟩ = some (.string ⟨#[]⟩) := hbx.cell 10
    have hZ7 := row_setRow hR6 (ds := #[.string ⟨who.toArray⟩, .string ⟨pred.toArray⟩, .int .i64 0, .bool false, .string ⟨#[]⟩, .bool false, .string ⟨#[]⟩, .bool false, .string ⟨#[]⟩, .bool false, .string ⟨#[]⟩])
    clear y0 y1 y2 y3 y4 y5 y6 y7 y8 y9 y10 hone
    go_wp2_with fail
    refine bodyPost_ret (v := .agg #[.string ⟨who.toArray⟩, .string ⟨pred.toArray⟩, .int .i64 0, .bool false, .string ⟨#[]⟩, .bool false, .string ⟨#[]⟩, .bool false, .string ⟨#[]⟩, .bool false, .string ⟨#[]⟩]) (by simp [results, Tryz.results78, go_sem, e0, e1, e2, e3, e4, e5, e6, e7, e8, e9, e10]) rfl ?_
    exact hgood.out _ _ _ HX2.out (hSR4.fin hZ7)
  | true =>
    have HX2 : Hid (X = ((loopR termX true (atom0 who pred) q2).1, mustS [41] (loopR termX true (atom0 who pred) q2).2)) := hX.out
    obtain ⟨Y, hY⟩ : ∃ Y, Hid (Y = loopR termX true (atom0 who pred) q2) := ⟨_, rfl⟩
    rw [← hY.out] at HX2
    clear hX hq2 hb h3
    go_wp2_with fail
    refine HMA.out.mono ?_
    rintro e w4 ⟨rfl, ⟨i4, h4, _⟩, hk4⟩
    have hSR4 := hSR.only ⟨i4, h4⟩ hk4
    clear HMA hSR h4 hk4
    go_wp2_with fail
    go_loopg [6] (leftS q2) (fun m mv wr => ∃ (b : Bool) (a : Atm) (q3 : RS), m = leftS q3 ∧ mv = .bool b ∧ Hid (Y = loopR termX b a q3) ∧ SaidR w wr g lv L n q3 rb ab a)
    case atStart => exact ⟨true, _, q2, rfl, rfl, hY, hSR4⟩
    case round =>
    clear hSR4 hY
    obtain ⟨b, a, q3, rfl, rfl, HY, hSR⟩ := hrel
    have hdone : (b = false ∧ Y = (a, q3)) ∨ (b = true ∧ ∃ e, q3 = .error e ∧ Y = (a, q3)) ∨ (b = true ∧ ∃ r, q3 = .ok r) := by
      cases q3 with
      | error e => cases b with
        | false => exact .inl ⟨rfl, HY.out⟩
        | true => exact .inr (.inl ⟨rfl, e, rfl, HY.out⟩)
      | ok r => cases b with
        | false => exact .inl ⟨rfl, HY.out⟩
        | true => exact .inr (.inr ⟨rfl, r, rfl⟩)
    rcases hdone with ⟨rfl, hYe⟩ | ⟨rfl, e0, rfl, hYe⟩ | ⟨rfl, r, rfl⟩
    · have HX3 : Hid (X = (a, mustS [41] q3)) := by show _ = _; rw [HX2.out, hYe]
      clear HY hYe HX2
      obtain ⟨j, hr⟩ := hSR.rd
      go_wp2_with fail
      refine (HMU.out [41] _ _ _ hr).mono ?_
      rintro e w6 ⟨rfl, hr6, hk6⟩
      have hSR6 := hSR.only hr6 hk6
      clear hr hr6 hk6 hSR
      obtain ⟨a_s, a_p, a_n, ⟨a_v0, a_l0⟩, ⟨a_v1, a_l1⟩, ⟨a_v2, a_l2⟩, ⟨a_v3, a_l3⟩⟩ := a
      have y0 : (w6).cell? ⟨ab, 0, none⟩ = some (.string ⟨a_s.toArray⟩) := hSR6.at_.cell 0
      have y1 : (w6).cell? ⟨ab, 1, none⟩ = some (.string ⟨a_p.toArray⟩) := hSR6.at_.cell 1
      have y2 : (w6).cell? ⟨ab, 2, none⟩ = some (.int .i64 a_n) := hSR6.at_.cell 2
      have y3 : (w6).cell? ⟨ab, 3, none⟩ = some (.bool a_v0) := hSR6.at_.cell 3
      have y4 : (w6).cell? ⟨ab, 4, none⟩ = some (.string ⟨a_l0.toArray⟩) := hSR6.at_.cell 4
      have y5 : (w6).cell? ⟨ab, 5, none⟩ = some (.bool a_v1) := hSR6.at_.cell 5
      have y6 : (w6).cell? ⟨ab, 6, none⟩ = some (.string ⟨a_l1.toArray⟩) := hSR6.at_.cell 6
      have y7 : (w6).cell? ⟨ab, 7, none⟩ = some (.bool a_v2) := hSR6.at_.cell 7
      have y8 : (w6).cell? ⟨ab, 8, none⟩ = some (.string ⟨a_l2.toArray⟩) := hSR6.at_.cell 8
      have y9 : (w6).cell? ⟨ab, 9, none⟩ = some (.bool a_v3) := hSR6.at_.cell 9
      have y10 : (w6).cell? ⟨ab, 10, none⟩ = some (.string ⟨a_l3.toArray⟩) := hSR6.at_.cell 10
      have hone : Hid (((#[.string ⟨a_s.toArray⟩, .string ⟨a_p.toArray⟩, .int .i64 a_n, .bool a_v0, .string ⟨a_l0.toArray⟩, .bool a_v1, .string ⟨a_l1.toArray⟩, .bool a_v2, .string ⟨a_l2.toArray⟩, .bool a_v3, .string ⟨a_l3.toArray⟩] : Array Value).all (·.oneCell')) = true) := by show _ = _; simp [Value.oneCell']
      have hR6 := hSR6.rs
      go_wp2_with (refine wpList_store_row rfl 44 (.tmp 4) (.tmp 65) rfl rb #[.string ⟨a_s.toArray⟩, .string ⟨a_p.toArray⟩, .int .i64 a_n, .bool a_v0, .string ⟨a_l0.toArray⟩, .bool a_v1, .string ⟨a_l1.toArray⟩, .bool a_v2, .string ⟨a_l2.toArray⟩, .bool a_v3, .string ⟨a_l3.toArray⟩] rfl rfl 44 #[.string ⟨#[]⟩, .string ⟨#[]⟩, .int .i64 0, .bool false, .string ⟨#[]⟩, .bool false, .string ⟨#[]⟩, .bool false, .string ⟨#[]⟩, .bool false, .string ⟨#[]⟩] hR6 ainfoC rfl hone.out ?_)
      have hbx : Cel (w6.setRow rb #[.string ⟨a_s.toArray⟩, .string ⟨a_p.toArray⟩, .int .i64 a_n, .bool a_v0, .string ⟨a_l0.toArray⟩, .bool a_v1, .string ⟨a_l1.toArray⟩, .bool a_v2, .string ⟨a_l2.toArray⟩, .bool a_v3, .string ⟨a_l3.toArray⟩]) rb #[.string ⟨a_s.toArray⟩, .string ⟨a_p.toArray⟩, .int .i64 a_n, .bool a_v0, .string ⟨a_l0.toArray⟩, .bool a_v1, .string ⟨a_l1.toArray⟩, .bool a_v2, .string ⟨a_l2.toArray⟩, .bool a_v3, .string ⟨a_l3.toArray⟩] 44 := hR6.row #[.string ⟨a_s.toArray⟩, .string ⟨a_p.toArray⟩, .int .i64 a_n, .bool a_v0, .string ⟨a_l0.toArray⟩, .bool a_v1, .string ⟨a_l1.toArray⟩, .bool a_v2, .string ⟨a_l2.toArray⟩, .bool a_v3, .string ⟨a_l3.toArray⟩]
      have e0 : (w6.setRow rb #[.string ⟨a_s.toArray⟩, .string ⟨a_p.toArray⟩, .int .i64 a_n, .bool a_v0, .string ⟨a_l0.toArray⟩, .bool a_v1, .string ⟨a_l1.toArray⟩, .bool a_v2, .string ⟨a_l2.toArray⟩, .bool a_v3, .string ⟨a_l3.toArray⟩]).cell? ⟨rb, 0, none⟩ = some (.string ⟨a_s.toArray⟩) := hbx.cell 0
      have e1 : (w6.setRow rb #[.string ⟨a_s.toArray⟩, .string ⟨a_p.toArray⟩, .int .i64 a_n, .bool a_v0, .string ⟨a_l0.toArray⟩, .bool a_v1, .string ⟨a_l1.toArray⟩, .bool a_v2, .string ⟨a_l2.toArray⟩, .bool a_v3, .string ⟨a_l3.toArray⟩]).cell? ⟨rb, 1, none⟩ = some (.string ⟨a_p.toArray⟩) := hbx.cell 1
      have e2 : (w6.setRow rb #[.string ⟨a_s.toArray⟩, .string ⟨a_p.toArray⟩, .int .i64 a_n, .bool a_v0, .string ⟨a_l0.toArray⟩, .bool a_v1, .string ⟨a_l1.toArray⟩, .bool a_v2, .string ⟨a_l2.toArray⟩, .bool a_v3, .string ⟨a_l3.toArray⟩]).cell? ⟨rb, 2, none⟩ = some (.int .i64 a_n) := hbx.cell 2
      have e3 : (w6.setRow rb #[.string ⟨a_s.toArray⟩, .string ⟨a_p.toArray⟩, .int .i64 a_n, .bool a_v0, .string ⟨a_l0.toArray⟩, .bool a_v1, .string ⟨a_l1.toArray⟩, .bool a_v2, .string ⟨a_l2.toArray⟩, .bool a_v3, .string ⟨a_l3.toArray⟩]).cell? ⟨rb, 3, none⟩ = some (.bool a_v0) := hbx.cell 3
      have e4 : (w6.setRow rb #[.string ⟨a_s.toArray⟩, .string ⟨a_p.toArray⟩, .int .i64 a_n, .bool a_v0, .string ⟨a_l0.toArray⟩, .bool a_v1, .string ⟨a_l1.toArray⟩, .bool a_v2, .string ⟨a_l2.toArray⟩, .bool a_v3, .string ⟨a_l3.toArray⟩]).cell? ⟨rb, 4, none⟩ = some (.string ⟨a_l0.toArray⟩) := hbx.cell 4
      have e5 : (w6.setRow rb #[.string ⟨a_s.toArray⟩, .string ⟨a_p.toArray⟩, .int .i64 a_n, .bool a_v0, .string ⟨a_l0.toArray⟩, .bool a_v1, .string ⟨a_l1.toArray⟩, .bool a_v2, .string ⟨a_l2.toArray⟩, .bool a_v3, .string ⟨a_l3.toArray⟩]).cell? ⟨rb, 5, none⟩ = some (.bool a_v1) := hbx.cell 5
      have e6 : (w6.setRow rb #[.string ⟨a_s.toArray⟩, .string ⟨a_p.toArray⟩, .int .i64 a_n, .bool a_v0, .string ⟨a_l0.toArray⟩, .bool a_v1, .string ⟨a_l1.toArray⟩, .bool a_v2, .string ⟨a_l2.toArray⟩, .bool a_v3, .string ⟨a_l3.toArray⟩]).cell? ⟨rb, 6, none⟩ = some (.string ⟨a_l1.toArray⟩) := hbx.cell 6
      have e7 : (w6.setRow rb #[.string ⟨a_s.toArray⟩, .string ⟨a_p.toArray⟩, .int .i64 a_n, .bool a_v0, .string ⟨a_l0.toArray⟩, .bool a_v1, .string ⟨a_l1.toArray⟩, .bool a_v2, .string ⟨a_l2.toArray⟩, .bool a_v3, .string ⟨a_l3.toArray⟩]).cell? ⟨rb, 7, none⟩ = some (.bool a_v2) := hbx.cell 7
      have e8 : (w6.setRow rb #[.string ⟨a_s.toArray⟩, .string ⟨a_p.toArray⟩, .int .i64 a_n, .bool a_v0, .string ⟨a_l0.toArray⟩, .bool a_v1, .string ⟨a_l1.toArray⟩, .bool a_v2, .string ⟨a_l2.toArray⟩, .bool a_v3, .string ⟨a_l3.toArray⟩]).cell? ⟨rb, 8, none⟩ = some (.string ⟨a_l2.toArray⟩) := hbx.cell 8
      have e9 : (w6.setRow rb #[.string ⟨a_s.toArray⟩, .string ⟨a_p.toArray⟩, .int .i64 a_n, .bool a_v0, .string ⟨a_l0.toArray⟩, .bool a_v1, .string ⟨a_l1.toArray⟩, .bool a_v2, .string ⟨a_l2.toArray⟩, .bool a_v3, .string ⟨a_l3.toArray⟩]).cell? ⟨rb, 9, none⟩ = some (.bool a_v3) := hbx.cell 9
      have e10 : (w6.setRow rb #[.string ⟨a_s.toArray⟩, .string ⟨a_p.toArray⟩, .int .i64 a_n, .bool a_v0, .string ⟨a_l0.toArray⟩, .bool a_v1, .string ⟨a_l1.toArray⟩, .bool a_v2, .string ⟨a_l2.toArray⟩, .bool a_v3, .string ⟨a_l3.toArray⟩]).cell? ⟨rb, 10, none⟩ = some (.string ⟨a_l3.toArray⟩) := hbx.cell 10
      have hZ7 := row_setRow hR6 (ds := #[.string ⟨a_s.toArray⟩, .string ⟨a_p.toArray⟩, .int .i64 a_n, .bool a_v0, .string ⟨a_l0.toArray⟩, .bool a_v1, .string ⟨a_l1.toArray⟩, .bool a_v2, .string ⟨a_l2.toArray⟩, .bool a_v3, .string ⟨a_l3.toArray⟩])
      clear y0 y1 y2 y3 y4 y5 y6 y7 y8 y9 y10 hone
      go_wp2_with fail
      refine bodyPost_ret (v := .agg #[.string ⟨a_s.toArray⟩, .string ⟨a_p.toArray⟩, .int .i64 a_n, .bool a_v0, .string ⟨a_l0.toArray⟩, .bool a_v1, .string ⟨a_l1.toArray⟩, .bool a_v2, .string ⟨a_l2.toArray⟩, .bool a_v3, .string ⟨a_l3.toArray⟩]) (by simp [results, Tryz.results78, go_sem, e0, e1, e2, e3, e4, e5, e6, e7, e8, e9, e10]) rfl ?_
      exact hgood.out _ _ _ HX3.out (hSR6.fin hZ7)
    · have HX3 : Hid (X = (a, mustS [41] (.error e0))) := by show _ = _; rw [HX2.out, hYe]
      clear HY hYe HX2
      obtain ⟨j, hr⟩ := hSR.rd
      have he : ¬ e0.2 = 0 := hr.bad _ rfl
      have c4 : wr.cell? ⟨g, 4, none⟩ = some (.int .i64 e0.2) := hr.cel.cell 4
      obtain ⟨k0, er⟩ := e0
      simp only at he c4
      go_wp2_with fail
      refine (HMU.out [41] _ _ _ hr).mono ?_
      rintro e w6 ⟨rfl, hr6, hk6⟩
      have hSR6 := hSR.only hr6 hk6
      clear hr hr6 hk6 hSR c4 he
      obtain ⟨a_s, a_p, a_n, ⟨a_v0, a_l0⟩, ⟨a_v1, a_l1⟩, ⟨a_v2, a_l2⟩, ⟨a_v3, a_l3⟩⟩ := a
      have y0 : (w6).cell? ⟨ab, 0, none⟩ = some (.string ⟨a_s.toArray⟩) := hSR6.at_.cell 0
      have y1 : (w6).cell? ⟨ab, 1, none⟩ = some (.string ⟨a_p.toArray⟩) := hSR6.at_.cell 1
      have y2 : (w6).cell? ⟨ab, 2, none⟩ = some (.int .i64 a_n) := hSR6.at_.cell 2
      have y3 : (w6).cell? ⟨ab, 3, none⟩ = some (.bool a_v0) := hSR6.at_.cell 3
      have y4 : (w6).cell? ⟨ab, 4, none⟩ = some (.string ⟨a_l0.toArray⟩) := hSR6.at_.cell 4
      have y5 : (w6).cell? ⟨ab, 5, none⟩ = some (.bool a_v1) := hSR6.at_.cell 5
      have y6 : (w6).cell? ⟨ab, 6, none⟩ = some (.string ⟨a_l1.toArray⟩) := hSR6.at_.cell 6
      have y7 : (w6).cell? ⟨ab, 7, none⟩ = some (.bool a_v2) := hSR6.at_.cell 7
      have y8 : (w6).cell? ⟨ab, 8, none⟩ = some (.string ⟨a_l2.toArray⟩) := hSR6.at_.cell 8
      have y9 : (w6).cell? ⟨ab, 9, none⟩ = some (.bool a_v3) := hSR6.at_.cell 9
      have y10 : (w6).cell? ⟨ab, 10, none⟩ = some (.string ⟨a_l3.toArray⟩) := hSR6.at_.cell 10
      have hone : Hid (((#[.string ⟨a_s.toArray⟩, .string ⟨a_p.toArray⟩, .int .i64 a_n, .bool a_v0, .string ⟨a_l0.toArray⟩, .bool a_v1, .string ⟨a_l1.toArray⟩, .bool a_v2, .string ⟨a_l2.toArray⟩, .bool a_v3, .string ⟨a_l3.toArray⟩] : Array Value).all (·.oneCell')) = true) := by show _ = _; simp [Value.oneCell']
      have hR6 := hSR6.rs
      go_wp2_with (refine wpList_store_row rfl 44 (.tmp 4) (.tmp 65) rfl rb #[.string ⟨a_s.toArray⟩, .string ⟨a_p.toArray⟩, .int .i64 a_n, .bool a_v0, .string ⟨a_l0.toArray⟩, .bool a_v1, .string ⟨a_l1.toArray⟩, .bool a_v2, .string ⟨a_l2.toArray⟩, .bool a_v3, .string ⟨a_l3.toArray⟩] rfl rfl 44 #[.string ⟨#[]⟩, .string ⟨#[]⟩, .int .i64 0, .bool false, .string ⟨#[]⟩, .bool false, .string ⟨#[]⟩, .bool false, .string ⟨#[]⟩, .bool false, .string ⟨#[]⟩] hR6 ainfoC rfl hone.out ?_)
      have hbx : Cel (w6.setRow rb #[.string ⟨a_s.toArray⟩, .string ⟨a_p.toArray⟩, .int .i64 a_n, .bool a_v0, .string ⟨a_l0.toArray⟩, .bool a_v1, .string ⟨a_l1.toArray⟩, .bool a_v2, .string ⟨a_l2.toArray⟩, .bool a_v3, .string ⟨a_l3.toArray⟩]) rb #[.string ⟨a_s.toArray⟩, .string ⟨a_p.toArray⟩, .int .i64 a_n, .bool a_v0, .string ⟨a_l0.toArray⟩, .bool a_v1, .string ⟨a_l1.toArray⟩, .bool a_v2, .string ⟨a_l2.toArray⟩, .bool a_v3, .string ⟨a_l3.toArray⟩] 44 := hR6.row #[.string ⟨a_s.toArray⟩, .string ⟨a_p.toArray⟩, .int .i64 a_n, .bool a_v0, .string ⟨a_l0.toArray⟩, .bool a_v1, .string ⟨a_l1.toArray⟩, .bool a_v2, .string ⟨a_l2.toArray⟩, .bool a_v3, .string ⟨a_l3.toArray⟩]
      have e0 : (w6.setRow rb #[.string ⟨a_s.toArray⟩, .string ⟨a_p.toArray⟩, .int .i64 a_n, .bool a_v0, .string ⟨a_l0.toArray⟩, .bool a_v1, .string ⟨a_l1.toArray⟩, .bool a_v2, .string ⟨a_l2.toArray⟩, .bool a_v3, .string ⟨a_l3.toArray⟩]).cell? ⟨rb, 0, none⟩ = some (.string ⟨a_s.toArray⟩) := hbx.cell 0
      have e1 : (w6.setRow rb #[.string ⟨a_s.toArray⟩, .string ⟨a_p.toArray⟩, .int .i64 a_n, .bool a_v0, .string ⟨a_l0.toArray⟩, .bool a_v1, .string ⟨a_l1.toArray⟩, .bool a_v2, .string ⟨a_l2.toArray⟩, .bool a_v3, .string ⟨a_l3.toArray⟩]).cell? ⟨rb, 1, none⟩ = some (.string ⟨a_p.toArray⟩) := hbx.cell 1
      have e2 : (w6.setRow rb #[.string ⟨a_s.toArray⟩, .string ⟨a_p.toArray⟩, .int .i64 a_n, .bool a_v0, .string ⟨a_l0.toArray⟩, .bool a_v1, .string ⟨a_l1.toArray⟩, .bool a_v2, .string ⟨a_l2.toArray⟩, .bool a_v3, .string ⟨a_l3.toArray⟩]).cell? ⟨rb, 2, none⟩ = some (.int .i64 a_n) := hbx.cell 2
      have e3 : (w6.setRow rb #[.string ⟨a_s.toArray⟩, .string ⟨a_p.toArray⟩, .int .i64 a_n, .bool a_v0, .string ⟨a_l0.toArray⟩, .bool a_v1, .string ⟨a_l1.toArray⟩, .bool a_v2, .string ⟨a_l2.toArray⟩, .bool a_v3, .string ⟨a_l3.toArray⟩]).cell? ⟨rb, 3, none⟩ = some (.bool a_v0) := hbx.cell 3
      have e4 : (w6.setRow rb #[.string ⟨a_s.toArray⟩, .string ⟨a_p.toArray⟩, .int .i64 a_n, .bool a_v0, .string ⟨a_l0.toArray⟩, .bool a_v1, .string ⟨a_l1.toArray⟩, .bool a_v2, .string ⟨a_l2.toArray⟩, .bool a_v3, .string ⟨a_l3.toArray⟩]).cell? ⟨rb, 4, none⟩ = some (.string ⟨a_l0.toArray⟩) := hbx.cell 4
      have e5 : (w6.setRow rb #[.string ⟨a_s.toArray⟩, .string ⟨a_p.toArray⟩, .int .i64 a_n, .bool a_v0, .string ⟨a_l0.toArray⟩, .bool a_v1, .string ⟨a_l1.toArray⟩, .bool a_v2, .string ⟨a_l2.toArray⟩, .bool a_v3, .string ⟨a_l3.toArray⟩]).cell? ⟨rb, 5, none⟩ = some (.bool a_v1) := hbx.cell 5
      have e6 : (w6.setRow rb #[.string ⟨a_s.toArray⟩, .string ⟨a_p.toArray⟩, .int .i64 a_n, .bool a_v0, .string ⟨a_l0.toArray⟩, .bool a_v1, .string ⟨a_l1.toArray⟩, .bool a_v2, .string ⟨a_l2.toArray⟩, .bool a_v3, .string ⟨a_l3.toArray⟩]).cell? ⟨rb, 6, none⟩ = some (.string ⟨a_l1.toArray⟩) := hbx.cell 6
      have e7 : (w6.setRow rb #[.string ⟨a_s.toArray⟩, .string ⟨a_p.toArray⟩, .int .i64 a_n, .bool a_v0, .string ⟨a_l0.toArray⟩, .bool a_v1, .string ⟨a_l1.toArray⟩, .bool a_v2, .string ⟨a_l2.toArray⟩, .bool a_v3, .string ⟨a_l3.toArray⟩]).cell? ⟨rb, 7, none⟩ = some (.bool a_v2) := hbx.cell 7
      have e8 : (w6.setRow rb #[.string ⟨a_s.toArray⟩, .string ⟨a_p.toArray⟩, .int .i64 a_n, .bool a_v0, .string ⟨a_l0.toArray⟩, .bool a_v1, .string ⟨a_l1.toArray⟩, .bool a_v2, .string ⟨a_l2.toArray⟩, .bool a_v3, .string ⟨a_l3.toArray⟩]).cell? ⟨rb, 8, none⟩ = some (.string ⟨a_l2.toArray⟩) := hbx.cell 8
      have e9 : (w6.setRow rb #[.string ⟨a_s.toArray⟩, .string ⟨a_p.toArray⟩, .int .i64 a_n, .bool a_v0, .string ⟨a_l0.toArray⟩, .bool a_v1, .string ⟨a_l1.toArray⟩, .bool a_v2, .string ⟨a_l2.toArray⟩, .bool a_v3, .string ⟨a_l3.toArray⟩]).cell? ⟨rb, 9, none⟩ = some (.bool a_v3) := hbx.cell 9
      have e10 : (w6.setRow rb #[.string ⟨a_s.toArray⟩, .string ⟨a_p.toArray⟩, .int .i64 a_n, .bool a_v0, .string ⟨a_l0.toArray⟩, .bool a_v1, .string ⟨a_l1.toArray⟩, .bool a_v2, .string ⟨a_l2.toArray⟩, .bool a_v3, .string ⟨a_l3.toArray⟩]).cell? ⟨rb, 10, none⟩ = some (.string ⟨a_l3.toArray⟩) := hbx.cell 10
      have hZ7 := row_setRow hR6 (ds := #[.string ⟨a_s.toArray⟩, .string ⟨a_p.toArray⟩, .int .i64 a_n, .bool a_v0, .string ⟨a_l0.toArray⟩, .bool a_v1, .string ⟨a_l1.toArray⟩, .bool a_v2, .string ⟨a_l2.toArray⟩, .bool a_v3, .string ⟨a_l3.toArray⟩])
      clear y0 y1 y2 y3 y4 y5 y6 y7 y8 y9 y10 hone
      go_wp2_with fail
      refine bodyPost_ret (v := .agg #[.string ⟨a_s.toArray⟩, .string ⟨a_p.toArray⟩, .int .i64 a_n, .bool a_v0, .string ⟨a_l0.toArray⟩, .bool a_v1, .string ⟨a_l1.toArray⟩, .bool a_v2, .string ⟨a_l2.toArray⟩, .bool a_v3, .string ⟨a_l3.toArray⟩]) (by simp [results, Tryz.results78, go_sem, e0, e1, e2, e3, e4, e5, e6, e7, e8, e9, e10]) rfl ?_
      exact hgood.out _ _ _ HX3.out (hSR6.fin hZ7)
    · have HY2 : Hid (Y = loopR termX (isS [44] (termX a r).2) (termX a r).1 (maybeS [44] (termX a r).2)) := by show _ = _; rw [HY.out, loop_step term_shr]
      have HLT := Lib.hid (loop_left term_shr a r)
      obtain ⟨j, hr⟩ := hSR.rd
      have hsub := hr.sub
      have HLJ : Hid (L.length - j = r.length ∧ j ≤ L.length) := ⟨by omega, hr.ile⟩
      have c4 : wr.cell? ⟨g, 4, none⟩ = some (.int .i64 0) := hr.cel.cell 4
      have c1 : wr.cell? ⟨g, 1, none⟩ = some (.int .i64 (j : Int)) := hr.cel.cell 1
      have HN2 := Lib.hid (rnext_any 2 termT (fun t W ht => rmay_term t W ht) HF.out hr)
      have HTF : Hid (∀ t r1, nameT termT r = .ok (t, r1) → t.length ≤ maxLen) := fun t r1 e => by
        obtain ⟨_, p, hp⟩ := hr.ok r rfl
        have := HF.out t (by rw [hp, (nameT_ok e).1]; simp)
        unfold maxLen; omega
      clear HY hsub HX2 hr
      cases hnm : nameT termT r with
      | error x =>
        obtain ⟨e1, e2⟩ := next_bad hnm
        rw [e1, e2] at HN2
        rw [term_bad hnm] at HY2 HLT
        obtain ⟨k0, er⟩ := x
        clear hnm e1 e2 HTF
        go_wp2_with fail
        refine HN2.out.mono ?_
        rintro e w5 ⟨rfl, ⟨j5, hr5⟩, hk5⟩
        have hSR5 := hSR.only ⟨j5, hr5⟩ hk5
        have he : ¬ er = 0 := hr5.bad _ rfl
        have d4 : w5.cell? ⟨g, 4, none⟩ = some (.int .i64 er) := hr5.cel.cell 4
        clear HN2 hSR hk5 c1 c4
        go_wp2_with fail
        refine (HM.out [44] _ _ _ hr5).mono ?_
        rintro e w7 ⟨rfl, ⟨i7, h7, _⟩, hk7⟩
        have hSR7 := hSR5.only ⟨i7, h7⟩ hk7
        clear hr5 hSR5 d4 he h7 hk7
        go_wp2_with fail
        go_roundg (leftS (maybeS [44] (.error (k0, er))))
        case measure => exact HLT.out
        case rel => exact ⟨_, _, _, rfl, rfl, HY2, hSR7⟩
      | ok x =>
        obtain ⟨t, r1⟩ := x
        obtain ⟨e1, e2⟩ := next_ok hnm
        rw [e1, e2] at HN2
        have htl := HTF.out t r1 hnm
        obtain ⟨a_s, a_p, a_n, ⟨a_v0, a_l0⟩, ⟨a_v1, a_l1⟩, ⟨a_v2, a_l2⟩, ⟨a_v3, a_l3⟩⟩ := a
        have hn0 : 0 ≤ a_n := hSR.n0
        have hn4 : a_n ≤ 4 := hSR.n4
        by_cases h4 : a_n = 4
        · subst h4
          rw [term_long hnm rfl] at HY2 HLT
          clear hnm e1 e2 HTF hn0 hn4 htl
          go_wp2_with fail
          refine HN2.out.mono ?_
          rintro e w5 ⟨rfl, ⟨j5, hr5⟩, hk5⟩
          have hSR5 := hSR.only ⟨j5, hr5⟩ hk5
          have d4 : w5.cell? ⟨g, 4, none⟩ = some (.int .i64 0) := hr5.cel.cell 4
          have x2 : w5.cell? ⟨ab, 2, none⟩ = some (.int .i64 4) := hSR5.at_.cell 2
          have HFL := Lib.hid (rfail_any 4 j (by decide) hr5 HLJ.out.2)
          rw [HLJ.out.1] at HFL
          have HFL2 : Hid (Calls Tryz.prog 77 #[.pointer (some ⟨g, 0, none⟩), .int .i64 4, .int .i64 (j : Int)] w5 fun e w' => e = .returned (.tuple #[]) ∧ Rdr w' g lv L n (.error (r.length, 4)) j5 ∧ OnlyG g w5 w') := HFL.out
          clear HN2 hSR hk5 c1 c4 hr5 HFL
          go_wp2_with fail
          refine HFL2.out.mono ?_
          rintro e w6 ⟨rfl, hr6, hk6⟩
          have hSR6 := hSR5.only ⟨_, hr6⟩ hk6
          have f4 : w6.cell? ⟨g, 4, none⟩ = some (.int .i64 4) := hr6.cel.cell 4
          clear hSR5 hk6 d4 x2 HFL2
          go_wp2_with fail
          refine (HM.out [44] _ _ _ hr6).mono ?_
          rintro e w7 ⟨rfl, ⟨i7, h7, _⟩, hk7⟩
          have hSR7 := hSR6.only ⟨i7, h7⟩ hk7
          clear hr6 hSR6 f4 h7 hk7
          go_wp2_with fail
          go_roundg (leftS (maybeS [44] (.error (r.length, 4))))
          case measure => exact HLT.out
          case rel => exact ⟨_, _, _, rfl, rfl, HY2, hSR7⟩
        · rw [term_good hnm (show ¬ a_n = 4 from h4)] at HY2 HLT
          obtain ⟨vb, hvb⟩ : ∃ b, Hid (b = variableB t) := ⟨_, rfl⟩
          rw [← hvb.out] at HY2 HLT
          have HV : Hid (∀ W, Calls Tryz.prog 69 #[.string ⟨t.toArray⟩] W fun e w' => e = .returned (.bool vb) ∧ Since W w') := fun W => by rw [hvb.out]; exact rvar_b t W htl
          have hcs : a_n = 0 ∨ a_n = 1 ∨ a_n = 2 ∨ a_n = 3 := by omega
          clear hnm e1 e2 HTF hn0 hn4 h4 htl hvb
          rcases hcs with rfl | rfl | rfl | rfl
          · have HY3 : Hid (Y = loopR termX (isS [44] (.ok r1)) ((a_s, a_p, 1, (vb, t), (a_v1, a_l1), (a_v2, a_l2), (a_v3, a_l3)) : Atm) (maybeS [44] (.ok r1))) := HY2.out
            have HLT3 : Hid (leftS (maybeS [44] (.ok r1)) < leftS (.ok r)) := HLT.out
            clear HY2 HLT
            go_wp2_with fail
            refine HN2.out.mono ?_
            rintro e w5 ⟨rfl, ⟨j5, hr5⟩, hk5⟩
            have hSR5 := hSR.only ⟨j5, hr5⟩ hk5
            have d4 : w5.cell? ⟨g, 4, none⟩ = some (.int .i64 0) := hr5.cel.cell 4
            have hC : Cel w5 ab #[.string ⟨a_s.toArray⟩, .string ⟨a_p.toArray⟩, .int .i64 0, .bool a_v0, .string ⟨a_l0.toArray⟩, .bool a_v1, .string ⟨a_l1.toArray⟩, .bool a_v2, .string ⟨a_l2.toArray⟩, .bool a_v3, .string ⟨a_l3.toArray⟩] 44 := hSR5.at_
            have x2 : w5.cell? ⟨ab, 2, none⟩ = some (.int .i64 0) := hC.cell 2
            have hT : At w5 ab 2 #[.int .i64 0] := At.one x2
            have hSv : Since w5 w5.drew := (Since.refl w5).drew
            clear HN2 hSR hk5 c1 c4 hr5
            go_upto_region 12 with (fail)
            clear d4 x2
            replace hT := hT.next ((Since.refl w5).drew)
            replace hC := hC.next ((Since.refl w5).drew)
            refine hx_begin (S := fun W => (At W ab 2 #[.int .i64 0])) (by kernel_rfl) hT (by kernel_rfl) (fun _ _ _ _ _ h => h) (fun hns hQ => ?_)
            refine hx_take (i := 0) (oi := _) (v := .pointer (some ⟨ab, 2, none⟩)) rfl rfl hns (by kernel_rfl) (by kernel_rfl) hQ (by kernel_rfl) (fun _ _ => by kernel_rfl) hT ?_
            refine hx_take (i := 1) (oi := _) (v := .int .i64 0) rfl rfl hns (by kernel_rfl) (by kernel_rfl) hQ (by kernel_rfl) (fun W hW => ld_one rfl (by kernel_rfl) (by kernel_rfl) W (hW 0 _ rfl)) hT ?_
            refine hx_take (i := 2) (oi := _) (v := .string ⟨t.toArray⟩) rfl rfl hns (by kernel_rfl) (by kernel_rfl) hQ (by kernel_rfl) (fun _ _ => by kernel_rfl) hT ?_
            refine hx_take (i := 4) (oi := _) (v := .string ⟨t.toArray⟩) rfl rfl hns (by kernel_rfl) (by kernel_rfl) hQ (by kernel_rfl) (fun _ _ => by kernel_rfl) hT ?_
            refine hx_take (i := 6) (oi := _) (v := .pointer (some ⟨ab, 3, none⟩)) rfl rfl hns (by kernel_rfl) (by kernel_rfl) hQ (by kernel_rfl) (fun _ _ => by kernel_rfl) hT ?_
            refine hx_call (i := 3) (oi := _) 69 #[.string ⟨t.toArray⟩] rfl rfl (by kernel_rfl) (by kernel_rfl) (by kernel_rfl) (HV.out _) ?_
            rintro e wx51 ⟨rfl, hb⟩
            replace hT := hT.next hb
            replace hC := hC.next hb
            replace hSv := hSv.trans hb
            clear hb
            refine ⟨_, rfl, hT, ?_⟩
            refine hx_take (i := 5) (oi := _) (v := .agg #[.bool vb, .string ⟨t.toArray⟩]) rfl rfl hns (by kernel_rfl) (by kernel_rfl) hQ (by kernel_rfl) (fun _ _ => by kernel_rfl) hT ?_
            refine hx_take (i := 7) (oi := _) (v := .pointer (some ⟨ab, 3 + 0 * 2, none⟩)) rfl rfl hns (by kernel_rfl) (by kernel_rfl) hQ (by kernel_rfl) (fun W _ => ix_ar (n := 4) (K := 2) rfl (by kernel_rfl) (by kernel_rfl) (by kernel_rfl) rfl (by omega) W) hT ?_
            have hCn : Cel (wx51.setCells ab (3 + 0 * 2) [.bool vb, .string ⟨t.toArray⟩]) ab #[.string ⟨a_s.toArray⟩, .string ⟨a_p.toArray⟩, .int .i64 0, .bool vb, .string ⟨t.toArray⟩, .bool a_v1, .string ⟨a_l1.toArray⟩, .bool a_v2, .string ⟨a_l2.toArray⟩, .bool a_v3, .string ⟨a_l3.toArray⟩] 44 := (hC.set (j := 3 + 0 * 2) rfl).set (j := 3 + 0 * 2 + 1) rfl
            have hT2 : At (wx51.setCells ab (3 + 0 * 2) [.bool vb, .string ⟨t.toArray⟩]) ab 2 #[.int .i64 0] := At.one (hCn.cell 2)
            have hZn := only_sets wx51 ab (3 + 0 * 2) [.bool vb, .string ⟨t.toArray⟩]
            have hTH : wx51.there ab (3 + 0 * 2) 2 := cel_there hC (by show 3 + 0 * 2 + 2 ≤ 11; decide)
            refine hx_store (i := 8) (oi := _) (wx51.setCells ab (3 + 0 * 2) [.bool vb, .string ⟨t.toArray⟩]) rfl rfl (by kernel_rfl) (by kernel_rfl) (st_term rfl (by kernel_rfl) (by kernel_rfl) _ hTH rfl (by simp [Value.oneCell'])) hT2 ?_
            refine wpAnyH_done (by kernel_rfl) ?_ _
            clear hns hQ
            simp only [List.set_cons_zero, List.set_cons_succ]
            have hSR6 : SaidR w (wx51.setCells ab (3 + 0 * 2) [.bool vb, .string ⟨t.toArray⟩]) g lv L n (.ok r1) rb ab ((a_s, a_p, 0, (vb, t), (a_v1, a_l1), (a_v2, a_l2), (a_v3, a_l3)) : Atm) := (hSR5.next hSv).put hZn hCn (by show (0 : Int) ≤ 0; decide) (by show (0 : Int) ≤ 4; decide)
            generalize (wx51.setCells ab (3 + 0 * 2) [.bool vb, .string ⟨t.toArray⟩]) = w6 at *
            have x6 : w6.cell? ⟨ab, 2, none⟩ = some (.int .i64 0) := hCn.cell 2
            have z6 : w6.frozen? ⟨ab, 2, none⟩ = false := hCn.free 2
            have l6 : ab < w6.heap.size := hCn.lt
            have hZ6 := only_sets w6 ab 2 [.int .i64 1]
            have hC6 : Cel (w6.setCell ⟨ab, 2, none⟩ (.int .i64 1)) ab (atmC ((a_s, a_p, 1, (vb, t), (a_v1, a_l1), (a_v2, a_l2), (a_v3, a_l3)) : Atm)) 44 := hCn.set rfl
            have hSR7 : SaidR w (w6.setCell ⟨ab, 2, none⟩ (.int .i64 1)) g lv L n (.ok r1) rb ab ((a_s, a_p, 1, (vb, t), (a_v1, a_l1), (a_v2, a_l2), (a_v3, a_l3)) : Atm) := hSR6.put hZ6 hC6 (by show (0 : Int) ≤ 1; decide) (by show (1 : Int) ≤ 4; decide)
            obtain ⟨j7, hr7⟩ := hSR7.rd
            clear hC hSv hTH hZn hT hT2 hSR5 hSR6 hZ6 hC6 hCn
            go_wp2_with fail
            refine (HM.out [44] _ _ _ hr7).mono ?_
            rintro e w8 ⟨rfl, ⟨i8, h8, _⟩, hk8⟩
            have hSR8 := hSR7.only ⟨i8, h8⟩ hk8
            clear hr7 hSR7 h8 hk8 x6 z6 l6
            go_wp2_with fail
            go_roundg (leftS (maybeS [44] (.ok r1)))
            case measure => exact HLT3.out
            case rel => exact ⟨_, _, _, rfl, rfl, HY3, hSR8⟩
          · have HY3 : Hid (Y = loopR termX (isS [44] (.ok r1)) ((a_s, a_p, 2, (a_v0, a_l0), (vb, t), (a_v2, a_l2), (a_v3, a_l3)) : Atm) (maybeS [44] (.ok r1))) := HY2.out
            have HLT3 : Hid (leftS (maybeS [44] (.ok r1)) < leftS (.ok r)) := HLT.out
            clear HY2 HLT
            go_wp2_with fail
            refine HN2.out.mono ?_
            rintro e w5 ⟨rfl, ⟨j5, hr5⟩, hk5⟩
            have hSR5 := hSR.only ⟨j5, hr5⟩ hk5
            have d4 : w5.cell? ⟨g, 4, none⟩ = some (.int .i64 0) := hr5.cel.cell 4
            have hC : Cel w5 ab #[.string ⟨a_s.toArray⟩, .string ⟨a_p.toArray⟩, .int .i64 1, .bool a_v0, .string ⟨a_l0.toArray⟩, .bool a_v1, .string ⟨a_l1.toArray⟩, .bool a_v2, .string ⟨a_l2.toArray⟩, .bool a_v3, .string ⟨a_l3.toArray⟩] 44 := hSR5.at_
            have x2 : w5.cell? ⟨ab, 2, none⟩ = some (.int .i64 1) := hC.cell 2
            have hT : At w5 ab 2 #[.int .i64 1] := At.one x2
            have hSv : Since w5 w5.drew := (Since.refl w5).drew
            clear HN2 hSR hk5 c1 c4 hr5
            go_upto_region 12 with (fail)
            clear d4 x2
            replace hT := hT.next ((Since.refl w5).drew)
            replace hC := hC.next ((Since.refl w5).drew)
            refine hx_begin (S := fun W => (At W ab 2 #[.int .i64 1])) (by kernel_rfl) hT (by kernel_rfl) (fun _ _ _ _ _ h => h) (fun hns hQ => ?_)
            refine hx_take (i := 0) (oi := _) (v := .pointer (some ⟨ab, 2, none⟩)) rfl rfl hns (by kernel_rfl) (by kernel_rfl) hQ (by kernel_rfl) (fun _ _ => by kernel_rfl) hT ?_
            refine hx_take (i := 1) (oi := _) (v := .int .i64 1) rfl rfl hns (by kernel_rfl) (by kernel_rfl) hQ (by kernel_rfl) (fun W hW => ld_one rfl (by kernel_rfl) (by kernel_rfl) W (hW 0 _ rfl)) hT ?_
            refine hx_take (i := 2) (oi := _) (v := .string ⟨t.toArray⟩) rfl rfl hns (by kernel_rfl) (by kernel_rfl) hQ (by kernel_rfl) (fun _ _ => by kernel_rfl) hT ?_
            refine hx_take (i := 4) (oi := _) (v := .string ⟨t.toArray⟩) rfl rfl hns (by kernel_rfl) (by kernel_rfl) hQ (by kernel_rfl) (fun _ _ => by kernel_rfl) hT ?_
            refine hx_take (i := 6) (oi := _) (v := .pointer (some ⟨ab, 3, none⟩)) rfl rfl hns (by kernel_rfl) (by kernel_rfl) hQ (by kernel_rfl) (fun _ _ => by kernel_rfl) hT ?_
            refine hx_call (i := 3) (oi := _) 69 #[.string ⟨t.toArray⟩] rfl rfl (by kernel_rfl) (by kernel_rfl) (by kernel_rfl) (HV.out _) ?_
            rintro e wx51 ⟨rfl, hb⟩
            replace hT := hT.next hb
            replace hC := hC.next hb
            replace hSv := hSv.trans hb
            clear hb
            refine ⟨_, rfl, hT, ?_⟩
            refine hx_take (i := 5) (oi := _) (v := .agg #[.bool vb, .string ⟨t.toArray⟩]) rfl rfl hns (by kernel_rfl) (by kernel_rfl) hQ (by kernel_rfl) (fun _ _ => by kernel_rfl) hT ?_
            refine hx_take (i := 7) (oi := _) (v := .pointer (some ⟨ab, 3 + 1 * 2, none⟩)) rfl rfl hns (by kernel_rfl) (by kernel_rfl) hQ (by kernel_rfl) (fun W _ => ix_ar (n := 4) (K := 2) rfl (by kernel_rfl) (by kernel_rfl) (by kernel_rfl) rfl (by omega) W) hT ?_
            have hCn : Cel (wx51.setCells ab (3 + 1 * 2) [.bool vb, .string ⟨t.toArray⟩]) ab #[.string ⟨a_s.toArray⟩, .string ⟨a_p.toArray⟩, .int .i64 1, .bool a_v0, .string ⟨a_l0.toArray⟩, .bool vb, .string ⟨t.toArray⟩, .bool a_v2, .string ⟨a_l2.toArray⟩, .bool a_v3, .string ⟨a_l3.toArray⟩] 44 := (hC.set (j := 3 + 1 * 2) rfl).set (j := 3 + 1 * 2 + 1) rfl
            have hT2 : At (wx51.setCells ab (3 + 1 * 2) [.bool vb, .string ⟨t.toArray⟩]) ab 2 #[.int .i64 1] := At.one (hCn.cell 2)
            have hZn := only_sets wx51 ab (3 + 1 * 2) [.bool vb, .string ⟨t.toArray⟩]
            have hTH : wx51.there ab (3 + 1 * 2) 2 := cel_there hC (by show 3 + 1 * 2 + 2 ≤ 11; decide)
            refine hx_store (i := 8) (oi := _) (wx51.setCells ab (3 + 1 * 2) [.bool vb, .string ⟨t.toArray⟩]) rfl rfl (by kernel_rfl) (by kernel_rfl) (st_term rfl (by kernel_rfl) (by kernel_rfl) _ hTH rfl (by simp [Value.oneCell'])) hT2 ?_
            refine wpAnyH_done (by kernel_rfl) ?_ _
            clear hns hQ
            simp only [List.set_cons_zero, List.set_cons_succ]
            have hSR6 : SaidR w (wx51.setCells ab (3 + 1 * 2) [.bool vb, .string ⟨t.toArray⟩]) g lv L n (.ok r1) rb ab ((a_s, a_p, 1, (a_v0, a_l0), (vb, t), (a_v2, a_l2), (a_v3, a_l3)) : Atm) := (hSR5.next hSv).put hZn hCn (by show (0 : Int) ≤ 1; decide) (by show (1 : Int) ≤ 4; decide)
            generalize (wx51.setCells ab (3 + 1 * 2) [.bool vb, .string ⟨t.toArray⟩]) = w6 at *
            have x6 : w6.cell? ⟨ab, 2, none⟩ = some (.int .i64 1) := hCn.cell 2
            have z6 : w6.frozen? ⟨ab, 2, none⟩ = false := hCn.free 2
            have l6 : ab < w6.heap.size := hCn.lt
            have hZ6 := only_sets w6 ab 2 [.int .i64 2]
            have hC6 : Cel (w6.setCell ⟨ab, 2, none⟩ (.int .i64 2)) ab (atmC ((a_s, a_p, 2, (a_v0, a_l0), (vb, t), (a_v2, a_l2), (a_v3, a_l3)) : Atm)) 44 := hCn.set rfl
            have hSR7 : SaidR w (w6.setCell ⟨ab, 2, none⟩ (.int .i64 2)) g lv L n (.ok r1) rb ab ((a_s, a_p, 2, (a_v0, a_l0), (vb, t), (a_v2, a_l2), (a_v3, a_l3)) : Atm) := hSR6.put hZ6 hC6 (by show (0 : Int) ≤ 2; decide) (by show (2 : Int) ≤ 4; decide)
            obtain ⟨j7, hr7⟩ := hSR7.rd
            clear hC hSv hTH hZn hT hT2 hSR5 hSR6 hZ6 hC6 hCn
            go_wp2_with fail
            refine (HM.out [44] _ _ _ hr7).mono ?_
            rintro e w8 ⟨rfl, ⟨i8, h8, _⟩, hk8⟩
            have hSR8 := hSR7.only ⟨i8, h8⟩ hk8
            clear hr7 hSR7 h8 hk8 x6 z6 l6
            go_wp2_with fail
            go_roundg (leftS (maybeS [44] (.ok r1)))
            case measure => exact HLT3.out
            case rel => exact ⟨_, _, _, rfl, rfl, HY3, hSR8⟩
          · have HY3 : Hid (Y = loopR termX (isS [44] (.ok r1)) ((a_s, a_p, 3, (a_v0, a_l0), (a_v1, a_l1), (vb, t), (a_v3, a_l3)) : Atm) (maybeS [44] (.ok r1))) := HY2.out
            have HLT3 : Hid (leftS (maybeS [44] (.ok r1)) < leftS (.ok r)) := HLT.out
            clear HY2 HLT
            go_wp2_with fail
            refine HN2.out.mono ?_
            rintro e w5 ⟨rfl, ⟨j5, hr5⟩, hk5⟩
            have hSR5 := hSR.only ⟨j5, hr5⟩ hk5
            have d4 : w5.cell? ⟨g, 4, none⟩ = some (.int .i64 0) := hr5.cel.cell 4
            have hC : Cel w5 ab #[.string ⟨a_s.toArray⟩, .string ⟨a_p.toArray⟩, .int .i64 2, .bool a_v0, .string ⟨a_l0.toArray⟩, .bool a_v1, .string ⟨a_l1.toArray⟩, .bool a_v2, .string ⟨a_l2.toArray⟩, .bool a_v3, .string ⟨a_l3.toArray⟩] 44 := hSR5.at_
            have x2 : w5.cell? ⟨ab, 2, none⟩ = some (.int .i64 2) := hC.cell 2
            have hT : At w5 ab 2 #[.int .i64 2] := At.one x2
            have hSv : Since w5 w5.drew := (Since.refl w5).drew
            clear HN2 hSR hk5 c1 c4 hr5
            go_upto_region 12 with (fail)
            clear d4 x2
            replace hT := hT.next ((Since.refl w5).drew)
            replace hC := hC.next ((Since.refl w5).drew)
            refine hx_begin (S := fun W => (At W ab 2 #[.int .i64 2])) (by kernel_rfl) hT (by kernel_rfl) (fun _ _ _ _ _ h => h) (fun hns hQ => ?_)
            refine hx_take (i := 0) (oi := _) (v := .pointer (some ⟨ab, 2, none⟩)) rfl rfl hns (by kernel_rfl) (by kernel_rfl) hQ (by kernel_rfl) (fun _ _ => by kernel_rfl) hT ?_
            refine hx_take (i := 1) (oi := _) (v := .int .i64 2) rfl rfl hns (by kernel_rfl) (by kernel_rfl) hQ (by kernel_rfl) (fun W hW => ld_one rfl (by kernel_rfl) (by kernel_rfl) W (hW 0 _ rfl)) hT ?_
            refine hx_take (i := 2) (oi := _) (v := .string ⟨t.toArray⟩) rfl rfl hns (by kernel_rfl) (by kernel_rfl) hQ (by kernel_rfl) (fun _ _ => by kernel_rfl) hT ?_
            refine hx_take (i := 4) (oi := _) (v := .string ⟨t.toArray⟩) rfl rfl hns (by kernel_rfl) (by kernel_rfl) hQ (by kernel_rfl) (fun _ _ => by kernel_rfl) hT ?_
            refine hx_take (i := 6) (oi := _) (v := .pointer (some ⟨ab, 3, none⟩)) rfl rfl hns (by kernel_rfl) (by kernel_rfl) hQ (by kernel_rfl) (fun _ _ => by kernel_rfl) hT ?_
            refine hx_call (i := 3) (oi := _) 69 #[.string ⟨t.toArray⟩] rfl rfl (by kernel_rfl) (by kernel_rfl) (by kernel_rfl) (HV.out _) ?_
            rintro e wx51 ⟨rfl, hb⟩
            replace hT := hT.next hb
            replace hC := hC.next hb
            replace hSv := hSv.trans hb
            clear hb
            refine ⟨_, rfl, hT, ?_⟩
            refine hx_take (i := 5) (oi := _) (v := .agg #[.bool vb, .string ⟨t.toArray⟩]) rfl rfl hns (by kernel_rfl) (by kernel_rfl) hQ (by kernel_rfl) (fun _ _ => by kernel_rfl) hT ?_
            refine hx_take (i := 7) (oi := _) (v := .pointer (some ⟨ab, 3 + 2 * 2, none⟩)) rfl rfl hns (by kernel_rfl) (by kernel_rfl) hQ (by kernel_rfl) (fun W _ => ix_ar (n := 4) (K := 2) rfl (by kernel_rfl) (by kernel_rfl) (by kernel_rfl) rfl (by omega) W) hT ?_
            have hCn : Cel (wx51.setCells ab (3 + 2 * 2) [.bool vb, .string ⟨t.toArray⟩]) ab #[.string ⟨a_s.toArray⟩, .string ⟨a_p.toArray⟩, .int .i64 2, .bool a_v0, .string ⟨a_l0.toArray⟩, .bool a_v1, .string ⟨a_l1.toArray⟩, .bool vb, .string ⟨t.toArray⟩, .bool a_v3, .string ⟨a_l3.toArray⟩] 44 := (hC.set (j := 3 + 2 * 2) rfl).set (j := 3 + 2 * 2 + 1) rfl
            have hT2 : At (wx51.setCells ab (3 + 2 * 2) [.bool vb, .string ⟨t.toArray⟩]) ab 2 #[.int .i64 2] := At.one (hCn.cell 2)
            have hZn := only_sets wx51 ab (3 + 2 * 2) [.bool vb, .string ⟨t.toArray⟩]
            have hTH : wx51.there ab (3 + 2 * 2) 2 := cel_there hC (by show 3 + 2 * 2 + 2 ≤ 11; decide)
            refine hx_store (i := 8) (oi := _) (wx51.setCells ab (3 + 2 * 2) [.bool vb, .string ⟨t.toArray⟩]) rfl rfl (by kernel_rfl) (by kernel_rfl) (st_term rfl (by kernel_rfl) (by kernel_rfl) _ hTH rfl (by simp [Value.oneCell'])) hT2 ?_
            refine wpAnyH_done (by kernel_rfl) ?_ _
            clear hns hQ
            simp only [List.set_cons_zero, List.set_cons_succ]
            have hSR6 : SaidR w (wx51.setCells ab (3 + 2 * 2) [.bool vb, .string ⟨t.toArray⟩]) g lv L n (.ok r1) rb ab ((a_s, a_p, 2, (a_v0, a_l0), (a_v1, a_l1), (vb, t), (a_v3, a_l3)) : Atm) := (hSR5.next hSv).put hZn hCn (by show (0 : Int) ≤ 2; decide) (by show (2 : Int) ≤ 4; decide)
            generalize (wx51.setCells ab (3 + 2 * 2) [.bool vb, .string ⟨t.toArray⟩]) = w6 at *
            have x6 : w6.cell? ⟨ab, 2, none⟩ = some (.int .i64 2) := hCn.cell 2
            have z6 : w6.frozen? ⟨ab, 2, none⟩ = false := hCn.free 2
            have l6 : ab < w6.heap.size := hCn.lt
            have hZ6 := only_sets w6 ab 2 [.int .i64 3]
            have hC6 : Cel (w6.setCell ⟨ab, 2, none⟩ (.int .i64 3)) ab (atmC ((a_s, a_p, 3, (a_v0, a_l0), (a_v1, a_l1), (vb, t), (a_v3, a_l3)) : Atm)) 44 := hCn.set rfl
            have hSR7 : SaidR w (w6.setCell ⟨ab, 2, none⟩ (.int .i64 3)) g lv L n (.ok r1) rb ab ((a_s, a_p, 3, (a_v0, a_l0), (a_v1, a_l1), (vb, t), (a_v3, a_l3)) : Atm) := hSR6.put hZ6 hC6 (by show (0 : Int) ≤ 3; decide) (by show (3 : Int) ≤ 4; decide)
            obtain ⟨j7, hr7⟩ := hSR7.rd
            clear hC hSv hTH hZn hT hT2 hSR5 hSR6 hZ6 hC6 hCn
            go_wp2_with fail
            refine (HM.out [44] _ _ _ hr7).mono ?_
            rintro e w8 ⟨rfl, ⟨i8, h8, _⟩, hk8⟩
            have hSR8 := hSR7.only ⟨i8, h8⟩ hk8
            clear hr7 hSR7 h8 hk8 x6 z6 l6
            go_wp2_with fail
            go_roundg (leftS (maybeS [44] (.ok r1)))
            case measure => exact HLT3.out
            case rel => exact ⟨_, _, _, rfl, rfl, HY3, hSR8⟩
          · have HY3 : Hid (Y = loopR termX (isS [44] (.ok r1)) ((a_s, a_p, 4, (a_v0, a_l0), (a_v1, a_l1), (a_v2, a_l2), (vb, t)) : Atm) (maybeS [44] (.ok r1))) := HY2.out
            have HLT3 : Hid (leftS (maybeS [44] (.ok r1)) < leftS (.ok r)) := HLT.out
            clear HY2 HLT
            go_wp2_with fail
            refine HN2.out.mono ?_
            rintro e w5 ⟨rfl, ⟨j5, hr5⟩, hk5⟩
            have hSR5 := hSR.only ⟨j5, hr5⟩ hk5
            have d4 : w5.cell? ⟨g, 4, none⟩ = some (.int .i64 0) := hr5.cel.cell 4
            have hC : Cel w5 ab #[.string ⟨a_s.toArray⟩, .string ⟨a_p.toArray⟩, .int .i64 3, .bool a_v0, .string ⟨a_l0.toArray⟩, .bool a_v1, .string ⟨a_l1.toArray⟩, .bool a_v2, .string ⟨a_l2.toArray⟩, .bool a_v3, .string ⟨a_l3.toArray⟩] 44 := hSR5.at_
            have x2 : w5.cell? ⟨ab, 2, none⟩ = some (.int .i64 3) := hC.cell 2
            have hT : At w5 ab 2 #[.int .i64 3] := At.one x2
            have hSv : Since w5 w5.drew := (Since.refl w5).drew
            clear HN2 hSR hk5 c1 c4 hr5
            go_upto_region 12 with (fail)
            clear d4 x2
            replace hT := hT.next ((Since.refl w5).drew)
            replace hC := hC.next ((Since.refl w5).drew)
            refine hx_begin (S := fun W => (At W ab 2 #[.int .i64 3])) (by kernel_rfl) hT (by kernel_rfl) (fun _ _ _ _ _ h => h) (fun hns hQ => ?_)
            refine hx_take (i := 0) (oi := _) (v := .pointer (some ⟨ab, 2, none⟩)) rfl rfl hns (by kernel_rfl) (by kernel_rfl) hQ (by kernel_rfl) (fun _ _ => by kernel_rfl) hT ?_
            refine hx_take (i := 1) (oi := _) (v := .int .i64 3) rfl rfl hns (by kernel_rfl) (by kernel_rfl) hQ (by kernel_rfl) (fun W hW => ld_one rfl (by kernel_rfl) (by kernel_rfl) W (hW 0 _ rfl)) hT ?_
            refine hx_take (i := 2) (oi := _) (v := .string ⟨t.toArray⟩) rfl rfl hns (by kernel_rfl) (by kernel_rfl) hQ (by kernel_rfl) (fun _ _ => by kernel_rfl) hT ?_
            refine hx_take (i := 4) (oi := _) (v := .string ⟨t.toArray⟩) rfl rfl hns (by kernel_rfl) (by kernel_rfl) hQ (by kernel_rfl) (fun _ _ => by kernel_rfl) hT ?_
            refine hx_take (i := 6) (oi := _) (v := .pointer (some ⟨ab, 3, none⟩)) rfl rfl hns (by kernel_rfl) (by kernel_rfl) hQ (by kernel_rfl) (fun _ _ => by kernel_rfl) hT ?_
            refine hx_call (i := 3) (oi := _) 69 #[.string ⟨t.toArray⟩] rfl rfl (by kernel_rfl) (by kernel_rfl) (by kernel_rfl) (HV.out _) ?_
            rintro e wx51 ⟨rfl, hb⟩
            replace hT := hT.next hb
            replace hC := hC.next hb
            replace hSv := hSv.trans hb
            clear hb
            refine ⟨_, rfl, hT, ?_⟩
            refine hx_take (i := 5) (oi := _) (v := .agg #[.bool vb, .string ⟨t.toArray⟩]) rfl rfl hns (by kernel_rfl) (by kernel_rfl) hQ (by kernel_rfl) (fun _ _ => by kernel_rfl) hT ?_
            refine hx_take (i := 7) (oi := _) (v := .pointer (some ⟨ab, 3 + 3 * 2, none⟩)) rfl rfl hns (by kernel_rfl) (by kernel_rfl) hQ (by kernel_rfl) (fun W _ => ix_ar (n := 4) (K := 2) rfl (by kernel_rfl) (by kernel_rfl) (by kernel_rfl) rfl (by omega) W) hT ?_
            have hCn : Cel (wx51.setCells ab (3 + 3 * 2) [.bool vb, .string ⟨t.toArray⟩]) ab #[.string ⟨a_s.toArray⟩, .string ⟨a_p.toArray⟩, .int .i64 3, .bool a_v0, .string ⟨a_l0.toArray⟩, .bool a_v1, .string ⟨a_l1.toArray⟩, .bool a_v2, .string ⟨a_l2.toArray⟩, .bool vb, .string ⟨t.toArray⟩] 44 := (hC.set (j := 3 + 3 * 2) rfl).set (j := 3 + 3 * 2 + 1) rfl
            have hT2 : At (wx51.setCells ab (3 + 3 * 2) [.bool vb, .string ⟨t.toArray⟩]) ab 2 #[.int .i64 3] := At.one (hCn.cell 2)
            have hZn := only_sets wx51 ab (3 + 3 * 2) [.bool vb, .string ⟨t.toArray⟩]
            have hTH : wx51.there ab (3 + 3 * 2) 2 := cel_there hC (by show 3 + 3 * 2 + 2 ≤ 11; decide)
            refine hx_store (i := 8) (oi := _) (wx51.setCells ab (3 + 3 * 2) [.bool vb, .string ⟨t.toArray⟩]) rfl rfl (by kernel_rfl) (by kernel_rfl) (st_term rfl (by kernel_rfl) (by kernel_rfl) _ hTH rfl (by simp [Value.oneCell'])) hT2 ?_
            refine wpAnyH_done (by kernel_rfl) ?_ _
            clear hns hQ
            simp only [List.set_cons_zero, List.set_cons_succ]
            have hSR6 : SaidR w (wx51.setCells ab (3 + 3 * 2) [.bool vb, .string ⟨t.toArray⟩]) g lv L n (.ok r1) rb ab ((a_s, a_p, 3, (a_v0, a_l0), (a_v1, a_l1), (a_v2, a_l2), (vb, t)) : Atm) := (hSR5.next hSv).put hZn hCn (by show (0 : Int) ≤ 3; decide) (by show (3 : Int) ≤ 4; decide)
            generalize (wx51.setCells ab (3 + 3 * 2) [.bool vb, .string ⟨t.toArray⟩]) = w6 at *
            have x6 : w6.cell? ⟨ab, 2, none⟩ = some (.int .i64 3) := hCn.cell 2
            have z6 : w6.frozen? ⟨ab, 2, none⟩ = false := hCn.free 2
            have l6 : ab < w6.heap.size := hCn.lt
            have hZ6 := only_sets w6 ab 2 [.int .i64 4]
            have hC6 : Cel (w6.setCell ⟨ab, 2, none⟩ (.int .i64 4)) ab (atmC ((a_s, a_p, 4, (a_v0, a_l0), (a_v1, a_l1), (a_v2, a_l2), (vb, t)) : Atm)) 44 := hCn.set rfl
            have hSR7 : SaidR w (w6.setCell ⟨ab, 2, none⟩ (.int .i64 4)) g lv L n (.ok r1) rb ab ((a_s, a_p, 4, (a_v0, a_l0), (a_v1, a_l1), (a_v2, a_l2), (vb, t)) : Atm) := hSR6.put hZ6 hC6 (by show (0 : Int) ≤ 4; decide) (by show (4 : Int) ≤ 4; decide)
            obtain ⟨j7, hr7⟩ := hSR7.rd
            clear hC hSv hTH hZn hT hT2 hSR5 hSR6 hZ6 hC6 hCn
            go_wp2_with fail
            refine (HM.out [44] _ _ _ hr7).mono ?_
            rintro e w8 ⟨rfl, ⟨i8, h8, _⟩, hk8⟩
            have hSR8 := hSR7.only ⟨i8, h8⟩ hk8
            clear hr7 hSR7 h8 hk8 x6 z6 l6
            go_wp2_with fail
            go_roundg (leftS (maybeS [44] (.ok r1)))
            case measure => exact HLT3.out
            case rel => exact ⟨_, _, _, rfl, rfl, HY3, hSR8⟩
set_option maxHeartbeats 4000000 in
set_option maxRecDepth 100000 in
theorem ratom_any10 {w : World} {g : Nat} {lv : Value} {L : List Tk} {n : Nat} {q : RS} {i : Nat} (hf : ∀ x ∈ txtsK L, x.length ≤ 65536) (h : Rdr w g lv L n q i) :
    Calls Tryz.prog 80 #[.pointer (some ⟨g, 0, none⟩)] w fun e w' => e = .returned (.agg (atmC (atomX q).1)) ∧ (∃ j, Rdr w' g lv L n (atomX q).2 j) ∧ OnlyG g w w' := by
  obtain ⟨X, hX⟩ : ∃ X, Hid (X = atomX q) := ⟨_, rfl⟩
  rw [← hX.out]
  unfold atomX at hX
  have hS1 : Since w (w.alloc (.cells #[.string ⟨#[]⟩, .string ⟨#[]⟩, .int .i64 0, .bool false, .string ⟨#[]⟩, .bool false, .string ⟨#[]⟩, .bool false, .string ⟨#[]⟩, .bool false, .string ⟨#[]⟩] 44)) := (Since.refl w).alloc _
  have hR1 : Cel (w.alloc (.cells #[.string ⟨#[]⟩, .string ⟨#[]⟩, .int .i64 0, .bool false, .string ⟨#[]⟩, .bool false, .string ⟨#[]⟩, .bool false, .string ⟨#[]⟩, .bool false, .string ⟨#[]⟩] 44)) w.heap.size #[.string ⟨#[]⟩, .string ⟨#[]⟩, .int .i64 0, .bool false, .string ⟨#[]⟩, .bool false, .string ⟨#[]⟩, .bool false, .string ⟨#[]⟩, .bool false, .string ⟨#[]⟩] 44 := heap_alloc_new w _
  have hgl := h.cel.lt
  have h1 := h.next hS1
  have HN1 := Lib.hid (rnext_any 0 principalB (fun t W ht => rmay_princ t W ht) hf h1)
  have HMU : Hid (∀ s W q i, Rdr W g lv L n q i → Calls Tryz.prog 51 #[.pointer (some ⟨g, 0, none⟩), .string ⟨s.toArray⟩] W fun e w' => e = .returned (.tuple #[]) ∧ (∃ j, Rdr w' g lv L n (mustS s q) j) ∧ OnlyG g W w') := fun s W q i hW => rmust_any s hW
  have HSD : Hid (∀ who W q i, Rdr W g lv L n q i → Calls Tryz.prog 78 #[.pointer (some ⟨g, 0, none⟩), .string ⟨who.toArray⟩] W fun e w' => e = .returned (.agg (atmC (saidX who q).1)) ∧ (∃ j, Rdr w' g lv L n (saidX who q).2 j) ∧ OnlyG g W w') := fun who W q i hW => rsaid10_any who hf hW
  have HRg : Hid (¬ w.heap.size = g) := by show ¬ _; omega
  clear h hf hgl h1
  go_enter Tryz.func80, Tryz.ntmps80
  go_upto_region 1 with (fail)
  generalize (w.alloc (.cells #[.string ⟨#[]⟩, .string ⟨#[]⟩, .int .i64 0, .bool false, .string ⟨#[]⟩, .bool false, .string ⟨#[]⟩, .bool false, .string ⟨#[]⟩, .bool false, .string ⟨#[]⟩] 44)) = w1 at *
  obtain ⟨rb, hrb⟩ : ∃ x, Hid (x = w.heap.size) := ⟨_, rfl⟩
  have HRB : Hid (w.heap.size ≤ rb) := by show _ ≤ _; rw [hrb.out]; exact Nat.le_refl _
  simp only [← hrb.out]
  rw [← hrb.out] at hR1 HRg
  clear hrb
  obtain ⟨who, hwho⟩ : ∃ x, Hid (x = nextV principalB q) := ⟨_, rfl⟩
  rw [← hwho.out] at HN1 hX
  clear hwho
  go_wp2_with fail
  refine HN1.out.mono ?_
  rintro e w2 ⟨rfl, ⟨i2, h2⟩, hk2⟩
  have hR2 := hk2.cel hR1 HRg.out
  have hG2 := only_since hS1 hk2
  clear HN1 hR1 hk2 hS1
  go_wp2_with fail
  refine (HMU.out wSays _ _ _ h2).mono ?_
  rintro e w3 ⟨rfl, ⟨i3, h3⟩, hk3⟩
  have hR3 := hk3.cel hR2 HRg.out
  have hG3 := only_only hG2 hk3
  have HS2 := Lib.hid (HSD.out who _ _ _ h3)
  rw [← hX.out] at HS2
  obtain ⟨⟨a_s, a_p, a_n, ⟨a_v0, a_l0⟩, ⟨a_v1, a_l1⟩, ⟨a_v2, a_l2⟩, ⟨a_v3, a_l3⟩⟩, q4⟩ := X
  have HS3 : Hid (Calls Tryz.prog 78 #[.pointer (some ⟨g, 0, none⟩), .string ⟨who.toArray⟩] w3 fun e w' => e = .returned (.agg #[.string ⟨a_s.toArray⟩, .string ⟨a_p.toArray⟩, .int .i64 a_n, .bool a_v0, .string ⟨a_l0.toArray⟩, .bool a_v1, .string ⟨a_l1.toArray⟩, .bool a_v2, .string ⟨a_l2.toArray⟩, .bool a_v3, .string ⟨a_l3.toArray⟩]) ∧ (∃ j, Rdr w' g lv L n q4 j) ∧ OnlyG g w3 w') := HS2.out
  clear HMU HSD hR2 hG2 h2 hk3 HS2 hX h3
  go_wp2_with fail
  refine HS3.out.mono ?_
  rintro e w4 ⟨rfl, ⟨i4, h4⟩, hk4⟩
  have hR4 := hk4.cel hR3 HRg.out
  have hG4 := only_only hG3 hk4
  have hone : Hid (((#[.string ⟨a_s.toArray⟩, .string ⟨a_p.toArray⟩, .int .i64 a_n, .bool a_v0, .string ⟨a_l0.toArray⟩, .bool a_v1, .string ⟨a_l1.toArray⟩, .bool a_v2, .string ⟨a_l2.toArray⟩, .bool a_v3, .string ⟨a_l3.toArray⟩] : Array Value).all (·.oneCell')) = true) := by show _ = _; simp [Value.oneCell']
  clear HS3 hR3 hG3 hk4
  go_wp2_with (refine wpList_store_row rfl 44 (.tmp 2) (.tmp 10) rfl rb #[.string ⟨a_s.toArray⟩, .string ⟨a_p.toArray⟩, .int .i64 a_n, .bool a_v0, .string ⟨a_l0.toArray⟩, .bool a_v1, .string ⟨a_l1.toArray⟩, .bool a_v2, .string ⟨a_l2.toArray⟩, .bool a_v3, .string ⟨a_l3.toArray⟩] rfl rfl 44 #[.string ⟨#[]⟩, .string ⟨#[]⟩, .int .i64 0, .bool false, .string ⟨#[]⟩, .bool false, .string ⟨#[]⟩, .bool false, .string ⟨#[]⟩, .bool false, .string ⟨#[]⟩] hR4 ainfoC rfl hone.out ?_)
  have hbx : Cel (w4.setRow rb #[.string ⟨a_s.toArray⟩, .string ⟨a_p.toArray⟩, .int .i64 a_n, .bool a_v0, .string ⟨a_l0.toArray⟩, .bool a_v1, .string ⟨a_l1.toArray⟩, .bool a_v2, .string ⟨a_l2.toArray⟩, .bool a_v3, .string ⟨a_l3.toArray⟩]) rb #[.string ⟨a_s.toArray⟩, .string ⟨a_p.toArray⟩, .int .i64 a_n, .bool a_v0, .string ⟨a_l0.toArray⟩, .bool a_v1, .string ⟨a_l1.toArray⟩, .bool a_v2, .string ⟨a_l2.toArray⟩, .bool a_v3, .string ⟨a_l3.toArray⟩] 44 := hR4.row #[.string ⟨a_s.toArray⟩, .string ⟨a_p.toArray⟩, .int .i64 a_n, .bool a_v0, .string ⟨a_l0.toArray⟩, .bool a_v1, .string ⟨a_l1.toArray⟩, .bool a_v2, .string ⟨a_l2.toArray⟩, .bool a_v3, .string ⟨a_l3.toArray⟩]
  have e0 : (w4.setRow rb #[.string ⟨a_s.toArray⟩, .string ⟨a_p.toArray⟩, .int .i64 a_n, .bool a_v0, .string ⟨a_l0.toArray⟩, .bool a_v1, .string ⟨a_l1.toArray⟩, .bool a_v2, .string ⟨a_l2.toArray⟩, .bool a_v3, .string ⟨a_l3.toArray⟩]).cell? ⟨rb, 0, none⟩ = some (.string ⟨a_s.toArray⟩) := hbx.cell 0
  have e1 : (w4.setRow rb #[.string ⟨a_s.toArray⟩, .string ⟨a_p.toArray⟩, .int .i64 a_n, .bool a_v0, .string ⟨a_l0.toArray⟩, .bool a_v1, .string ⟨a_l1.toArray⟩, .bool a_v2, .string ⟨a_l2.toArray⟩, .bool a_v3, .string ⟨a_l3.toArray⟩]).cell? ⟨rb, 1, none⟩ = some (.string ⟨a_p.toArray⟩) := hbx.cell 1
  have e2 : (w4.setRow rb #[.string ⟨a_s.toArray⟩, .string ⟨a_p.toArray⟩, .int .i64 a_n, .bool a_v0, .string ⟨a_l0.toArray⟩, .bool a_v1, .string ⟨a_l1.toArray⟩, .bool a_v2, .string ⟨a_l2.toArray⟩, .bool a_v3, .string ⟨a_l3.toArray⟩]).cell? ⟨rb, 2, none⟩ = some (.int .i64 a_n) := hbx.cell 2
  have e3 : (w4.setRow rb #[.string ⟨a_s.toArray⟩, .string ⟨a_p.toArray⟩, .int .i64 a_n, .bool a_v0, .string ⟨a_l0.toArray⟩, .bool a_v1, .string ⟨a_l1.toArray⟩, .bool a_v2, .string ⟨a_l2.toArray⟩, .bool a_v3, .string ⟨a_l3.toArray⟩]).cell? ⟨rb, 3, none⟩ = some (.bool a_v0) := hbx.cell 3
  have e4 : (w4.setRow rb #[.string ⟨a_s.toArray⟩, .string ⟨a_p.toArray⟩, .int .i64 a_n, .bool a_v0, .string ⟨a_l0.toArray⟩, .bool a_v1, .string ⟨a_l1.toArray⟩, .bool a_v2, .string ⟨a_l2.toArray⟩, .bool a_v3, .string ⟨a_l3.toArray⟩]).cell? ⟨rb, 4, none⟩ = some (.string ⟨a_l0.toArray⟩) := hbx.cell 4
  have e5 : (w4.setRow rb #[.string ⟨a_s.toArray⟩, .string ⟨a_p.toArray⟩, .int .i64 a_n, .bool a_v0, .string ⟨a_l0.toArray⟩, .bool a_v1, .string ⟨a_l1.toArray⟩, .bool a_v2, .string ⟨a_l2.toArray⟩, .bool a_v3, .string ⟨a_l3.toArray⟩]).cell? ⟨rb, 5, none⟩ = some (.bool a_v1) := hbx.cell 5
  have e6 : (w4.setRow rb #[.string ⟨a_s.toArray⟩, .string ⟨a_p.toArray⟩, .int .i64 a_n, .bool a_v0, .string ⟨a_l0.toArray⟩, .bool a_v1, .string ⟨a_l1.toArray⟩, .bool a_v2, .string ⟨a_l2.toArray⟩, .bool a_v3, .string ⟨a_l3.toArray⟩]).cell? ⟨rb, 6, none⟩ = some (.string ⟨a_l1.toArray⟩) := hbx.cell 6
  have e7 : (w4.setRow rb #[.string ⟨a_s.toArray⟩, .string ⟨a_p.toArray⟩, .int .i64 a_n, .bool a_v0, .string ⟨a_l0.toArray⟩, .bool a_v1, .string ⟨a_l1.toArray⟩, .bool a_v2, .string ⟨a_l2.toArray⟩, .bool a_v3, .string ⟨a_l3.toArray⟩]).cell? ⟨rb, 7, none⟩ = some (.bool a_v2) := hbx.cell 7
  have e8 : (w4.setRow rb #[.string ⟨a_s.toArray⟩, .string ⟨a_p.toArray⟩, .int .i64 a_n, .bool a_v0, .string ⟨a_l0.toArray⟩, .bool a_v1, .string ⟨a_l1.toArray⟩, .bool a_v2, .string ⟨a_l2.toArray⟩, .bool a_v3, .string ⟨a_l3.toArray⟩]).cell? ⟨rb, 8, none⟩ = some (.string ⟨a_l2.toArray⟩) := hbx.cell 8
  have e9 : (w4.setRow rb #[.string ⟨a_s.toArray⟩, .string ⟨a_p.toArray⟩, .int .i64 a_n, .bool a_v0, .string ⟨a_l0.toArray⟩, .bool a_v1, .string ⟨a_l1.toArray⟩, .bool a_v2, .string ⟨a_l2.toArray⟩, .bool a_v3, .string ⟨a_l3.toArray⟩]).cell? ⟨rb, 9, none⟩ = some (.bool a_v3) := hbx.cell 9
  have e10 : (w4.setRow rb #[.string ⟨a_s.toArray⟩, .string ⟨a_p.toArray⟩, .int .i64 a_n, .bool a_v0, .string ⟨a_l0.toArray⟩, .bool a_v1, .string ⟨a_l1.toArray⟩, .bool a_v2, .string ⟨a_l2.toArray⟩, .bool a_v3, .string ⟨a_l3.toArray⟩]).cell? ⟨rb, 10, none⟩ = some (.string ⟨a_l3.toArray⟩) := hbx.cell 10
  have hZ7 := row_setRow hR4 (ds := #[.string ⟨a_s.toArray⟩, .string ⟨a_p.toArray⟩, .int .i64 a_n, .bool a_v0, .string ⟨a_l0.toArray⟩, .bool a_v1, .string ⟨a_l1.toArray⟩, .bool a_v2, .string ⟨a_l2.toArray⟩, .bool a_v3, .string ⟨a_l3.toArray⟩])
  clear hone
  go_wp2_with fail
  refine bodyPost_ret (v := .agg #[.string ⟨a_s.toArray⟩, .string ⟨a_p.toArray⟩, .int .i64 a_n, .bool a_v0, .string ⟨a_l0.toArray⟩, .bool a_v1, .string ⟨a_l1.toArray⟩, .bool a_v2, .string ⟨a_l2.toArray⟩, .bool a_v3, .string ⟨a_l3.toArray⟩]) (by simp [results, Tryz.results80, go_sem, e0, e1, e2, e3, e4, e5, e6, e7, e8, e9, e10]) rfl ?_
  exact ⟨rfl, ⟨_, rdr_z h4 HRg.out hR4 hZ7⟩, only_new hG4 hZ7 HRB.out⟩
end Go.Proofs.YtnfjjckbgnieeaaGreatDoor

namespace Go.Proofs.YtnfjjckbgnieeaaGreatDoor
open Go.RowKit

theorem at_new0 (W : World) (cs : Array Value) (ty : TypeId) : ∀ j u, cs.toList[j]? = some u → (W.alloc (.cells cs ty)).cell? ((⟨W.heap.size, 0, none⟩ : Addr).add j) = some u := by
  intro j u h
  have h1 : (⟨W.heap.size, 0, none⟩ : Addr).add j = ⟨W.heap.size, j, none⟩ := by unfold Addr.add; split <;> simp_all
  rw [h1, World.cell?_alloc_new]
  simpa using h
section
variable {w W W' : World} {g : Nat} {lv : Value} {L : List Tk} {n : Nat} {q : RS} {i : Nat} {B K m : Nat} {e : TypeId} {v : Value} {xs : List Value}
theorem rdr_grow (h : Rdr W g lv L n q i) (ho : W.ownsRow B e K v m xs) (hg : W.grownBy W' v.ownBlock) (h1 : e ≠ 95) (h2 : 63 ≠ e) : Rdr W' g lv L n q i := ⟨cel_own h.cel ho h1 hg, own_other h.row ho h2 hg, h.len, h.ile, h.ok, h.bad⟩
theorem only_grow (h : OnlyG g w W) (ho : W.ownsRow w.heap.size e K v m xs) (hg : W.grownBy W' v.ownBlock) : OnlyG g w W' := h.trans (Keep.of_grown (Z := fun b => w.heap.size ≤ b) hg (fun b hb => (ho.lt b hb).1)) (fun _ hx => .inr hx)
theorem own_only (ho : W.ownsRow B e K v m xs) (hc : ∃ j, Rdr W g lv L n q j) (he : e ≠ 95) (hk : OnlyG g W W') : W'.ownsRow B e K v m xs := by
  obtain ⟨j, hr⟩ := hc
  exact hk.own ho (fun b hb e => cel_own_ne hr.cel ho he (by rw [hb, e]))
set_option maxHeartbeats 1000000 in
theorem ronce_any (was : Bool) (h : Rdr W g lv L n q i) (hl : ∀ r, q = .ok r → r.length < L.length) :
    Calls Tryz.prog 54 #[.pointer (some ⟨g, 0, none⟩), .bool was] W fun e w' => e = .returned (.tuple #[]) ∧ (∃ j, Rdr w' g lv L n (onceS was q) j) ∧ OnlyG g W w' := by
  cases was with
  | false =>
    have hq : onceS false q = q := by cases q <;> rfl
    rw [hq]
    have H := Lib.hid h
    clear h hl hq
    go_enter Tryz.func54, Tryz.ntmps54
    go_wp2_with fail
    go_end0
    exact ⟨rfl, ⟨_, H.out⟩, Keep.refl _ _⟩
  | true =>
    have c1 : W.cell? ⟨g, 1, none⟩ = some (.int .i64 (i : Int)) := h.cel.cell 1
    cases q with
    | error x =>
      have he := h.bad _ rfl
      have h3 : ¬ x.2 = 0 := he
      have hg4 : W.cell? ⟨g, 4, none⟩ = some (.int .i64 x.2) := h.cel.cell 4
      have hw : wrap64 ((i : Int) - 1) = (i : Int) - 1 := IntWalk.wrap64_in _ (by have := h.len; have := h.ile; omega)
      have HFX : Hid (Calls Tryz.prog 77 #[.pointer (some ⟨g, 0, none⟩), .int .i64 5, .int .i64 ((i : Int) - 1)] W fun e w' => e = .returned (.tuple #[]) ∧ W = w') := by
        show Calls _ _ _ _ _
        obtain ⟨k0, e0⟩ := x
        simp only at h3 hg4
        clear h hl c1 he hw
        go_enter Tryz.func77, Tryz.ntmps77
        go_wp2_with fail
        refine bodyPost_ret (results_none rfl _ _ _) rfl ?_
        exact ⟨rfl, rfl⟩
      have H := Lib.hid h
      clear h hl he h3 hg4
      go_enter Tryz.func54, Tryz.ntmps54
      go_wp2_with fail
      refine HFX.out.mono ?_
      rintro e w2 ⟨rfl, rfl⟩
      go_wp2_with fail
      go_end0
      exact ⟨rfl, ⟨_, H.out⟩, Keep.refl _ _⟩
    | ok r =>
      have hs := h.sub
      have hlr := hl r rfl
      have hi : (i : Int) - 1 = ((i - 1 : Nat) : Int) := by omega
      have hw : wrap64 ((i : Int) - 1) = ((i - 1 : Nat) : Int) := by rw [IntWalk.wrap64_in _ (by have := h.len; have := h.ile; omega)]; exact hi
      have HF := Lib.hid (rfail_any 5 (i - 1) (by decide) h (by omega))
      rw [show L.length - (i - 1) = r.length + 1 by omega] at HF
      have HF2 : Hid (Calls Tryz.prog 77 #[.pointer (some ⟨g, 0, none⟩), .int .i64 5, .int .i64 ((i - 1 : Nat) : Int)] W fun e w' => e = .returned (.tuple #[]) ∧ Rdr w' g lv L n (onceS true (.ok r)) i ∧ OnlyG g W w') := HF.out
      clear h hl hs hlr hi HF
      go_enter Tryz.func54, Tryz.ntmps54
      go_wp2_with fail
      refine HF2.out.mono ?_
      rintro e w2 ⟨rfl, hr, hk⟩
      go_wp2_with fail
      go_end0
      exact ⟨rfl, ⟨_, hr⟩, hk⟩
end
set_option maxHeartbeats 8000000 in
set_option maxRecDepth 100000 in
theorem rbody10_any {w : World} {g : Nat} {lv : Value} {L : List Tk} {n : Nat} {q : RS} {i : Nat} (hf : ∀ x ∈ txtsK L, x.length ≤ 65536) (h : Rdr w g lv L n q i) :
    Calls Tryz.prog 79 #[.pointer (some ⟨g, 0, none⟩)] w fun e w' => ∃ v, e = .returned v ∧ w'.ownsRow w.heap.size 44 11 v (bodyX q).1.length ((bodyX q).1.flatMap atmL) ∧ (∃ j, Rdr w' g lv L n (bodyX q).2 j) ∧ OnlyG g w w' := by
  obtain ⟨i5, hi, hz0, hz1, hz2⟩ := info_parts own_atm_info
  have I5 := Lib.hid (And.intro hi (And.intro hz0 (And.intro hz1 hz2)))
  clear hi hz0 hz1 hz2
  obtain ⟨X, hX⟩ : ∃ X, Hid (X = bodyX q) := ⟨_, rfl⟩
  rw [← hX.out]
  obtain ⟨K, hK⟩ : ∃ K : Ending → World → Prop, Hid (K = fun e w' => ∃ v, e = .returned v ∧ w'.ownsRow w.heap.size 44 11 v X.1.length (X.1.flatMap atmL) ∧ (∃ j, Rdr w' g lv L n X.2 j) ∧ OnlyG g w w') := ⟨_, rfl⟩
  have hgood : Hid (∀ l q1 v w', X = (l, q1) → w'.ownsRow w.heap.size 44 11 v l.length (l.flatMap atmL) → (∃ j, Rdr w' g lv L n q1 j) → OnlyG g w w' → K (.returned v) w') := fun l q1 v w' e h1 h2 h3 => by rw [hK.out, e]; exact ⟨v, rfl, h1, h2, h3⟩
  rw [← hK.out]
  unfold bodyX at hX
  have HM : Hid (∀ s W q i, Rdr W g lv L n q i → Calls Tryz.prog 49 #[.pointer (some ⟨g, 0, none⟩), .string ⟨s.toArray⟩] W fun e w' => e = .returned (.bool (isS s q)) ∧ (∃ j, Rdr w' g lv L n (maybeS s q) j ∧ (isS s q = false → j = i)) ∧ OnlyG g W w') := fun s W q i hW => rmaybe_any s hW
  have HA : Hid (∀ W q i, Rdr W g lv L n q i → Calls Tryz.prog 80 #[.pointer (some ⟨g, 0, none⟩)] W fun e w' => e = .returned (.agg (atmC (atomX q).1)) ∧ (∃ j, Rdr w' g lv L n (atomX q).2 j) ∧ OnlyG g W w') := fun W q i hW => ratom_any10 hf hW
  have HMA := Lib.hid (HM.out wIf _ _ _ h)
  have HLL : Hid (L.length ≤ 65536) := h.len
  have hbd : Hid (leftS (maybeS wIf q) ≤ 65537) := by
    show _ ≤ _
    cases q with
    | error e => exact Nat.zero_le _
    | ok r =>
      have hs := h.sub
      have hl := h.len
      have hd : (r.drop 1).length ≤ r.length := by rw [List.length_drop]; omega
      by_cases hi : isT wIf r = true
      · rw [maybe_yes hi]; show (r.drop 1).length + 1 ≤ _; omega
      · rw [maybe_no hi]; show r.length + 1 ≤ _; omega
  obtain ⟨b, hb⟩ : ∃ b, Hid (isS wIf q = b) := ⟨_, rfl⟩
  obtain ⟨q2, hq2⟩ : ∃ x, Hid (maybeS wIf q = x) := ⟨_, rfl⟩
  rw [hb.out, hq2.out] at HMA hX
  rw [hq2.out] at hbd
  cases b with
  | false =>
    have hm : q2 = q := by
      rw [← hq2.out]
      cases q with
      | error e => rfl
      | ok r => exact maybe_no (by rw [show isT wIf r = false from hb.out]; decide)
    subst hm
    have HX2 : Hid (X = ([], q2)) := hX.out
    have HMA2 : Hid (Calls Tryz.prog 49 #[.pointer (some ⟨g, 0, none⟩), .string ⟨#[105, 102]⟩] w fun e w' => e = .returned (.bool false) ∧ (∃ j, Rdr w' g lv L n q2 j ∧ (false = false → j = i)) ∧ OnlyG g w w') := HMA.out
    clear hX hq2 hb h hK HM HA hf HMA hbd I5 i5
    go_enter Tryz.func79, Tryz.ntmps79
    go_wp2_with fail
    refine HMA2.out.mono ?_
    rintro e w4 ⟨rfl, ⟨i4, h4, _⟩, hk4⟩
    go_wp2_with fail
    exact hgood.out _ _ _ _ HX2.out (World.ownsRow_nil _ _ _ _) ⟨_, h4⟩ hk4
  | true =>
    have HX2 : Hid (X = loopR atomsX true [] q2) := hX.out
    have HMA2 : Hid (Calls Tryz.prog 49 #[.pointer (some ⟨g, 0, none⟩), .string ⟨#[105, 102]⟩] w fun e w' => e = .returned (.bool true) ∧ (∃ j, Rdr w' g lv L n q2 j ∧ (true = false → j = i)) ∧ OnlyG g w w') := HMA.out
    clear hX hq2 hb h hK hf HMA
    go_enter Tryz.func79, Tryz.ntmps79
    go_wp2_with fail
    refine HMA2.out.mono ?_
    rintro e w4 ⟨rfl, ⟨i4, h4, _⟩, hk4⟩
    clear HMA2
    go_wp2_with fail
    go_loopg [3, 4] (leftS q2) (fun m ov mv wr => ∃ (b : Bool) (l : List Atm) (q3 : RS), m = leftS q3 ∧ mv = .bool b ∧ Hid (X = loopR atomsX b l q3) ∧ wr.ownsRow w.heap.size 44 11 ov l.length (l.flatMap atmL) ∧ (∃ j, Rdr wr g lv L n q3 j) ∧ OnlyG g w wr ∧ Hid (l.length + leftS q3 ≤ 65537))
    case atStart => exact ⟨true, [], q2, rfl, rfl, HX2, World.ownsRow_nil _ _ _ _, ⟨_, h4⟩, hk4, by show _ ≤ _; rw [List.length_nil, Nat.zero_add]; exact hbd.out⟩
    case round =>
    clear h4 hk4 HX2 hbd
    obtain ⟨b, l, q3, rfl, rfl, HX, hO, ⟨j, hr⟩, hk, hbl⟩ := hrel
    have hdone : (b = false ∧ X = (l, q3)) ∨ (b = true ∧ ∃ e, q3 = .error e ∧ X = (l, q3)) ∨ (b = true ∧ ∃ r, q3 = .ok r) := by
      cases q3 with
      | error e => cases b with
        | false => exact .inl ⟨rfl, HX.out⟩
        | true => exact .inr (.inl ⟨rfl, e, rfl, HX.out⟩)
      | ok r => cases b with
        | false => exact .inl ⟨rfl, HX.out⟩
        | true => exact .inr (.inr ⟨rfl, r, rfl⟩)
    rcases hdone with ⟨rfl, hXe⟩ | ⟨rfl, e0, rfl, hXe⟩ | ⟨rfl, r, rfl⟩
    · have HX3 := Lib.hid hXe
      clear hXe HX
      go_wp2_with fail
      exact hgood.out _ _ _ _ HX3.out hO ⟨_, hr⟩ hk
    · have HX3 := Lib.hid hXe
      have he : ¬ e0.2 = 0 := hr.bad _ rfl
      have c4 : wr.cell? ⟨g, 4, none⟩ = some (.int .i64 e0.2) := hr.cel.cell 4
      obtain ⟨k0, er⟩ := e0
      simp only at he c4
      clear hXe HX
      go_wp2_with fail
      exact hgood.out _ _ _ _ HX3.out hO ⟨_, hr⟩ hk
    · have HX2 : Hid (X = loopR atomsX (isS [44] (atomX (.ok r)).2) (l ++ [(atomX (.ok r)).1]) (maybeS [44] (atomX (.ok r)).2)) := by show _ = _; rw [HX.out, loop_step atoms_shr]; rfl
      have HLT : Hid (leftS (maybeS [44] (atomX (.ok r)).2) < leftS (.ok r)) := loop_left atoms_shr l r
      have c4 : wr.cell? ⟨g, 4, none⟩ = some (.int .i64 0) := hr.cel.cell 4
      have HAA := Lib.hid (HA.out _ _ _ hr)
      obtain ⟨⟨⟨a_s, a_p, a_n, ⟨a_v0, a_l0⟩, ⟨a_v1, a_l1⟩, ⟨a_v2, a_l2⟩, ⟨a_v3, a_l3⟩⟩, q4⟩, hq4⟩ : ∃ x, Hid (x = atomX (.ok r)) := ⟨_, rfl⟩
      rw [← hq4.out] at HAA HX2 HLT
      have HA2 : Hid (Calls Tryz.prog 80 #[.pointer (some ⟨g, 0, none⟩)] wr fun e w' => e = .returned (.agg #[.string ⟨a_s.toArray⟩, .string ⟨a_p.toArray⟩, .int .i64 a_n, .bool a_v0, .string ⟨a_l0.toArray⟩, .bool a_v1, .string ⟨a_l1.toArray⟩, .bool a_v2, .string ⟨a_l2.toArray⟩, .bool a_v3, .string ⟨a_l3.toArray⟩]) ∧ (∃ j, Rdr w' g lv L n q4 j) ∧ OnlyG g wr w') := HAA.out
      simp only at HX2 HLT
      obtain ⟨va, vc, rfl⟩ := own_slice hO
      obtain ⟨N, hN⟩ : ∃ N : Nat, Hid (N = l.length) := ⟨_, rfl⟩
      rw [← hN.out] at hO hbl
      rw [← hN.out]
      clear HX HAA hq4
      go_wp2_with fail
      refine HA2.out.mono ?_
      rintro e w5 ⟨rfl, hr5, hk5⟩
      have hO5 := own_only hO ⟨_, hr⟩ (by decide) hk5
      have hk6 := only_only hk hk5
      clear HA2 hO hr hk hk5 c4
      have hS7 : Since w5 (w5.alloc (.cells #[.string ⟨a_s.toArray⟩, .string ⟨a_p.toArray⟩, .int .i64 a_n, .bool a_v0, .string ⟨a_l0.toArray⟩, .bool a_v1, .string ⟨a_l1.toArray⟩, .bool a_v2, .string ⟨a_l2.toArray⟩, .bool a_v3, .string ⟨a_l3.toArray⟩] 44)) := (Since.refl w5).alloc _
      have hO7 := own_since hO5 hS7
      have hk7 := only_then hk6 hS7
      obtain ⟨j5, hr5⟩ := hr5
      have hr7 := hr5.next hS7
      have hN1 : N + 1 ≤ 65537 := by have := hbl.out; have := HLT.out; omega
      clear hO5 hk6 hr5
      go_wp2_with (at_builtin; refine wpList_append_own _ rfl (.tmp 18) (.tmp 21) 45 rfl w.heap.size 44 i5 (.agg #[.string ByteArray.empty, .string ByteArray.empty, .int .i64 0, .bool false, .string ByteArray.empty, .bool false, .string ByteArray.empty, .bool false, .string ByteArray.empty, .bool false, .string ByteArray.empty]) 11 136 Tryz.underlying45 I5.out.1 I5.out.2.1 I5.out.2.2.1 I5.out.2.2.2 rfl (by decide) _ N (l.flatMap atmL) rfl hO7 ⟨w5.heap.size, 0, none⟩ 1 1 (atmL ((a_s, a_p, a_n, (a_v0, a_l0), (a_v1, a_l1), (a_v2, a_l2), (a_v3, a_l3)) : Atm)) rfl rfl ?c0 ?c1 ?c2 ?c3 ?c4 ?_)
      case c0 => exact at_new0 w5 #[.string ⟨a_s.toArray⟩, .string ⟨a_p.toArray⟩, .int .i64 a_n, .bool a_v0, .string ⟨a_l0.toArray⟩, .bool a_v1, .string ⟨a_l1.toArray⟩, .bool a_v2, .string ⟨a_l2.toArray⟩, .bool a_v3, .string ⟨a_l3.toArray⟩] 44
      case c1 => exact atmL_one ((a_s, a_p, a_n, (a_v0, a_l0), (a_v1, a_l1), (a_v2, a_l2), (a_v3, a_l3)) : Atm)
      case c2 => unfold maxLen; omega
      case c3 => omega
      case c4 => exact hk7.size
      intro v6 w6 hown6 hg6 hat6
      have hr8 := rdr_grow hr7 hO7 hg6 (by decide) (by decide)
      have hk8 := only_grow hk7 hO7 hg6
      have hO8 : w6.ownsRow w.heap.size 44 11 v6 (l ++ [((a_s, a_p, a_n, (a_v0, a_l0), (a_v1, a_l1), (a_v2, a_l2), (a_v3, a_l3)) : Atm)]).length ((l ++ [((a_s, a_p, a_n, (a_v0, a_l0), (a_v1, a_l1), (a_v2, a_l2), (a_v3, a_l3)) : Atm)]).flatMap atmL) := by
        rw [List.length_append, List.flatMap_append, List.flatMap_singleton, List.length_singleton, ← hN.out]
        exact hown6
      have HBL : Hid ((l ++ [((a_s, a_p, a_n, (a_v0, a_l0), (a_v1, a_l1), (a_v2, a_l2), (a_v3, a_l3)) : Atm)]).length + leftS (maybeS [44] q4) ≤ 65537) := by
        show _ ≤ _
        rw [List.length_append, List.length_singleton, ← hN.out]
        have := hbl.out
        have := HLT.out
        omega
      clear hS7 hO7 hk7 hr7 hown6 hg6 hat6 hN1 hbl
      go_wp2_with fail
      refine (HM.out [44] _ _ _ hr8).mono ?_
      rintro e w9 ⟨rfl, ⟨i9, h9, _⟩, hk9⟩
      have hO9 := own_only hO8 ⟨_, hr8⟩ (by decide) hk9
      have hk10 := only_only hk8 hk9
      clear hr8 hk8 hO8 hk9
      go_wp2_with fail
      go_roundg (leftS (maybeS [44] q4))
      case measure => exact HLT.out
      case rel => exact ⟨_, _, _, rfl, rfl, HX2, hO9, ⟨_, h9⟩, hk10, HBL⟩
end Go.Proofs.YtnfjjckbgnieeaaGreatDoor

namespace Go.Proofs.YtnfjjckbgnieeaaGreatDoor
open Go.RowKit

/-- What clear works on: the reader, the clear's box with its row, the result's box. -/
structure ClrR (w wr : World) (g : Nat) (lv : Value) (L : List Tk) (n : Nat) (q : RS) (rb cb : Nat) (who : Txt) (v : Value) (l : List Txt) : Prop where
  rd : ∃ j, Rdr wr g lv L n q j
  box : Cel wr cb #[.string ⟨who.toArray⟩, v] 38
  rs : Cel wr rb #[.string ⟨#[]⟩, .slice none 0 0] 38
  own : wr.ownsRow w.heap.size 9 1 v l.length (l.flatMap txtL)
  og : OnlyG g w wr
  lo : w.heap.size ≤ cb ∧ w.heap.size ≤ rb ∧ ¬ cb = g ∧ ¬ rb = g ∧ ¬ rb = cb
theorem rdr_x {W W' : World} {g ab : Nat} {lv : Value} {L : List Tk} {n : Nat} {q : RS} {i : Nat} {cs : Array Value} {Ty : TypeId} (h : Rdr W g lv L n q i) (hne : ¬ ab = g) (hc : Cel W ab cs Ty) (he : 63 ≠ Ty) (hk : Keep (fun b => b = ab) W W') : Rdr W' g lv L n q i :=
  h.keep hk (fun e => hne e.symm) (fun b hb e => cel_own_ne hc h.row he (by rw [hb, e]))
section
variable {w wr W' w6 : World} {g : Nat} {lv : Value} {L : List Tk} {n : Nat} {q q' : RS} {rb cb : Nat} {who : Txt} {v v6 : Value} {l : List Txt}
theorem ClrR.only (h : ClrR w wr g lv L n q rb cb who v l) (hr : ∃ j, Rdr W' g lv L n q' j) (hk : OnlyG g wr W') : ClrR w W' g lv L n q' rb cb who v l :=
  ⟨hr, hk.cel h.box h.lo.2.2.1, hk.cel h.rs h.lo.2.2.2.1, own_only h.own h.rd (by decide) hk, only_only h.og hk, h.lo⟩
theorem ClrR.next (h : ClrR w wr g lv L n q rb cb who v l) (hs : Since wr W') : ClrR w W' g lv L n q rb cb who v l := by
  obtain ⟨j, hr⟩ := h.rd
  exact h.only ⟨j, hr.next hs⟩ (Keep.of_since hs)
theorem ClrR.push (h : ClrR w wr g lv L n q rb cb who v l) {x : Txt} (hown : w6.ownsRow w.heap.size 9 1 v6 (l.length + 1) (l.flatMap txtL ++ txtL x)) (hg : wr.grownBy w6 v.ownBlock) :
    ClrR w (w6.setCell ⟨cb, 1, none⟩ v6) g lv L n q rb cb who v6 (l ++ [x]) ∧ ∃ j, Rdr (w6.setCell ⟨cb, 1, none⟩ v6) g lv L n q j := by
  obtain ⟨j, hr⟩ := h.rd
  have hr6 := rdr_grow hr h.own hg (by decide) (by decide)
  have hb6 := cel_own h.box h.own (by decide) hg
  have hs6 := cel_own h.rs h.own (by decide) hg
  have hk6 := only_grow h.og h.own hg
  have hz : Keep (fun b => b = cb) w6 (w6.setCell ⟨cb, 1, none⟩ v6) := Keep.of_grown (grown_setCell w6 cb 1 v6) fun b hb => by injection hb with hb; exact hb.symm
  have hr7 := rdr_x hr6 h.lo.2.2.1 hb6 (by decide) hz
  refine ⟨⟨⟨j, hr7⟩, hb6.set rfl, hz.cel hs6 h.lo.2.2.2.2, ?_, only_new hk6 hz h.lo.1, h.lo⟩, j, hr7⟩
  rw [List.length_append, List.flatMap_append, List.flatMap_singleton, List.length_singleton]
  exact own_setCell hown hb6 (by decide)
end
theorem clrinfo : (Tryz.prog.info? 38).map (·.size) = some 2 := by kernel_rfl
set_option maxHeartbeats 8000000 in
set_option maxRecDepth 100000 in
theorem rclear10_any {w : World} {g : Nat} {lv : Value} {L : List Tk} {n : Nat} {q : RS} {i : Nat} (hf : ∀ x ∈ txtsK L, x.length ≤ 65536) (h : Rdr w g lv L n q i) :
    Calls Tryz.prog 53 #[.pointer (some ⟨g, 0, none⟩)] w fun e w' => ∃ v, e = .returned (.agg #[.string ⟨((clearX q).1.1).toArray⟩, v]) ∧ w'.ownsRow w.heap.size 9 1 v (clearX q).1.2.length ((clearX q).1.2.flatMap txtL) ∧ (∃ j, Rdr w' g lv L n (clearX q).2 j) ∧ OnlyG g w w' := by
  obtain ⟨i5, hi, hz0, hz1, hz2⟩ := info_parts info_pr
  have I5 := Lib.hid (And.intro hi (And.intro hz0 (And.intro hz1 hz2)))
  clear hi hz0 hz1 hz2
  obtain ⟨X, hX⟩ : ∃ X, Hid (X = clearX q) := ⟨_, rfl⟩
  rw [← hX.out]
  obtain ⟨K, hK⟩ : ∃ K : Ending → World → Prop, Hid (K = fun e w' => ∃ v, e = .returned (.agg #[.string ⟨(X.1.1).toArray⟩, v]) ∧ w'.ownsRow w.heap.size 9 1 v X.1.2.length (X.1.2.flatMap txtL) ∧ (∃ j, Rdr w' g lv L n X.2 j) ∧ OnlyG g w w') := ⟨_, rfl⟩
  have hgood : Hid (∀ who l q1 v w', X = ((who, l), q1) → w'.ownsRow w.heap.size 9 1 v l.length (l.flatMap txtL) → (∃ j, Rdr w' g lv L n q1 j) → OnlyG g w w' → K (.returned (.agg #[.string ⟨who.toArray⟩, v])) w') := fun who l q1 v w' e h1 h2 h3 => by rw [hK.out, e]; exact ⟨v, rfl, h1, h2, h3⟩
  rw [← hK.out]
  unfold clearX at hX
  have HM : Hid (∀ s W q i, Rdr W g lv L n q i → Calls Tryz.prog 49 #[.pointer (some ⟨g, 0, none⟩), .string ⟨s.toArray⟩] W fun e w' => e = .returned (.bool (isS s q)) ∧ (∃ j, Rdr w' g lv L n (maybeS s q) j ∧ (isS s q = false → j = i)) ∧ OnlyG g W w') := fun s W q i hW => rmaybe_any s hW
  have HN : Hid (∀ W q i, Rdr W g lv L n q i → Calls Tryz.prog 50 #[.pointer (some ⟨g, 0, none⟩), .int .i64 0] W fun e w' => e = .returned (.string ⟨(nextV principalB q).toArray⟩) ∧ (∃ j, Rdr w' g lv L n (nextS principalB q) j) ∧ OnlyG g W w') := fun W q i hW => rnext_any 0 principalB (fun t W ht => rmay_princ t W ht) hf hW
  have HMU : Hid (∀ s W q i, Rdr W g lv L n q i → Calls Tryz.prog 51 #[.pointer (some ⟨g, 0, none⟩), .string ⟨s.toArray⟩] W fun e w' => e = .returned (.tuple #[]) ∧ (∃ j, Rdr w' g lv L n (mustS s q) j) ∧ OnlyG g W w') := fun s W q i hW => rmust_any s hW
  have hS1 : Since w (w.alloc (.cells #[.string ⟨#[]⟩, .slice none 0 0] 38)) := (Since.refl w).alloc _
  have hR1 : Cel (w.alloc (.cells #[.string ⟨#[]⟩, .slice none 0 0] 38)) w.heap.size #[.string ⟨#[]⟩, .slice none 0 0] 38 := heap_alloc_new w _
  have hgl := h.cel.lt
  have h1 := h.next hS1
  have HLL : Hid (L.length ≤ 65536) := h.len
  have HRg : Hid (¬ w.heap.size = g ∧ w.heap.size < (w.alloc (.cells #[.string ⟨#[]⟩, .slice none 0 0] 38)).heap.size) := ⟨by omega, hR1.lt⟩
  clear h hK hf
  go_enter Tryz.func53, Tryz.ntmps53
  go_upto_region 1 with (fail)
  generalize (w.alloc (.cells #[.string ⟨#[]⟩, .slice none 0 0] 38)) = w1 at *
  obtain ⟨rb, hrb⟩ : ∃ x, Hid (x = w.heap.size) := ⟨_, rfl⟩
  simp only [← hrb.out]
  rw [← hrb.out] at hR1 HRg
  have HN1 := Lib.hid (HN.out _ _ _ h1)
  obtain ⟨who, hwho⟩ : ∃ x, Hid (x = nextV principalB q) := ⟨_, rfl⟩
  obtain ⟨q1, hq1⟩ : ∃ x, Hid (x = nextS principalB q) := ⟨_, rfl⟩
  rw [← hwho.out, ← hq1.out] at HN1
  rw [← hwho.out, ← hq1.out] at hX
  clear hwho hq1
  go_wp2_with fail
  refine HN1.out.mono ?_
  rintro e w2 ⟨rfl, ⟨i2, h2⟩, hk2⟩
  clear HN1 h1
  have hC2 : ClrR w (w2.alloc (.cells #[.string ⟨who.toArray⟩, .slice none 0 0] 38)) g lv L n q1 rb w2.heap.size who (.slice none 0 0) [] := by
    have hs := (Since.refl w2).alloc (.cells #[.string ⟨who.toArray⟩, .slice none 0 0] 38)
    have hg2 := only_since hS1 hk2
    have k3 := h2.cel.lt
    have k4 := hk2.size
    have k5 := HRg.out
    exact ⟨⟨_, h2.next hs⟩, heap_alloc_new w2 _, (hk2.cel hR1 k5.1).next hs, World.ownsRow_nil _ _ _ _, only_then hg2 hs, ⟨hg2.size, by rw [hrb.out]; exact Nat.le_refl _, by omega, k5.1, by omega⟩⟩
  clear h2 hk2 hR1 HRg hS1 hrb hgl
  go_upto_region 2 with (fail)
  obtain ⟨cb, hcb⟩ : ∃ x, Hid (x = w2.heap.size) := ⟨_, rfl⟩
  simp only [← hcb.out]
  rw [← hcb.out] at hC2
  clear hcb
  generalize (w2.alloc (.cells #[.string ⟨who.toArray⟩, .slice none 0 0] 38)) = w3 at *
  obtain ⟨i3, h3⟩ := hC2.rd
  obtain ⟨q2, hq2⟩ : ∃ x, Hid (x = mustS [58] q1) := ⟨_, rfl⟩
  have HMX := Lib.hid (HMU.out [58] _ _ _ h3)
  rw [← hq2.out] at HMX
  rw [← hq2.out] at hX
  go_wp2_with fail
  refine HMX.out.mono ?_
  rintro e w4 ⟨rfl, ⟨i4, h4⟩, hk4⟩
  have hC4 := hC2.only ⟨_, h4⟩ hk4
  have hbd : Hid (leftS q2 ≤ 65537) := by
    show _ ≤ _
    cases q2 with
    | error e => exact Nat.zero_le _
    | ok r =>
      have hs := h4.sub
      have hl := h4.len
      show r.length + 1 ≤ _
      omega
  obtain ⟨Y, hY⟩ : ∃ Y, Hid (Y = loopR readX true [] q2) := ⟨_, rfl⟩
  have HX1 : Hid (X = ((who, Y.1), Y.2)) := by show _ = _; rw [hX.out, hY.out]
  clear hX HMX h3 hC2 h4 hk4 hq2 HMU
  go_wp2_with fail
  go_loopg [4] (leftS q2) (fun m mv wr => ∃ (b : Bool) (v : Value) (l : List Txt) (q3 : RS), m = leftS q3 ∧ mv = .bool b ∧ Hid (Y = loopR readX b l q3) ∧ ClrR w wr g lv L n q3 rb cb who v l ∧ Hid (l.length + leftS q3 ≤ 65537))
  case atStart => exact ⟨true, _, [], q2, rfl, rfl, hY, hC4, by show _ ≤ _; rw [List.length_nil, Nat.zero_add]; exact hbd.out⟩
  case round =>
  clear hC4 hY hbd
  obtain ⟨b, v, l, q3, rfl, rfl, HX, hC, hbl⟩ := hrel
  have hdone : (b = false ∧ Y = (l, q3)) ∨ (b = true ∧ ∃ e, q3 = .error e ∧ Y = (l, q3)) ∨ (b = true ∧ ∃ r, q3 = .ok r) := by
    cases q3 with
    | error e => cases b with
      | false => exact .inl ⟨rfl, HX.out⟩
      | true => exact .inr (.inl ⟨rfl, e, rfl, HX.out⟩)
    | ok r => cases b with
      | false => exact .inl ⟨rfl, HX.out⟩
      | true => exact .inr (.inr ⟨rfl, r, rfl⟩)
  rcases hdone with ⟨rfl, hXe⟩ | ⟨rfl, e0, rfl, hXe⟩ | ⟨rfl, r, rfl⟩
  · have HX3 : Hid (X = ((who, l), q3)) := by show _ = _; rw [HX1.out, hXe]
    clear hXe HX HX1
    obtain ⟨va, vc, rfl⟩ := own_slice hC.own
    have y0 : wr.cell? ⟨cb, 0, none⟩ = some (.string ⟨who.toArray⟩) := hC.box.cell 0
    have y1 : wr.cell? ⟨cb, 1, none⟩ = some (.slice va l.length vc) := hC.box.cell 1
    have hR6 := hC.rs
    have hone : Hid (((#[.string ⟨who.toArray⟩, .slice va l.length vc] : Array Value).all (·.oneCell')) = true) := by show _ = _; simp [Value.oneCell']
    obtain ⟨N, hN⟩ : ∃ N : Nat, Hid (N = l.length) := ⟨_, rfl⟩
    rw [← hN.out] at y1 hone
    go_wp2_with (refine wpList_store_row rfl 38 (.tmp 2) (.tmp 27) rfl rb #[.string ⟨who.toArray⟩, .slice va N vc] rfl rfl 38 #[.string ⟨#[]⟩, .slice none 0 0] hR6 clrinfo rfl hone.out ?_)
    have hbx : Cel (wr.setRow rb #[.string ⟨who.toArray⟩, .slice va N vc]) rb #[.string ⟨who.toArray⟩, .slice va N vc] 38 := hR6.row _
    have e0 : (wr.setRow rb #[.string ⟨who.toArray⟩, .slice va N vc]).cell? ⟨rb, 0, none⟩ = some (.string ⟨who.toArray⟩) := hbx.cell 0
    have e1 : (wr.setRow rb #[.string ⟨who.toArray⟩, .slice va N vc]).cell? ⟨rb, 1, none⟩ = some (.slice va N vc) := hbx.cell 1
    have hZ7 := row_setRow hR6 (ds := #[.string ⟨who.toArray⟩, .slice va N vc])
    clear y0 y1 hone
    go_wp2_with fail
    refine bodyPost_ret (v := .agg #[.string ⟨who.toArray⟩, .slice va N vc]) (by simp [results, Tryz.results53, go_sem, e0, e1]) rfl ?_
    obtain ⟨j, hr⟩ := hC.rd
    rw [hN.out]
    exact hgood.out _ _ _ _ _ HX3.out (own_setRow hC.own hR6 (by decide)) ⟨_, rdr_x hr hC.lo.2.2.2.1 hR6 (by decide) (by rw [← hN.out]; exact hZ7)⟩ (only_new hC.og (by rw [← hN.out]; exact hZ7) hC.lo.2.1)
  · have HX3 : Hid (X = ((who, l), .error e0)) := by show _ = _; rw [HX1.out, hXe]
    have he : ¬ e0.2 = 0 := by obtain ⟨j, hr⟩ := hC.rd; exact hr.bad _ rfl
    have c4 : wr.cell? ⟨g, 4, none⟩ = some (.int .i64 e0.2) := by obtain ⟨j, hr⟩ := hC.rd; exact hr.cel.cell 4
    obtain ⟨k0, er⟩ := e0
    simp only at he c4
    clear hXe HX HX1
    obtain ⟨va, vc, rfl⟩ := own_slice hC.own
    have y0 : wr.cell? ⟨cb, 0, none⟩ = some (.string ⟨who.toArray⟩) := hC.box.cell 0
    have y1 : wr.cell? ⟨cb, 1, none⟩ = some (.slice va l.length vc) := hC.box.cell 1
    have hR6 := hC.rs
    have hone : Hid (((#[.string ⟨who.toArray⟩, .slice va l.length vc] : Array Value).all (·.oneCell')) = true) := by show _ = _; simp [Value.oneCell']
    obtain ⟨N, hN⟩ : ∃ N : Nat, Hid (N = l.length) := ⟨_, rfl⟩
    rw [← hN.out] at y1 hone
    go_wp2_with (refine wpList_store_row rfl 38 (.tmp 2) (.tmp 27) rfl rb #[.string ⟨who.toArray⟩, .slice va N vc] rfl rfl 38 #[.string ⟨#[]⟩, .slice none 0 0] hR6 clrinfo rfl hone.out ?_)
    have hbx : Cel (wr.setRow rb #[.string ⟨who.toArray⟩, .slice va N vc]) rb #[.string ⟨who.toArray⟩, .slice va N vc] 38 := hR6.row _
    have e0 : (wr.setRow rb #[.string ⟨who.toArray⟩, .slice va N vc]).cell? ⟨rb, 0, none⟩ = some (.string ⟨who.toArray⟩) := hbx.cell 0
    have e1 : (wr.setRow rb #[.string ⟨who.toArray⟩, .slice va N vc]).cell? ⟨rb, 1, none⟩ = some (.slice va N vc) := hbx.cell 1
    have hZ7 := row_setRow hR6 (ds := #[.string ⟨who.toArray⟩, .slice va N vc])
    clear y0 y1 hone
    go_wp2_with fail
    refine bodyPost_ret (v := .agg #[.string ⟨who.toArray⟩, .slice va N vc]) (by simp [results, Tryz.results53, go_sem, e0, e1]) rfl ?_
    obtain ⟨j, hr⟩ := hC.rd
    rw [hN.out]
    exact hgood.out _ _ _ _ _ HX3.out (own_setRow hC.own hR6 (by decide)) ⟨_, rdr_x hr hC.lo.2.2.2.1 hR6 (by decide) (by rw [← hN.out]; exact hZ7)⟩ (only_new hC.og (by rw [← hN.out]; exact hZ7) hC.lo.2.1)
  · have HX2 : Hid (Y = loopR readX (isS [44] (nextS principalB (.ok r))) (l ++ [nextV principalB (.ok r)]) (maybeS [44] (nextS principalB (.ok r)))) := by show _ = _; rw [HX.out, loop_step read_shr]; rfl
    have HLT : Hid (leftS (maybeS [44] (nextS principalB (.ok r))) < leftS (.ok r)) := loop_left read_shr l r
    obtain ⟨j, hr⟩ := hC.rd
    have c4 : wr.cell? ⟨g, 4, none⟩ = some (.int .i64 0) := hr.cel.cell 4
    have HN4 : Hid (∀ W, (∃ j, Rdr W g lv L n (.ok r) j) → Calls Tryz.prog 50 #[.pointer (some ⟨g, 0, none⟩), .int .i64 0] W fun e w' => e = .returned (.string ⟨(nextV principalB (.ok r)).toArray⟩) ∧ (∃ j, Rdr w' g lv L n (nextS principalB (.ok r)) j) ∧ OnlyG g W w') := fun W h => by obtain ⟨j, h⟩ := h; exact HN.out _ _ _ h
    obtain ⟨t, ht⟩ : ∃ x, Hid (x = nextV principalB (.ok r)) := ⟨_, rfl⟩
    obtain ⟨q4, hq4⟩ : ∃ x, Hid (x = nextS principalB (.ok r)) := ⟨_, rfl⟩
    rw [← ht.out, ← hq4.out] at HX2 HN4
    rw [← hq4.out] at HLT
    obtain ⟨va, vc, rfl⟩ := own_slice hC.own
    obtain ⟨N, hN⟩ : ∃ N : Nat, Hid (N = l.length) := ⟨_, rfl⟩
    have HBL : Hid ((l ++ [t]).length + leftS (maybeS [44] q4) ≤ 65537) := by
      show _ ≤ _
      rw [List.length_append, List.length_singleton]
      have := hbl.out
      have := HLT.out
      omega
    have hbl0 : Hid (N + 1 ≤ 65537) := by show _ ≤ _; rw [hN.out]; have := hbl.out; have := HLT.out; omega
    rw [← hN.out] at hC
    clear HX ht hq4 hbl
    go_upto_region 6 with (fail)
    clear c4
    have hSd : Since wr wr.drew := (Since.refl _).drew
    replace hC := hC.next hSd
    clear hSd
    refine hx_begin (S := fun _ => True) (by kernel_rfl) trivial (by kernel_rfl) (fun _ _ _ _ _ h => h) (fun hns hQ => ?_)
    refine hx_take (i := 0) (oi := _) (v := .pointer (some ⟨cb, 1, none⟩)) rfl rfl hns (by kernel_rfl) (by kernel_rfl) hQ (by kernel_rfl) (fun _ _ => by kernel_rfl) trivial ?_
    refine hx_take (i := 2) (oi := _) (v := .pointer (some ⟨g, 0, none⟩)) rfl rfl hns (by kernel_rfl) (by kernel_rfl) hQ (by kernel_rfl) (fun _ _ => by kernel_rfl) trivial ?_
    refine hx_two_vc (i := 1) (j := 3) (.slice va N vc) (wr.drew) 50 #[.pointer (some ⟨g, 0, none⟩), .int .i64 0] rfl rfl (by kernel_rfl) (by kernel_rfl) (by kernel_rfl) rfl (ld_one rfl (by kernel_rfl) (by kernel_rfl) wr.drew ((hC.box).cell 1)) trivial rfl (by kernel_rfl) (HN4.out _ hC.rd) ?_ ?_
    · refine hx_call (i := 3) (oi := _) 50 #[.pointer (some ⟨g, 0, none⟩), .int .i64 0] rfl rfl (by kernel_rfl) (by kernel_rfl) (by kernel_rfl) (HN4.out _ hC.rd) ?_
      rintro e wx51 ⟨rfl, hr4, hk4⟩
      replace hC := hC.only hr4 hk4
      clear hr4 hk4
      refine ⟨_, rfl, trivial, ?_⟩
      refine hx_make (i := 4) (oi := _) (.slice (some ⟨wx51.heap.size, 0, none⟩) 1 1) (wx51.alloc (.cells #[.string ⟨t.toArray⟩] 9)) rfl rfl (by kernel_rfl) (by kernel_rfl) (by kernel_rfl) trivial ?_
      have hSk : Since wx51 (wx51.alloc (.cells #[.string ⟨t.toArray⟩] 9)) := (Since.refl _).alloc _
      replace hC := hC.next hSk
      clear hSk
      have hKB : Cel (wx51.alloc (.cells #[.string ⟨t.toArray⟩] 9)) wx51.heap.size #[.string ⟨t.toArray⟩] 9 := heap_alloc_new _ _
      refine hx_append (i := 5) (oi := _) (.tmp 21) (.tmp 24) 23 w.heap.size 9 i5 (.string ByteArray.empty) 1 16 (.slice va N vc) N _ _ (some ⟨wx51.heap.size, 0, none⟩) 1 1 (#[.string ⟨t.toArray⟩] : Array Value).toList rfl rfl (by kernel_rfl) (by kernel_rfl) rfl Tryz.underlying23 I5.out.1 I5.out.2.1 I5.out.2.2.1 I5.out.2.2.2 rfl (by decide) (by kernel_rfl) (by have h := hC.own; rw [← hN.out] at h; exact h) (by kernel_rfl) (reads_celR hKB (K := 1) rfl) (by simp [Value.oneCell']) (by have := hbl0.out; unfold maxLen; omega) (by have := hbl0.out; omega) (hC.og.size) ?_
      intro v6 w6 hown6 hg6 hat6
      obtain ⟨a6, c6, rfl⟩ := own_slice hown6
      have hCX := hC
      have hBx := cel_own hC.box hC.own (by decide) hg6
      obtain ⟨hC8, hr8x⟩ := hC.push (x := t) (v6 := .slice a6 (N + 1) c6) (by rw [← hN.out]; exact hown6) hg6
      obtain ⟨j8, hr8⟩ := hr8x
      refine ⟨trivial, ?_⟩
      refine hx_take (i := 6) (oi := _) (v := .pointer (some ⟨cb, 1, none⟩)) rfl rfl hns (by kernel_rfl) (by kernel_rfl) hQ (by kernel_rfl) (fun _ _ => by kernel_rfl) trivial ?_
      refine hx_store (i := 7) (oi := _) (w6.setCell ⟨cb, 1, none⟩ (.slice a6 (N + 1) c6)) rfl rfl (by kernel_rfl) (by kernel_rfl) (st_pr rfl (by kernel_rfl) (by kernel_rfl) _ hBx rfl) trivial ?_
      refine wpAnyH_done (by kernel_rfl) ?_ _
      clear hns hQ
      simp only [List.set_cons_zero, List.set_cons_succ]
      clear hCX hown6 hg6 hat6 hBx hr I5 i5 hbl0 HN4
      go_wp2_with fail
      refine (HM.out [44] _ _ _ hr8).mono ?_
      rintro e w9 ⟨rfl, ⟨i9, h9, _⟩, hk9⟩
      have hC9 := hC8.only ⟨_, h9⟩ hk9
      clear hr8 hC8 hk9
      go_wp2_with fail
      go_roundg (leftS (maybeS [44] q4))
      case measure => exact HLT.out
      case rel => exact ⟨_, _, _, _, rfl, rfl, HX2, hC9, HBL⟩
    · rintro e wx51 ⟨rfl, hr4, hk4⟩
      replace hC := hC.only hr4 hk4
      clear hr4 hk4
      refine ⟨_, rfl, trivial, ?_⟩
      refine hx_two_vv (i := 1) (j := 4) (.slice va N vc) (wx51) (.slice (some ⟨wx51.heap.size, 0, none⟩) 1 1) ((wx51.alloc (.cells #[.string ⟨t.toArray⟩] 9))) rfl rfl (by kernel_rfl) (by kernel_rfl) (by kernel_rfl) rfl (ld_one rfl (by kernel_rfl) (by kernel_rfl) wx51 ((hC.box).cell 1)) trivial rfl (by kernel_rfl) trivial ?_ ?_
      · refine hx_make (i := 4) (oi := _) (.slice (some ⟨wx51.heap.size, 0, none⟩) 1 1) (wx51.alloc (.cells #[.string ⟨t.toArray⟩] 9)) rfl rfl (by kernel_rfl) (by kernel_rfl) (by kernel_rfl) trivial ?_
        have hSk : Since wx51 (wx51.alloc (.cells #[.string ⟨t.toArray⟩] 9)) := (Since.refl _).alloc _
        replace hC := hC.next hSk
        clear hSk
        have hKB : Cel (wx51.alloc (.cells #[.string ⟨t.toArray⟩] 9)) wx51.heap.size #[.string ⟨t.toArray⟩] 9 := heap_alloc_new _ _
        refine hx_append (i := 5) (oi := _) (.tmp 21) (.tmp 24) 23 w.heap.size 9 i5 (.string ByteArray.empty) 1 16 (.slice va N vc) N _ _ (some ⟨wx51.heap.size, 0, none⟩) 1 1 (#[.string ⟨t.toArray⟩] : Array Value).toList rfl rfl (by kernel_rfl) (by kernel_rfl) rfl Tryz.underlying23 I5.out.1 I5.out.2.1 I5.out.2.2.1 I5.out.2.2.2 rfl (by decide) (by kernel_rfl) (by have h := hC.own; rw [← hN.out] at h; exact h) (by kernel_rfl) (reads_celR hKB (K := 1) rfl) (by simp [Value.oneCell']) (by have := hbl0.out; unfold maxLen; omega) (by have := hbl0.out; omega) (hC.og.size) ?_
        intro v6 w6 hown6 hg6 hat6
        obtain ⟨a6, c6, rfl⟩ := own_slice hown6
        have hCX := hC
        have hBx := cel_own hC.box hC.own (by decide) hg6
        obtain ⟨hC8, hr8x⟩ := hC.push (x := t) (v6 := .slice a6 (N + 1) c6) (by rw [← hN.out]; exact hown6) hg6
        obtain ⟨j8, hr8⟩ := hr8x
        refine ⟨trivial, ?_⟩
        refine hx_take (i := 6) (oi := _) (v := .pointer (some ⟨cb, 1, none⟩)) rfl rfl hns (by kernel_rfl) (by kernel_rfl) hQ (by kernel_rfl) (fun _ _ => by kernel_rfl) trivial ?_
        refine hx_store (i := 7) (oi := _) (w6.setCell ⟨cb, 1, none⟩ (.slice a6 (N + 1) c6)) rfl rfl (by kernel_rfl) (by kernel_rfl) (st_pr rfl (by kernel_rfl) (by kernel_rfl) _ hBx rfl) trivial ?_
        refine wpAnyH_done (by kernel_rfl) ?_ _
        clear hns hQ
        simp only [List.set_cons_zero, List.set_cons_succ]
        clear hCX hown6 hg6 hat6 hBx hr I5 i5 hbl0 HN4
        go_wp2_with fail
        refine (HM.out [44] _ _ _ hr8).mono ?_
        rintro e w9 ⟨rfl, ⟨i9, h9, _⟩, hk9⟩
        have hC9 := hC8.only ⟨_, h9⟩ hk9
        clear hr8 hC8 hk9
        go_wp2_with fail
        go_roundg (leftS (maybeS [44] q4))
        case measure => exact HLT.out
        case rel => exact ⟨_, _, _, _, rfl, rfl, HX2, hC9, HBL⟩
      · have hSk : Since wx51 (wx51.alloc (.cells #[.string ⟨t.toArray⟩] 9)) := (Since.refl _).alloc _
        replace hC := hC.next hSk
        clear hSk
        have hKB : Cel (wx51.alloc (.cells #[.string ⟨t.toArray⟩] 9)) wx51.heap.size #[.string ⟨t.toArray⟩] 9 := heap_alloc_new _ _
        refine hx_make (i := 1) (oi := _) (.slice va N vc) ((wx51.alloc (.cells #[.string ⟨t.toArray⟩] 9))) rfl rfl (by kernel_rfl) (by kernel_rfl) (ld_one rfl (by kernel_rfl) (by kernel_rfl) (wx51.alloc (.cells #[.string ⟨t.toArray⟩] 9)) ((hC.box).cell 1)) trivial ?_
        refine hx_append (i := 5) (oi := _) (.tmp 21) (.tmp 24) 23 w.heap.size 9 i5 (.string ByteArray.empty) 1 16 (.slice va N vc) N _ _ (some ⟨wx51.heap.size, 0, none⟩) 1 1 (#[.string ⟨t.toArray⟩] : Array Value).toList rfl rfl (by kernel_rfl) (by kernel_rfl) rfl Tryz.underlying23 I5.out.1 I5.out.2.1 I5.out.2.2.1 I5.out.2.2.2 rfl (by decide) (by kernel_rfl) (by have h := hC.own; rw [← hN.out] at h; exact h) (by kernel_rfl) (reads_celR hKB (K := 1) rfl) (by simp [Value.oneCell']) (by have := hbl0.out; unfold maxLen; omega) (by have := hbl0.out; omega) (hC.og.size) ?_
        intro v6 w6 hown6 hg6 hat6
        obtain ⟨a6, c6, rfl⟩ := own_slice hown6
        have hCX := hC
        have hBx := cel_own hC.box hC.own (by decide) hg6
        obtain ⟨hC8, hr8x⟩ := hC.push (x := t) (v6 := .slice a6 (N + 1) c6) (by rw [← hN.out]; exact hown6) hg6
        obtain ⟨j8, hr8⟩ := hr8x
        refine ⟨trivial, ?_⟩
        refine hx_take (i := 6) (oi := _) (v := .pointer (some ⟨cb, 1, none⟩)) rfl rfl hns (by kernel_rfl) (by kernel_rfl) hQ (by kernel_rfl) (fun _ _ => by kernel_rfl) trivial ?_
        refine hx_store (i := 7) (oi := _) (w6.setCell ⟨cb, 1, none⟩ (.slice a6 (N + 1) c6)) rfl rfl (by kernel_rfl) (by kernel_rfl) (st_pr rfl (by kernel_rfl) (by kernel_rfl) _ hBx rfl) trivial ?_
        refine wpAnyH_done (by kernel_rfl) ?_ _
        clear hns hQ
        simp only [List.set_cons_zero, List.set_cons_succ]
        clear hCX hown6 hg6 hat6 hBx hr I5 i5 hbl0 HN4
        go_wp2_with fail
        refine (HM.out [44] _ _ _ hr8).mono ?_
        rintro e w9 ⟨rfl, ⟨i9, h9, _⟩, hk9⟩
        have hC9 := hC8.only ⟨_, h9⟩ hk9
        clear hr8 hC8 hk9
        go_wp2_with fail
        go_roundg (leftS (maybeS [44] q4))
        case measure => exact HLT.out
        case rel => exact ⟨_, _, _, _, rfl, rfl, HX2, hC9, HBL⟩
end Go.Proofs.YtnfjjckbgnieeaaGreatDoor
