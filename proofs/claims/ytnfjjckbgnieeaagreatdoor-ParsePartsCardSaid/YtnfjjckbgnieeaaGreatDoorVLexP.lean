/- Tokens, in plain words: what a text's tokens are; how they join. No program's function in sight. -/
import Derived.Test.YtnfjjckbgnieeaaGreatDoorVSpPlain
namespace Go.Proofs.YtnfjjckbgnieeaaGreatDoor
open Go.RowKit

def blankB (n : Int) : Bool := n == 32 || n == 10 || n == 9 || n == 13
def signB (n : Int) : Bool := n == 40 || n == 41 || n == 44 || n == 46 || n == 58 || n == 47 || n == 63
/-- The kinds of bytes, as the program numbers them. -/
def kindI (n : Int) : Int := if smallB n then 3 else if greatB n then 4 else if digitB n then 5 else if n == 95 then 6 else if n == 37 then 2 else if blankB n then 1 else if signB n then 7 else 0
/-- How many bytes are passed over: blanks, remarks (within one: true). -/
def skipN : Bool → List UInt8 → Nat
  | _, [] => 0
  | false, c :: r => if blankB c.toNat then 1 + skipN false r else if c = 37 then 1 + skipN true r else 0
  | true, c :: r => if c = 10 then 1 + skipN false r else 1 + skipN true r
/-- What goes on a token of a kind. -/
def moreB (var : Bool) (n : Int) : Bool := lowB n || (var && greatB n)
/-- A token: its kind, its text, its place. -/
abbrev Tk := Int × List UInt8 × Nat
/-- The token that begins here: its kind and text; an error (3: text, 4: long); nothing is left. -/
def tokN : List UInt8 → Option (Except Int (Int × List UInt8))
  | [] => none
  | c :: r =>
    if signB c.toNat then some (.ok (3, [c]))
    else if greatB c.toNat then (let t := c :: r.takeWhile fun x => moreB true x.toNat; some (if t.length ≤ 255 then .ok (2, t) else .error 4))
    else if firstB c.toNat then (let t := c :: r.takeWhile fun x => moreB false x.toNat; some (if t.length ≤ 255 then .ok (1, t) else .error 4))
    else some (.error 3)
/-- The tokens from place i on, and the error with its place. -/
def toksF : Nat → List UInt8 → Nat → List Tk × Option (Nat × Int)
  | 0, _, _ => ([], none)
  | f + 1, r, i =>
    let k := skipN false r
    match tokN (r.drop k) with
    | none => ([], none)
    | some (.error e) => ([], some (i + k, e))
    | some (.ok (q, t)) => let z := toksF f (r.drop (k + t.length)) (i + k + t.length); ((q, t, i + k) :: z.1, z.2)
def toksL (s : List UInt8) : List Tk × Option (Nat × Int) := toksF (s.length + 1) s 0
/-- What All answers. -/
def allL (s : List UInt8) : List Tk × Nat × Int :=
  if 65536 < s.length then ([], 65536, 4) else match toksL s with
    | (l, none) => (l, 0, 0)
    | (_, some (at_, e)) => ([], at_, e)
theorem skipN_le : ∀ (b : Bool) (l : List UInt8), skipN b l ≤ l.length
  | _, [] => by simp [skipN]
  | false, c :: r => by
    have h1 := skipN_le false r
    have h2 := skipN_le true r
    rw [skipN, List.length_cons]
    split
    · omega
    · split <;> omega
  | true, c :: r => by
    have h1 := skipN_le false r
    have h2 := skipN_le true r
    rw [skipN, List.length_cons]
    split <;> omega
theorem tokN_len {r : List UInt8} {q : Int} {t : List UInt8} (h : tokN r = some (.ok (q, t))) : 0 < t.length ∧ ∃ r', r = t ++ r' := by
  cases r with
  | nil => simp [tokN] at h
  | cons c r =>
    simp only [tokN] at h
    split at h
    · simp only [Option.some.injEq, Except.ok.injEq, Prod.mk.injEq] at h
      exact ⟨by rw [← h.2]; simp, r, by rw [← h.2]; rfl⟩
    · split at h
      · simp only [Option.some.injEq] at h
        split at h
        · simp only [Except.ok.injEq, Prod.mk.injEq] at h
          exact ⟨by rw [← h.2]; simp, r.dropWhile (fun x => moreB true x.toNat), by rw [← h.2, List.cons_append, List.takeWhile_append_dropWhile]⟩
        · cases h
      · split at h
        · simp only [Option.some.injEq] at h
          split at h
          · simp only [Except.ok.injEq, Prod.mk.injEq] at h
            exact ⟨by rw [← h.2]; simp, r.dropWhile (fun x => moreB false x.toNat), by rw [← h.2, List.cons_append, List.takeWhile_append_dropWhile]⟩
          · cases h
        · simp only [Option.some.injEq] at h; cases h
/-- More than enough rounds change nothing. -/
theorem toksF_more : ∀ (f g : Nat) (r : List UInt8) (i : Nat), r.length < f → f ≤ g → toksF f r i = toksF g r i
  | 0, _, _, _, h, _ => by omega
  | _ + 1, 0, _, _, _, h => by omega
  | f + 1, g + 1, r, i, h, hg => by
    rw [toksF, toksF]
    have hs := skipN_le false r
    cases ht : tokN (r.drop (skipN false r)) with
    | none => rfl
    | some e =>
      cases e with
      | error e => rfl
      | ok p =>
        obtain ⟨q, t⟩ := p
        obtain ⟨h1, r', h2⟩ := tokN_len ht
        have hl := congrArg List.length h2
        rw [List.length_drop, List.length_append] at hl
        have := toksF_more f g (r.drop (skipN false r + t.length)) (i + skipN false r + t.length) (by rw [List.length_drop]; omega) (by omega)
        simp only [this]
theorem toksF_shift (f : Nat) : ∀ (r : List UInt8) (i d : Nat), toksF f r (d + i) = ((toksF f r i).1.map (fun t => (t.1, t.2.1, d + t.2.2)), (toksF f r i).2.map fun e => (d + e.1, e.2)) := by
  induction f with
  | zero => intro r i d; simp [toksF]
  | succ f ih =>
    intro r i d
    rw [toksF, toksF]
    cases ht : tokN (r.drop (skipN false r)) with
    | none => simp
    | some e =>
      cases e with
      | error e => simp [Nat.add_assoc]
      | ok p =>
        obtain ⟨q, t⟩ := p
        have := ih (r.drop (skipN false r + t.length)) (i + skipN false r + t.length) d
        simp only [← Nat.add_assoc] at this ⊢
        simp only [this]
        simp [Nat.add_assoc]
/-- Where a text ends in what is passed over, and a line end follows, the passing goes on behind it. -/
theorem skipN_join : ∀ (b : Bool) (r t : List UInt8), skipN b r = r.length → skipN b (r ++ 10 :: t) = r.length + (1 + skipN false t)
  | false, [], t, _ => by
    have h : blankB (((10 : UInt8).toNat : Nat) : Int) = true := by decide
    rw [List.nil_append, skipN, if_pos h]; simp
  | true, [], t, _ => by rw [List.nil_append, skipN, if_pos rfl]; simp
  | false, c :: r, t, h => by
    rw [List.cons_append, skipN]
    rw [skipN, List.length_cons] at h
    split at h
    · rename_i hb
      rw [if_pos hb, skipN_join false r t (by omega), List.length_cons]; omega
    · rename_i hb
      rw [if_neg hb]
      split at h
      · rename_i hc
        rw [if_pos hc, skipN_join true r t (by omega), List.length_cons]; omega
      · omega
  | true, c :: r, t, h => by
    rw [List.cons_append, skipN]
    rw [skipN, List.length_cons] at h
    split at h
    · rename_i hb
      rw [if_pos hb, skipN_join false r t (by omega), List.length_cons]; omega
    · rename_i hb
      rw [if_neg hb, skipN_join true r t (by omega), List.length_cons]; omega
theorem skipN_stays : ∀ (b : Bool) (r t : List UInt8), skipN b r < r.length → skipN b (r ++ t) = skipN b r
  | false, [], t, h => by simp [skipN] at h
  | true, [], t, h => by simp [skipN] at h
  | false, c :: r, t, h => by
    rw [List.cons_append, skipN, skipN]
    rw [skipN, List.length_cons] at h
    split at h
    · rename_i hb
      rw [if_pos hb, if_pos hb, skipN_stays false r t (by omega)]
    · rename_i hb
      rw [if_neg hb, if_neg hb]
      split at h
      · rename_i hc
        rw [if_pos hc, if_pos hc, skipN_stays true r t (by omega)]
      · rename_i hc
        rw [if_neg hc, if_neg hc]
  | true, c :: r, t, h => by
    rw [List.cons_append, skipN, skipN]
    rw [skipN, List.length_cons] at h
    split at h
    · rename_i hb
      rw [if_pos hb, if_pos hb, skipN_stays false r t (by omega)]
    · rename_i hb
      rw [if_neg hb, if_neg hb, skipN_stays true r t (by omega)]
/-- A byte that goes on no token. -/
def Ends (d : UInt8) : Prop := moreB true d.toNat = false ∧ moreB false d.toNat = false
theorem takeWhile_join {p : UInt8 → Bool} {d : UInt8} (hd : p d = false) : ∀ (r t : List UInt8), (r ++ d :: t).takeWhile p = r.takeWhile p
  | [], t => by rw [List.nil_append, List.takeWhile_cons_of_neg (by rw [hd]; simp)]; rfl
  | c :: r, t => by
    rw [List.cons_append, List.takeWhile_cons, List.takeWhile_cons, takeWhile_join hd r t]
theorem tokN_join {d : UInt8} (hd : Ends d) {r t : List UInt8} (h : r ≠ []) : tokN (r ++ d :: t) = tokN r := by
  cases r with
  | nil => exact absurd rfl h
  | cons c r =>
    rw [List.cons_append]
    simp only [tokN]
    rw [takeWhile_join hd.1, takeWhile_join hd.2]
theorem ends_10 : Ends 10 := ⟨by decide, by decide⟩
/-- Two texts, one after the other on lines of their own. -/
theorem toksF_join (t : List UInt8) : ∀ (f : Nat) (r : List UInt8) (i g : Nat), r.length < f → (r ++ 10 :: t).length < g →
    toksF g (r ++ 10 :: t) i = match toksF f r i with
      | (l, some e) => (l, some e)
      | (l, none) => (l ++ (toksF g t (i + r.length + 1)).1, (toksF g t (i + r.length + 1)).2)
  | 0, _, _, _, h, _ => by omega
  | _ + 1, _, _, 0, _, h => by omega
  | f + 1, r, i, g + 1, h, hg => by
    have hs := skipN_le false r
    by_cases hk : skipN false r = r.length
    · have hd : r.drop (skipN false r) = [] := by rw [hk]; simp
      rw [toksF, toksF, hd]
      simp only [show tokN ([] : List UInt8) = none from rfl, List.nil_append]
      rw [skipN_join false r t hk]
      have e : (r ++ 10 :: t).drop (r.length + (1 + skipN false t)) = t.drop (skipN false t) := by
        rw [List.drop_append, List.drop_eq_nil_of_le (by omega), List.nil_append, show r.length + (1 + skipN false t) - r.length = skipN false t + 1 from by omega, List.drop_succ_cons]
      have e2 : ∀ k, (r ++ 10 :: t).drop (r.length + (1 + skipN false t) + k) = t.drop (skipN false t + k) := by
        intro k
        rw [← List.drop_drop, e, List.drop_drop]
      rw [e]
      rw [show toksF (g + 1) t (i + r.length + 1) = _ from by rw [toksF]]
      cases ht : tokN (t.drop (skipN false t)) with
      | none => rfl
      | some x =>
        cases x with
        | error x => simp only [show i + (r.length + (1 + skipN false t)) = i + r.length + 1 + skipN false t from by omega]
        | ok p =>
          obtain ⟨q, u⟩ := p
          simp only [e2, show i + (r.length + (1 + skipN false t)) = i + r.length + 1 + skipN false t from by omega]
    · have hk' : skipN false r < r.length := by omega
      have hne : r.drop (skipN false r) ≠ [] := by
        intro e
        have := congrArg List.length e
        rw [List.length_drop, List.length_nil] at this
        omega
      rw [toksF, toksF, skipN_stays false r _ hk', List.drop_append_of_le_length hs, tokN_join ends_10 hne]
      cases ht : tokN (r.drop (skipN false r)) with
      | none => 
        cases hr : r.drop (skipN false r) with
        | nil => exact absurd hr hne
        | cons c r' =>
          rw [hr] at ht
          simp only [tokN] at ht
          split at ht
          · cases ht
          · split at ht
            · cases ht
            · split at ht <;> cases ht
      | some x =>
        cases x with
        | error x => rfl
        | ok p =>
          obtain ⟨q, u⟩ := p
          obtain ⟨h1, r', h2⟩ := tokN_len ht
          have hl := congrArg List.length h2
          rw [List.length_drop, List.length_append] at hl
          have hle : skipN false r + u.length ≤ r.length := by omega
          have ih := toksF_join t f (r.drop (skipN false r + u.length)) (i + skipN false r + u.length) g (by rw [List.length_drop]; omega) (by simp only [List.length_append, List.length_drop, List.length_cons] at hg ⊢; omega)
          simp only [List.drop_append_of_le_length hle, ih]
          have e3 : i + skipN false r + u.length + (r.drop (skipN false r + u.length)).length + 1 = i + r.length + 1 := by rw [List.length_drop]; omega
          rw [e3]
          have hm : toksF g t (i + r.length + 1) = toksF (g + 1) t (i + r.length + 1) := toksF_more g (g + 1) t _ (by simp only [List.length_append, List.length_cons] at hg; omega) (by omega)
          cases hz : toksF f (r.drop (skipN false r + u.length)) (i + skipN false r + u.length) with
          | mk l o =>
            cases o with
            | none => simp only [hm, List.cons_append]
            | some e => rfl
end Go.Proofs.YtnfjjckbgnieeaaGreatDoor
