/- Tokens, in plain words: what a text's tokens are; how they join. No program's function in sight. -/
import Derived.Test.YtnfjjckbgnieeaaGreatDoorQSpPlain
namespace Go.Proofs.YtnfjjckbgnieeaaGreatDoor
open Go.RowKit

def blankB (n : Int) : Bool := n == 32 || n == 10 || n == 9 || n == 13
def signB (n : Int) : Bool := n == 40 || n == 41 || n == 44 || n == 46 || n == 58 || n == 47 || n == 63
/-- The kinds of bytes, as the program numbers them. -/
def kindI (n : Int) : Int := if smallB n then 3 else if greatB n then 4 else if digitB n then 5 else if n == 95 then 6 else if n == 37 then 2 else if blankB n then 1 else if signB n then 7 else 0
/-- How many bytes are passed over: blanks, remarks (within one: true). -/
def skipN : Bool → List UInt8 → Nat
  | _, [] => 0
  | false, c :: r => if blankB c.toNat then 1 + skipN false r else if c = 37 then 1 + skipN true r else 0
  | true, c :: r => if c = 10 then 1 + skipN false r else 1 + skipN true r
/-- What goes on a token of a kind. -/
def moreB (var : Bool) (n : Int) : Bool := lowB n || (var && greatB n)
/-- A token: its kind, its text, its place. -/
abbrev Tk := Int × List UInt8 × Nat
/-- The token that begins here: its kind and text; an error (3: text, 4: long); nothing is left. -/
def tokN : List UInt8 → Option (Except Int (Int × List UInt8))
  | [] => none
  | c :: r =>
    if signB c.toNat then some (.ok (3, [c]))
    else if greatB c.toNat then (let t := c :: r.takeWhile fun x => moreB true x.toNat; some (if t.length ≤ 255 then .ok (2, t) else .error 4))
    else if firstB c.toNat then (let t := c :: r.takeWhile fun x => moreB false x.toNat; some (if t.length ≤ 255 then .ok (1, t) else .error 4))
    else some (.error 3)
/-- The tokens from place i on, and the error with its place. -/
def toksF : Nat → List UInt8 → Nat → List Tk × Option (Nat × Int)
  | 0, _, _ => ([], none)
  | f + 1, r, i =>
    let k := skipN false r
    match tokN (r.drop k) with
    | none => ([], none)
    | some (.error e) => ([], some (i + k, e))
    | some (.ok (q, t)) => let z := toksF f (r.drop (k + t.length)) (i + k + t.length); ((q, t, i + k) :: z.1, z.2)
def toksL (s : List UInt8) : List Tk × Option (Nat × Int) := toksF (s.length + 1) s 0
/-- What All answers. -/
def allL (s : List UInt8) : List Tk × Nat × Int :=
  if 65536 < s.length then ([], 65536, 4) else match toksL s with
    | (l, none) => (l, 0, 0)
    | (_, some (at_, e)) => ([], at_, e)
theorem skipN_le : ∀ (b : Bool) (l : List UInt8), skipN b l ≤ l.length
  | _, [] => by simp [skipN]
  | false, c :: r => by
    have h1 := skipN_le false r
    have h2 := skipN_le true r
    rw [skipN, List.length_cons]
    split
    · omega
    · split <;> omega
  | true, c :: r => by
    have h1 := skipN_le false r
    have h2 := skipN_le true r
    rw [skipN, List.length_cons]
    split <;> omega
theorem tokN_len {r : List UInt8} {q : Int} {t : List UInt8} (h : tokN r = some (.ok (q, t))) : 0 < t.length ∧ ∃ r', r = t ++ r' := by
  cases r with
  | nil => simp [tokN] at h
  | cons c r =>
    simp only [tokN] at h
    split at h
    · simp only [Option.some.injEq, Except.ok.injEq, Prod.mk.injEq] at h
      exact ⟨by rw [← h.2]; simp, r, by rw [← h.2]; rfl⟩
    · split at h
      · simp only [Option.some.injEq] at h
        split at h
        · simp only [Except.ok.injEq, Prod.mk.injEq] at h
          exact ⟨by rw [← h.2]; simp, r.dropWhile (fun x => moreB true x.toNat), by rw [← h.2, List.cons_append, List.takeWhile_append_dropWhile]⟩
        · cases h
      · split at h
        · simp only [Option.some.injEq] at h
          split at h
          · simp only [Except.ok.injEq, Prod.mk.injEq] at h
            exact ⟨by rw [← h.2]; simp, r.dropWhile (fun x => moreB false x.toNat), by rw [← h.2, List.cons_append, List.takeWhile_append_dropWhile]⟩
          · cases h
        · simp only [Option.some.injEq] at h; cases h
/-- More than enough rounds change nothing. -/
theorem toksF_more : ∀ (f g : Nat) (r : List UInt8) (i : Nat), r.length < f → f ≤ g → toksF f r i = toksF g r i
  | 0, _, _, _, h, _ => by omega
  | _ + 1, 0, _, _, _, h => by omega
  | f + 1, g + 1, r, i, h, hg => by
    rw [toksF, toksF]
    have hs := skipN_le false r
    cases ht : tokN (r.drop (skipN false r)) with
    | none => rfl
    | some e =>
      cases e with
      | error e => rfl
      | ok p =>
        obtain ⟨q, t⟩ := p
        obtain ⟨h1, r', h2⟩ := tokN_len ht
        have hl := congrArg List.length h2
        rw [List.length_drop, List.length_append] at hl
        have := toksF_more f g (r.drop (skipN false r + t.length)) (i + skipN false r + t.length) (by rw [List.length_drop]; omega) (by omega)
        simp only [this]
end Go.Proofs.YtnfjjckbgnieeaaGreatDoor
