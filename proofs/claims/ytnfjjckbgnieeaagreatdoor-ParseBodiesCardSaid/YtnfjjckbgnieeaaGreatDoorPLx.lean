/- Tokens of texts that are written token by token, with what is passed over between them. No program's function in sight. -/
import Derived.Test.YtnfjjckbgnieeaaGreatDoorLexQ
import Derived.Test.YtnfjjckbgnieeaaGreatDoorPaP
namespace Go.Proofs.YtnfjjckbgnieeaaGreatDoor
open Go.RowKit

/-- What is passed over whole. -/
def SepOk (x : Txt) : Prop := ∀ r, skipN false (x ++ r) = x.length + skipN false r
/-- A token's kind and text, and what stands behind it. -/
abbrev Wd := Int × Txt × Txt
def glue : List Wd → Txt
  | [] => []
  | w :: r => w.2.1 ++ (w.2.2 ++ glue r)
def headEnds : Txt → Prop
  | [] => True
  | d :: _ => Ends d
def Wds : List Wd → Prop
  | [] => True
  | w :: r => WordT w.1 w.2.1 ∧ SepOk w.2.2 ∧ (w.1 = 3 ∨ headEnds (w.2.2 ++ glue r)) ∧ Wds r
def toksW : List Wd → Nat → List Tk
  | [], _ => []
  | w :: r, i => (w.1, w.2.1, i) :: toksW r (i + w.2.1.length + w.2.2.length)
theorem sep_nil : SepOk [] := fun r => by simp
theorem sep_blank {c : UInt8} (h : blankB c.toNat = true) {x : Txt} (hx : SepOk x) : SepOk (c :: x) := fun r => by
  rw [List.cons_append, skipN, if_pos h, hx r, List.length_cons]; omega
theorem sep_32 : SepOk [32] := sep_blank (by decide) sep_nil
theorem sep_10 : SepOk [10] := sep_blank (by decide) sep_nil
theorem toksF_sep {x : Txt} (hx : SepOk x) (f : Nat) (r : Txt) (i : Nat) : toksF f (x ++ r) i = toksF f r (i + x.length) := by
  cases f with
  | zero => rfl
  | succ f =>
    rw [toksF, toksF, hx r]
    have e : ∀ k, (x ++ r).drop (x.length + k) = r.drop k := fun k => by rw [← List.drop_drop, List.drop_left]
    simp only [Nat.add_assoc, e]
theorem word_three {t : Txt} (h : WordT 3 t) : ∃ c, t = [c] ∧ signB c.toNat = true := by
  obtain ⟨h1, _, h3⟩ := h
  cases t with
  | nil => exact absurd rfl h3
  | cons c r =>
    simp only [tokN] at h1
    split at h1
    · next hs =>
      simp only [Option.some.injEq, Except.ok.injEq, Prod.mk.injEq, List.cons.injEq, true_and] at h1
      exact ⟨c, by rw [← h1], hs⟩
    · split at h1
      · simp only [Option.some.injEq] at h1
        split at h1
        · simp at h1
        · cases h1
      · split at h1
        · simp only [Option.some.injEq] at h1
          split at h1
          · simp at h1
          · cases h1
        · cases h1
theorem tok_glued {q : Int} {t r : Txt} (h : WordT q t) (he : q = 3 ∨ headEnds r) : tokN (t ++ r) = some (.ok (q, t)) := by
  rcases he with rfl | he
  · obtain ⟨c, rfl, hs⟩ := word_three h
    exact tokN_sign hs
  · cases r with
    | nil => rw [List.append_nil]; exact h.1
    | cons d r => rw [tokN_join he h.2.2]; exact h.1
theorem toksF_glue : ∀ (L : List Wd) (f i : Nat), Wds L → L.length < f → toksF f (glue L) i = (toksW L i, none)
  | [], f, i, _, _ => toksF_nil f i
  | w :: r, 0, i, _, h => by simp at h
  | w :: r, f + 1, i, hw, h => by
    obtain ⟨h1, h2, h3, h4⟩ := hw
    rw [glue, toksF, h1.2.1, List.drop_zero, tok_glued h1 h3]
    simp only [Nat.zero_add, Nat.add_zero, List.drop_left]
    rw [toksF_sep h2, toksF_glue r f _ h4 (by rw [List.length_cons] at h; omega)]
    rfl
theorem glue_len : ∀ (L : List Wd), Wds L → L.length ≤ (glue L).length
  | [], _ => Nat.zero_le _
  | w :: r, h => by
    obtain ⟨h1, _, _, h4⟩ := h
    have := glue_len r h4
    have h0 := List.length_pos_iff.2 h1.2.2
    rw [glue, List.length_append, List.length_append, List.length_cons]
    omega
theorem toksL_glue {L : List Wd} (h : Wds L) : toksL (glue L) = (toksW L 0, none) := toksF_glue L _ 0 h (by have := glue_len L h; omega)
theorem allL_glue {L : List Wd} (h : Wds L) (hs : (glue L).length ≤ 65536) : allL (glue L) = (toksW L 0, 0, 0) := by
  unfold allL
  rw [if_neg (by omega), toksL_glue h]
theorem toksW_txts : ∀ (L : List Wd) (i : Nat), txtsK (toksW L i) = L.map (·.2.1)
  | [], _ => rfl
  | w :: r, i => by
    have := toksW_txts r (i + w.2.1.length + w.2.2.length)
    unfold txtsK at this ⊢
    rw [toksW, List.map_cons, this, List.map_cons]
theorem glue_append : ∀ (A B : List Wd), glue (A ++ B) = glue A ++ glue B
  | [], B => rfl
  | w :: r, B => by rw [List.cons_append, glue, glue, glue_append r B]; simp
/-- Where a written text begins with a sign, or with what is passed over, a word may stand ahead of it. -/
theorem allL_none {s : Txt} {L : List Tk} (hs : s.length ≤ 65536) (h : toksL s = (L, none)) : allL s = (L, 0, 0) := by
  unfold allL
  rw [if_neg (by omega), h]
theorem allL_some {s : Txt} {L : List Tk} {a : Nat} {e : Int} (hs : s.length ≤ 65536) (h : toksL s = (L, some (a, e))) : allL s = ([], a, e) := by
  unfold allL
  rw [if_neg (by omega), h]
end Go.Proofs.YtnfjjckbgnieeaaGreatDoor
