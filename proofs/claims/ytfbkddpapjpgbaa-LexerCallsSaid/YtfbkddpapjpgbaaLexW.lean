/- lexer.All at texts with and without an error; texts that are joined; rows of tokens that are cut. -/
import Derived.Test.YtfbkddpapjpgbaaLexT
import Derived.Test.YtfbkddpapjpgbaaLexL
namespace Go.Proofs.Ytfbkddpapjpgbaa
open Go.RowKit
attribute [local go_sem ↓] run_tokEq

theorem eqK_self (a : Tk) : eqK a a = true := eqK_iff.2 rfl
theorem toksF_count : ∀ (f : Nat) (r : List UInt8) (i : Nat), (toksF f r i).1.length ≤ r.length
  | 0, _, _ => by simp [toksF]
  | f + 1, r, i => by
    rw [toksF]
    cases hk : tokN (r.drop (skipN false r)) with
    | none => simp
    | some x =>
      cases x with
      | error e => simp
      | ok p =>
        obtain ⟨q, u⟩ := p
        obtain ⟨h1, r', h2⟩ := tokN_len hk
        have hl := congrArg List.length h2
        rw [List.length_drop, List.length_append] at hl
        have := toksF_count f (r.drop (skipN false r + u.length)) (i + skipN false r + u.length)
        rw [List.length_drop] at this
        simp only [List.length_cons]
        omega
theorem toksL_count {s : List UInt8} {L : List Tk} {o : Option (Nat × Int)} (h : toksL s = (L, o)) : L.length ≤ s.length := by
  have := toksF_count (s.length + 1) s 0
  rw [show toksF (s.length + 1) s 0 = toksL s from rfl, h] at this
  exact this
def shK (d : Nat) (t : Tk) : Tk := (t.1, t.2.1, d + t.2.2)
/-- Two texts joined by a line end. -/
theorem toksL_join (s t : List UInt8) : toksL (s ++ 10 :: t) = match toksL s with
    | (l, some e) => (l, some e)
    | (l, none) => (l ++ (toksL t).1.map (shK (s.length + 1)), (toksL t).2.map fun e => (s.length + 1 + e.1, e.2)) := by
  have h := toksF_join t (s.length + 1) s 0 ((s ++ 10 :: t).length + 1) (by omega) (by omega)
  have hm : toksF ((s ++ 10 :: t).length + 1) t (0 + s.length + 1) = ((toksL t).1.map (shK (s.length + 1)), (toksL t).2.map fun e => (s.length + 1 + e.1, e.2)) := by
    have h1 := toksF_more (t.length + 1) ((s ++ 10 :: t).length + 1) t (0 + s.length + 1) (by omega) (by simp; omega)
    have h2 := toksF_shift (t.length + 1) t 0 (s.length + 1)
    rw [← h1, show 0 + s.length + 1 = s.length + 1 + 0 by omega, h2]; rfl
  rw [show toksL (s ++ 10 :: t) = toksF ((s ++ 10 :: t).length + 1) (s ++ 10 :: t) 0 from rfl, h, hm]; rfl
theorem all_no {s : List UInt8} {L : List Tk} {a : Nat} {x : Int} (hs : s.length ≤ 65536) (h : toksL s = (L, some (a, x))) (W : World) :
    Calls Try.prog 11 #[.string ⟨s.toArray⟩] W fun e w' => ∃ b c, e = .returned (.tuple #[.slice b 0 c, .int .i64 (a : Int), .int .i64 x]) ∧ Since W w' := by
  have ha : allL s = ([], a, x) := by rw [allL, if_neg (by omega), h]
  have hk := all_any s W (by unfold maxLen; omega)
  unfold AllPost at hk
  rw [ha] at hk
  refine hk.mono fun e w' ⟨v, he, ho, hS⟩ => ?_
  obtain ⟨b, c, rfl⟩ := (own_row ho).len
  exact ⟨b, c, he, hS⟩
theorem all_yes {s : List UInt8} {L : List Tk} (hs : s.length ≤ 65536) (h : toksL s = (L, none)) (W : World) :
    Calls Try.prog 11 #[.string ⟨s.toArray⟩] W fun e w' => ∃ a c, e = .returned (.tuple #[.slice a L.length c, .int .i64 0, .int .i64 0]) ∧ L.length ≤ c ∧ Row w' (.slice a L.length c) L.length (L.flatMap tkL) ∧ Since W w' := by
  have ha : allL s = (L, 0, 0) := by rw [allL, if_neg (by omega), h]
  have hk := all_any s W (by unfold maxLen; omega)
  unfold AllPost at hk
  rw [ha] at hk
  refine hk.mono fun e w' ⟨v, he, ho, hS⟩ => ?_
  have hr := own_row ho
  rcases id hr with ⟨rfl, h0, _⟩ | ⟨b, o, c, rfl, hc, _⟩
  · rw [h0] at hr ⊢
    exact ⟨none, 0, he, Nat.le_refl _, hr, hS⟩
  · exact ⟨_, c, he, hc, hr, hS⟩

/-- 'l[:m]'. -/
theorem run_cutK (a : Option Addr) (n c m : Nat) (hm : m ≤ n) (hc : n ≤ c) (W : World) : (Instr.slice 26 (.slice a n c) none (some (.int .i64 m)) none).run Try.prog W = .ok (.slice a m c) W := by
  have h1 : (m : Int) ≤ (c : Int) := by omega
  go_simp
theorem row_cut {W : World} {a : Option Addr} {n c m : Nat} {L M : List Tk} (h : Row W (.slice a n c) n ((L ++ M).flatMap tkL)) (hn : n = L.length + M.length) (hm : m = L.length) (hnc : n ≤ c) : Row W (.slice a m c) m (L.flatMap tkL) := by
  subst hm
  rcases h with ⟨h1, h2, h3⟩ | ⟨b, o, c', h1, h2, h3⟩
  · injection h1 with ha hn' hc'
    subst ha
    have hL : L = [] := List.eq_nil_of_length_eq_zero (by omega)
    subst hL
    exact .inl ⟨by simp; omega, rfl, rfl⟩
  · injection h1 with ha _ hc'
    subst ha hc'
    refine .inr ⟨b, o, c, rfl, by omega, fun j hj => ?_⟩
    have := h3 j (by rw [List.flatMap_append, List.length_append]; omega)
    rw [this]
    simp only [List.flatMap_append, List.getElem_append_left hj]

end Go.Proofs.Ytfbkddpapjpgbaa
