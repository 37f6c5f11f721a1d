/- Numbers of at most seven digits, in plain words: what Atoi, Trim and Itoa say of a text. No program's function in sight. -/
import Derived.Test.YtnfjjckbgnieeaaGreatDoorVPaP
import Derived.Test.YtnfjjckbgnieeaaGreatDoorVMkP
import Derived.Lib.AtoiAll
import Derived.Lib.SlTrimSet
namespace Go.Proofs.YtnfjjckbgnieeaaGreatDoor
open Go.RowKit

theorem dw_nil {α : Type} {p : α → Bool} : ∀ {l : List α}, l.dropWhile p = [] ↔ ∀ x ∈ l, p x = true
  | [] => by simp
  | y :: r => by
    rw [List.dropWhile_cons]
    cases h : p y with
    | true => rw [if_pos rfl, dw_nil]; simp [h]
    | false => rw [if_neg (by decide)]; simp [h]
def digsL : List UInt8 := [48, 49, 50, 51, 52, 53, 54, 55, 56, 57]
theorem digs_has (c : UInt8) : digsL.contains c = digitB c.toNat := by
  have h : ∀ n : Nat, n < 256 → digsL.contains (UInt8.ofNat n) = digitB ((UInt8.ofNat n).toNat : Int) := by decide +kernel
  have := h c.toNat c.toNat_lt
  rwa [UInt8.ofNat_toNat] at this
theorem trim_nil (s : Txt) : Lib.trimS s digsL = [] ↔ s.all (fun c => digitB c.toNat) = true := by
  unfold Lib.trimS Lib.trimLeftS Lib.trimRightS
  have hp : (fun x => digsL.contains x) = fun c : UInt8 => digitB c.toNat := funext digs_has
  rw [hp, List.all_eq_true]
  constructor
  · intro h x hx
    rw [dw_nil] at h
    by_cases hd : digitB x.toNat = true
    · exact hd
    · have h1 : x ∈ s.reverse := List.mem_reverse.2 hx
      have h2 : s.reverse = s.reverse.takeWhile (fun c => digitB c.toNat) ++ s.reverse.dropWhile (fun c => digitB c.toNat) := (List.takeWhile_append_dropWhile).symm
      rw [h2] at h1
      rcases List.mem_append.1 h1 with h1 | h1
      · exact (List.all_eq_true.1 (List.all_takeWhile (p := fun c : UInt8 => digitB c.toNat) (l := s.reverse)) x h1)
      · exact h x (List.mem_reverse.2 h1)
  · intro h
    rw [dw_nil]
    intro x hx
    have h1 : s.reverse.dropWhile (fun c => digitB c.toNat) = [] := by
      rw [dw_nil]
      exact fun y hy => h y (List.mem_reverse.1 hy)
    rw [h1] at hx
    cases hx
theorem dig_bounds {c : UInt8} (h : digitB c.toNat = true) : 48 ≤ c.toNat ∧ c.toNat ≤ 57 := by
  unfold digitB at h
  rw [Bool.and_eq_true] at h
  have h1 := of_decide_eq_true h.1
  have h2 := of_decide_eq_true h.2
  omega
theorem parse_digits : ∀ (l : Txt) (acc a : Nat), l.all (fun c => digitB c.toNat) = true → acc + 1 ≤ 10 ^ a → a + l.length ≤ 17 → Lib.parseUint10 acc l = .ok (l.foldl (fun n c => 10 * n + (c.toNat - 48)) acc)
  | [], acc, a, _, _, _ => rfl
  | c :: r, acc, a, h, h1, h2 => by
    rw [List.all_cons, Bool.and_eq_true] at h
    have hb := dig_bounds h.1
    rw [List.length_cons] at h2
    have h3 : (10 : Nat) ^ a ≤ 10 ^ 16 := Nat.pow_le_pow_right (by omega) (by omega)
    have e16 : (10 : Nat) ^ 16 = 10000000000000000 := by decide
    rw [Lib.parseUint10, if_pos hb, if_neg (by omega), if_neg (by omega), List.foldl_cons, show acc * 10 + (c.toNat - 48) = 10 * acc + (c.toNat - 48) by omega]
    exact parse_digits r _ (a + 1) h.2 (by rw [Nat.pow_succ]; omega) (by omega)
theorem atoi_ok {s : Txt} (h : s.all (fun c => digitB c.toNat) = true) (h0 : s ≠ []) (h7 : s.length ≤ 7) : Lib.atoiAll s = .ok ((numV s : Nat) : Int) := by
  cases s with
  | nil => exact absurd rfl h0
  | cons c r =>
    have hb := dig_bounds (List.all_eq_true.1 h c (List.mem_cons_self ..))
    have hp := parse_digits (c :: r) 0 0 h (by omega) (by omega)
    unfold Lib.atoiAll
    simp only
    rw [if_neg (by omega), Lib.parseMag, if_neg (by simp), hp]
    have hn : (c :: r).foldl (fun n c => 10 * n + (c.toNat - 48)) 0 = numV (c :: r) := rfl
    rw [hn]
    have hv : ∀ (l : Txt) (acc a : Nat), l.all (fun c => digitB c.toNat) = true → acc + 1 ≤ 10 ^ a → l.foldl (fun n c => 10 * n + (c.toNat - 48)) acc + 1 ≤ 10 ^ (a + l.length) := by
      intro l
      induction l with
      | nil => intro acc a _ h; exact h
      | cons x q ih =>
        intro acc a hq hh
        rw [List.all_cons, Bool.and_eq_true] at hq
        have hx := dig_bounds hq.1
        rw [List.foldl_cons, List.length_cons, show a + (q.length + 1) = (a + 1) + q.length by omega]
        exact ih _ (a + 1) hq.2 (by rw [Nat.pow_succ]; omega)
    have h8 := hv (c :: r) 0 0 h (by omega)
    have h9 : (10 : Nat) ^ (0 + (c :: r).length) ≤ 10 ^ 7 := Nat.pow_le_pow_right (by omega) (by omega)
    rw [hn] at h8
    have e7 : (10 : Nat) ^ 7 = 10000000 := by decide
    simp only
    rw [if_neg (by omega), if_neg (by omega), if_neg (by omega)]
theorem numV_snoc (l : Txt) (c : UInt8) : numV (l ++ [c]) = 10 * numV l + (c.toNat - 48) := by
  unfold numV
  rw [List.foldl_append]; rfl
theorem numV_pos {c : UInt8} {r : Txt} (hc : 48 < c.toNat) : 0 < numV (c :: r) := by
  have : ∀ (l : Txt) (acc : Nat), 0 < acc → 0 < l.foldl (fun n c => 10 * n + (c.toNat - 48)) acc := by
    intro l
    induction l with
    | nil => intro acc h; exact h
    | cons x q ih =>
      intro acc h
      rw [List.foldl_cons]
      exact ih (10 * acc + (x.toNat - 48)) (by omega)
  exact this r (10 * 0 + (c.toNat - 48)) (by omega)
theorem u8_back {c : UInt8} (h : 48 ≤ c.toNat) : UInt8.ofNat (48 + (c.toNat - 48)) = c := by
  rw [show 48 + (c.toNat - 48) = c.toNat by omega, UInt8.ofNat_toNat]
/-- Digits without a nought ahead are the numeral of their number. -/
theorem dec_numV : ∀ (k : Nat) (s : Txt), s.length = k → s ≠ [] → s.all (fun c => digitB c.toNat) = true → (s.length = 1 ∨ s.head? ≠ some 48) → Lib.decDigits (numV s) = s := by
  intro k
  induction k with
  | zero => intro s h h0; exact absurd (List.eq_nil_of_length_eq_zero h) h0
  | succ k ih =>
    intro s hk h0 hd hz
    obtain ⟨l, c, rfl⟩ : ∃ l c, s = l ++ [c] := ⟨s.dropLast, s.getLast h0, (List.dropLast_concat_getLast h0).symm⟩
    rw [List.all_append, Bool.and_eq_true] at hd
    have hb := dig_bounds (List.all_eq_true.1 hd.2 c (List.mem_cons_self ..))
    rw [numV_snoc]
    cases l with
    | nil =>
      rw [show numV [] = 0 from rfl, Lib.decDigits, dif_pos (by omega), show 10 * 0 + (c.toNat - 48) = c.toNat - 48 by omega, u8_back hb.1]
      rfl
    | cons x q =>
      have hx := dig_bounds (List.all_eq_true.1 hd.1 x (List.mem_cons_self ..))
      have hne : x ≠ 48 := by
        rcases hz with hz | hz
        · simp at hz
        · intro e; exact hz (by rw [e]; rfl)
      have hx2 : 48 < x.toNat := by
        rcases Nat.lt_or_ge 48 x.toNat with h | h
        · exact h
        · exact absurd (UInt8.toNat_inj.1 (show x.toNat = (48 : UInt8).toNat by show _ = 48; omega)) hne
      have hp := numV_pos (r := q) hx2
      rw [Lib.decDigits, dif_neg (by omega), show (10 * numV (x :: q) + (c.toNat - 48)) / 10 = numV (x :: q) by omega, show (10 * numV (x :: q) + (c.toNat - 48)) % 10 = c.toNat - 48 by omega, u8_back hb.1,
        ih (x :: q) (by simp at hk ⊢; omega) (by simp) hd.1 (.inr (by intro e; injection e with e; exact hne e))]
theorem dec_head (v : Nat) : (Lib.decDigits v).length = 1 ∨ (Lib.decDigits v).head? ≠ some 48 := by
  induction v using Nat.strongRecOn with
  | _ v ih =>
    rw [Lib.decDigits]
    by_cases h : v < 10
    · rw [dif_pos h]; exact .inl rfl
    · rw [dif_neg h]
      right
      have hne : Lib.decDigits (v / 10) ≠ [] := digits_some _
      obtain ⟨x, q, e⟩ : ∃ x q, Lib.decDigits (v / 10) = x :: q := by
        cases hh : Lib.decDigits (v / 10) with
        | nil => exact absurd hh hne
        | cons x q => exact ⟨x, q, rfl⟩
      rcases ih (v / 10) (by omega) with h1 | h1
      · rw [e] at h1 ⊢
        simp at h1
        subst h1
        by_cases h2 : v / 10 < 10
        · rw [Lib.decDigits, dif_pos h2] at e
          have hx : x = UInt8.ofNat (48 + v / 10) := by injection e with e _; exact e.symm
          have h3 : v / 10 = 1 ∨ v / 10 = 2 ∨ v / 10 = 3 ∨ v / 10 = 4 ∨ v / 10 = 5 ∨ v / 10 = 6 ∨ v / 10 = 7 ∨ v / 10 = 8 ∨ v / 10 = 9 := by omega
          show some x ≠ some 48
          rw [hx]
          rcases h3 with h3 | h3 | h3 | h3 | h3 | h3 | h3 | h3 | h3 <;> (rw [h3]; decide)
        · rw [Lib.decDigits, dif_neg h2] at e
          have hl := congrArg List.length e
          have h5 := digits_some (v / 10 / 10)
          have : 0 < (Lib.decDigits (v / 10 / 10)).length := List.length_pos_iff.2 h5
          rw [List.length_append, List.length_singleton, List.length_singleton] at hl
          omega
      · rw [e] at h1 ⊢
        exact h1
/-- What the reading of a number comes to, by Atoi's end. -/
def numP (s : Txt) : Bool := match Lib.atoiAll s with
  | .ok v => decide (s.length ≤ 7) && decide (Lib.trimS s digsL = []) && decide (Lib.itoa v = s)
  | _ => false
theorem numP_eq (s : Txt) : numP s = numB s := by
  unfold numP
  cases h0 : decide (0 < s.length) with
  | false =>
    have : s = [] := by
      have := of_decide_eq_false h0
      exact List.eq_nil_of_length_eq_zero (by omega)
    subst this
    rfl
  | true =>
    have hne : s ≠ [] := by have := of_decide_eq_true h0; intro e; rw [e] at this; simp at this
    unfold numB
    rw [h0]
    cases h7 : decide (s.length ≤ 7) with
    | false => cases Lib.atoiAll s <;> simp
    | true =>
      have h7' := of_decide_eq_true h7
      cases hd : s.all (fun c => digitB c.toNat) with
      | false =>
        have : ¬ Lib.trimS s digsL = [] := fun h => by rw [trim_nil, hd] at h; cases h
        cases Lib.atoiAll s <;> simp [this]
      | true =>
        have ht : Lib.trimS s digsL = [] := (trim_nil s).2 hd
        rw [atoi_ok hd hne h7']
        have hi : Lib.itoa ((numV s : Nat) : Int) = Lib.decDigits (numV s) := by
          unfold Lib.itoa
          rw [if_neg (by omega)]
          simp
        simp only [hi, ht, decide_true, Bool.true_and]
        by_cases hz : s.length = 1 ∨ s.head? ≠ some 48
        · have := dec_numV s.length s rfl hne hd hz
          rw [decide_eq_true this]
          rcases hz with hz | hz
          · rw [decide_eq_true hz]; rfl
          · rw [decide_eq_false hz]; simp
        · have h1 : ¬ Lib.decDigits (numV s) = s := fun e => hz (e ▸ dec_head (numV s))
          rw [decide_eq_false h1]
          have h2 : ¬ s.length = 1 := fun e => hz (.inl e)
          have h3 : s.head? = some 48 := by
            cases hh : decide (s.head? = some 48) with
            | true => exact of_decide_eq_true hh
            | false => exact absurd (.inr (of_decide_eq_false hh)) hz
          rw [decide_eq_false h2, decide_eq_true h3]; rfl
theorem numB_atoi {s : Txt} (h : numB s = true) : Lib.atoiAll s = .ok ((numV s : Nat) : Int) ∧ s.length ≤ 7 := by
  unfold numB at h
  simp only [Bool.and_eq_true] at h
  obtain ⟨⟨⟨h1, h2⟩, h3⟩, _⟩ := h
  have h1 := of_decide_eq_true h1
  exact ⟨atoi_ok h3 (by intro e; rw [e] at h1; simp at h1) (of_decide_eq_true h2), of_decide_eq_true h2⟩
end Go.Proofs.YtnfjjckbgnieeaaGreatDoor
