/- Bytes read back: numbers, texts, atoms, steps, derivations; no program in sight. -/
import Derived.Test.YtkdeokgkjmboeaaGreatDoorCertP
namespace Go.Proofs.YtkdeokgkjmboeaaGreatDoor
open Go.RowKit

theorem rdF_back : ∀ (f i sum : Nat) (l : List UInt8) (n k : Nat), rdF f i sum l = some (n, k) → ∃ m r, l = numF (f - 1) m ++ r ∧ n = sum + m * 128 ^ i ∧ k = i + (numF (f - 1) m).length ∧ (0 < i → 0 < m) ∧ n ≤ 4294967295
  | 0, _, _, _, _, _, h => by simp [rdF] at h
  | f + 1, _, _, [], _, _, h => by simp [rdF] at h
  | f + 1, i, sum, c :: r, n, k, h => by
    rw [rdF] at h
    have hc := c.toNat_lt
    split at h
    · rename_i h128
      cases f with
      | zero => simp [rdF] at h
      | succ f =>
        obtain ⟨m, r', h1, h2, h3, h4, h5⟩ := rdF_back (f + 1) (i + 1) _ r n k h
        have hm := h4 (by omega)
        rw [show f + 1 - 1 = f from rfl] at h1 h3
        refine ⟨c.toNat % 128 + m * 128, r', ?_, ?_, ?_, fun _ => by omega, h5⟩
        · rw [show f + 1 + 1 - 1 = f + 1 from rfl, numF_big (by omega), show (c.toNat % 128 + m * 128) % 128 = c.toNat % 128 by omega, show (c.toNat % 128 + m * 128) / 128 = m by omega, show c.toNat % 128 + 128 = c.toNat by omega, UInt8.ofNat_toNat, List.cons_append, ← h1]
        · rw [h2, Nat.add_mul, Nat.pow_succ, ← Nat.mul_assoc, Nat.mul_right_comm m 128 (128 ^ i), ← Nat.add_assoc]
        · rw [h3, show f + 1 + 1 - 1 = f + 1 from rfl, numF_big (by omega), show (c.toNat % 128 + m * 128) / 128 = m by omega, List.length_cons]; omega
    · rename_i h128
      split at h
      · cases h
      · rename_i hno
        injection h with h
        injection h with h1 h2
        have hm : c.toNat % 128 = c.toNat := by omega
        rw [hm] at h1 hno
        refine ⟨c.toNat, r, ?_, h1.symm, ?_, fun hi => ?_, by omega⟩
        · rw [numF_small (by omega), UInt8.ofNat_toNat]; rfl
        · rw [numF_small (by omega)]; simp; omega
        · have := fun h0 => hno (.inr ⟨hi, h0⟩)
          omega
/-- A number that is read, and what is left. -/
def numP (l : List UInt8) : Option (Nat × List UInt8) := match readL l with | none => none | some (n, k) => some (n, l.drop k)
theorem numP_enc {n : Nat} (h : n < 4294967296) (r : List UInt8) : numP (numL n ++ r) = some (n, r) := by
  rw [numP, read_num n r h]; simp
theorem numP_back {l r : List UInt8} {n : Nat} (h : numP l = some (n, r)) : n < 4294967296 ∧ l = numL n ++ r := by
  rw [numP] at h
  cases hr : readL l with
  | none => rw [hr] at h; cases h
  | some p =>
    obtain ⟨m, k⟩ := p
    rw [hr] at h
    injection h with h
    injection h with h1 h2
    subst h1
    obtain ⟨q, r', e1, e2, e3, _, e5⟩ := rdF_back 5 0 0 l m k hr
    have hq : q = m := by rw [e2]; simp
    subst hq
    refine ⟨by omega, ?_⟩
    have e1' : l = numL q ++ r' := e1
    have e3' : k = (numL q).length := by rw [e3, Nat.zero_add]; rfl
    rw [e1', e3', List.drop_left] at h2
    rw [e1', h2]
def textP (l : List UInt8) : Option (List UInt8 × List UInt8) := match numP l with | none => none | some (n, r) => if n ≤ r.length then some (r.take n, r.drop n) else none
theorem textP_enc {s : List UInt8} (h : s.length < 4294967296) (r : List UInt8) : textP (textB s ++ r) = some (s, r) := by
  rw [textP, textB, List.append_assoc, numP_enc h]
  simp
theorem textP_back {l s r : List UInt8} (h : textP l = some (s, r)) : s.length < 4294967296 ∧ l = textB s ++ r := by
  rw [textP] at h
  cases hn : numP l with
  | none => rw [hn] at h; cases h
  | some p =>
    obtain ⟨n, r'⟩ := p
    rw [hn] at h
    obtain ⟨h1, h2⟩ := numP_back hn
    simp only at h
    split at h
    · rename_i hle
      injection h with h
      injection h with h3 h4
      have hl : s.length = n := by rw [← h3, List.length_take]; omega
      refine ⟨by omega, ?_⟩
      rw [textB, hl, List.append_assoc, ← h3, ← h4, List.take_append_drop, h2]
    · cases h
def flagP : List UInt8 → Option (Bool × List UInt8)
  | [] => none
  | c :: r => if c.toNat ≤ 1 then some (c == 1, r) else none
theorem flagP_enc (v : Bool) (r : List UInt8) : flagP (markB v ++ r) = some (v, r) := by cases v <;> rfl
theorem flagP_back {l r : List UInt8} {v : Bool} (h : flagP l = some (v, r)) : l = markB v ++ r := by
  cases l with
  | nil => simp [flagP] at h
  | cons c r' =>
    rw [flagP] at h
    split at h
    · rename_i hc
      injection h with h
      injection h with h1 h2
      subst h1 h2
      by_cases h0 : c = 1
      · subst h0; rfl
      · have : c = 0 := by
          have h1 : c.toNat ≠ 1 := fun e => h0 (UInt8.toNat_inj.1 e)
          exact UInt8.toNat_inj.1 (show c.toNat = 0 by omega)
        subst this; rfl
    · cases h
def nameP (l : List UInt8) : Option (Tm × List UInt8) := match flagP l with | none => none | some (v, r) => match textP r with | none => none | some (s, q) => some ((v, s), q)
theorem nameP_enc {t : Tm} (h : t.2.length < 4294967296) (r : List UInt8) : nameP (nameB t ++ r) = some (t, r) := by
  rw [nameP, nameB, List.append_assoc, flagP_enc]
  simp only [textP_enc h]
theorem nameP_back {l r : List UInt8} {t : Tm} (h : nameP l = some (t, r)) : t.2.length < 4294967296 ∧ l = nameB t ++ r := by
  rw [nameP] at h
  cases hf : flagP l with
  | none => rw [hf] at h; cases h
  | some p =>
    obtain ⟨v, q⟩ := p
    rw [hf] at h
    simp only at h
    cases ht : textP q with
    | none => rw [ht] at h; cases h
    | some p =>
      obtain ⟨s, q'⟩ := p
      rw [ht] at h
      injection h with h
      injection h with h1 h2
      subst h1 h2
      obtain ⟨h3, h4⟩ := textP_back ht
      exact ⟨h3, by rw [flagP_back hf, h4, nameB, List.append_assoc]⟩
/-- So many things, one behind the other. -/
def manyP {α : Type} (p : List UInt8 → Option (α × List UInt8)) : Nat → List UInt8 → Option (List α × List UInt8)
  | 0, l => some ([], l)
  | n + 1, l => match p l with | none => none | some (x, r) => match manyP p n r with | none => none | some (L, q) => some (x :: L, q)
theorem manyP_enc {α : Type} {p : List UInt8 → Option (α × List UInt8)} {enc : α → List UInt8} : ∀ (L : List α), (∀ x ∈ L, ∀ r, p (enc x ++ r) = some (x, r)) → ∀ r, manyP p L.length (L.flatMap enc ++ r) = some (L, r)
  | [], _, r => rfl
  | x :: L, h, r => by
    rw [List.length_cons, manyP, List.flatMap_cons, List.append_assoc, h x (by simp)]
    simp only [manyP_enc L (fun y hy => h y (by simp [hy])) r]
theorem manyP_back {α : Type} {p : List UInt8 → Option (α × List UInt8)} {enc : α → List UInt8} {Q : α → Prop} (hp : ∀ l x r, p l = some (x, r) → Q x ∧ l = enc x ++ r) : ∀ (n : Nat) (l : List UInt8) (L : List α) (r : List UInt8), manyP p n l = some (L, r) → L.length = n ∧ (∀ x ∈ L, Q x) ∧ l = L.flatMap enc ++ r
  | 0, l, L, r, h => by
    rw [manyP] at h
    injection h with h
    injection h with h1 h2
    subst h1 h2
    exact ⟨rfl, by simp, rfl⟩
  | n + 1, l, L, r, h => by
    rw [manyP] at h
    cases hx : p l with
    | none => rw [hx] at h; cases h
    | some y =>
      obtain ⟨x, q⟩ := y
      rw [hx] at h
      simp only at h
      cases hm : manyP p n q with
      | none => rw [hm] at h; cases h
      | some y =>
        obtain ⟨M, q'⟩ := y
        rw [hm] at h
        injection h with h
        injection h with h1 h2
        subst h1 h2
        obtain ⟨e1, e2, e3⟩ := manyP_back hp n q M q' hm
        obtain ⟨e4, e5⟩ := hp l x q hx
        exact ⟨by rw [List.length_cons, e1], by intro z hz; rcases List.mem_cons.1 hz with rfl | hz; exact e4; exact e2 z hz, by rw [List.flatMap_cons, List.append_assoc, ← e3, e5]⟩
end Go.Proofs.YtkdeokgkjmboeaaGreatDoor
