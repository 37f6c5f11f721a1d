/- Numbers as bytes: plain facts, no program in sight: seven bits a byte, the lowest first. -/
import Derived.Test.YtkdeokgkjmboeaaGreatDoorBase
namespace Go.Proofs.YtkdeokgkjmboeaaGreatDoor

/-- A number's bytes: at most f + 1 of them. -/
def numF : Nat → Nat → List UInt8
  | 0, n => [UInt8.ofNat n]
  | f + 1, n => if n < 128 then [UInt8.ofNat n] else UInt8.ofNat (n % 128 + 128) :: numF f (n / 128)
def numL (n : Nat) : List UInt8 := numF 4 n
theorem numF_small {f n : Nat} (h : n < 128) : numF f n = [UInt8.ofNat n] := by
  cases f with
  | zero => rfl
  | succ f => rw [numF, if_pos h]
theorem numF_big {f n : Nat} (h : ¬ n < 128) : numF (f + 1) n = UInt8.ofNat (n % 128 + 128) :: numF f (n / 128) := by rw [numF, if_neg h]
theorem or_more (x : Nat) (h : x < 256) : x ||| 128 = x % 128 + 128 := by
  have : ∀ y < 256, y ||| 128 = y % 128 + 128 := by decide +kernel
  exact this x h
/-- What ReadNumber comes to: f bytes may follow, i were read, their sum; the text that is left. -/
def rdF : Nat → Nat → Nat → List UInt8 → Option (Nat × Nat)
  | 0, _, _, _ => none
  | _ + 1, _, _, [] => none
  | f + 1, i, sum, c :: r =>
    if 128 ≤ c.toNat then rdF f (i + 1) (sum + c.toNat % 128 * 128 ^ i) r
    else if 4294967295 < sum + c.toNat % 128 * 128 ^ i ∨ (0 < i ∧ c.toNat = 0) then none
    else some (sum + c.toNat % 128 * 128 ^ i, i + 1)
def readL (l : List UInt8) : Option (Nat × Nat) := rdF 5 0 0 l

theorem numF_pos (f n : Nat) : 0 < (numF f n).length := by
  cases f with
  | zero => simp [numF]
  | succ f => rw [numF]; split <;> simp
theorem ofNat_low {n : Nat} (h : n < 128) : (UInt8.ofNat n).toNat = n := by rw [UInt8.toNat_ofNat', Nat.mod_eq_of_lt (by omega)]
theorem ofNat_more (n : Nat) : (UInt8.ofNat (n % 128 + 128)).toNat = n % 128 + 128 := by rw [UInt8.toNat_ofNat', Nat.mod_eq_of_lt (by omega)]
/-- What is encoded is read back, whatever follows. -/
theorem rdF_numF (s : List UInt8) : ∀ (f i k sum : Nat), k < 128 ^ (f + 1) → (0 < i → 0 < k) → sum + k * 128 ^ i ≤ 4294967295 →
    rdF (f + 1) i sum (numF f k ++ s) = some (sum + k * 128 ^ i, i + (numF f k).length)
  | 0, i, k, sum, hk, hi, hs => by
    have hk' : k < 128 := by simpa using hk
    rw [numF, List.singleton_append, rdF, ofNat_low hk', if_neg (by omega), Nat.mod_eq_of_lt hk', if_neg (by omega)]
    rfl
  | f + 1, i, k, sum, hk, hi, hs => by
    by_cases h : k < 128
    · rw [numF_small h, List.singleton_append, rdF, ofNat_low h, if_neg (by omega), Nat.mod_eq_of_lt h, if_neg (by omega)]
      rfl
    · have e : k % 128 * 128 ^ i + k / 128 * 128 ^ (i + 1) = k * 128 ^ i := by
        rw [Nat.pow_succ, Nat.mul_comm (128 ^ i) 128, ← Nat.mul_assoc, ← Nat.add_mul]
        congr 1; omega
      rw [numF_big h, List.cons_append, rdF, ofNat_more, if_pos (by omega), show (k % 128 + 128) % 128 = k % 128 from by omega]
      rw [rdF_numF s f (i + 1) (k / 128) (sum + k % 128 * 128 ^ i) (by rw [Nat.pow_succ] at hk; exact Nat.div_lt_of_lt_mul (by rw [Nat.mul_comm]; exact hk)) (fun _ => by omega) (by omega)]
      rw [List.length_cons, Nat.add_assoc sum, e]
      congr 2; omega
theorem read_num (n : Nat) (s : List UInt8) (h : n < 4294967296) : readL (numL n ++ s) = some (n, (numL n).length) := by
  have := rdF_numF s 4 0 n 0 (by show n < 128 ^ 5; omega) (fun h => by omega) (by omega)
  rw [readL, numL, this]
  simp
theorem num_inj {a b : Nat} (ha : a < 4294967296) (hb : b < 4294967296) (h : numL a = numL b) : a = b := by
  have h1 := read_num a [] ha
  rw [h, read_num b [] hb] at h1
  simpa using h1.symm
theorem numF_mono : ∀ (f a b : Nat), a ≤ b → (numF f a).length ≤ (numF f b).length
  | 0, _, _, _ => by simp [numF]
  | f + 1, a, b, h => by
    by_cases hb : b < 128
    · rw [numF_small hb, numF_small (by omega : a < 128)]; simp
    · by_cases ha : a < 128
      · rw [numF_small ha]; exact numF_pos _ _
      · rw [numF_big ha, numF_big hb, List.length_cons, List.length_cons]
        exact Nat.succ_le_succ (numF_mono f _ _ (Nat.div_le_div_right h))
theorem num_mono {a b : Nat} (h : a ≤ b) : (numL a).length ≤ (numL b).length := numF_mono 4 a b h
theorem numF_len : ∀ (f n : Nat), (numF f n).length ≤ f + 1
  | 0, _ => by simp [numF]
  | f + 1, n => by
    by_cases h : n < 128
    · rw [numF_small h]; simp
    · rw [numF_big h, List.length_cons]; have := numF_len f (n / 128); omega
theorem num_len (n : Nat) : (numL n).length ≤ 5 := numF_len 4 n
/-- A byte of 128 or more is not the last one, and the last one is less. -/
theorem numF_byte : ∀ (f n : Nat), n < 128 ^ (f + 1) → ∀ i, (h : i < (numF f n).length) → ((numF f n)[i].toNat < 128 ↔ i + 1 = (numF f n).length)
  | 0, n, hn, i, h => by
    have hn' : n < 128 := by simpa using hn
    have hi : i = 0 := by simpa [numF] using h
    subst hi
    have hl : (numF 0 n).length = 1 := rfl
    have hg : (numF 0 n)[0].toNat = n := ofNat_low hn'
    rw [hg, hl]
    omega
  | f + 1, n, hn, i, h => by
    by_cases hs : n < 128
    · have e := numF_small (f := f + 1) hs
      have hl : (numF (f + 1) n).length = 1 := by rw [e]; rfl
      have hi : i = 0 := by omega
      subst hi
      have hg : (numF (f + 1) n)[0].toNat = n := by simp only [e, List.getElem_cons_zero, ofNat_low hs]
      rw [hg, hl]
      omega
    · have e := numF_big (f := f) hs
      simp only [e] at h ⊢
      cases i with
      | zero =>
        simp only [List.getElem_cons_zero, ofNat_more, List.length_cons]
        have := numF_pos f (n / 128)
        omega
      | succ i =>
        have hi : i < (numF f (n / 128)).length := by simpa using h
        have := numF_byte f (n / 128) (by rw [Nat.pow_succ] at hn; exact Nat.div_lt_of_lt_mul (by rw [Nat.mul_comm]; exact hn)) i hi
        simp only [List.getElem_cons_succ, List.length_cons]
        omega
theorem rdF_more : ∀ (l : List UInt8) (f i sum : Nat), (∀ c ∈ l, 128 ≤ c.toNat) → rdF f i sum l = none
  | [], 0, _, _, _ => rfl
  | [], _ + 1, _, _, _ => rfl
  | _ :: _, 0, _, _, _ => rfl
  | c :: r, f + 1, i, sum, h => by
    rw [rdF, if_pos (h c (by simp))]
    exact rdF_more r f _ _ fun x hx => h x (by simp [hx])
theorem read_cut {n i : Nat} (hn : n < 4294967296) (hi : i < (numL n).length) : readL ((numL n).take i) = none := by
  refine rdF_more _ _ _ _ fun c hc => ?_
  obtain ⟨j, hj, rfl⟩ := List.getElem_of_mem hc
  rw [List.length_take] at hj
  rw [List.getElem_take]
  have := numF_byte 4 n (by show n < 128 ^ 5; omega) j (by have : (numL n).length = (numF 4 n).length := rfl; omega)
  have e : (numL n)[j]'(by omega) = (numF 4 n)[j]'(by have : (numL n).length = (numF 4 n).length := rfl; omega) := rfl
  rw [e]
  have hlen : (numL n).length = (numF 4 n).length := rfl
  omega
end Go.Proofs.YtkdeokgkjmboeaaGreatDoor
