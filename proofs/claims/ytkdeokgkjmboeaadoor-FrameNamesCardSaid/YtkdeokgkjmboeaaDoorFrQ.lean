/- What ReadResponse comes to: plain facts, no program in sight. -/
import Derived.Test.YtkdeokgkjmboeaaDoorFrH
namespace Go.Proofs.YtkdeokgkjmboeaaDoor
open Go.RowKit

/-- The answers' loop. -/
def atomsF : Nat → List UInt8 → Bool → List Atm × List UInt8 × Bool
  | 0, s, b => ([], s, b)
  | m + 1, s, b => if b then ([], s, true) else
    ((atomF s false).1 :: (atomsF m (atomF s false).2.1 (atomF s false).2.2).1, (atomsF m (atomF s false).2.1 (atomF s false).2.2).2)
theorem atomsF_bad (m : Nat) (s : List UInt8) : atomsF m s true = ([], s, true) := by cases m <;> rfl
theorem atomsF_succ (m : Nat) (s : List UInt8) : atomsF (m + 1) s false = ((atomF s false).1 :: (atomsF m (atomF s false).2.1 (atomF s false).2.2).1, (atomsF m (atomF s false).2.1 (atomF s false).2.2).2) := by rw [atomsF, if_neg (by simp)]
theorem atomF_le (s : List UInt8) (b : Bool) : (atomF s b).2.1.length ≤ s.length := by
  unfold atomF
  split
  · exact Nat.le_refl _
  · split
    · exact Nat.le_refl _
    · simp only [List.length_drop]; omega
theorem atomB_pos (a : Atm) : 1 ≤ (atomB a).length := by
  have := num_pos a.1.length
  unfold atomB textB
  simp only [List.length_append]
  omega
theorem atomF_less {s : List UInt8} (h : (atomF s false).2.2 = false) : (atomF s false).2.1.length + 1 ≤ s.length := by
  have he : atomF s false = ((atomF s false).1, (atomF s false).2.1, false) := Prod.ext rfl (Prod.ext rfl h)
  have h2 := congrArg List.length (atomF_some he).2
  rw [List.length_append] at h2
  have := atomB_pos (atomF s false).1
  omega
theorem atomF_light (s : List UInt8) (b : Bool) : lightB (atomF s b).1 = true := by
  have hz : lightB zeroAtm = true := by decide
  unfold atomF
  split
  · exact hz
  · split
    · exact hz
    · rename_i h
      exact valid_light (atomS_valid (by simpa using h))
theorem atomsF_enc : ∀ (L : List Atm), (∀ a ∈ L, checkA a = 0) → ∀ r, atomsF L.length (L.flatMap atomB ++ r) false = (L, r, false)
  | [], _, r => rfl
  | a :: q, h, r => by
    rw [List.length_cons, atomsF_succ, List.flatMap_cons, List.append_assoc, atomF_enc (h a (by simp))]
    simp only [atomsF_enc q (fun x hx => h x (by simp [hx])) r]
theorem atomsF_some : ∀ (m : Nat) (s : List UInt8) (L : List Atm) (r : List UInt8), atomsF m s false = (L, r, false) → L.length = m ∧ s = L.flatMap atomB ++ r
  | 0, s, L, r, h => by
    simp only [atomsF, Prod.mk.injEq] at h
    obtain ⟨rfl, rfl, _⟩ := h
    exact ⟨rfl, rfl⟩
  | m + 1, s, L, r, h => by
    rw [atomsF_succ] at h
    simp only [Prod.mk.injEq] at h
    obtain ⟨h1, h2⟩ := h
    cases hb : (atomF s false).2.2
    · rw [hb] at h1 h2
      have he : atomF s false = ((atomF s false).1, (atomF s false).2.1, false) := Prod.ext rfl (Prod.ext rfl hb)
      have h3 := (atomF_some he).2
      have h4 := atomsF_some m (atomF s false).2.1 (atomsF m (atomF s false).2.1 false).1 r (Prod.ext rfl h2)
      rw [← h1]
      refine ⟨by rw [List.length_cons, h4.1], ?_⟩
      rw [List.flatMap_cons, List.append_assoc, ← h4.2]
      exact h3
    · rw [hb, atomsF_bad] at h2
      simp at h2
/-- What stands behind the first byte of an answers' response. -/
def restF (s1 : List UInt8) (b1 : Bool) : Bool × List Atm × List UInt8 × List UInt8 × Bool :=
  let c := oneF s1 b1
  let n := nmF c.2.1 (c.2.2 || decide (1 < c.1))
  let A := atomsF n.1 n.2.1 n.2.2
  let m := nmF A.2.1 A.2.2
  let t := takeF m.2.1 m.2.2 m.1
  (c.1 == 1, A.1, t.1, t.2.1, t.2.2)
def partsF (s : List UInt8) : Rsp × List UInt8 × Bool :=
  let k := oneF s false
  if k.1 = 0 then ((0, (restF k.2.1 k.2.2).1, (restF k.2.1 k.2.2).2.1, (restF k.2.1 k.2.2).2.2.1), (restF k.2.1 k.2.2).2.2.2.1, (restF k.2.1 k.2.2).2.2.2.2) else (((k.1 : Int), false, [], []), k.2.1, k.2.2)
def readRs (s : List UInt8) : Option Rsp := if (partsF s).2.2 || (!(partsF s).2.1.isEmpty || !mayRs (partsF s).1) then none else some (partsF s).1
theorem nmF_enc {n : Nat} (h : n < 4294967296) (r : List UInt8) : nmF (numL n ++ r) false = (n, r, false) := by
  unfold nmF
  rw [if_neg (by simp), read_num n r h]
  simp
theorem nmF_some {s r : List UInt8} {n : Nat} (h : nmF s false = (n, r, false)) : n < 4294967296 ∧ s = numL n ++ r := by
  have h1 : numP s = some (n, r) := by
    unfold nmF at h
    rw [if_neg (by simp)] at h
    rw [numP]
    cases hr : readL s with
    | none => rw [hr] at h; simp at h
    | some q =>
      obtain ⟨a, b⟩ := q
      rw [hr] at h
      simp only [Prod.mk.injEq] at h
      obtain ⟨rfl, rfl, _⟩ := h
      rfl
  exact numP_back h1
theorem nmF_badd (s : List UInt8) : nmF s true = (0, s, true) := rfl
theorem takeF_some {s t r : List UInt8} {n : Nat} (h : takeF s false n = (t, r, false)) : t.length = n ∧ s = t ++ r := by
  unfold takeF at h
  rw [if_neg (by simp)] at h
  split at h
  · simp at h
  · simp only [Prod.mk.injEq] at h
    obtain ⟨rfl, rfl, _⟩ := h
    rename_i hl
    exact ⟨by rw [List.length_take]; omega, (List.take_append_drop _ _).symm⟩
theorem oneF_some {s r : List UInt8} {k : Nat} (h : oneF s false = (k, r, false)) : s = UInt8.ofNat k :: r ∧ k < 256 := by
  cases s with
  | nil => simp [oneF] at h
  | cons c q =>
    have ho : oneF (c :: q) false = (c.toNat, q, false) := rfl
    rw [ho] at h
    simp only [Prod.mk.injEq] at h
    obtain ⟨rfl, rfl, _⟩ := h
    exact ⟨by simp, c.toNat_lt⟩
theorem oneF_ofNat {k : Nat} (h : k < 256) (r : List UInt8) : oneF (UInt8.ofNat k :: r) false = (k, r, false) := by
  show ((UInt8.ofNat k).toNat, r, false) = _
  rw [UInt8.toNat_ofNat', Nat.mod_eq_of_lt h]
theorem oneF_bad (s : List UInt8) : oneF s true = (0, s, true) := by cases s <;> rfl
theorem restF_enc (ch : Bool) (L : List Atm) (ct : List UInt8) (h : ∀ a ∈ L, checkA a = 0) (hL : L.length < 4294967296) (hc : ct.length < 4294967296) : restF (chB ch :: (numL L.length ++ (L.flatMap atomB ++ textB ct))) false = (ch, L, ct, [], false) := by
  have h1 : oneF (chB ch :: (numL L.length ++ (L.flatMap atomB ++ textB ct))) false = ((if ch then 1 else 0), numL L.length ++ (L.flatMap atomB ++ textB ct), false) := by cases ch <;> rfl
  unfold restF
  rw [h1]
  have h2 : (false || decide (1 < (if ch then 1 else 0))) = false := by cases ch <;> rfl
  simp only
  rw [h2, nmF_enc hL]
  simp only
  rw [atomsF_enc L h]
  simp only
  rw [textB, nmF_enc hc]
  simp only [takeF, Bool.false_eq_true, if_false, Nat.lt_irrefl, List.take_length, List.drop_length]
  cases ch <;> rfl
theorem restF_some {s : List UInt8} {ch : Bool} {L : List Atm} {ct r : List UInt8} {b : Bool} (h : restF s b = (ch, L, ct, r, false)) : b = false ∧ s = chB ch :: (numL L.length ++ (L.flatMap atomB ++ (textB ct ++ r))) := by
  unfold restF at h
  simp only at h
  cases b
  case true =>
    rw [oneF_bad] at h
    simp only [Bool.true_or, nmF_badd, atomsF_bad, takeF, if_true, Prod.mk.injEq] at h
    simp at h
  case false =>
    refine ⟨rfl, ?_⟩
    generalize hc : oneF s false = c at *
    obtain ⟨k, s1, b1⟩ := c
    simp only at h
    cases b1
    case true =>
      simp only [Bool.true_or, nmF_badd, atomsF_bad, takeF, if_true, Prod.mk.injEq] at h
      simp at h
    case false =>
      obtain ⟨h1, _⟩ := oneF_some hc
      by_cases hk : 1 < k
      · simp only [Bool.false_or, decide_eq_true hk, nmF_badd, atomsF_bad, takeF, if_true, Prod.mk.injEq] at h
        simp at h
      · simp only [Bool.false_or, decide_eq_false hk] at h
        generalize hn : nmF s1 false = n at *
        obtain ⟨n, s2, b2⟩ := n
        simp only at h
        cases b2
        case true =>
          simp only [nmF_badd, atomsF_bad, takeF, if_true, Prod.mk.injEq] at h
          simp at h
        case false =>
          obtain ⟨_, h2⟩ := nmF_some hn
          generalize hA : atomsF n s2 false = A at *
          obtain ⟨A, s3, b3⟩ := A
          simp only at h
          cases b3
          case true =>
            simp only [nmF_badd, takeF, if_true, Prod.mk.injEq] at h
            simp at h
          case false =>
            obtain ⟨h3, h4⟩ := atomsF_some n s2 A s3 hA
            generalize hm : nmF s3 false = m at *
            obtain ⟨m, s4, b4⟩ := m
            simp only at h
            cases b4
            case true =>
              simp only [takeF, if_true, Prod.mk.injEq] at h
              simp at h
            case false =>
              obtain ⟨_, h5⟩ := nmF_some hm
              generalize ht : takeF s4 false m = t at *
              obtain ⟨t, s5, b5⟩ := t
              simp only [Prod.mk.injEq] at h
              obtain ⟨e1, e2, e3, e4, e5⟩ := h
              subst e2; subst e3; subst e4; subst e5
              obtain ⟨h6, h7⟩ := takeF_some ht
              have hch : UInt8.ofNat k = chB ch := by
                rw [← e1]
                have : k = 0 ∨ k = 1 := by omega
                rcases this with rfl | rfl <;> rfl
              rw [h1, hch, h2, h4, h5, h7, h3, textB, h6]
              simp only [List.append_assoc]
theorem readRs_some {s : List UInt8} {x : Rsp} (h : readRs s = some x) : mayRs x = true ∧ s = rsB x := by
  unfold readRs at h
  split at h
  · cases h
  · rename_i hb
    rw [Option.some.injEq] at h
    simp only [Bool.or_eq_true, Bool.not_eq_true', not_or, Bool.not_eq_true, Bool.not_eq_false] at hb
    obtain ⟨h1, h2, h3⟩ := hb
    rw [h] at h3
    refine ⟨h3, ?_⟩
    have h4 : (partsF s).2.1 = [] := by simpa using h2
    unfold partsF at h h1 h4
    simp only at h h1 h4
    generalize hk : oneF s false = k at *
    obtain ⟨k, s1, b1⟩ := k
    simp only at h h1 h4
    by_cases h0 : k = 0
    · rw [if_pos h0] at h h1 h4
      simp only at h h1 h4
      generalize hr : restF s1 b1 = r at *
      obtain ⟨ch, L, ct, q, b⟩ := r
      simp only at h h1 h4
      subst h1; subst h4
      obtain ⟨hb1, hs1⟩ := restF_some hr
      subst hb1
      obtain ⟨hs, _⟩ := oneF_some hk
      rw [← h, hs, hs1, h0, List.append_nil]
      rfl
    · rw [if_neg h0] at h h1 h4
      simp only at h h1 h4
      subst h1; subst h4
      obtain ⟨hs, _⟩ := oneF_some hk
      rw [← h, hs]
      unfold rsB
      rw [if_pos (by simpa using h0)]
      simp
theorem readRs_rsB {x : Rsp} (hm : mayRs x = true) (h1 : x.2.2.1.length < 4294967296) (h2 : x.2.2.2.length < 4294967296) : readRs (rsB x) = some x := by
  have hm0 := hm
  obtain ⟨code, ch, L, ct⟩ := x
  rcases mayRs_cases hm with ⟨h0, hp, h16, hch, hL, hct⟩ | ⟨h0, _, hv, _⟩
  · simp only at h0 hp h16 hch hL hct
    subst hch; subst hL; subst hct
    obtain ⟨k, rfl⟩ : ∃ k : Nat, code = (k : Int) := ⟨code.toNat, by omega⟩
    have hk0 : k ≠ 0 := by omega
    have hb : rsB ((k : Int), false, [], []) = [UInt8.ofNat k] := by
      unfold rsB
      rw [if_pos h0, Int.toNat_natCast]
    have ho : oneF (rsB ((k : Int), false, [], [])) false = (k, [], false) := by rw [hb]; exact oneF_ofNat (by omega) []
    have hp : partsF (rsB ((k : Int), false, [], [])) = (((k : Int), false, [], []), [], false) := by
      unfold partsF
      rw [ho]
      simp only
      rw [if_neg hk0]
    unfold readRs
    rw [hp]
    simp [hm0]
  · simp only at h0 hv h1 h2
    subst h0
    have hb : rsB ((0 : Int), ch, L, ct) = UInt8.ofNat 0 :: (chB ch :: (numL L.length ++ (L.flatMap atomB ++ textB ct))) := rfl
    have ho : oneF (rsB ((0 : Int), ch, L, ct)) false = (0, chB ch :: (numL L.length ++ (L.flatMap atomB ++ textB ct)), false) := by rw [hb]; exact oneF_ofNat (by omega) _
    have hp : partsF (rsB ((0 : Int), ch, L, ct)) = ((0, ch, L, ct), [], false) := by
      unfold partsF
      rw [ho]
      simp only
      rw [restF_enc ch L ct (fun a ha => (hv a ha).1) h1 h2, if_pos trivial]
    unfold readRs
    rw [hp]
    simp [hm0]
end Go.Proofs.YtkdeokgkjmboeaaDoor
