/- What the reference's cursor comes to, step by step; that it comes to the same as the reader; no program in sight. -/
import Derived.Test.YtiadjmfdahendaaDoorCertH
import Derived.Test.YtiadjmfdahendaaDoorRef23
namespace Go.Proofs.YtiadjmfdahendaaDoor
open Go.RowKit

/-- One byte. -/
def byteS (s : List UInt8) (i : Nat) (b : Bool) : Nat × Nat × Bool := if b then (0, i, true) else match s.drop i with | [] => (0, i, true) | c :: _ => (c.toNat, i + 1, false)
theorem byteS_bad (s : List UInt8) (i : Nat) : byteS s i true = (0, i, true) := rfl
theorem byteS_le {s : List UInt8} {i : Nat} {b : Bool} (hi : i ≤ s.length) : (byteS s i b).2.1 ≤ s.length := by
  unfold byteS
  split
  · exact hi
  · split
    · exact hi
    · rename_i h
      have := congrArg List.length h
      rw [List.length_drop, List.length_cons] at this
      simp only; omega
def rnamesS (s : List UInt8) : Nat → Nat → Bool → List Tm × Nat × Bool
  | 0, i, b => ([], i, b)
  | m + 1, i, b => if b then ([], i, true) else
    let f := byteS s i false
    let t := textS s f.2.1 (f.2.2 || decide (1 < f.1))
    let r := rnamesS s m t.2.1 t.2.2
    ((decide (f.1 = 1), t.1) :: r.1, r.2)
theorem rnamesS_bad (s : List UInt8) (m i : Nat) : rnamesS s m i true = ([], i, true) := by cases m <;> rfl
theorem rnamesS_le {s : List UInt8} : ∀ (m i : Nat) (b : Bool), i ≤ s.length → (rnamesS s m i b).2.1 ≤ s.length
  | 0, i, b, h => h
  | m + 1, i, true, h => h
  | m + 1, i, false, h => by
    rw [rnamesS, if_neg (by simp)]
    exact rnamesS_le m _ _ (textS_le (byteS_le h))
theorem rnames_eq {s : List UInt8} : ∀ (m i : Nat) (b : Bool), (rnamesS s m i b).2.2 = (namesS s m i b).2.2 ∧ ((namesS s m i b).2.2 = false → rnamesS s m i b = namesS s m i b)
  | 0, i, b => ⟨rfl, fun _ => rfl⟩
  | m + 1, i, true => ⟨rfl, fun h => by cases h⟩
  | m + 1, i, false => by
    rw [rnamesS, namesS, if_neg (by simp), if_neg (by simp), byteS, flagS, if_neg (by simp), if_neg (by simp)]
    cases hd : s.drop i with
    | nil =>
      simp only [Bool.true_or, textS_bad, rnamesS_bad, namesS_bad]
      exact ⟨trivial, fun h => by cases h⟩
    | cons c r =>
      by_cases hc : c.toNat ≤ 1
      · have e1 : decide (1 < c.toNat) = false := decide_eq_false (by omega)
        have e2 : decide (c.toNat = 1) = (c == 1) := by
          rw [Bool.eq_iff_iff, decide_eq_true_eq, beq_iff_eq]
          constructor
          · intro h
            exact UInt8.toNat_inj.1 (by rw [h]; rfl)
          · intro h
            rw [h]; rfl
        simp only [if_pos hc, e1, e2, Bool.or_false]
        obtain ⟨h1, h2⟩ := rnames_eq (s := s) m (textS s (i + 1) false).2.1 (textS s (i + 1) false).2.2
        refine ⟨h1, fun h => ?_⟩
        rw [h2 h]
      · have e1 : decide (1 < c.toNat) = true := decide_eq_true (by omega)
        simp only [if_neg hc, e1, Bool.or_true, textS_bad, rnamesS_bad, namesS_bad]
        exact ⟨trivial, fun h => by cases h⟩
def ratomS (s : List UInt8) (i : Nat) (bad : Bool) : Atm × Nat × Bool :=
  let u := textS s i bad
  let p := textS s u.2.1 u.2.2
  let n := numS s p.2.1 p.2.2
  let r := rnamesS s n.1 n.2.1 (n.2.2 || decide (4 < n.1))
  if r.2.2 || (checkA (padM u.1 p.1 n.1 r.1) != 0) then (zeroAtm, r.2.1, true) else (padM u.1 p.1 n.1 r.1, r.2.1, false)
theorem ratomS_bad (s : List UInt8) (i : Nat) : ratomS s i true = (zeroAtm, i, true) := rfl
theorem ratomS_le {s : List UInt8} {i : Nat} {bad : Bool} (hi : i ≤ s.length) : (ratomS s i bad).2.1 ≤ s.length := by
  have h1 := textS_le (bad := bad) hi
  have h2 := textS_le (bad := (textS s i bad).2.2) h1
  have h3 := (numS_le (bad := (textS s (textS s i bad).2.1 (textS s i bad).2.2).2.2) h2).2
  unfold ratomS
  simp only
  split
  · exact rnamesS_le _ _ _ h3
  · exact rnamesS_le _ _ _ h3
theorem ratom_eq (s : List UInt8) (i : Nat) (b : Bool) : (ratomS s i b).1 = (atomS s i b).1 ∧ (ratomS s i b).2.2 = (atomS s i b).2.2 ∧ ((atomS s i b).2.2 = false → ratomS s i b = atomS s i b) := by
  unfold ratomS atomS
  simp only
  generalize textS s i b = u
  generalize textS s u.2.1 u.2.2 = p
  generalize numS s p.2.1 p.2.2 = n
  obtain ⟨h1, h2⟩ := rnames_eq (s := s) n.1 n.2.1 (n.2.2 || decide (4 < n.1))
  cases hb : (namesS s n.1 n.2.1 (n.2.2 || decide (4 < n.1))).2.2
  · rw [h2 hb, hb]
    exact ⟨rfl, rfl, fun _ => rfl⟩
  · rw [h1, hb]
    simp only [Bool.true_or, if_true]
    exact ⟨trivial, trivial, fun h => by cases h⟩
def rstepS (s : List UInt8) (i : Nat) (bad : Bool) : Stp × Nat × Bool :=
  let c := numS s i bad
  let a := ratomS s c.2.1 c.2.2
  let n := numS s a.2.1 a.2.2
  let q := natsS s (min n.1 17) n.2.1 n.2.2
  ((a.1, (c.1 : Int) - 1, q.1.map fun x : Nat => (x : Int)), q.2.1, q.2.2)
theorem rstepS_le {s : List UInt8} {i : Nat} {bad : Bool} (hi : i ≤ s.length) : (rstepS s i bad).2.1 ≤ s.length :=
  natsS_le _ _ _ (numS_le (ratomS_le (numS_le hi).2)).2
theorem rstep_eq {s : List UInt8} {i : Nat} {b : Bool} (h : (stepS s i b).2.2 = false) : rstepS s i b = stepS s i b := by
  unfold stepS at h ⊢
  unfold rstepS
  simp only at h ⊢
  obtain ⟨-, h2, h3⟩ := ratom_eq s (numS s i b).2.1 (numS s i b).2.2
  cases ha : (atomS s (numS s i b).2.1 (numS s i b).2.2).2.2
  · rw [h3 ha, ha]
    rw [ha] at h
    generalize atomS s (numS s i b).2.1 (numS s i b).2.2 = a at *
    generalize numS s a.2.1 false = n at *
    cases hn : (n.2.2 || decide (16 < n.1))
    · have h5 : n.2.2 = false ∧ ¬ 16 < n.1 := by simpa using hn
      rw [show min n.1 17 = n.1 by omega, h5.1]
    · rw [hn, natsS_bad] at h
      cases h
  · rw [ha, numS_bad] at h
    simp only [Bool.true_or, natsS_bad] at h
    cases h
def rstepsS (s : List UInt8) : Nat → Nat → Bool → List Stp × Nat × Bool
  | 0, i, b => ([], i, b)
  | m + 1, i, b => if b then ([], i, true) else
    let r := rstepS s i false
    let q := rstepsS s m r.2.1 r.2.2
    (r.1 :: q.1, q.2)
theorem rstepsS_bad (s : List UInt8) (m i : Nat) : rstepsS s m i true = ([], i, true) := by cases m <;> rfl
theorem rsteps_eq {s : List UInt8} : ∀ (m k i : Nat) (b : Bool), (stepsS s m k i b).2.2 = false → rstepsS s m i b = stepsS s m k i b
  | 0, k, i, b, h => rfl
  | m + 1, k, i, true, h => by cases h
  | m + 1, k, i, false, h => by
    rw [stepsS, if_neg (by simp)] at h ⊢
    rw [rstepsS, if_neg (by simp)]
    simp only at h ⊢
    cases hs : ((stepS s i false).2.2 || !mayB k (stepS s i false).1)
    · have h1 : (stepS s i false).2.2 = false := by
        cases h2 : (stepS s i false).2.2
        · rfl
        · rw [h2] at hs; cases hs
      rw [hs] at h
      rw [rstep_eq h1, h1, rsteps_eq m (k + 1) _ false h]
    · rw [hs, stepsS_bad] at h
      cases h
/-- What the reference's Read comes to. -/
def rreadS (s : List UInt8) : Option (List Stp) :=
  let n := numS s 0 false
  let q := rstepsS s n.1 n.2.1 n.2.2
  if q.2.2 || !maysB q.1 || decide (stepsB q.1 ≠ s) then none else some q.1
theorem rread_eq (s : List UInt8) : rreadS s = readS s := by
  cases hr : readS s with
  | some L =>
    have hp : readP s = some L := by rw [readS_P, hr]
    obtain ⟨hm, hs⟩ := readP_iff.1 hp
    unfold readS at hr
    simp only at hr
    generalize hn : numS s 0 false = n at *
    cases hb : (stepsS s n.1 0 n.2.1 (n.2.2 || decide (1048576 < n.1))).2.2
    · have hq : (n.2.2 || decide (1048576 < n.1)) = false := by
        cases h : (n.2.2 || decide (1048576 < n.1))
        · rfl
        · rw [h, stepsS_bad] at hb; cases hb
      have hq2 : n.2.2 = false := by
        cases h : n.2.2
        · rfl
        · rw [h] at hq; cases hq
      have he := rsteps_eq n.1 0 n.2.1 _ hb
      have hL : (stepsS s n.1 0 n.2.1 (n.2.2 || decide (1048576 < n.1))).1 = L := by
        split at hr
        · cases hr
        · injection hr
      rw [hq, ← hq2] at he hL hb
      unfold rreadS
      simp only
      rw [hn, he, hL, hb, hm, ← hs]
      simp [hq2]
    · rw [hb] at hr
      simp only [Bool.true_or, if_true] at hr
      cases hr
  | none =>
    unfold rreadS
    simp only
    split
    · rfl
    · rename_i h
      exfalso
      have h1 : maysB (rstepsS s (numS s 0 false).1 (numS s 0 false).2.1 (numS s 0 false).2.2).1 = true := by
        cases h2 : maysB (rstepsS s (numS s 0 false).1 (numS s 0 false).2.1 (numS s 0 false).2.2).1
        · rw [h2] at h; simp at h
        · rfl
      have h3 : stepsB (rstepsS s (numS s 0 false).1 (numS s 0 false).2.1 (numS s 0 false).2.2).1 = s := by
        by_cases h2 : stepsB (rstepsS s (numS s 0 false).1 (numS s 0 false).2.1 (numS s 0 false).2.2).1 = s
        · exact h2
        · rw [decide_eq_true h2] at h; simp at h
      have hp := readP_iff.2 ⟨h1, h3.symm⟩
      rw [readS_P, hr] at hp
      cases hp
/-- A number that was read moves on. -/
theorem numS_go {s : List UInt8} {i : Nat} {b : Bool} (h : (numS s i b).2.2 = false) : i < (numS s i b).2.1 := by
  unfold numS at h ⊢
  split at h
  · cases h
  · rename_i hb
    rw [if_neg hb]
    cases hr : readL (s.drop i) with
    | none => rw [hr] at h; cases h
    | some p =>
      obtain ⟨n, k⟩ := p
      simp only
      have hk := (read_take hr).1
      have hn := congrArg List.length hk
      rcases Nat.eq_zero_or_pos k with h0 | h0
      · subst h0
        rw [List.take_zero, List.length_nil] at hn
        have := numF_pos 4 n
        rw [numL] at hn
        omega
      · omega
end Go.Proofs.YtiadjmfdahendaaDoor
