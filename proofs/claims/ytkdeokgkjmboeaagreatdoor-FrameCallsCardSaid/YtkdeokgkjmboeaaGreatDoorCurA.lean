/- What the reference's cursor comes to, step by step; that it comes to the same as the reader; no program in sight. The reference's cursor: Number. The reference's cursor: Byte, Text. The reference's cursor: Atom. -/
import Derived.Test.YtkdeokgkjmboeaaGreatDoorCertH
import Derived.Test.YtkdeokgkjmboeaaGreatDoorRef23
import Derived.Test.YtkdeokgkjmboeaaGreatDoorCertF
namespace Go.Proofs.YtkdeokgkjmboeaaGreatDoor
open Go.RowKit

/-- One byte. -/
def byteS (s : List UInt8) (i : Nat) (b : Bool) : Nat × Nat × Bool := if b then (0, i, true) else match s.drop i with | [] => (0, i, true) | c :: _ => (c.toNat, i + 1, false)
theorem byteS_bad (s : List UInt8) (i : Nat) : byteS s i true = (0, i, true) := rfl
theorem byteS_le {s : List UInt8} {i : Nat} {b : Bool} (hi : i ≤ s.length) : (byteS s i b).2.1 ≤ s.length := by
  unfold byteS
  split
  · exact hi
  · split
    · exact hi
    · rename_i h
      have := congrArg List.length h
      rw [List.length_drop, List.length_cons] at this
      simp only; omega
def rnamesS (s : List UInt8) : Nat → Nat → Bool → List Tm × Nat × Bool
  | 0, i, b => ([], i, b)
  | m + 1, i, b => if b then ([], i, true) else
    let f := byteS s i false
    let t := textS s f.2.1 (f.2.2 || decide (1 < f.1))
    let r := rnamesS s m t.2.1 t.2.2
    ((decide (f.1 = 1), t.1) :: r.1, r.2)
theorem rnamesS_bad (s : List UInt8) (m i : Nat) : rnamesS s m i true = ([], i, true) := by cases m <;> rfl
theorem rnamesS_le {s : List UInt8} : ∀ (m i : Nat) (b : Bool), i ≤ s.length → (rnamesS s m i b).2.1 ≤ s.length
  | 0, i, b, h => h
  | m + 1, i, true, h => h
  | m + 1, i, false, h => by
    rw [rnamesS, if_neg (by simp)]
    exact rnamesS_le m _ _ (textS_le (byteS_le h))
theorem rnames_eq {s : List UInt8} : ∀ (m i : Nat) (b : Bool), (rnamesS s m i b).2.2 = (namesS s m i b).2.2 ∧ ((namesS s m i b).2.2 = false → rnamesS s m i b = namesS s m i b)
  | 0, i, b => ⟨rfl, fun _ => rfl⟩
  | m + 1, i, true => ⟨rfl, fun h => by cases h⟩
  | m + 1, i, false => by
    rw [rnamesS, namesS, if_neg (by simp), if_neg (by simp), byteS, flagS, if_neg (by simp), if_neg (by simp)]
    cases hd : s.drop i with
    | nil =>
      simp only [Bool.true_or, textS_bad, rnamesS_bad, namesS_bad]
      exact ⟨trivial, fun h => by cases h⟩
    | cons c r =>
      by_cases hc : c.toNat ≤ 1
      · have e1 : decide (1 < c.toNat) = false := decide_eq_false (by omega)
        have e2 : decide (c.toNat = 1) = (c == 1) := by
          rw [Bool.eq_iff_iff, decide_eq_true_eq, beq_iff_eq]
          constructor
          · intro h
            exact UInt8.toNat_inj.1 (by rw [h]; rfl)
          · intro h
            rw [h]; rfl
        simp only [if_pos hc, e1, e2, Bool.or_false]
        obtain ⟨h1, h2⟩ := rnames_eq (s := s) m (textS s (i + 1) false).2.1 (textS s (i + 1) false).2.2
        refine ⟨h1, fun h => ?_⟩
        rw [h2 h]
      · have e1 : decide (1 < c.toNat) = true := decide_eq_true (by omega)
        simp only [if_neg hc, e1, Bool.or_true, textS_bad, rnamesS_bad, namesS_bad]
        exact ⟨trivial, fun h => by cases h⟩
def ratomS (s : List UInt8) (i : Nat) (bad : Bool) : Atm × Nat × Bool :=
  let u := textS s i bad
  let p := textS s u.2.1 u.2.2
  let n := numS s p.2.1 p.2.2
  let r := rnamesS s n.1 n.2.1 (n.2.2 || decide (4 < n.1))
  if r.2.2 || (checkA (padM u.1 p.1 n.1 r.1) != 0) then (zeroAtm, r.2.1, true) else (padM u.1 p.1 n.1 r.1, r.2.1, false)
theorem ratomS_bad (s : List UInt8) (i : Nat) : ratomS s i true = (zeroAtm, i, true) := rfl
theorem ratomS_le {s : List UInt8} {i : Nat} {bad : Bool} (hi : i ≤ s.length) : (ratomS s i bad).2.1 ≤ s.length := by
  have h1 := textS_le (bad := bad) hi
  have h2 := textS_le (bad := (textS s i bad).2.2) h1
  have h3 := (numS_le (bad := (textS s (textS s i bad).2.1 (textS s i bad).2.2).2.2) h2).2
  unfold ratomS
  simp only
  split
  · exact rnamesS_le _ _ _ h3
  · exact rnamesS_le _ _ _ h3
theorem ratom_eq (s : List UInt8) (i : Nat) (b : Bool) : (ratomS s i b).1 = (atomS s i b).1 ∧ (ratomS s i b).2.2 = (atomS s i b).2.2 ∧ ((atomS s i b).2.2 = false → ratomS s i b = atomS s i b) := by
  unfold ratomS atomS
  simp only
  generalize textS s i b = u
  generalize textS s u.2.1 u.2.2 = p
  generalize numS s p.2.1 p.2.2 = n
  obtain ⟨h1, h2⟩ := rnames_eq (s := s) n.1 n.2.1 (n.2.2 || decide (4 < n.1))
  cases hb : (namesS s n.1 n.2.1 (n.2.2 || decide (4 < n.1))).2.2
  · rw [h2 hb, hb]
    exact ⟨rfl, rfl, fun _ => rfl⟩
  · rw [h1, hb]
    simp only [Bool.true_or, if_true]
    exact ⟨trivial, trivial, fun h => by cases h⟩
def rstepS (s : List UInt8) (i : Nat) (bad : Bool) : Stp × Nat × Bool :=
  let c := numS s i bad
  let a := ratomS s c.2.1 c.2.2
  let n := numS s a.2.1 a.2.2
  let q := natsS s (min n.1 17) n.2.1 n.2.2
  ((a.1, (c.1 : Int) - 1, q.1.map fun x : Nat => (x : Int)), q.2.1, q.2.2)
theorem rstepS_le {s : List UInt8} {i : Nat} {bad : Bool} (hi : i ≤ s.length) : (rstepS s i bad).2.1 ≤ s.length :=
  natsS_le _ _ _ (numS_le (ratomS_le (numS_le hi).2)).2
theorem rstep_eq {s : List UInt8} {i : Nat} {b : Bool} (h : (stepS s i b).2.2 = false) : rstepS s i b = stepS s i b := by
  unfold stepS at h ⊢
  unfold rstepS
  simp only at h ⊢
  obtain ⟨-, h2, h3⟩ := ratom_eq s (numS s i b).2.1 (numS s i b).2.2
  cases ha : (atomS s (numS s i b).2.1 (numS s i b).2.2).2.2
  · rw [h3 ha, ha]
    rw [ha] at h
    generalize atomS s (numS s i b).2.1 (numS s i b).2.2 = a at *
    generalize numS s a.2.1 false = n at *
    cases hn : (n.2.2 || decide (16 < n.1))
    · have h5 : n.2.2 = false ∧ ¬ 16 < n.1 := by simpa using hn
      rw [show min n.1 17 = n.1 by omega, h5.1]
    · rw [hn, natsS_bad] at h
      cases h
  · rw [ha, numS_bad] at h
    simp only [Bool.true_or, natsS_bad] at h
    cases h
def rstepsS (s : List UInt8) : Nat → Nat → Bool → List Stp × Nat × Bool
  | 0, i, b => ([], i, b)
  | m + 1, i, b => if b then ([], i, true) else
    let r := rstepS s i false
    let q := rstepsS s m r.2.1 r.2.2
    (r.1 :: q.1, q.2)
theorem rstepsS_bad (s : List UInt8) (m i : Nat) : rstepsS s m i true = ([], i, true) := by cases m <;> rfl
theorem rsteps_eq {s : List UInt8} : ∀ (m k i : Nat) (b : Bool), (stepsS s m k i b).2.2 = false → rstepsS s m i b = stepsS s m k i b
  | 0, k, i, b, h => rfl
  | m + 1, k, i, true, h => by cases h
  | m + 1, k, i, false, h => by
    rw [stepsS, if_neg (by simp)] at h ⊢
    rw [rstepsS, if_neg (by simp)]
    simp only at h ⊢
    cases hs : ((stepS s i false).2.2 || !mayB k (stepS s i false).1)
    · have h1 : (stepS s i false).2.2 = false := by
        cases h2 : (stepS s i false).2.2
        · rfl
        · rw [h2] at hs; cases hs
      rw [hs] at h
      rw [rstep_eq h1, h1, rsteps_eq m (k + 1) _ false h]
    · rw [hs, stepsS_bad] at h
      cases h
/-- What the reference's Read comes to. -/
def rreadS (s : List UInt8) : Option (List Stp) :=
  let n := numS s 0 false
  let q := rstepsS s n.1 n.2.1 n.2.2
  if q.2.2 || !maysB q.1 || decide (stepsB q.1 ≠ s) then none else some q.1
theorem rread_eq (s : List UInt8) : rreadS s = readS s := by
  cases hr : readS s with
  | some L =>
    have hp : readP s = some L := by rw [readS_P, hr]
    obtain ⟨hm, hs⟩ := readP_iff.1 hp
    unfold readS at hr
    simp only at hr
    generalize hn : numS s 0 false = n at *
    cases hb : (stepsS s n.1 0 n.2.1 (n.2.2 || decide (1048576 < n.1))).2.2
    · have hq : (n.2.2 || decide (1048576 < n.1)) = false := by
        cases h : (n.2.2 || decide (1048576 < n.1))
        · rfl
        · rw [h, stepsS_bad] at hb; cases hb
      have hq2 : n.2.2 = false := by
        cases h : n.2.2
        · rfl
        · rw [h] at hq; cases hq
      have he := rsteps_eq n.1 0 n.2.1 _ hb
      have hL : (stepsS s n.1 0 n.2.1 (n.2.2 || decide (1048576 < n.1))).1 = L := by
        split at hr
        · cases hr
        · injection hr
      rw [hq, ← hq2] at he hL hb
      unfold rreadS
      simp only
      rw [hn, he, hL, hb, hm, ← hs]
      simp [hq2]
    · rw [hb] at hr
      simp only [Bool.true_or, if_true] at hr
      cases hr
  | none =>
    unfold rreadS
    simp only
    split
    · rfl
    · rename_i h
      exfalso
      have h1 : maysB (rstepsS s (numS s 0 false).1 (numS s 0 false).2.1 (numS s 0 false).2.2).1 = true := by
        cases h2 : maysB (rstepsS s (numS s 0 false).1 (numS s 0 false).2.1 (numS s 0 false).2.2).1
        · rw [h2] at h; simp at h
        · rfl
      have h3 : stepsB (rstepsS s (numS s 0 false).1 (numS s 0 false).2.1 (numS s 0 false).2.2).1 = s := by
        by_cases h2 : stepsB (rstepsS s (numS s 0 false).1 (numS s 0 false).2.1 (numS s 0 false).2.2).1 = s
        · exact h2
        · rw [decide_eq_true h2] at h; simp at h
      have hp := readP_iff.2 ⟨h1, h3.symm⟩
      rw [readS_P, hr] at hp
      cases hp
/-- A number that was read moves on. -/
theorem numS_go {s : List UInt8} {i : Nat} {b : Bool} (h : (numS s i b).2.2 = false) : i < (numS s i b).2.1 := by
  unfold numS at h ⊢
  split at h
  · cases h
  · rename_i hb
    rw [if_neg hb]
    cases hr : readL (s.drop i) with
    | none => rw [hr] at h; cases h
    | some p =>
      obtain ⟨n, k⟩ := p
      simp only
      have hk := (read_take hr).1
      have hn := congrArg List.length hk
      rcases Nat.eq_zero_or_pos k with h0 | h0
      · subst h0
        rw [List.take_zero, List.length_nil] at hn
        have := numF_pos 4 n
        rw [numL] at hn
        omega
      · omega
end Go.Proofs.YtkdeokgkjmboeaaGreatDoor

namespace Go.Proofs.YtkdeokgkjmboeaaGreatDoor
open Go.RowKit

def eVc (b : Bool) : Int := if b then 15 else 0
/-- The cursor's block. -/
def Cur (W : World) (g : Nat) (s : List UInt8) (i : Nat) (bad : Bool) : Prop := W.heap[g]? = some (.cells #[.string ⟨s.toArray⟩, .int .i64 (i : Int), .int .i64 (eVc bad)] 58 (0, 0))
section
variable {W W' : World} {g : Nat} {s : List UInt8} {i : Nat} {bad : Bool}
theorem Cur.c0 (h : Cur W g s i bad) : W.cell? ⟨g, 0, none⟩ = some (.string ⟨s.toArray⟩) := by
  unfold Cur at h; simp [World.cell?, h]
theorem Cur.c1 (h : Cur W g s i bad) : W.cell? ⟨g, 1, none⟩ = some (.int .i64 (i : Int)) := by
  unfold Cur at h; simp [World.cell?, h]
theorem Cur.c2 (h : Cur W g s i bad) : W.cell? ⟨g, 2, none⟩ = some (.int .i64 (eVc bad)) := by
  unfold Cur at h; simp [World.cell?, h]
theorem Cur.c2t (h : Cur W g s i true) : W.cell? ⟨g, 2, none⟩ = some (.int .i64 15) := h.c2
theorem Cur.c2f (h : Cur W g s i false) : W.cell? ⟨g, 2, none⟩ = some (.int .i64 0) := h.c2
theorem Cur.free (h : Cur W g s i bad) (j : Nat) : W.frozen? ⟨g, j, none⟩ = false := by
  unfold Cur at h; simp [World.frozen?, h]
theorem Cur.lt (h : Cur W g s i bad) : g < W.heap.size := (Array.getElem?_eq_some_iff.1 h).1
theorem Cur.grown {row : Option Nat} (h : Cur W g s i bad) (hg : W.grownBy W' row) (hr : some g ≠ row) : Cur W' g s i bad := (hg.block g h.lt hr).trans h
theorem Cur.next (h : Cur W g s i bad) (hs : Since W W') : Cur W' g s i bad := (Below.block hs g h.lt).trans h
theorem Cur.drew (h : Cur W g s i bad) : Cur W.drew g s i bad := h
theorem Cur.drewN (h : Cur W g s i bad) (n : Nat) : Cur (W.drewN n) g s i bad := h
theorem Cur.set1 (h : Cur W g s i bad) (k : Nat) : Cur (W.setCell ⟨g, 1, none⟩ (.int .i64 (k : Int))) g s k bad := by
  unfold Cur at h ⊢
  rw [setCell_eq_setRow W g 1 _ _ (0, 0) _ h, setRow_heap W g _ _ _ (0, 0) h]
  rfl
theorem Cur.set2 (h : Cur W g s i bad) (b : Bool) : Cur (W.setCell ⟨g, 2, none⟩ (.int .i64 (eVc b))) g s i b := by
  unfold Cur at h ⊢
  rw [setCell_eq_setRow W g 2 _ _ (0, 0) _ h, setRow_heap W g _ _ _ (0, 0) h]
  rfl
theorem Cur.set2t (h : Cur W g s i bad) : Cur (W.setCell ⟨g, 2, none⟩ (.int .i64 15)) g s i true := h.set2 true
theorem Cur.set2f (h : Cur W g s i bad) : Cur (W.setCell ⟨g, 2, none⟩ (.int .i64 0)) g s i false := h.set2 false
end
def CNumPost (s : List UInt8) (i : Nat) (bad : Bool) (g : Nat) (w : World) (e : Ending) (w' : World) : Prop :=
  e = .returned (.int .u32 (numS s i bad).1) ∧ Cur w' g s (numS s i bad).2.1 (numS s i bad).2.2 ∧ w.grownBy w' (some g)
set_option maxHeartbeats 1000000 in
theorem curnum_any (s : List UInt8) (i : Nat) (bad : Bool) (g : Nat) (w : World) (hs : s.length ≤ 1000000) (hi : i ≤ s.length) (hR : Cur w g s i bad) :
    Calls Tryz.prog 36 #[.pointer (some ⟨g, 0, none⟩)] w (CNumPost s i bad g w) := by
  have c0 := hR.c0
  have c1 := hR.c1
  have hlt := hR.lt
  have hfree := hR.free
  have hrest := fun W => run_rest s i hi W
  have HRd := Lib.hid (fun W => rreadnum_any (s.drop i) W (by rw [List.length_drop]; omega))
  cases hb : bad
  case true =>
    subst hb
    have c2 := hR.c2t
    go_enter Tryz.func36, Tryz.ntmps36
    go_wp2_with fail
    go_ret
    exact ⟨rfl, hR, World.grownBy.refl _ _⟩
  case false =>
    subst hb
    have c2 := hR.c2f
    cases hr : readL (s.drop i)
    case none =>
      have HP : Hid (∀ W, Cur W g s i true → w.grownBy W (some g) → CNumPost s i false g w (.returned (.int .u32 0)) W) := by
        intro W h1 h2
        unfold CNumPost
        rw [numS, if_neg (by simp), hr]; exact ⟨rfl, h1, h2⟩
      rw [hr] at HRd
      simp only [rdV] at HRd
      go_enter Tryz.func36, Tryz.ntmps36
      go_wp2_with fail
      go_region_held3 (fun w' => w'.cell? ⟨g, 0, none⟩ = some (.string ⟨s.toArray⟩) ∧ w'.cell? ⟨g, 1, none⟩ = some (.int .i64 (i : Int)) ∧ Cur w' g s i false ∧ w.grownBy w' (some g))
        ((go_split_ands; (refine ⟨?_, ?_, ?_, ?_⟩) <;> (first | assumption | (refine Cur.drew ?_; assumption) | (refine gdrew ?_; assumption) | exact gdrew (World.grownBy.refl _ _) | (refine Cur.next ?_ hb2; assumption) | (refine gsince ?_ hb2; assumption) | (refine hb2.cell ?_; assumption))))
        (first | (go_at_call 55; ((with_reducible refine (HRd.out _).mono ?_); rintro e w2 ⟨rfl, hb2⟩)))
      all_goals go_split_ands
      all_goals rename_i q0 q1 hR2 hg2
      all_goals have hlt2 := hR2.lt
      all_goals have hfree2 := hR2.free
      all_goals have d2 := hR2.c2f
      all_goals go_wp2_with fail
      all_goals go_ret
      exact HP.out _ ((hR2.set1 i).set2t) (gset (gset hg2 _ _) _ _)
    case some p =>
      obtain ⟨n, k⟩ := p
      obtain ⟨k1, n1, k5⟩ := readL_len hr
      rw [List.length_drop] at k1
      have HP : Hid (∀ W, Cur W g s (i + k) false → w.grownBy W (some g) → CNumPost s i false g w (.returned (.int .u32 (n : Int))) W) := by
        intro W h1 h2
        unfold CNumPost
        rw [numS, if_neg (by simp), hr]; exact ⟨rfl, h1, h2⟩
      rw [hr] at HRd
      simp only [rdV] at HRd
      have e1 : IntKind.i64.wrap ((i : Int) + (k : Int)) = (i : Int) + (k : Int) := IntWalk.i64_in _ (by omega)
      go_enter Tryz.func36, Tryz.ntmps36
      go_wp2_with fail
      go_region_held3 (fun w' => w'.cell? ⟨g, 0, none⟩ = some (.string ⟨s.toArray⟩) ∧ w'.cell? ⟨g, 1, none⟩ = some (.int .i64 (i : Int)) ∧ Cur w' g s i false ∧ w.grownBy w' (some g))
        ((go_split_ands; (refine ⟨?_, ?_, ?_, ?_⟩) <;> (first | assumption | (refine Cur.drew ?_; assumption) | (refine gdrew ?_; assumption) | exact gdrew (World.grownBy.refl _ _) | (refine Cur.next ?_ hb2; assumption) | (refine gsince ?_ hb2; assumption) | (refine hb2.cell ?_; assumption))))
        (first | (go_at_call 55; ((with_reducible refine (HRd.out _).mono ?_); rintro e w2 ⟨rfl, hb2⟩)))
      all_goals go_split_ands
      all_goals rename_i q0 q1 hR2 hg2
      all_goals have hlt2 := hR2.lt
      all_goals have hfree2 := hR2.free
      all_goals have d2 := hR2.c2f
      all_goals go_wp2_with fail
      all_goals go_ret
      have h1 := (hR2.set1 (i + k)).set2f
      rw [Int.natCast_add] at h1
      exact HP.out _ h1 (gset (gset hg2 _ _) _ _)
end Go.Proofs.YtkdeokgkjmboeaaGreatDoor

namespace Go.Proofs.YtkdeokgkjmboeaaGreatDoor
open Go.RowKit

def CBytePost (s : List UInt8) (i : Nat) (bad : Bool) (g : Nat) (w : World) (e : Ending) (w' : World) : Prop :=
  e = .returned (.int .u8 (byteS s i bad).1) ∧ Cur w' g s (byteS s i bad).2.1 (byteS s i bad).2.2 ∧ w.grownBy w' (some g)
set_option maxHeartbeats 2000000 in
set_option maxRecDepth 100000 in
theorem curbyte_any (s : List UInt8) (i : Nat) (bad : Bool) (g : Nat) (w : World) (hs : s.length ≤ 1000000) (hi : i ≤ s.length) (hR : Cur w g s i bad) :
    Calls Tryz.prog 28 #[.pointer (some ⟨g, 0, none⟩)] w (CBytePost s i bad g w) := by
  have HP : Hid (∀ W u k b, byteS s i bad = (u, k, b) → Cur W g s k b → w.grownBy W (some g) → CBytePost s i bad g w (.returned (.int .u8 (u : Nat))) W) := by
    intro W u k b h1 h2 h3
    unfold CBytePost
    rw [h1]; exact ⟨rfl, h2, h3⟩
  have c0 := hR.c0
  have c1 := hR.c1
  have hlt := hR.lt
  have hfree := hR.free
  cases hb : bad
  case true =>
    subst hb
    have c2 := hR.c2t
    have HT2 : Hid (byteS s i true = (0, i, true)) := rfl
    go_enter Tryz.func28, Tryz.ntmps28
    go_wp2_with fail
    go_quiet (fail)
    go_wp2_with fail
    go_ret
    exact HP.out _ _ _ _ HT2.out (hR.drewN _) (gdrewN (World.grownBy.refl _ _) _)
  case false =>
    subst hb
    have c2 := hR.c2f
    by_cases he : i = s.length
    · have hq : (s.length : Int) ≤ (i : Int) := by omega
      have HT2 : Hid (byteS s i false = (0, i, true)) := by
        show _ = _
        rw [byteS, if_neg (by simp), List.drop_eq_nil_of_le (by omega)]
      go_enter Tryz.func28, Tryz.ntmps28
      go_wp2_with fail
      go_quiet (fail)
      go_wp2_with fail
      go_ret
      exact HP.out _ _ _ _ HT2.out (hR.set2t.drewN _) (gdrewN (gset (World.grownBy.refl _ _) _ _) _)
    · have hlt2 : i < s.length := by omega
      have hq : ¬ (s.length : Int) ≤ (i : Int) := by omega
      have HT2 : Hid (byteS s i false = ((s[i]'hlt2).toNat, i + 1, false)) := by
        show _ = _
        rw [byteS, if_neg (by simp), List.drop_eq_getElem_cons hlt2]
      have e1 : IntKind.i64.wrap ((i : Int) + 1) = (i : Int) + 1 := IntWalk.i64_in _ (by omega)
      have e2 : IntKind.i64.wrap ((i : Int) + 1 - 1) = (i : Int) := by rw [show (i : Int) + 1 - 1 = (i : Int) by omega]; exact IntWalk.i64_in _ (by omega)
      go_enter Tryz.func28, Tryz.ntmps28
      go_wp2_with fail
      go_quiet (fail)
      go_wp2_with fail
      go_quiet (fail)
      go_wp2_with fail
      go_ret
      have h1 := fun n m => ((hR.drewN n).set1 (i + 1)).drewN m
      simp only [Int.natCast_add] at h1
      exact HP.out _ _ _ _ HT2.out (h1 _ _) (gdrewN (gset (gdrewN (World.grownBy.refl _ _) _) _ _) _)
def CTextPost (s : List UInt8) (i : Nat) (bad : Bool) (g : Nat) (w : World) (e : Ending) (w' : World) : Prop :=
  e = .returned (.string ⟨(textS s i bad).1.toArray⟩) ∧ Cur w' g s (textS s i bad).2.1 (textS s i bad).2.2 ∧ w.grownBy w' (some g)
set_option maxHeartbeats 2000000 in
set_option maxRecDepth 100000 in
theorem curtext_any (s : List UInt8) (i : Nat) (bad : Bool) (g : Nat) (w : World) (hs : s.length ≤ 1000000) (hi : i ≤ s.length) (hR : Cur w g s i bad) :
    Calls Tryz.prog 37 #[.pointer (some ⟨g, 0, none⟩)] w (CTextPost s i bad g w) := by
  have HN := Lib.hid (curnum_any s i bad g w hs hi hR)
  obtain ⟨hn1, hn2⟩ := numS_le (bad := bad) hi
  have HP : Hid (∀ W u k b, textS s i bad = (u, k, b) → Cur W g s k b → w.grownBy W (some g) → CTextPost s i bad g w (.returned (.string ⟨u.toArray⟩)) W) := by
    intro W u k b h1 h2 h3
    unfold CTextPost
    rw [h1]; exact ⟨rfl, h2, h3⟩
  have hT : textS s i bad = (if (numS s i bad).2.2 then ([], (numS s i bad).2.1, true) else if s.length < (numS s i bad).2.1 + (numS s i bad).1 then ([], (numS s i bad).2.1, true) else ((s.drop (numS s i bad).2.1).take (numS s i bad).1, (numS s i bad).2.1 + (numS s i bad).1, false)) := rfl
  unfold CNumPost at HN
  generalize numS s i bad = r at *
  obtain ⟨n, j, b⟩ := r
  simp only at hn1 hn2 hT HN
  have HT := Lib.hid hT
  clear hT hR
  have e2 : IntKind.i64.wrap (n : Int) = (n : Int) := IntWalk.i64_in _ (by omega)
  cases b
  · have e0 : IntKind.i64.wrap ((s.length : Int) - (j : Int)) = (s.length : Int) - (j : Int) := IntWalk.i64_in _ (by omega)
    have e1 : IntKind.i64.wrap ((j : Int) + (n : Int)) = (j : Int) + (n : Int) := IntWalk.i64_in _ (by omega)
    by_cases hc : s.length < j + n
    · have hd : decide ((s.length : Int) - (j : Int) < (n : Int)) = true := decide_eq_true (by omega)
      have HT2 : Hid (textS s i bad = ([], j, true)) := by
        show _ = _
        rw [HT.out, if_neg (by simp), if_pos hc]
      go_enter Tryz.func37, Tryz.ntmps37
      go_wp2_with fail
      refine HN.out.mono ?_
      rintro e w1 ⟨rfl, hR1, hg1⟩
      have c0 := hR1.c0
      have c1 := hR1.c1
      have c2 := hR1.c2f
      have hlt := hR1.lt
      have hfree := hR1.free
      go_wp2_with fail
      go_quiet (fail)
      go_wp2_with fail
      go_ret
      exact HP.out _ _ _ _ HT2.out ((hR1.drewN _).set2t) (gset (gdrewN hg1 _) _ _)
    · have hd : decide ((s.length : Int) - (j : Int) < (n : Int)) = false := decide_eq_false (by omega)
      have e3 : IntKind.i64.wrap ((j : Int) + (n : Int) - (n : Int)) = (j : Int) := by rw [show (j : Int) + (n : Int) - (n : Int) = (j : Int) by omega]; exact IntWalk.i64_in _ (by omega)
      have HT2 : Hid (textS s i bad = ((s.drop j).take n, j + n, false)) := by
        show _ = _
        rw [HT.out, if_neg (by simp), if_neg hc]
      have hsl : ∀ W, (Instr.slice 9 (.string ⟨s.toArray⟩) (some (.int .i64 (j : Int))) (some (.int .i64 ((j : Int) + (n : Int)))) none).run Tryz.prog W = .ok (.string ⟨((s.drop j).take n).toArray⟩) W := by
        intro W
        have h := run_midE (S := s) (i := j) (j := j + n) (Nat.le_add_right _ _) (by omega) W
        rw [Int.natCast_add] at h
        rw [h, List.drop_take, show j + n - j = n by omega]
      go_enter Tryz.func37, Tryz.ntmps37
      go_wp2_with fail
      refine HN.out.mono ?_
      rintro e w1 ⟨rfl, hR1, hg1⟩
      have c0 := hR1.c0
      have c1 := hR1.c1
      have c2 := hR1.c2f
      have hlt := hR1.lt
      have hfree := hR1.free
      go_wp2_with fail
      go_quiet (fail)
      go_wp2_with fail
      go_quiet (fail)
      go_wp2_with fail
      go_ret
      have h1 := fun x y => ((hR1.drewN x).set1 (j + n)).drewN y
      simp only [Int.natCast_add] at h1
      exact HP.out _ _ _ _ HT2.out (h1 _ _) (gdrewN (gset (gdrewN hg1 _) _ _) _)
  · have HT2 : Hid (textS s i bad = ([], j, true)) := by
      show _ = _
      rw [HT.out, if_pos rfl]
    go_enter Tryz.func37, Tryz.ntmps37
    go_wp2_with fail
    refine HN.out.mono ?_
    rintro e w1 ⟨rfl, hR1, hg1⟩
    have c0 := hR1.c0
    have c1 := hR1.c1
    have c2 := hR1.c2t
    have hlt := hR1.lt
    have hfree := hR1.free
    go_wp2_with fail
    go_quiet (fail)
    go_wp2_with fail
    go_ret
    exact HP.out _ _ _ _ HT2.out (hR1.drewN _) (gdrewN hg1 _)
end Go.Proofs.YtkdeokgkjmboeaaGreatDoor

namespace Go.Proofs.YtkdeokgkjmboeaaGreatDoor
open Go.RowKit

theorem Cur.far {W : World} {g : Nat} {s : List UInt8} {i : Nat} {bad : Bool} (h : Cur W g s i bad) {p : Addr} (hp : g ≠ p.block) (v : Value) : Cur (W.setCell p v) g s i bad := (Below.heap_setCell W p v g hp).trans h
theorem Cur.row {W : World} {g B : Nat} {s : List UInt8} {i : Nat} {bad : Bool} (h : Cur W g s i bad) (hB : g ≠ B) (cs : Array Value) : Cur (W.setRow B cs) g s i bad := (setRow_other W B g cs hB).trans h
def CAtomPost (s : List UInt8) (i : Nat) (bad : Bool) (g : Nat) (w : World) (e : Ending) (w' : World) : Prop :=
  e = .returned (.agg (atmC (ratomS s i bad).1)) ∧ Cur w' g s (ratomS s i bad).2.1 (ratomS s i bad).2.2 ∧ w.grownBy w' (some g)
set_option maxHeartbeats 4000000 in
set_option maxRecDepth 100000 in
theorem curatom_any (s : List UInt8) (i : Nat) (bad : Bool) (g : Nat) (w : World) (hs : s.length ≤ 1000000) (hi : i ≤ s.length) (hR : Cur w g s i bad) :
    Calls Tryz.prog 29 #[.pointer (some ⟨g, 0, none⟩)] w (CAtomPost s i bad g w) := by
  have HT1 := Lib.hid (fun W h => curtext_any s i bad g W hs hi h)
  have l1 := textS_le (bad := bad) hi
  obtain ⟨U, hU⟩ : ∃ U, Hid (U = textS s i bad) := ⟨_, rfl⟩
  unfold CTextPost at HT1
  have lu := textS_len s i bad
  rw [← hU.out] at HT1 l1 lu
  obtain ⟨u, i1, b1⟩ := U
  simp only at HT1 l1 lu
  have HT2 := Lib.hid (fun W h => curtext_any s i1 b1 g W hs l1 h)
  have l2 := textS_le (bad := b1) l1
  obtain ⟨V, hV⟩ : ∃ V, Hid (V = textS s i1 b1) := ⟨_, rfl⟩
  unfold CTextPost at HT2
  have lp := textS_len s i1 b1
  rw [← hV.out] at HT2 l2 lp
  obtain ⟨p, i2, b2⟩ := V
  simp only at HT2 l2 lp
  have HN3 := Lib.hid (fun W h => curnum_any s i2 b2 g W hs l2 h)
  have l3 := (numS_le (bad := b2) l2).2
  have n3 := (numS_le (bad := b2) l2).1
  obtain ⟨M, hM⟩ : ∃ M, Hid (M = numS s i2 b2) := ⟨_, rfl⟩
  unfold CNumPost at HN3
  rw [← hM.out] at HN3 l3 n3
  obtain ⟨n, i3, b3⟩ := M
  simp only at HN3 l3 n3
  obtain ⟨R, hR0⟩ : ∃ R, Hid (R = rnamesS s n i3 (b3 || decide (4 < n))) := ⟨_, rfl⟩
  have hA : Hid (ratomS s i bad = if R.2.2 || (checkA (padM u p n R.1) != 0) then (zeroAtm, R.2.1, true) else (padM u p n R.1, R.2.1, false)) := by
    show _ = _
    unfold ratomS
    rw [← hU.out]
    simp only
    rw [← hV.out]
    simp only
    rw [← hM.out]
    simp only
    rw [← hR0.out]
  have hne : w.heap.size ≠ g := by have := hR.lt; omega
  have hR1 : Cur (w.alloc (.cells (atmC zeroAtm) 26)) g s i bad := hR.next ((Since.refl _).alloc _)
  have hB1 : BlkA (w.alloc (.cells (atmC zeroAtm) 26)) w.heap.size zeroAtm := by
    unfold BlkA
    exact heap_alloc_new w _
  have hg1 : w.grownBy (w.alloc (.cells (atmC zeroAtm) 26)) (some g) := gsince (World.grownBy.refl _ _) ((Since.refl _).alloc _)
  have hsn : some w.heap.size ≠ some g := fun e => hne (by injection e)
  have hgl := hR.lt
  have hone : Hid ((#[.string ⟨u.toArray⟩, .string ⟨p.toArray⟩, .int .i64 0, .bool false, .string ⟨#[]⟩, .bool false, .string ⟨#[]⟩, .bool false, .string ⟨#[]⟩, .bool false, .string ⟨#[]⟩] : Array Value).all (·.oneCell') = true) := by show _ = _; simp [Value.oneCell']
  clear hU hV hM hR
  go_enter Tryz.func29, Tryz.ntmps29
  go_wp2_with fail
  refine (HT1.out _ hR1).mono ?_
  rintro e w2 ⟨rfl, hR2, hg2⟩
  have hB2 : BlkA w2 w.heap.size zeroAtm := BlkA.grown hB1 hg2 hsn
  replace hg2 := gtrans hg1 hg2
  clear hB1 hg1 hR1 HT1
  go_wp2_with fail
  refine (HT2.out _ hR2).mono ?_
  rintro e w3 ⟨rfl, hR3, hg3⟩
  have hB3 : BlkA w3 w.heap.size zeroAtm := BlkA.grown hB2 hg3 hsn
  replace hg3 := gtrans hg2 hg3
  clear hB2 hg2 hR2 HT2
  have hnew : Hid ((w3.alloc (.cells (atmC zeroAtm) 26)).heap[w3.heap.size]? = some (.cells (atmC zeroAtm) 26 (0, 0))) := heap_alloc_new w3 _
  go_wp2_with (refine wpList_store_row rfl 26 (.tmp 3) (.tmp 11) rfl w3.heap.size #[.string ⟨u.toArray⟩, .string ⟨p.toArray⟩, .int .i64 0, .bool false, .string ⟨#[]⟩, .bool false, .string ⟨#[]⟩, .bool false, .string ⟨#[]⟩, .bool false, .string ⟨#[]⟩] rfl rfl 26 (atmC zeroAtm) hnew.out ainfoA rfl hone.out ?_)
  have hgl3 : w.heap.size < w3.heap.size := hB3.lt
  have hgn : g < w3.heap.size := hR3.lt
  have hA4 : BlkA ((w3.alloc (.cells (atmC zeroAtm) 26)).setRow w3.heap.size (atmC (padM u p 0 []))) w3.heap.size (padM u p 0 []) := BlkA.row (a := zeroAtm) hnew.out (padM u p 0 [])
  have hB4 : BlkA ((w3.alloc (.cells (atmC zeroAtm) 26)).setRow w3.heap.size (atmC (padM u p 0 []))) w.heap.size zeroAtm := (setRow_other _ _ _ _ (by omega)).trans (hB3.next ((Since.refl _).alloc _))
  have hR4 : Cur ((w3.alloc (.cells (atmC zeroAtm) 26)).setRow w3.heap.size (atmC (padM u p 0 []))) g s i2 b2 := (hR3.next ((Since.refl _).alloc _)).row (by omega) _
  have hg4 : w.grownBy ((w3.alloc (.cells (atmC zeroAtm) 26)).setRow w3.heap.size (atmC (padM u p 0 []))) (some g) := grow_row (gsince hg3 ((Since.refl _).alloc _)) (by omega) _
  have ew4 : ((w3.alloc (.cells (atmC zeroAtm) 26)).setRow w3.heap.size (atmC (padM u p 0 []))) = ((w3.alloc (.cells #[.string ⟨#[]⟩, .string ⟨#[]⟩, .int .i64 0, .bool false, .string ⟨#[]⟩, .bool false, .string ⟨#[]⟩, .bool false, .string ⟨#[]⟩, .bool false, .string ⟨#[]⟩] 26)).setRow w3.heap.size #[.string ⟨u.toArray⟩, .string ⟨p.toArray⟩, .int .i64 0, .bool false, .string ⟨#[]⟩, .bool false, .string ⟨#[]⟩, .bool false, .string ⟨#[]⟩, .bool false, .string ⟨#[]⟩]) := rfl
  rw [ew4] at hA4 hB4 hR4 hg4
  clear ew4 hnew hB3 hR3 hg3 hone
  generalize ((w3.alloc (.cells #[.string ⟨#[]⟩, .string ⟨#[]⟩, .int .i64 0, .bool false, .string ⟨#[]⟩, .bool false, .string ⟨#[]⟩, .bool false, .string ⟨#[]⟩, .bool false, .string ⟨#[]⟩] 26)).setRow w3.heap.size #[.string ⟨u.toArray⟩, .string ⟨p.toArray⟩, .int .i64 0, .bool false, .string ⟨#[]⟩, .bool false, .string ⟨#[]⟩, .bool false, .string ⟨#[]⟩, .bool false, .string ⟨#[]⟩]) = w4 at *
  generalize w3.heap.size = nb at *
  have hnn : some nb ≠ some g := fun e => by injection e; omega
  refine (HN3.out _ hR4).mono ?_
  rintro e w5 ⟨rfl, hR5, hg5⟩
  have hB5 := hB4.grown hg5 hsn
  have hA5 := hA4.grown hg5 hnn
  replace hg5 := gtrans hg4 hg5
  have hlt5 := hR5.lt
  have hfr5 := hR5.free
  have c2 := hR5.c2
  clear hR4 hg4 hB4 hA4 HN3
  obtain ⟨b, hb⟩ : ∃ b, Hid (b = (b3 || decide (4 < n))) := ⟨_, rfl⟩
  have en : IntKind.i64.wrap (n : Int) = (n : Int) := IntWalk.i64_in _ (by omega)
  have HW : Hid (∃ w6, Cur w6 g s i3 b ∧ BlkA w6 w.heap.size zeroAtm ∧ BlkA w6 nb (padM u p 0 []) ∧ w.grownBy w6 (some g) ∧ w6 = if decide (4 < n) then w5.setCell ⟨g, 2, none⟩ (.int .i64 15) else w5) := by
    cases h4 : decide (4 < n)
    · refine ⟨w5, ?_, hB5, hA5, hg5, by simp⟩
      rw [hb.out, h4, Bool.or_false]; exact hR5
    · refine ⟨w5.setCell ⟨g, 2, none⟩ (.int .i64 15), ?_, hB5.far hne _, hA5.far (fun e => hnn (congrArg some e)) _, gset hg5 _ _, by simp⟩
      rw [hb.out, h4, Bool.or_true]; exact hR5.set2t
  have hbn : b = false → n ≤ 4 := by
    intro h
    rw [hb.out, Bool.or_eq_false_iff, decide_eq_false_iff_not] at h
    omega
  rw [← hb.out] at hR0
  have hRR : Hid (R = (([] : List Tm) ++ (rnamesS s (n - 0) i3 b).1, (rnamesS s (n - 0) i3 b).2)) := hR0.out
  have hdd : Hid (decide (4 < n) = decide ((4 : Int) < (n : Int))) := by
    show _ = _
    rw [Bool.eq_iff_iff, decide_eq_true_eq, decide_eq_true_eq]
    constructor <;> intro h <;> omega
  cases h4 : decide ((4 : Int) < (n : Int))
  all_goals
    obtain ⟨w6, hR6, hB6, hA6, hg6, hw6⟩ := HW.out
    rw [hdd.out, h4] at hw6
    simp only [Bool.false_eq_true, if_false, if_true] at hw6
    clear HW hdd hb hR0
    go_wp2_with fail
    rw [← hw6]
    clear hw6 c2 hlt5 hfr5 hR5 hB5 hA5 hg5
    go_loopw [5] (fun x wr => ∃ (k : Nat) (L : List Tm) (j : Nat) (bb : Bool), k ≤ n ∧ L.length = k ∧ x = .int .i64 k ∧ j ≤ s.length ∧ (bb = false → n ≤ 4) ∧ Cur wr g s j bb ∧ BlkA wr w.heap.size zeroAtm ∧ BlkA wr nb (padM u p 0 L) ∧ w.grownBy wr (some g) ∧ Hid (∀ x ∈ L, x.2.length ≤ s.length) ∧ Hid (R = (L ++ (rnamesS s (n - k) j bb).1, (rnamesS s (n - k) j bb).2))) (fun x _ => n - (intOf x).toNat)
    case atStart => exact ⟨0, [], i3, b, by omega, rfl, rfl, l3, hbn, hR6, hB6, hA6, hg6, (fun x hx => by simp at hx), hRR.out⟩
    case round =>
      clear hR6 hB6 hA6 hg6 hRR hbn
      obtain ⟨k, L, j, bb, hk, hLk, rfl, hj, hbb, hRj, hBj, hAj, hgj, hLl, hres⟩ := hrel
      have HLK := Lib.hid hLk
      clear hLk
      by_cases hlt : (k : Int) < (n : Int)
      · cases bb
        · have c2 := hRj.c2f
          have hk4 : k < 4 := by have := hbb rfl; omega
          have hk4i : (k : Int) < 4 := by omega
          obtain ⟨F, hF⟩ : ∃ F, Hid (F = byteS s j false) := ⟨_, rfl⟩
          have HFL := Lib.hid (curbyte_any s j false g wr hs hj hRj)
          have lf := byteS_le (b := false) hj
          unfold CBytePost at HFL
          rw [← hF.out] at HFL lf
          obtain ⟨fv, j1, bf⟩ := F
          simp only at HFL lf
          obtain ⟨b7, hb7⟩ : ∃ b, Hid (b = (bf || decide (1 < fv))) := ⟨_, rfl⟩
          obtain ⟨X, hX⟩ : ∃ X, Hid (X = textS s j1 b7) := ⟨_, rfl⟩
          have HTX := Lib.hid (fun W h => curtext_any s j1 b7 g W hs lf h)
          have lt2 := textS_le (bad := b7) lf
          unfold CTextPost at HTX
          have lx := textS_len s j1 b7
          rw [← hX.out] at HTX lt2 lx
          obtain ⟨t, j2, bt⟩ := X
          simp only at HTX lt2 lx
          have hLl2 : Hid (∀ x ∈ L ++ [(decide (fv = 1), t)], x.2.length ≤ s.length) := by
            intro x hx
            rcases List.mem_append.1 hx with h | h
            · exact hLl.out x h
            · simp only [List.mem_cons, List.not_mem_nil, or_false] at h
              rw [h]; exact lx
          have hres2 : Hid (R = ((L ++ [(decide (fv = 1), t)]) ++ (rnamesS s (n - (k + 1)) j2 bt).1, (rnamesS s (n - (k + 1)) j2 bt).2)) := by
            have hnn : n - k = (n - (k + 1)) + 1 := by omega
            have h := hres.out
            rw [hnn, rnamesS, if_neg (by simp)] at h
            simp only at h
            rw [← hF.out] at h
            simp only at h
            rw [← hb7.out, ← hX.out] at h
            show _ = _
            rw [h]; simp
          have hbb2 : n ≤ 4 := hbb rfl
          clear hres hF hX hbb
          go_wp2_with fail
          refine HFL.out.mono ?_
          rintro e w7 ⟨rfl, hR7, hg7⟩
          have hB7 := hBj.grown hg7 hsn
          have hA7 := hAj.grown hg7 hnn
          have hgg := gtrans hgj hg7
          have hlt7 := hR7.lt
          have hfr7 := hR7.free
          have d2 := hR7.c2
          have hd1 : Hid (decide (1 < fv) = decide ((1 : Int) < (fv : Int))) := by
            show _ = _
            rw [Bool.eq_iff_iff, decide_eq_true_eq, decide_eq_true_eq]
            constructor <;> intro h <;> omega
          have HW8 : Hid (∃ w8, Cur w8 g s j1 b7 ∧ BlkA w8 w.heap.size zeroAtm ∧ BlkA w8 nb (padM u p 0 L) ∧ w.grownBy w8 (some g) ∧ w8 = if decide (1 < fv) then w7.setCell ⟨g, 2, none⟩ (.int .i64 15) else w7) := by
            cases h1 : decide (1 < fv)
            · refine ⟨w7, ?_, hB7, hA7, hgg, by simp⟩
              rw [hb7.out, h1, Bool.or_false]; exact hR7
            · refine ⟨w7.setCell ⟨g, 2, none⟩ (.int .i64 15), ?_, hB7.far hne _, hA7.far (fun e => hnn (congrArg some e)) _, gset hgg _ _, by simp⟩
              rw [hb7.out, h1, Bool.or_true]; exact hR7.set2t
          cases h1 : decide ((1 : Int) < (fv : Int))
          all_goals
            obtain ⟨w8, hR8, hB8, hA8, hg8, hw8⟩ := HW8.out
            rw [hd1.out, h1] at hw8
            simp only [Bool.false_eq_true, if_false, if_true] at hw8
            clear HW8 hd1 hb7
            go_wp2_with fail
            rw [← hw8]
            clear hw8 d2 hlt7 hfr7 hR7 hB7 hA7 hgg
            refine (HTX.out _ hR8).mono ?_
            rintro e w9 ⟨rfl, hR9, hg9⟩
            have hB9 := hB8.grown hg9 hsn
            have hA9 := hA8.grown hg9 hnn
            have hgg9 := gtrans hg8 hg9
            have hlt9 := hA9.lt
            have hfr9 := hA9.free
            obtain ⟨ca, cb⟩ := hA9.box.args.2 k hk4
            clear hR8 hB8 hA8 hg8 hg9
            go_wp2_with fail
            have hv : ((fv : Int) == 1) = decide (fv = 1) := by
              rw [Bool.eq_iff_iff, beq_iff_eq, decide_eq_true_eq]
              constructor <;> intro h <;> omega
            go_roundw
            case rel =>
              rw [hv]
              exact ⟨k + 1, L ++ [(decide (fv = 1), t)], j2, bt, by omega, by simp [HLK.out], by go_num, lt2, fun _ => hbb2, (hR9.far (fun e => hnn (congrArg some e.symm)) _).far (fun e => hnn (congrArg some e.symm)) _, (hB9.far (Nat.ne_of_lt hgl3) _).far (Nat.ne_of_lt hgl3) _, (hA9.set (pad_v HLK.out hk4 _)).set (pad_t HLK.out hk4 _ t), gfar (gfar hgg9 (Nat.le_of_lt hgl3) _) (Nat.le_of_lt hgl3) _, hLl2.out, hres2.out⟩
            case measure => simp [intOf]; omega
        · have c2 := hRj.c2t
          have hRE : Hid (R = (L, j, true)) := by
            show _ = _
            rw [hres.out, rnamesS_bad]; simp
          have HP : Hid (∀ W, Cur W g s j true → w.grownBy W (some g) → CAtomPost s i bad g w (.returned (.agg (atmC zeroAtm))) W) := by
            intro W h1 h2
            unfold CAtomPost
            rw [hA.out, hRE.out, if_pos (by simp)]; exact ⟨rfl, h1, h2⟩
          have HBK : Hid (wr.heap[w.heap.size]? = some (.cells (atmC zeroAtm) 26 (0, 0))) := hBj
          have hone : Hid ((#[.string ⟨#[]⟩, .string ⟨#[]⟩, .int .i64 0, .bool false, .string ⟨#[]⟩, .bool false, .string ⟨#[]⟩, .bool false, .string ⟨#[]⟩, .bool false, .string ⟨#[]⟩] : Array Value).all (·.oneCell') = true) := by show _ = _; simp [Value.oneCell']
          have hbx : Box (wr.setRow w.heap.size #[.string ⟨#[]⟩, .string ⟨#[]⟩, .int .i64 0, .bool false, .string ⟨#[]⟩, .bool false, .string ⟨#[]⟩, .bool false, .string ⟨#[]⟩, .bool false, .string ⟨#[]⟩]) w.heap.size zeroAtm := (BlkA.row (a := zeroAtm) hBj zeroAtm).box
          have HBX := Lib.hid hbx
          clear hres hA hRE hBj hAj hbx
          go_wp2_with (refine wpList_store_row rfl 26 (.tmp 2) (.tmp 52) rfl w.heap.size #[.string ⟨#[]⟩, .string ⟨#[]⟩, .int .i64 0, .bool false, .string ⟨#[]⟩, .bool false, .string ⟨#[]⟩, .bool false, .string ⟨#[]⟩, .bool false, .string ⟨#[]⟩] rfl rfl 26 (atmC zeroAtm) HBK.out ainfoA rfl hone.out ?_)
          obtain ⟨e0, e1, e2, e3, e4, e5, e6, e7, e8, e9, e10⟩ := HBX.out.all
          refine bodyPost_ret (v := .agg #[.string ⟨#[]⟩, .string ⟨#[]⟩, .int .i64 0, .bool false, .string ⟨#[]⟩, .bool false, .string ⟨#[]⟩, .bool false, .string ⟨#[]⟩, .bool false, .string ⟨#[]⟩]) (by simp [results, Tryz.results29, go_sem, e0, e1, e2, e3, e4, e5, e6, e7, e8, e9, e10, zeroAtm]) rfl ?_
          exact HP.out _ (hRj.row (fun e => hne e.symm) _) (grow_row hgj (Nat.le_refl _) _)
      · cases bb
        · have c2 := hRj.c2f
          have hkn : k = n := by omega
          have hRE : Hid (R = (L, j, false)) := by
            show _ = _
            rw [hres.out, show n - k = 0 by omega, rnamesS]; simp
          obtain ⟨t0, ht0⟩ : ∃ t, Hid (t = L.getD 0 (false, [])) := ⟨_, rfl⟩
          obtain ⟨t1, ht1⟩ : ∃ t, Hid (t = L.getD 1 (false, [])) := ⟨_, rfl⟩
          obtain ⟨t2, ht2⟩ : ∃ t, Hid (t = L.getD 2 (false, [])) := ⟨_, rfl⟩
          obtain ⟨t3, ht3⟩ : ∃ t, Hid (t = L.getD 3 (false, [])) := ⟨_, rfl⟩
          have hpad : ∀ m : Int, padM u p m L = (u, p, m, t0, t1, t2, t3) := by
            intro m
            rw [padM, ← ht0.out, ← ht1.out, ← ht2.out, ← ht3.out]
          have hnl : ∀ q, (L.getD q (false, [])).2.length ≤ s.length := by
            intro q
            rw [List.getD_eq_getElem?_getD]
            cases hq : L[q]? with
            | none => simp
            | some x => exact hLl.out x (List.mem_of_getElem? hq)
          have y0 := hnl 0
          have y1 := hnl 1
          have y2 := hnl 2
          have y3 := hnl 3
          rw [← ht0.out] at y0
          rw [← ht1.out] at y1
          rw [← ht2.out] at y2
          rw [← ht3.out] at y3
          have HA2 : Hid (ratomS s i bad = if (checkA (u, p, (n : Int), t0, t1, t2, t3) != 0) then (zeroAtm, j, true) else ((u, p, (n : Int), t0, t1, t2, t3), j, false)) := by
            show _ = _
            rw [hA.out, hRE.out, hpad]; rfl
          rw [hpad] at hAj
          obtain ⟨v0, m0⟩ := t0
          obtain ⟨v1, m1⟩ := t1
          obtain ⟨v2, m2⟩ := t2
          obtain ⟨v3, m3⟩ := t3
          simp only at y0 y1 y2 y3
          have hFt : FitsA ((u, p, (n : Int), (v0, m0), (v1, m1), (v2, m2), (v3, m3)) : Atm) := by
            refine ⟨by show u.length ≤ maxLen; unfold maxLen; omega, by show p.length ≤ maxLen; unfold maxLen; omega, fun x hx => ?_⟩
            have hx' : x ∈ [(v0, m0), (v1, m1), (v2, m2), (v3, m3)] := hx
            simp only [List.mem_cons, List.not_mem_nil, or_false] at hx'
            unfold maxLen
            rcases hx' with rfl | rfl | rfl | rfl <;> (simp only; omega)
          have hA2 : BlkA (wr.setCell ⟨nb, 2, none⟩ (.int .i64 (n : Int))) nb (u, p, (n : Int), (v0, m0), (v1, m1), (v2, m2), (v3, m3)) := hAj.set rfl
          have hB2 : BlkA (wr.setCell ⟨nb, 2, none⟩ (.int .i64 (n : Int))) w.heap.size zeroAtm := hBj.far (Nat.ne_of_lt hgl3) _
          have hR2 : Cur (wr.setCell ⟨nb, 2, none⟩ (.int .i64 (n : Int))) g s j false := hRj.far (fun e => hnn (congrArg some e.symm)) _
          have hg2 : w.grownBy (wr.setCell ⟨nb, 2, none⟩ (.int .i64 (n : Int))) (some g) := gfar hgj (Nat.le_of_lt hgl3) _
          have HCK := Lib.hid (fun W => rcheck_any u p (n : Int) v0 v1 v2 v3 m0 m1 m2 m3 W hFt)
          obtain ⟨z0, z1, z2, z3, z4, z5, z6, z7, z8, z9, z10⟩ := hAj.box.all
          have hlB := hAj.lt
          have hfB := hAj.free
          have hlg := hRj.lt
          have hfg := hRj.free
          clear hres hA hRE hpad hnl hFt ht0 ht1 ht2 ht3 hBj hAj
          go_wp2_with fail
          refine (HCK.out _).mono ?_
          rintro e w9 ⟨rfl, hb9⟩
          generalize checkA ((u, p, (n : Int), (v0, m0), (v1, m1), (v2, m2), (v3, m3)) : Atm) = kk at *
          have hA9 := hA2.next hb9
          have hB9 := hB2.next hb9
          have hR9 := hR2.next hb9
          have hg9 := gsince hg2 hb9
          have hl9 := hR9.lt
          have hf9 := hR9.free
          have c9 := hR9.c2f
          clear hB2 hR2 hA2 hg2 HCK hb9 z0 z1 z2 z3 z4 z5 z6 z7 z8 z9 z10
          cases hk9 : (kk != 0)
          case true =>
            have HP : Hid (∀ W, Cur W g s j true → w.grownBy W (some g) → CAtomPost s i bad g w (.returned (.agg (atmC zeroAtm))) W) := by
              intro W h1 h2
              unfold CAtomPost
              rw [HA2.out, hk9, if_pos rfl]; exact ⟨rfl, h1, h2⟩
            have HBK : Hid ((w9.setCell ⟨g, 2, none⟩ (.int .i64 15)).heap[w.heap.size]? = some (.cells (atmC zeroAtm) 26 (0, 0))) := hB9.far hne (.int .i64 15)
            have hone : Hid ((#[.string ⟨#[]⟩, .string ⟨#[]⟩, .int .i64 0, .bool false, .string ⟨#[]⟩, .bool false, .string ⟨#[]⟩, .bool false, .string ⟨#[]⟩, .bool false, .string ⟨#[]⟩] : Array Value).all (·.oneCell') = true) := by show _ = _; simp [Value.oneCell']
            have HBX : Hid (Box ((w9.setCell ⟨g, 2, none⟩ (.int .i64 15)).setRow w.heap.size #[.string ⟨#[]⟩, .string ⟨#[]⟩, .int .i64 0, .bool false, .string ⟨#[]⟩, .bool false, .string ⟨#[]⟩, .bool false, .string ⟨#[]⟩, .bool false, .string ⟨#[]⟩]) w.heap.size zeroAtm) := (BlkA.row (a := zeroAtm) HBK.out zeroAtm).box
            clear HA2
            go_wp2_with (refine wpList_store_row rfl 26 (.tmp 2) (.tmp 62) rfl w.heap.size #[.string ⟨#[]⟩, .string ⟨#[]⟩, .int .i64 0, .bool false, .string ⟨#[]⟩, .bool false, .string ⟨#[]⟩, .bool false, .string ⟨#[]⟩, .bool false, .string ⟨#[]⟩] rfl rfl 26 (atmC zeroAtm) HBK.out ainfoA rfl hone.out ?_)
            obtain ⟨e0, e1, e2, e3, e4, e5, e6, e7, e8, e9, e10⟩ := HBX.out.all
            refine bodyPost_ret (v := .agg #[.string ⟨#[]⟩, .string ⟨#[]⟩, .int .i64 0, .bool false, .string ⟨#[]⟩, .bool false, .string ⟨#[]⟩, .bool false, .string ⟨#[]⟩, .bool false, .string ⟨#[]⟩]) (by simp [results, Tryz.results29, go_sem, e0, e1, e2, e3, e4, e5, e6, e7, e8, e9, e10, zeroAtm]) rfl ?_
            exact HP.out _ (hR9.set2t.row (fun e => hne e.symm) _) (grow_row (gset hg9 _ _) (Nat.le_refl _) _)
          case false =>
            have HP : Hid (∀ W, Cur W g s j false → w.grownBy W (some g) → CAtomPost s i bad g w (.returned (.agg #[.string ⟨u.toArray⟩, .string ⟨p.toArray⟩, .int .i64 (n : Int), .bool v0, .string ⟨m0.toArray⟩, .bool v1, .string ⟨m1.toArray⟩, .bool v2, .string ⟨m2.toArray⟩, .bool v3, .string ⟨m3.toArray⟩])) W) := by
              intro W h1 h2
              unfold CAtomPost
              rw [HA2.out, hk9, if_neg (by simp)]; exact ⟨rfl, h1, h2⟩
            have HBK : Hid (w9.heap[w.heap.size]? = some (.cells (atmC zeroAtm) 26 (0, 0))) := hB9
            have hone : Hid ((#[.string ⟨u.toArray⟩, .string ⟨p.toArray⟩, .int .i64 (n : Int), .bool v0, .string ⟨m0.toArray⟩, .bool v1, .string ⟨m1.toArray⟩, .bool v2, .string ⟨m2.toArray⟩, .bool v3, .string ⟨m3.toArray⟩] : Array Value).all (·.oneCell') = true) := by show _ = _; simp [Value.oneCell']
            have HBX : Hid (Box (w9.setRow w.heap.size #[.string ⟨u.toArray⟩, .string ⟨p.toArray⟩, .int .i64 (n : Int), .bool v0, .string ⟨m0.toArray⟩, .bool v1, .string ⟨m1.toArray⟩, .bool v2, .string ⟨m2.toArray⟩, .bool v3, .string ⟨m3.toArray⟩]) w.heap.size ((u, p, (n : Int), (v0, m0), (v1, m1), (v2, m2), (v3, m3)) : Atm)) := (BlkA.row (a := zeroAtm) hB9 ((u, p, (n : Int), (v0, m0), (v1, m1), (v2, m2), (v3, m3)) : Atm)).box
            obtain ⟨z0, z1, z2, z3, z4, z5, z6, z7, z8, z9, z10⟩ := hA9.box.all
            clear HA2
            go_wp2_with (refine wpList_store_row rfl 26 (.tmp 2) (.tmp 63) rfl w.heap.size #[.string ⟨u.toArray⟩, .string ⟨p.toArray⟩, .int .i64 (n : Int), .bool v0, .string ⟨m0.toArray⟩, .bool v1, .string ⟨m1.toArray⟩, .bool v2, .string ⟨m2.toArray⟩, .bool v3, .string ⟨m3.toArray⟩] rfl rfl 26 (atmC zeroAtm) HBK.out ainfoA rfl hone.out ?_)
            obtain ⟨e0, e1, e2, e3, e4, e5, e6, e7, e8, e9, e10⟩ := HBX.out.all
            refine bodyPost_ret (v := .agg #[.string ⟨u.toArray⟩, .string ⟨p.toArray⟩, .int .i64 (n : Int), .bool v0, .string ⟨m0.toArray⟩, .bool v1, .string ⟨m1.toArray⟩, .bool v2, .string ⟨m2.toArray⟩, .bool v3, .string ⟨m3.toArray⟩]) (by simp [results, Tryz.results29, go_sem, e0, e1, e2, e3, e4, e5, e6, e7, e8, e9, e10]) rfl ?_
            exact HP.out _ (hR9.row (fun e => hne e.symm) _) (grow_row hg9 (Nat.le_refl _) _)
        · have c2 := hRj.c2t
          have hRE : Hid (R = (L, j, true)) := by
            show _ = _
            rw [hres.out, rnamesS_bad]; simp
          have HP : Hid (∀ W, Cur W g s j true → w.grownBy W (some g) → CAtomPost s i bad g w (.returned (.agg (atmC zeroAtm))) W) := by
            intro W h1 h2
            unfold CAtomPost
            rw [hA.out, hRE.out, if_pos (by simp)]; exact ⟨rfl, h1, h2⟩
          have HBK : Hid (wr.heap[w.heap.size]? = some (.cells (atmC zeroAtm) 26 (0, 0))) := hBj
          have hone : Hid ((#[.string ⟨#[]⟩, .string ⟨#[]⟩, .int .i64 0, .bool false, .string ⟨#[]⟩, .bool false, .string ⟨#[]⟩, .bool false, .string ⟨#[]⟩, .bool false, .string ⟨#[]⟩] : Array Value).all (·.oneCell') = true) := by show _ = _; simp [Value.oneCell']
          have hbx : Box (wr.setRow w.heap.size #[.string ⟨#[]⟩, .string ⟨#[]⟩, .int .i64 0, .bool false, .string ⟨#[]⟩, .bool false, .string ⟨#[]⟩, .bool false, .string ⟨#[]⟩, .bool false, .string ⟨#[]⟩]) w.heap.size zeroAtm := (BlkA.row (a := zeroAtm) hBj zeroAtm).box
          have HBX := Lib.hid hbx
          clear hres hA hRE hBj hAj hbx
          go_wp2_with (refine wpList_store_row rfl 26 (.tmp 2) (.tmp 52) rfl w.heap.size #[.string ⟨#[]⟩, .string ⟨#[]⟩, .int .i64 0, .bool false, .string ⟨#[]⟩, .bool false, .string ⟨#[]⟩, .bool false, .string ⟨#[]⟩, .bool false, .string ⟨#[]⟩] rfl rfl 26 (atmC zeroAtm) HBK.out ainfoA rfl hone.out ?_)
          obtain ⟨e0, e1, e2, e3, e4, e5, e6, e7, e8, e9, e10⟩ := HBX.out.all
          refine bodyPost_ret (v := .agg #[.string ⟨#[]⟩, .string ⟨#[]⟩, .int .i64 0, .bool false, .string ⟨#[]⟩, .bool false, .string ⟨#[]⟩, .bool false, .string ⟨#[]⟩, .bool false, .string ⟨#[]⟩]) (by simp [results, Tryz.results29, go_sem, e0, e1, e2, e3, e4, e5, e6, e7, e8, e9, e10, zeroAtm]) rfl ?_
          exact HP.out _ (hRj.row (fun e => hne e.symm) _) (grow_row hgj (Nat.le_refl _) _)
end Go.Proofs.YtkdeokgkjmboeaaGreatDoor
