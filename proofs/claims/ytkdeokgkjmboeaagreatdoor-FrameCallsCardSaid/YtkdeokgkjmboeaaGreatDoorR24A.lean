/- What the reference's ReadRequest and ReadResponse come to: the same as package frame's; plain facts, no program in sight. The reference's mayRequest, Request, ReadRequest. -/
import Derived.Test.YtkdeokgkjmboeaaGreatDoorFrH
import Derived.Test.YtkdeokgkjmboeaaGreatDoorCurA
import Derived.Test.YtkdeokgkjmboeaaGreatDoorFrC
import Derived.Test.YtkdeokgkjmboeaaGreatDoorRef23B
namespace Go.Proofs.YtkdeokgkjmboeaaGreatDoor
open Go.RowKit

theorem byte_one {s : List UInt8} {i : Nat} (h : (oneF (s.drop i) false).2.2 = false) : byteS s i false = ((oneF (s.drop i) false).1, i + 1, false) ∧ (oneF (s.drop i) false).2.1 = s.drop (i + 1) ∧ i + 1 ≤ s.length := by
  cases hd : s.drop i with
  | nil => rw [hd] at h; cases h
  | cons c r =>
    have h2 : s.drop (i + 1) = r := by rw [← List.tail_drop, hd]; rfl
    have h3 : i < s.length := by
      have := congrArg List.length hd
      rw [List.length_drop, List.length_cons] at this
      omega
    unfold byteS
    rw [if_neg (by simp), hd, h2]
    exact ⟨rfl, rfl, by omega⟩
theorem one_byte {s : List UInt8} {i : Nat} (h : (byteS s i false).2.2 = false) : oneF (s.drop i) false = ((byteS s i false).1, s.drop (i + 1), false) ∧ (byteS s i false).2.1 = i + 1 := by
  unfold byteS at h ⊢
  rw [if_neg (by simp)] at h ⊢
  cases hd : s.drop i with
  | nil => rw [hd] at h; cases h
  | cons c r =>
    have h2 : s.drop (i + 1) = r := by rw [← List.tail_drop, hd]; rfl
    rw [h2]
    exact ⟨rfl, rfl⟩
theorem byteS_256 (s : List UInt8) (i : Nat) (b : Bool) : (byteS s i b).1 < 256 := by
  unfold byteS
  split
  · show 0 < 256; omega
  · split
    · show 0 < 256; omega
    · rename_i c _ _
      exact c.toNat_lt
theorem ratom_lightR (s : List UInt8) (i : Nat) (b : Bool) : lightB (ratomS s i b).1 = true := by
  rw [(ratom_eq s i b).1]
  cases h : (atomS s i b).2.2
  · exact valid_light (atomS_valid h)
  · rw [atomS_zero h]; decide
theorem atom_S {s : List UInt8} {i : Nat} (hi : i ≤ s.length) : ofS (s.drop i) (atomS (s.drop i) 0 false) = ofS s (atomS s i false) := by
  have h1 := atomS_P (s := s.drop i) (i := 0) (Nat.zero_le _)
  have h2 := atomS_P (s := s) (i := i) hi
  rw [List.drop_zero] at h1
  rw [← h1, h2]
theorem atom_cur {s : List UInt8} {i : Nat} (hi : i ≤ s.length) (h : (atomF (s.drop i) false).2.2 = false) : ∃ j, ratomS s i false = ((atomF (s.drop i) false).1, j, false) ∧ (atomF (s.drop i) false).2.1 = s.drop j ∧ j ≤ s.length := by
  have hS := atom_S hi
  have hl := ratomS_le (s := s) (bad := false) hi
  have hr := (ratom_eq s i false).2.2
  unfold atomF at h ⊢
  rw [if_neg (by simp)] at h ⊢
  cases hz : (atomS (s.drop i) 0 false).2.2
  · clear h
    unfold ofS at hS
    rw [hz] at hS
    cases hy : (atomS s i false).2.2
    · rw [hy] at hS
      simp only [Bool.false_eq_true, if_false, Option.some.injEq, Prod.mk.injEq] at hS ⊢
      rw [hr hy] at hl ⊢
      exact ⟨(atomS s i false).2.1, Prod.ext hS.1.symm (Prod.ext rfl hy), hS.2, hl⟩
    · rw [hy] at hS
      simp at hS
  · rw [hz] at h
    simp at h
theorem cur_atom {s : List UInt8} {i : Nat} (hi : i ≤ s.length) (h : (ratomS s i false).2.2 = false) : atomF (s.drop i) false = ((ratomS s i false).1, s.drop (ratomS s i false).2.1, false) := by
  have hS := atom_S hi
  obtain ⟨_, h2, h3⟩ := ratom_eq s i false
  have hy : (atomS s i false).2.2 = false := by rw [← h2]; exact h
  rw [h3 hy]
  unfold ofS at hS
  rw [hy] at hS
  unfold atomF
  rw [if_neg (by simp)]
  cases hz : (atomS (s.drop i) 0 false).2.2
  · rw [hz] at hS
    simp only [Bool.false_eq_true, if_false, Option.some.injEq, Prod.mk.injEq] at hS ⊢
    exact ⟨hS.1, hS.2, trivial⟩
  · rw [hz] at hS
    simp at hS
theorem num_cur {s : List UInt8} {i : Nat} (hi : i ≤ s.length) (h : (nmF (s.drop i) false).2.2 = false) : ∃ j, numS s i false = ((nmF (s.drop i) false).1, j, false) ∧ (nmF (s.drop i) false).2.1 = s.drop j ∧ j ≤ s.length := by
  have hl := (numS_le (s := s) (bad := false) hi).2
  unfold nmF at h ⊢
  unfold numS at hl ⊢
  rw [if_neg (by simp)] at h hl ⊢
  rw [if_neg (by simp)]
  cases hr : readL (s.drop i) with
  | none => rw [hr] at h; simp at h
  | some p =>
    obtain ⟨n, k⟩ := p
    rw [hr] at hl
    exact ⟨i + k, rfl, by simp only [List.drop_drop], hl⟩
theorem text_cur {s : List UInt8} {i : Nat} (hi : i ≤ s.length) (h : (takeF (nmF (s.drop i) false).2.1 (nmF (s.drop i) false).2.2 (nmF (s.drop i) false).1).2.2 = false) : ∃ j, textS s i false = ((takeF (nmF (s.drop i) false).2.1 (nmF (s.drop i) false).2.2 (nmF (s.drop i) false).1).1, j, false) := by
  cases hb : (nmF (s.drop i) false).2.2
  · obtain ⟨j, h1, h2, h3⟩ := num_cur hi hb
    rw [hb, h2] at h
    rw [h2]
    unfold textS
    rw [h1]
    simp only [Bool.false_eq_true, if_false]
    unfold takeF at h ⊢
    simp only [Bool.false_eq_true, if_false] at h ⊢
    by_cases hl : (s.drop j).length < (nmF (s.drop i) false).1
    · rw [if_pos hl] at h; simp at h
    · rw [if_neg hl, if_neg (by rw [List.length_drop] at hl; omega)]
      exact ⟨_, rfl⟩
  · rw [hb] at h
    simp [takeF] at h

/-- The answers' loop. -/
def ratomsS (s : List UInt8) : Nat → Nat → Bool → List Atm × Nat × Bool
  | 0, i, b => ([], i, b)
  | m + 1, i, b => if b then ([], i, true) else
    ((ratomS s i false).1 :: (ratomsS s m (ratomS s i false).2.1 (ratomS s i false).2.2).1, (ratomsS s m (ratomS s i false).2.1 (ratomS s i false).2.2).2)
theorem ratomsS_bad (s : List UInt8) (m i : Nat) : ratomsS s m i true = ([], i, true) := by cases m <;> rfl
theorem atoms_cur {s : List UInt8} : ∀ (m i : Nat), i ≤ s.length → (atomsF m (s.drop i) false).2.2 = false → ∃ j, ratomsS s m i false = ((atomsF m (s.drop i) false).1, j, false) ∧ (atomsF m (s.drop i) false).2.1 = s.drop j ∧ j ≤ s.length
  | 0, i, hi, _ => ⟨i, rfl, rfl, hi⟩
  | m + 1, i, hi, h => by
    rw [atomsF_succ] at h ⊢
    simp only at h ⊢
    rw [ratomsS, if_neg (by simp)]
    cases hb : (atomF (s.drop i) false).2.2
    · obtain ⟨j, h1, h2, h3⟩ := atom_cur hi hb
      rw [hb, h2] at h
      rw [h2, h1]
      obtain ⟨j2, h4, h5, h6⟩ := atoms_cur m j h3 h
      simp only
      rw [h4]
      exact ⟨j2, rfl, h5, h6⟩
    · rw [hb, atomsF_bad] at h
      simp at h
theorem ratoms_far {s : List UInt8} : ∀ (m i : Nat) (b : Bool), i ≤ s.length → (ratomsS s m i b).2.1 ≤ s.length
  | 0, i, b, hi => hi
  | m + 1, i, b, hi => by
    rw [ratomsS]
    cases b
    · rw [if_neg (by simp)]
      exact ratoms_far m _ _ (ratomS_le hi)
    · rw [if_pos rfl]; exact hi
/-- What the reference's ReadResponse reads. -/
def rrestS (s : List UInt8) (i : Nat) (b : Bool) : Bool × List Atm × List UInt8 × Bool :=
  let c := byteS s i b
  let n := numS s c.2.1 c.2.2
  let A := if 1 < c.1 then ([], n.2.1, n.2.2) else ratomsS s n.1 n.2.1 n.2.2
  let t := textS s A.2.1 A.2.2
  (decide (c.1 = 1), A.1, t.1, t.2.2)
def rpartsS (s : List UInt8) : Rsp × Bool :=
  let k := byteS s 0 false
  if k.1 = 0 then ((0, (rrestS s k.2.1 k.2.2).1, (rrestS s k.2.1 k.2.2).2.1, (rrestS s k.2.1 k.2.2).2.2.1), (rrestS s k.2.1 k.2.2).2.2.2) else (((k.1 : Int), false, [], []), k.2.2)
def rreadRs (s : List UInt8) : Option Rsp := if (rpartsS s).2 || (!mayRs (rpartsS s).1 || decide (rsB (rpartsS s).1 ≠ s)) then none else some (rpartsS s).1
theorem rest_cur {s : List UInt8} {i : Nat} (_hi : i ≤ s.length) (h : (restF (s.drop i) false).2.2.2.2 = false) : rrestS s i false = ((restF (s.drop i) false).1, (restF (s.drop i) false).2.1, (restF (s.drop i) false).2.2.1, false) := by
  unfold restF at h ⊢
  simp only at h ⊢
  unfold rrestS
  simp only
  cases h1 : (oneF (s.drop i) false).2.2
  case true =>
    rw [h1] at h
    simp [nmF_badd, atomsF_bad, takeF] at h
  case false =>
    obtain ⟨e1, e2, e3⟩ := byte_one h1
    rw [h1, e2] at h
    rw [e2, e1]
    simp only [Bool.false_or] at h ⊢
    by_cases hk : 1 < (oneF (s.drop i) false).1
    · rw [decide_eq_true hk] at h
      simp [nmF_badd, atomsF_bad, takeF] at h
    · rw [decide_eq_false hk] at h ⊢
      rw [if_neg hk]
      cases h2 : (nmF (s.drop (i + 1)) false).2.2
      case true =>
        rw [h2] at h
        simp [nmF_badd, atomsF_bad, takeF] at h
      case false =>
        obtain ⟨j, f1, f2, f3⟩ := num_cur e3 h2
        rw [h2, f2] at h
        rw [f2, f1]
        simp only
        cases h3 : (atomsF (nmF (s.drop (i + 1)) false).1 (s.drop j) false).2.2
        case true =>
          rw [h3] at h
          simp [nmF_badd, takeF] at h
        case false =>
          obtain ⟨j2, g1, g2, g3⟩ := atoms_cur _ j f3 h3
          rw [h3, g2] at h
          rw [g2, g1]
          simp only
          obtain ⟨j3, k1⟩ := text_cur g3 h
          rw [k1]
          simp only [Prod.mk.injEq, and_true]
          exact Bool.eq_iff_iff.2 (by simp)
theorem parts_cur {s : List UInt8} (h : (partsF s).2.2 = false) : rpartsS s = ((partsF s).1, false) := by
  have hd : s.drop 0 = s := rfl
  unfold partsF at h ⊢
  simp only at h ⊢
  unfold rpartsS
  simp only
  cases h1 : (oneF s false).2.2
  case true =>
    rw [h1] at h
    have h0 : (oneF s false).1 = 0 := by
      cases s with
      | nil => rfl
      | cons c r => cases h1
    rw [if_pos h0] at h
    unfold restF at h
    simp [oneF_bad, nmF_badd, atomsF_bad, takeF] at h
  case false =>
    obtain ⟨e1, e2, e3⟩ := byte_one (s := s) (i := 0) h1
    rw [hd] at e1 e2
    rw [e1]
    rw [h1, e2] at h
    rw [e2]
    simp only
    by_cases h0 : (oneF s false).1 = 0
    · rw [if_pos h0] at h ⊢
      rw [if_pos h0]
      simp only at h ⊢
      rw [rest_cur e3 h]
    · rw [if_neg h0, if_neg h0]
theorem rs_len {x : Rsp} (hm : mayRs x = true) : x.2.2.1.length ≤ (rsB x).length ∧ x.2.2.2.length ≤ (rsB x).length := by
  rcases mayRs_cases hm with ⟨_, _, _, _, h1, h2⟩ | ⟨h0, _, _, _⟩
  · rw [h1, h2]; exact ⟨Nat.zero_le _, Nat.zero_le _⟩
  · have hf : ∀ L : List Atm, L.length ≤ (L.flatMap atomB).length := by
      intro L
      induction L with
      | nil => exact Nat.le_refl _
      | cons a r ih =>
        rw [List.flatMap_cons, List.length_append, List.length_cons]
        have := atomB_pos a
        omega
    have h2 := hf x.2.2.1
    unfold rsB
    rw [if_neg (by simpa using h0)]
    unfold textB
    simp only [List.length_cons, List.length_append]
    omega
theorem rreadRs_eq (s : List UInt8) (hs : s.length ≤ 900000) : rreadRs s = readRs s := by
  cases hr : readRs s with
  | some x =>
    obtain ⟨hm, he⟩ := readRs_some hr
    unfold readRs at hr
    split at hr
    · cases hr
    · rename_i hb
      rw [Option.some.injEq] at hr
      have hbad : (partsF s).2.2 = false := by
        cases h : (partsF s).2.2
        · rfl
        · exact absurd (by simp [h]) hb
      unfold rreadRs
      rw [parts_cur hbad, hr, hm, ← he]
      simp
  | none =>
    unfold rreadRs
    split
    · rfl
    · rename_i hb
      simp only [Bool.or_eq_true, Bool.not_eq_true', not_or, Bool.not_eq_true, Bool.not_eq_false, decide_eq_true_eq, Decidable.not_not] at hb
      obtain ⟨_, h2, h3⟩ := hb
      have hl := rs_len h2
      rw [h3] at hl
      have := readRs_rsB h2 (by omega) (by omega)
      rw [h3, hr] at this
      cases this
def rreadRq (s : List UInt8) : Option (Nat × Atm) :=
  if (ratomS s (byteS s 0 false).2.1 (byteS s 0 false).2.2).2.2 || (decide ((ratomS s (byteS s 0 false).2.1 (byteS s 0 false).2.2).2.1 ≠ s.length) || !mayRq (byteS s 0 false).1 (ratomS s (byteS s 0 false).2.1 (byteS s 0 false).2.2).1) then none else some ((byteS s 0 false).1, (ratomS s (byteS s 0 false).2.1 (byteS s 0 false).2.2).1)
theorem rreadRq_eq (s : List UInt8) : rreadRq s = readRq s := by
  have hd : s.drop 0 = s := rfl
  have hb0 := byteS_le (s := s) (i := 0) (b := false) (Nat.zero_le _)
  unfold rreadRq readRq
  cases h1 : (byteS s 0 false).2.2
  · obtain ⟨e1, e2⟩ := one_byte (s := s) (i := 0) h1
    rw [hd] at e1
    rw [e1]
    generalize byteS s 0 false = B at *
    obtain ⟨k, j, b⟩ := B
    simp only at e1 e2 h1 hb0
    subst e2
    simp only
    cases h2 : (ratomS s (0 + 1) false).2.2
    · have e3 := cur_atom hb0 h2
      have hl := ratomS_le (s := s) (bad := false) hb0
      rw [e3]
      simp only
      rw [show decide ((ratomS s (0 + 1) false).2.1 ≠ s.length) = !(s.drop (ratomS s (0 + 1) false).2.1).isEmpty by
        rw [Bool.eq_iff_iff]; simp only [decide_eq_true_eq, Bool.not_eq_true', List.isEmpty_eq_false_iff, ne_eq, List.drop_eq_nil_iff]; omega]
    · have h3 : (atomF (s.drop (0 + 1)) false).2.2 = true := by
        cases h : (atomF (s.drop (0 + 1)) false).2.2
        · obtain ⟨j, k1, _⟩ := atom_cur hb0 h
          rw [k1] at h2; cases h2
        · rfl
      rw [h3]
      simp
  · rw [ratomS_bad]
    have h3 : (oneF s false).2.2 = true := by
      cases h : (oneF s false).2.2
      · obtain ⟨k1, _⟩ := byte_one (s := s) (i := 0) h
        rw [k1] at h1; cases h1
      · rfl
    rw [h3]
    unfold atomF
    simp
end Go.Proofs.YtkdeokgkjmboeaaGreatDoor

namespace Go.Proofs.YtkdeokgkjmboeaaGreatDoor
open Go.RowKit

set_option maxHeartbeats 1000000 in
theorem rmayRq_any (k : Int) (a_s a_p : List UInt8) (a_n : Int) (a_v0 a_v1 a_v2 a_v3 : Bool) (a_l0 a_l1 a_l2 a_l3 : List UInt8) (w : World) (hF : FitsA ((a_s, a_p, a_n, (a_v0, a_l0), (a_v1, a_l1), (a_v2, a_l2), (a_v3, a_l3)) : Atm)) :
    Calls Tryz.prog 23 #[.agg #[.int .i64 k, .string ⟨a_s.toArray⟩, .string ⟨a_p.toArray⟩, .int .i64 a_n, .bool a_v0, .string ⟨a_l0.toArray⟩, .bool a_v1, .string ⟨a_l1.toArray⟩, .bool a_v2, .string ⟨a_l2.toArray⟩, .bool a_v3, .string ⟨a_l3.toArray⟩]] w fun e w' => e = .returned (.bool (mayRq k ((a_s, a_p, a_n, (a_v0, a_l0), (a_v1, a_l1), (a_v2, a_l2), (a_v3, a_l3)) : Atm))) ∧ Since w w' := by
  have hA : Since w (w.alloc (.cells #[.int .i64 k, .string ⟨a_s.toArray⟩, .string ⟨a_p.toArray⟩, .int .i64 a_n, .bool a_v0, .string ⟨a_l0.toArray⟩, .bool a_v1, .string ⟨a_l1.toArray⟩, .bool a_v2, .string ⟨a_l2.toArray⟩, .bool a_v3, .string ⟨a_l3.toArray⟩] 28)) := (Since.refl _).alloc _
  have HC := Lib.hid (fun W => rcheck_any a_s a_p a_n a_v0 a_v1 a_v2 a_v3 a_l0 a_l1 a_l2 a_l3 W hF)
  have hm : Hid (mayRq k ((a_s, a_p, a_n, (a_v0, a_l0), (a_v1, a_l1), (a_v2, a_l2), (a_v3, a_l3)) : Atm) = (decide (1 ≤ k) && (decide (k ≤ 3) && (checkA ((a_s, a_p, a_n, (a_v0, a_l0), (a_v1, a_l1), (a_v2, a_l2), (a_v3, a_l3)) : Atm) == 0)))) := rfl
  generalize mayRq k ((a_s, a_p, a_n, (a_v0, a_l0), (a_v1, a_l1), (a_v2, a_l2), (a_v3, a_l3)) : Atm) = M at *
  cases h1 : decide (1 ≤ k)
  · have hM : Hid (M = false) := by show _ = _; rw [hm.out, h1]; rfl
    go_enter Tryz.func23, Tryz.ntmps23
    go_wp2_with fail
    go_ret
    exact ⟨ret_bool hM.out.symm, hA⟩
  · cases h3 : decide (k ≤ 3)
    · have hM : Hid (M = false) := by show _ = _; rw [hm.out, h1, h3]; rfl
      go_enter Tryz.func23, Tryz.ntmps23
      go_wp2_with fail
      go_ret
      exact ⟨ret_bool hM.out.symm, hA⟩
    · have hM : Hid (M = (checkA ((a_s, a_p, a_n, (a_v0, a_l0), (a_v1, a_l1), (a_v2, a_l2), (a_v3, a_l3)) : Atm) == 0)) := by show _ = _; rw [hm.out, h1, h3]; rfl
      generalize checkA ((a_s, a_p, a_n, (a_v0, a_l0), (a_v1, a_l1), (a_v2, a_l2), (a_v3, a_l3)) : Atm) = C at *
      go_enter Tryz.func23, Tryz.ntmps23
      go_wp2_with fail
      refine (HC.out _).mono ?_
      rintro e w1 ⟨rfl, hb⟩
      go_wp2_with fail
      go_ret
      exact ⟨ret_bool hM.out.symm, hA.trans hb⟩
set_option maxHeartbeats 2000000 in
set_option maxRecDepth 100000 in
theorem rrequest_no (k : Int) (a_s a_p : List UInt8) (a_n : Int) (a_v0 a_v1 a_v2 a_v3 : Bool) (a_l0 a_l1 a_l2 a_l3 : List UInt8) (w : World) (hF : FitsA ((a_s, a_p, a_n, (a_v0, a_l0), (a_v1, a_l1), (a_v2, a_l2), (a_v3, a_l3)) : Atm)) (hm : mayRq k ((a_s, a_p, a_n, (a_v0, a_l0), (a_v1, a_l1), (a_v2, a_l2), (a_v3, a_l3)) : Atm) = false) :
    Calls Tryz.prog 8 #[.agg #[.int .i64 k, .string ⟨a_s.toArray⟩, .string ⟨a_p.toArray⟩, .int .i64 a_n, .bool a_v0, .string ⟨a_l0.toArray⟩, .bool a_v1, .string ⟨a_l1.toArray⟩, .bool a_v2, .string ⟨a_l2.toArray⟩, .bool a_v3, .string ⟨a_l3.toArray⟩]] w fun e w' => e = .returned (.tuple #[.string ⟨#[]⟩, .int .i64 2]) ∧ Since w w' := by
  have hA : Since w (w.alloc (.cells #[.int .i64 k, .string ⟨a_s.toArray⟩, .string ⟨a_p.toArray⟩, .int .i64 a_n, .bool a_v0, .string ⟨a_l0.toArray⟩, .bool a_v1, .string ⟨a_l1.toArray⟩, .bool a_v2, .string ⟨a_l2.toArray⟩, .bool a_v3, .string ⟨a_l3.toArray⟩] 28)) := (Since.refl _).alloc _
  have HM := Lib.hid (fun W => rmayRq_any k a_s a_p a_n a_v0 a_v1 a_v2 a_v3 a_l0 a_l1 a_l2 a_l3 W hF)
  rw [hm] at HM
  have r0 : (w.alloc (.cells #[.int .i64 k, .string ⟨a_s.toArray⟩, .string ⟨a_p.toArray⟩, .int .i64 a_n, .bool a_v0, .string ⟨a_l0.toArray⟩, .bool a_v1, .string ⟨a_l1.toArray⟩, .bool a_v2, .string ⟨a_l2.toArray⟩, .bool a_v3, .string ⟨a_l3.toArray⟩] 28)).cell? ⟨w.heap.size, 0, none⟩ = some (.int .i64 k) := by rw [World.cell?_alloc_new]; rfl
  have r1 : (w.alloc (.cells #[.int .i64 k, .string ⟨a_s.toArray⟩, .string ⟨a_p.toArray⟩, .int .i64 a_n, .bool a_v0, .string ⟨a_l0.toArray⟩, .bool a_v1, .string ⟨a_l1.toArray⟩, .bool a_v2, .string ⟨a_l2.toArray⟩, .bool a_v3, .string ⟨a_l3.toArray⟩] 28)).cell? ⟨w.heap.size, 1, none⟩ = some (.string ⟨a_s.toArray⟩) := by rw [World.cell?_alloc_new]; rfl
  have r2 : (w.alloc (.cells #[.int .i64 k, .string ⟨a_s.toArray⟩, .string ⟨a_p.toArray⟩, .int .i64 a_n, .bool a_v0, .string ⟨a_l0.toArray⟩, .bool a_v1, .string ⟨a_l1.toArray⟩, .bool a_v2, .string ⟨a_l2.toArray⟩, .bool a_v3, .string ⟨a_l3.toArray⟩] 28)).cell? ⟨w.heap.size, 2, none⟩ = some (.string ⟨a_p.toArray⟩) := by rw [World.cell?_alloc_new]; rfl
  have r3 : (w.alloc (.cells #[.int .i64 k, .string ⟨a_s.toArray⟩, .string ⟨a_p.toArray⟩, .int .i64 a_n, .bool a_v0, .string ⟨a_l0.toArray⟩, .bool a_v1, .string ⟨a_l1.toArray⟩, .bool a_v2, .string ⟨a_l2.toArray⟩, .bool a_v3, .string ⟨a_l3.toArray⟩] 28)).cell? ⟨w.heap.size, 3, none⟩ = some (.int .i64 a_n) := by rw [World.cell?_alloc_new]; rfl
  have r4 : (w.alloc (.cells #[.int .i64 k, .string ⟨a_s.toArray⟩, .string ⟨a_p.toArray⟩, .int .i64 a_n, .bool a_v0, .string ⟨a_l0.toArray⟩, .bool a_v1, .string ⟨a_l1.toArray⟩, .bool a_v2, .string ⟨a_l2.toArray⟩, .bool a_v3, .string ⟨a_l3.toArray⟩] 28)).cell? ⟨w.heap.size, 4, none⟩ = some (.bool a_v0) := by rw [World.cell?_alloc_new]; rfl
  have r5 : (w.alloc (.cells #[.int .i64 k, .string ⟨a_s.toArray⟩, .string ⟨a_p.toArray⟩, .int .i64 a_n, .bool a_v0, .string ⟨a_l0.toArray⟩, .bool a_v1, .string ⟨a_l1.toArray⟩, .bool a_v2, .string ⟨a_l2.toArray⟩, .bool a_v3, .string ⟨a_l3.toArray⟩] 28)).cell? ⟨w.heap.size, 5, none⟩ = some (.string ⟨a_l0.toArray⟩) := by rw [World.cell?_alloc_new]; rfl
  have r6 : (w.alloc (.cells #[.int .i64 k, .string ⟨a_s.toArray⟩, .string ⟨a_p.toArray⟩, .int .i64 a_n, .bool a_v0, .string ⟨a_l0.toArray⟩, .bool a_v1, .string ⟨a_l1.toArray⟩, .bool a_v2, .string ⟨a_l2.toArray⟩, .bool a_v3, .string ⟨a_l3.toArray⟩] 28)).cell? ⟨w.heap.size, 6, none⟩ = some (.bool a_v1) := by rw [World.cell?_alloc_new]; rfl
  have r7 : (w.alloc (.cells #[.int .i64 k, .string ⟨a_s.toArray⟩, .string ⟨a_p.toArray⟩, .int .i64 a_n, .bool a_v0, .string ⟨a_l0.toArray⟩, .bool a_v1, .string ⟨a_l1.toArray⟩, .bool a_v2, .string ⟨a_l2.toArray⟩, .bool a_v3, .string ⟨a_l3.toArray⟩] 28)).cell? ⟨w.heap.size, 7, none⟩ = some (.string ⟨a_l1.toArray⟩) := by rw [World.cell?_alloc_new]; rfl
  have r8 : (w.alloc (.cells #[.int .i64 k, .string ⟨a_s.toArray⟩, .string ⟨a_p.toArray⟩, .int .i64 a_n, .bool a_v0, .string ⟨a_l0.toArray⟩, .bool a_v1, .string ⟨a_l1.toArray⟩, .bool a_v2, .string ⟨a_l2.toArray⟩, .bool a_v3, .string ⟨a_l3.toArray⟩] 28)).cell? ⟨w.heap.size, 8, none⟩ = some (.bool a_v2) := by rw [World.cell?_alloc_new]; rfl
  have r9 : (w.alloc (.cells #[.int .i64 k, .string ⟨a_s.toArray⟩, .string ⟨a_p.toArray⟩, .int .i64 a_n, .bool a_v0, .string ⟨a_l0.toArray⟩, .bool a_v1, .string ⟨a_l1.toArray⟩, .bool a_v2, .string ⟨a_l2.toArray⟩, .bool a_v3, .string ⟨a_l3.toArray⟩] 28)).cell? ⟨w.heap.size, 9, none⟩ = some (.string ⟨a_l2.toArray⟩) := by rw [World.cell?_alloc_new]; rfl
  have r10 : (w.alloc (.cells #[.int .i64 k, .string ⟨a_s.toArray⟩, .string ⟨a_p.toArray⟩, .int .i64 a_n, .bool a_v0, .string ⟨a_l0.toArray⟩, .bool a_v1, .string ⟨a_l1.toArray⟩, .bool a_v2, .string ⟨a_l2.toArray⟩, .bool a_v3, .string ⟨a_l3.toArray⟩] 28)).cell? ⟨w.heap.size, 10, none⟩ = some (.bool a_v3) := by rw [World.cell?_alloc_new]; rfl
  have r11 : (w.alloc (.cells #[.int .i64 k, .string ⟨a_s.toArray⟩, .string ⟨a_p.toArray⟩, .int .i64 a_n, .bool a_v0, .string ⟨a_l0.toArray⟩, .bool a_v1, .string ⟨a_l1.toArray⟩, .bool a_v2, .string ⟨a_l2.toArray⟩, .bool a_v3, .string ⟨a_l3.toArray⟩] 28)).cell? ⟨w.heap.size, 11, none⟩ = some (.string ⟨a_l3.toArray⟩) := by rw [World.cell?_alloc_new]; rfl
  clear hm
  go_enter Tryz.func8, Tryz.ntmps8
  go_wp2_with fail
  refine (HM.out _).mono ?_
  rintro e w1 ⟨rfl, hb⟩
  clear r0 r1 r2 r3 r4 r5 r6 r7 r8 r9 r10 r11
  go_wp2_with fail
  go_ret2
  exact ⟨rfl, hA.trans hb⟩
set_option maxHeartbeats 2000000 in
set_option maxRecDepth 100000 in
theorem rrequest_yes (k : Nat) (a_s a_p : List UInt8) (a_n : Int) (a_v0 a_v1 a_v2 a_v3 : Bool) (a_l0 a_l1 a_l2 a_l3 : List UInt8) (w : World) (hF : FitsA ((a_s, a_p, a_n, (a_v0, a_l0), (a_v1, a_l1), (a_v2, a_l2), (a_v3, a_l3)) : Atm)) (hm : mayRq (k : Int) ((a_s, a_p, a_n, (a_v0, a_l0), (a_v1, a_l1), (a_v2, a_l2), (a_v3, a_l3)) : Atm) = true) :
    Calls Tryz.prog 8 #[.agg #[.int .i64 (k : Int), .string ⟨a_s.toArray⟩, .string ⟨a_p.toArray⟩, .int .i64 a_n, .bool a_v0, .string ⟨a_l0.toArray⟩, .bool a_v1, .string ⟨a_l1.toArray⟩, .bool a_v2, .string ⟨a_l2.toArray⟩, .bool a_v3, .string ⟨a_l3.toArray⟩]] w fun e w' => e = .returned (.tuple #[.string ⟨(rqB (k : Int) ((a_s, a_p, a_n, (a_v0, a_l0), (a_v1, a_l1), (a_v2, a_l2), (a_v3, a_l3)) : Atm)).toArray⟩, .int .i64 0]) ∧ Since w w' := by
  have hA : Since w (w.alloc (.cells #[.int .i64 (k : Int), .string ⟨a_s.toArray⟩, .string ⟨a_p.toArray⟩, .int .i64 a_n, .bool a_v0, .string ⟨a_l0.toArray⟩, .bool a_v1, .string ⟨a_l1.toArray⟩, .bool a_v2, .string ⟨a_l2.toArray⟩, .bool a_v3, .string ⟨a_l3.toArray⟩] 28)) := (Since.refl _).alloc _
  have HM := Lib.hid (fun W => rmayRq_any (k : Int) a_s a_p a_n a_v0 a_v1 a_v2 a_v3 a_l0 a_l1 a_l2 a_l3 W hF)
  have hm2 := hm
  simp only [mayRq, Bool.and_eq_true, decide_eq_true_eq, beq_iff_eq] at hm2
  obtain ⟨k1, k3, hck⟩ := hm2
  rw [hm] at HM
  have r0 : (w.alloc (.cells #[.int .i64 (k : Int), .string ⟨a_s.toArray⟩, .string ⟨a_p.toArray⟩, .int .i64 a_n, .bool a_v0, .string ⟨a_l0.toArray⟩, .bool a_v1, .string ⟨a_l1.toArray⟩, .bool a_v2, .string ⟨a_l2.toArray⟩, .bool a_v3, .string ⟨a_l3.toArray⟩] 28)).cell? ⟨w.heap.size, 0, none⟩ = some (.int .i64 (k : Int)) := by rw [World.cell?_alloc_new]; rfl
  have r1 : (w.alloc (.cells #[.int .i64 (k : Int), .string ⟨a_s.toArray⟩, .string ⟨a_p.toArray⟩, .int .i64 a_n, .bool a_v0, .string ⟨a_l0.toArray⟩, .bool a_v1, .string ⟨a_l1.toArray⟩, .bool a_v2, .string ⟨a_l2.toArray⟩, .bool a_v3, .string ⟨a_l3.toArray⟩] 28)).cell? ⟨w.heap.size, 1, none⟩ = some (.string ⟨a_s.toArray⟩) := by rw [World.cell?_alloc_new]; rfl
  have r2 : (w.alloc (.cells #[.int .i64 (k : Int), .string ⟨a_s.toArray⟩, .string ⟨a_p.toArray⟩, .int .i64 a_n, .bool a_v0, .string ⟨a_l0.toArray⟩, .bool a_v1, .string ⟨a_l1.toArray⟩, .bool a_v2, .string ⟨a_l2.toArray⟩, .bool a_v3, .string ⟨a_l3.toArray⟩] 28)).cell? ⟨w.heap.size, 2, none⟩ = some (.string ⟨a_p.toArray⟩) := by rw [World.cell?_alloc_new]; rfl
  have r3 : (w.alloc (.cells #[.int .i64 (k : Int), .string ⟨a_s.toArray⟩, .string ⟨a_p.toArray⟩, .int .i64 a_n, .bool a_v0, .string ⟨a_l0.toArray⟩, .bool a_v1, .string ⟨a_l1.toArray⟩, .bool a_v2, .string ⟨a_l2.toArray⟩, .bool a_v3, .string ⟨a_l3.toArray⟩] 28)).cell? ⟨w.heap.size, 3, none⟩ = some (.int .i64 a_n) := by rw [World.cell?_alloc_new]; rfl
  have r4 : (w.alloc (.cells #[.int .i64 (k : Int), .string ⟨a_s.toArray⟩, .string ⟨a_p.toArray⟩, .int .i64 a_n, .bool a_v0, .string ⟨a_l0.toArray⟩, .bool a_v1, .string ⟨a_l1.toArray⟩, .bool a_v2, .string ⟨a_l2.toArray⟩, .bool a_v3, .string ⟨a_l3.toArray⟩] 28)).cell? ⟨w.heap.size, 4, none⟩ = some (.bool a_v0) := by rw [World.cell?_alloc_new]; rfl
  have r5 : (w.alloc (.cells #[.int .i64 (k : Int), .string ⟨a_s.toArray⟩, .string ⟨a_p.toArray⟩, .int .i64 a_n, .bool a_v0, .string ⟨a_l0.toArray⟩, .bool a_v1, .string ⟨a_l1.toArray⟩, .bool a_v2, .string ⟨a_l2.toArray⟩, .bool a_v3, .string ⟨a_l3.toArray⟩] 28)).cell? ⟨w.heap.size, 5, none⟩ = some (.string ⟨a_l0.toArray⟩) := by rw [World.cell?_alloc_new]; rfl
  have r6 : (w.alloc (.cells #[.int .i64 (k : Int), .string ⟨a_s.toArray⟩, .string ⟨a_p.toArray⟩, .int .i64 a_n, .bool a_v0, .string ⟨a_l0.toArray⟩, .bool a_v1, .string ⟨a_l1.toArray⟩, .bool a_v2, .string ⟨a_l2.toArray⟩, .bool a_v3, .string ⟨a_l3.toArray⟩] 28)).cell? ⟨w.heap.size, 6, none⟩ = some (.bool a_v1) := by rw [World.cell?_alloc_new]; rfl
  have r7 : (w.alloc (.cells #[.int .i64 (k : Int), .string ⟨a_s.toArray⟩, .string ⟨a_p.toArray⟩, .int .i64 a_n, .bool a_v0, .string ⟨a_l0.toArray⟩, .bool a_v1, .string ⟨a_l1.toArray⟩, .bool a_v2, .string ⟨a_l2.toArray⟩, .bool a_v3, .string ⟨a_l3.toArray⟩] 28)).cell? ⟨w.heap.size, 7, none⟩ = some (.string ⟨a_l1.toArray⟩) := by rw [World.cell?_alloc_new]; rfl
  have r8 : (w.alloc (.cells #[.int .i64 (k : Int), .string ⟨a_s.toArray⟩, .string ⟨a_p.toArray⟩, .int .i64 a_n, .bool a_v0, .string ⟨a_l0.toArray⟩, .bool a_v1, .string ⟨a_l1.toArray⟩, .bool a_v2, .string ⟨a_l2.toArray⟩, .bool a_v3, .string ⟨a_l3.toArray⟩] 28)).cell? ⟨w.heap.size, 8, none⟩ = some (.bool a_v2) := by rw [World.cell?_alloc_new]; rfl
  have r9 : (w.alloc (.cells #[.int .i64 (k : Int), .string ⟨a_s.toArray⟩, .string ⟨a_p.toArray⟩, .int .i64 a_n, .bool a_v0, .string ⟨a_l0.toArray⟩, .bool a_v1, .string ⟨a_l1.toArray⟩, .bool a_v2, .string ⟨a_l2.toArray⟩, .bool a_v3, .string ⟨a_l3.toArray⟩] 28)).cell? ⟨w.heap.size, 9, none⟩ = some (.string ⟨a_l2.toArray⟩) := by rw [World.cell?_alloc_new]; rfl
  have r10 : (w.alloc (.cells #[.int .i64 (k : Int), .string ⟨a_s.toArray⟩, .string ⟨a_p.toArray⟩, .int .i64 a_n, .bool a_v0, .string ⟨a_l0.toArray⟩, .bool a_v1, .string ⟨a_l1.toArray⟩, .bool a_v2, .string ⟨a_l2.toArray⟩, .bool a_v3, .string ⟨a_l3.toArray⟩] 28)).cell? ⟨w.heap.size, 10, none⟩ = some (.bool a_v3) := by rw [World.cell?_alloc_new]; rfl
  have r11 : (w.alloc (.cells #[.int .i64 (k : Int), .string ⟨a_s.toArray⟩, .string ⟨a_p.toArray⟩, .int .i64 a_n, .bool a_v0, .string ⟨a_l0.toArray⟩, .bool a_v1, .string ⟨a_l1.toArray⟩, .bool a_v2, .string ⟨a_l2.toArray⟩, .bool a_v3, .string ⟨a_l3.toArray⟩] 28)).cell? ⟨w.heap.size, 11, none⟩ = some (.string ⟨a_l3.toArray⟩) := by rw [World.cell?_alloc_new]; rfl
  have HAT := Lib.hid (fun W => ratom23_yes a_s a_p a_n a_v0 a_v1 a_v2 a_v3 a_l0 a_l1 a_l2 a_l3 W hF (valid_light hck) hck)
  have hrl := rqB_le (k := (k : Int)) hck
  have hB : Hid (rqB (k : Int) ((a_s, a_p, a_n, (a_v0, a_l0), (a_v1, a_l1), (a_v2, a_l2), (a_v3, a_l3)) : Atm) = UInt8.ofNat k :: atomB ((a_s, a_p, a_n, (a_v0, a_l0), (a_v1, a_l1), (a_v2, a_l2), (a_v3, a_l3)) : Atm)) := by show _ = _; unfold rqB; rw [Int.toNat_natCast]
  have hk1 := hB.out
  generalize rqB (k : Int) ((a_s, a_p, a_n, (a_v0, a_l0), (a_v1, a_l1), (a_v2, a_l2), (a_v3, a_l3)) : Atm) = B at *
  generalize atomB ((a_s, a_p, a_n, (a_v0, a_l0), (a_v1, a_l1), (a_v2, a_l2), (a_v3, a_l3)) : Atm) = X at *
  subst hk1
  have hXl : X.length ≤ 2000 := by rw [List.length_cons] at hrl; omega
  have hXd : decide ((4096 : Int) < (X.length : Int) + 1) = false := by simp; omega
  have ew : IntKind.u8.wrap (k : Int) = (k : Int) := IntWalk.u8_in _ (by omega)
  have HROW : Hid (∀ W : World, Row (W.alloc (.cells #[.int .u8 (k : Int)] 5)) (.slice (some ⟨W.heap.size, 0, none⟩) 1 1) 1 ([UInt8.ofNat k].map u8V)) := by
    intro W
    refine .inr ⟨W.heap.size, 0, 1, rfl, Nat.le_refl _, fun j hj => ?_⟩
    have hj1 : j < 1 := hj
    obtain rfl : j = 0 := by omega
    rw [World.cell?_alloc_new, u8_of (by omega)]; rfl
  have hcat : (ByteArray.mk #[UInt8.ofNat k]) ++ (ByteArray.mk X.toArray) = ByteArray.mk (UInt8.ofNat k :: X).toArray := cat_bytes [UInt8.ofNat k] X
  clear hB hm hck
  go_enter Tryz.func8, Tryz.ntmps8
  go_wp2_with fail
  refine (HM.out _).mono ?_
  rintro e w1 ⟨rfl, hb⟩
  replace r0 := hb.cell r0
  replace r1 := hb.cell r1
  replace r2 := hb.cell r2
  replace r3 := hb.cell r3
  replace r4 := hb.cell r4
  replace r5 := hb.cell r5
  replace r6 := hb.cell r6
  replace r7 := hb.cell r7
  replace r8 := hb.cell r8
  replace r9 := hb.cell r9
  replace r10 := hb.cell r10
  replace r11 := hb.cell r11
  replace hA := hA.trans hb
  clear hb
  go_wp2_with fail
  refine (HAT.out _).mono ?_
  rintro e w2 ⟨rfl, hb⟩
  replace r0 := hb.cell r0
  replace hA := hA.trans hb
  have hconv := conv_row (HROW.out w2) rfl
  clear hb r1 r2 r3 r4 r5 r6 r7 r8 r9 r10 r11
  go_wp2_with fail
  go_ret2
  exact ⟨rfl, hA.alloc _⟩
set_option maxHeartbeats 2000000 in
set_option maxRecDepth 100000 in
theorem rreadreq_long (s : List UInt8) (w : World) (hs : 4096 < s.length) (hs2 : s.length ≤ 1000000) :
    Calls Tryz.prog 10 #[.string ⟨s.toArray⟩] w fun e w' => e = .returned (.tuple #[.agg #[.int .i64 0, .string ⟨#[]⟩, .string ⟨#[]⟩, .int .i64 0, .bool false, .string ⟨#[]⟩, .bool false, .string ⟨#[]⟩, .bool false, .string ⟨#[]⟩, .bool false, .string ⟨#[]⟩], .int .i64 4]) ∧ Since w w' := by
  have hA : Since w (w.alloc (.cells #[.int .i64 0, .string ⟨#[]⟩, .string ⟨#[]⟩, .int .i64 0, .bool false, .string ⟨#[]⟩, .bool false, .string ⟨#[]⟩, .bool false, .string ⟨#[]⟩, .bool false, .string ⟨#[]⟩] 28)) := (Since.refl _).alloc _
  have hZ : Cel (w.alloc (.cells #[.int .i64 0, .string ⟨#[]⟩, .string ⟨#[]⟩, .int .i64 0, .bool false, .string ⟨#[]⟩, .bool false, .string ⟨#[]⟩, .bool false, .string ⟨#[]⟩, .bool false, .string ⟨#[]⟩] 28)) w.heap.size #[.int .i64 0, .string ⟨#[]⟩, .string ⟨#[]⟩, .int .i64 0, .bool false, .string ⟨#[]⟩, .bool false, .string ⟨#[]⟩, .bool false, .string ⟨#[]⟩, .bool false, .string ⟨#[]⟩] 28 := heap_alloc_new w _
  have HZ : Hid ((w.alloc (.cells #[.int .i64 0, .string ⟨#[]⟩, .string ⟨#[]⟩, .int .i64 0, .bool false, .string ⟨#[]⟩, .bool false, .string ⟨#[]⟩, .bool false, .string ⟨#[]⟩, .bool false, .string ⟨#[]⟩] 28)).heap[w.heap.size]? = some (.cells #[.int .i64 0, .string ⟨#[]⟩, .string ⟨#[]⟩, .int .i64 0, .bool false, .string ⟨#[]⟩, .bool false, .string ⟨#[]⟩, .bool false, .string ⟨#[]⟩, .bool false, .string ⟨#[]⟩] 28 (0, 0))) := hZ
  have hself : Hid ((w.alloc (.cells #[.int .i64 0, .string ⟨#[]⟩, .string ⟨#[]⟩, .int .i64 0, .bool false, .string ⟨#[]⟩, .bool false, .string ⟨#[]⟩, .bool false, .string ⟨#[]⟩, .bool false, .string ⟨#[]⟩] 28)).setRow w.heap.size #[.int .i64 0, .string ⟨#[]⟩, .string ⟨#[]⟩, .int .i64 0, .bool false, .string ⟨#[]⟩, .bool false, .string ⟨#[]⟩, .bool false, .string ⟨#[]⟩, .bool false, .string ⟨#[]⟩] = w.alloc (.cells #[.int .i64 0, .string ⟨#[]⟩, .string ⟨#[]⟩, .int .i64 0, .bool false, .string ⟨#[]⟩, .bool false, .string ⟨#[]⟩, .bool false, .string ⟨#[]⟩, .bool false, .string ⟨#[]⟩] 28)) := setRow_self _ w.heap.size _ _ _ HZ.out
  have hone : Hid ((#[.int .i64 0, .string ⟨#[]⟩, .string ⟨#[]⟩, .int .i64 0, .bool false, .string ⟨#[]⟩, .bool false, .string ⟨#[]⟩, .bool false, .string ⟨#[]⟩, .bool false, .string ⟨#[]⟩] : Array Value).all (·.oneCell') = true) := by show _ = _; simp [Value.oneCell']
  have hd : decide ((4096 : Int) < (s.length : Int)) = true := by simp; omega
  have e0 := fun j => hZ.cell j
  go_enter Tryz.func10, Tryz.ntmps10
  clear e0 hZ
  go_wp2_with ((refine wpList_store_row rfl 28 (.tmp 2) (.tmp 9) rfl w.heap.size #[.int .i64 0, .string ⟨#[]⟩, .string ⟨#[]⟩, .int .i64 0, .bool false, .string ⟨#[]⟩, .bool false, .string ⟨#[]⟩, .bool false, .string ⟨#[]⟩, .bool false, .string ⟨#[]⟩] rfl rfl 28 _ HZ.out reqInfo rfl hone.out ?_); rw [hself.out])
  obtain HZ2 : Cel (w.alloc (.cells #[.int .i64 0, .string ⟨#[]⟩, .string ⟨#[]⟩, .int .i64 0, .bool false, .string ⟨#[]⟩, .bool false, .string ⟨#[]⟩, .bool false, .string ⟨#[]⟩, .bool false, .string ⟨#[]⟩] 28)) w.heap.size #[.int .i64 0, .string ⟨#[]⟩, .string ⟨#[]⟩, .int .i64 0, .bool false, .string ⟨#[]⟩, .bool false, .string ⟨#[]⟩, .bool false, .string ⟨#[]⟩, .bool false, .string ⟨#[]⟩] 28 := HZ.out
  refine bodyPost_ret (v := .tuple #[.agg #[.int .i64 0, .string ⟨#[]⟩, .string ⟨#[]⟩, .int .i64 0, .bool false, .string ⟨#[]⟩, .bool false, .string ⟨#[]⟩, .bool false, .string ⟨#[]⟩, .bool false, .string ⟨#[]⟩], .int .i64 4]) (by simp [results, Tryz.results10, go_sem]) rfl ?_
  exact ⟨rfl, hA⟩
set_option maxHeartbeats 4000000 in
set_option maxRecDepth 100000 in
theorem rreadreq_any (s : List UInt8) (w : World) (hs : s.length ≤ 4096) (k j1 j2 : Nat) (a_s a_p : List UInt8) (a_n : Int) (a_v0 a_v1 a_v2 a_v3 : Bool) (a_l0 a_l1 a_l2 a_l3 : List UInt8) (b1 b2 : Bool) (h1 : byteS s 0 false = (k, j1, b1)) (h2 : ratomS s j1 b1 = (((a_s, a_p, a_n, (a_v0, a_l0), (a_v1, a_l1), (a_v2, a_l2), (a_v3, a_l3)) : Atm), j2, b2)) :
    Calls Tryz.prog 10 #[.string ⟨s.toArray⟩] w fun e w' => e = .returned (if b2 || (decide (j2 ≠ s.length) || !mayRq (k : Int) ((a_s, a_p, a_n, (a_v0, a_l0), (a_v1, a_l1), (a_v2, a_l2), (a_v3, a_l3)) : Atm)) then .tuple #[.agg #[.int .i64 0, .string ⟨#[]⟩, .string ⟨#[]⟩, .int .i64 0, .bool false, .string ⟨#[]⟩, .bool false, .string ⟨#[]⟩, .bool false, .string ⟨#[]⟩, .bool false, .string ⟨#[]⟩], .int .i64 15] else .tuple #[.agg #[.int .i64 (k : Int), .string ⟨a_s.toArray⟩, .string ⟨a_p.toArray⟩, .int .i64 a_n, .bool a_v0, .string ⟨a_l0.toArray⟩, .bool a_v1, .string ⟨a_l1.toArray⟩, .bool a_v2, .string ⟨a_l2.toArray⟩, .bool a_v3, .string ⟨a_l3.toArray⟩], .int .i64 0]) ∧ Since w w' := by
  have l1 := byteS_le (s := s) (i := 0) (b := false) (Nat.zero_le _)
  have l2 := ratomS_le (s := s) (i := j1) (bad := b1) (by rw [h1] at l1; exact l1)
  have hlt := ratom_lightR s j1 b1
  rw [h1] at l1
  rw [h2] at l2 hlt
  simp only at l1 l2
  have hfit := light_fits hlt
  have k256 := byteS_256 s 0 false
  rw [h1] at k256
  simp only at k256
  have hA : Since w ((w.alloc (.cells #[.int .i64 0, .string ⟨#[]⟩, .string ⟨#[]⟩, .int .i64 0, .bool false, .string ⟨#[]⟩, .bool false, .string ⟨#[]⟩, .bool false, .string ⟨#[]⟩, .bool false, .string ⟨#[]⟩] 28)).alloc (.cells #[.string ⟨s.toArray⟩, .int .i64 0, .int .i64 0] 58)) := ((Since.refl _).alloc _).alloc _
  have hZ : Cel ((w.alloc (.cells #[.int .i64 0, .string ⟨#[]⟩, .string ⟨#[]⟩, .int .i64 0, .bool false, .string ⟨#[]⟩, .bool false, .string ⟨#[]⟩, .bool false, .string ⟨#[]⟩, .bool false, .string ⟨#[]⟩] 28)).alloc (.cells #[.string ⟨s.toArray⟩, .int .i64 0, .int .i64 0] 58)) w.heap.size #[.int .i64 0, .string ⟨#[]⟩, .string ⟨#[]⟩, .int .i64 0, .bool false, .string ⟨#[]⟩, .bool false, .string ⟨#[]⟩, .bool false, .string ⟨#[]⟩, .bool false, .string ⟨#[]⟩] 28 := Cel.next (W := w.alloc (.cells #[.int .i64 0, .string ⟨#[]⟩, .string ⟨#[]⟩, .int .i64 0, .bool false, .string ⟨#[]⟩, .bool false, .string ⟨#[]⟩, .bool false, .string ⟨#[]⟩, .bool false, .string ⟨#[]⟩] 28)) (heap_alloc_new w _) ((Since.refl _).alloc _)
  have hR : Cur ((w.alloc (.cells #[.int .i64 0, .string ⟨#[]⟩, .string ⟨#[]⟩, .int .i64 0, .bool false, .string ⟨#[]⟩, .bool false, .string ⟨#[]⟩, .bool false, .string ⟨#[]⟩, .bool false, .string ⟨#[]⟩] 28)).alloc (.cells #[.string ⟨s.toArray⟩, .int .i64 0, .int .i64 0] 58)) (w.heap.size + 1) s 0 false := by
    have h := heap_alloc_new (w.alloc (.cells #[.int .i64 0, .string ⟨#[]⟩, .string ⟨#[]⟩, .int .i64 0, .bool false, .string ⟨#[]⟩, .bool false, .string ⟨#[]⟩, .bool false, .string ⟨#[]⟩, .bool false, .string ⟨#[]⟩] 28)) (.cells #[.string ⟨s.toArray⟩, .int .i64 0, .int .i64 0] 58)
    rw [World.size_alloc] at h
    exact h
  have HO := Lib.hid (fun W hR => curbyte_any s 0 false (w.heap.size + 1) W (by omega) (Nat.zero_le _) hR)
  have HAT := Lib.hid (fun W hR => curatom_any s j1 b1 (w.heap.size + 1) W (by omega) l1 hR)
  have HM := Lib.hid (fun W => rmayRq_any (k : Int) a_s a_p a_n a_v0 a_v1 a_v2 a_v3 a_l0 a_l1 a_l2 a_l3 W hfit)
  unfold CBytePost at HO
  rw [h1] at HO
  unfold CAtomPost at HAT
  rw [h2] at HAT
  simp only [atmC] at HO HAT
  have hd : decide ((4096 : Int) < (s.length : Int)) = false := by simp; omega
  have ek : IntKind.i64.wrap (k : Int) = (k : Int) := IntWalk.i64_in _ (by omega)
  clear h1 h2 hfit hlt
  generalize mayRq (k : Int) ((a_s, a_p, a_n, (a_v0, a_l0), (a_v1, a_l1), (a_v2, a_l2), (a_v3, a_l3)) : Atm) = M at *
  obtain ⟨V, hV⟩ : ∃ V : Value, Hid (V = if b2 || (decide (j2 ≠ s.length) || !M) then .tuple #[.agg #[.int .i64 0, .string ⟨#[]⟩, .string ⟨#[]⟩, .int .i64 0, .bool false, .string ⟨#[]⟩, .bool false, .string ⟨#[]⟩, .bool false, .string ⟨#[]⟩, .bool false, .string ⟨#[]⟩], .int .i64 15] else .tuple #[.agg #[.int .i64 (k : Int), .string ⟨a_s.toArray⟩, .string ⟨a_p.toArray⟩, .int .i64 a_n, .bool a_v0, .string ⟨a_l0.toArray⟩, .bool a_v1, .string ⟨a_l1.toArray⟩, .bool a_v2, .string ⟨a_l2.toArray⟩, .bool a_v3, .string ⟨a_l3.toArray⟩], .int .i64 0]) := ⟨_, rfl⟩
  rw [← hV.out]
  have HPN : Hid ((b2 || (decide (j2 ≠ s.length) || !M)) = true → Value.tuple #[.agg #[.int .i64 0, .string ⟨#[]⟩, .string ⟨#[]⟩, .int .i64 0, .bool false, .string ⟨#[]⟩, .bool false, .string ⟨#[]⟩, .bool false, .string ⟨#[]⟩, .bool false, .string ⟨#[]⟩], .int .i64 15] = V) := by
    intro h
    rw [hV.out, h]; rfl
  have HPY : Hid ((b2 || (decide (j2 ≠ s.length) || !M)) = false → Value.tuple #[.agg #[.int .i64 (k : Int), .string ⟨a_s.toArray⟩, .string ⟨a_p.toArray⟩, .int .i64 a_n, .bool a_v0, .string ⟨a_l0.toArray⟩, .bool a_v1, .string ⟨a_l1.toArray⟩, .bool a_v2, .string ⟨a_l2.toArray⟩, .bool a_v3, .string ⟨a_l3.toArray⟩], .int .i64 0] = V) := by
    intro h
    rw [hV.out, h]; rfl
  clear hV
  go_enter Tryz.func10, Tryz.ntmps10
  go_wp2_with fail
  refine (HO.out _ hR).mono ?_
  rintro e w1 ⟨rfl, hR1, hg1⟩
  have hS1 : Since w w1 := since_far hA hg1 (Nat.le_succ _)
  have hZ1 := hZ.grown hg1 (by simp)
  clear hA hZ hR hg1 hd
  go_wp2_with fail
  refine (HAT.out _ hR1).mono ?_
  rintro e w2 ⟨rfl, hR2, hg2⟩
  have hS2 : Since w w2 := since_far hS1 hg2 (Nat.le_succ _)
  have hZ2 := hZ1.grown hg2 (by simp)
  have hA2 : Since w2 (w2.alloc (.cells #[.int .i64 (k : Int), .string ⟨a_s.toArray⟩, .string ⟨a_p.toArray⟩, .int .i64 a_n, .bool a_v0, .string ⟨a_l0.toArray⟩, .bool a_v1, .string ⟨a_l1.toArray⟩, .bool a_v2, .string ⟨a_l2.toArray⟩, .bool a_v3, .string ⟨a_l3.toArray⟩] 28)) := (Since.refl _).alloc _
  have hB3 : Cel (w2.alloc (.cells #[.int .i64 (k : Int), .string ⟨a_s.toArray⟩, .string ⟨a_p.toArray⟩, .int .i64 a_n, .bool a_v0, .string ⟨a_l0.toArray⟩, .bool a_v1, .string ⟨a_l1.toArray⟩, .bool a_v2, .string ⟨a_l2.toArray⟩, .bool a_v3, .string ⟨a_l3.toArray⟩] 28)) w2.heap.size #[.int .i64 (k : Int), .string ⟨a_s.toArray⟩, .string ⟨a_p.toArray⟩, .int .i64 a_n, .bool a_v0, .string ⟨a_l0.toArray⟩, .bool a_v1, .string ⟨a_l1.toArray⟩, .bool a_v2, .string ⟨a_l2.toArray⟩, .bool a_v3, .string ⟨a_l3.toArray⟩] 28 := heap_alloc_new w2 _
  have hZ3 := hZ2.next hA2
  have hR3 := hR2.next hA2
  have hS9 := hS2.trans hA2
  have hl2 := hR2.lt
  have hl3 := hR3.lt
  have c1 := hR3.c1
  have honeZ : Hid ((#[.int .i64 0, .string ⟨#[]⟩, .string ⟨#[]⟩, .int .i64 0, .bool false, .string ⟨#[]⟩, .bool false, .string ⟨#[]⟩, .bool false, .string ⟨#[]⟩, .bool false, .string ⟨#[]⟩] : Array Value).all (·.oneCell') = true) := by show _ = _; simp [Value.oneCell']
  have honeK : Hid ((#[.int .i64 (k : Int), .string ⟨a_s.toArray⟩, .string ⟨a_p.toArray⟩, .int .i64 a_n, .bool a_v0, .string ⟨a_l0.toArray⟩, .bool a_v1, .string ⟨a_l1.toArray⟩, .bool a_v2, .string ⟨a_l2.toArray⟩, .bool a_v3, .string ⟨a_l3.toArray⟩] : Array Value).all (·.oneCell') = true) := by show _ = _; simp [Value.oneCell']
  clear hS1 hZ1 hR1 hg2 hZ2 hR2 hA2 hS2
  go_upto_region 5 with (fail)
  obtain ⟨w3, hw3⟩ : ∃ w3, Hid (w2.alloc (.cells #[.int .i64 (k : Int), .string ⟨a_s.toArray⟩, .string ⟨a_p.toArray⟩, .int .i64 a_n, .bool a_v0, .string ⟨a_l0.toArray⟩, .bool a_v1, .string ⟨a_l1.toArray⟩, .bool a_v2, .string ⟨a_l2.toArray⟩, .bool a_v3, .string ⟨a_l3.toArray⟩] 28) = w3) := ⟨_, rfl⟩
  rw [hw3.out] at hB3 hZ3 hR3 hS9 hl3 c1 ⊢
  cases b2
  case true =>
    have c2 := hR3.c2t
    have HC9 : Hid ((true || (decide (j2 ≠ s.length) || !M)) = true) := by show _ = _; simp
    have hZ9 := hZ3
    clear hB3 hZ3 hR3
    have HZ9 : Hid (w3.heap[w.heap.size]? = some (.cells #[.int .i64 0, .string ⟨#[]⟩, .string ⟨#[]⟩, .int .i64 0, .bool false, .string ⟨#[]⟩, .bool false, .string ⟨#[]⟩, .bool false, .string ⟨#[]⟩, .bool false, .string ⟨#[]⟩] 28 (0, 0))) := hZ9
    have hself : Hid (w3.setRow w.heap.size #[.int .i64 0, .string ⟨#[]⟩, .string ⟨#[]⟩, .int .i64 0, .bool false, .string ⟨#[]⟩, .bool false, .string ⟨#[]⟩, .bool false, .string ⟨#[]⟩, .bool false, .string ⟨#[]⟩] = w3) := setRow_self _ w.heap.size _ _ _ HZ9.out
    clear hZ9
    go_wp2_with ((refine wpList_store_row rfl 28 (.tmp 2) (.tmp 38) rfl w.heap.size #[.int .i64 0, .string ⟨#[]⟩, .string ⟨#[]⟩, .int .i64 0, .bool false, .string ⟨#[]⟩, .bool false, .string ⟨#[]⟩, .bool false, .string ⟨#[]⟩, .bool false, .string ⟨#[]⟩] rfl rfl 28 _ HZ9.out reqInfo rfl honeZ.out ?_); rw [hself.out])
    have hZZ : Cel w3 w.heap.size #[.int .i64 0, .string ⟨#[]⟩, .string ⟨#[]⟩, .int .i64 0, .bool false, .string ⟨#[]⟩, .bool false, .string ⟨#[]⟩, .bool false, .string ⟨#[]⟩, .bool false, .string ⟨#[]⟩] 28 := HZ9.out
    have e0 : (w3).cell? ⟨w.heap.size, 0, none⟩ = some (.int .i64 0) := hZZ.cell 0
    have e1 : (w3).cell? ⟨w.heap.size, 1, none⟩ = some (.string ⟨#[]⟩) := hZZ.cell 1
    have e2 : (w3).cell? ⟨w.heap.size, 2, none⟩ = some (.string ⟨#[]⟩) := hZZ.cell 2
    have e3 : (w3).cell? ⟨w.heap.size, 3, none⟩ = some (.int .i64 0) := hZZ.cell 3
    have e4 : (w3).cell? ⟨w.heap.size, 4, none⟩ = some (.bool false) := hZZ.cell 4
    have e5 : (w3).cell? ⟨w.heap.size, 5, none⟩ = some (.string ⟨#[]⟩) := hZZ.cell 5
    have e6 : (w3).cell? ⟨w.heap.size, 6, none⟩ = some (.bool false) := hZZ.cell 6
    have e7 : (w3).cell? ⟨w.heap.size, 7, none⟩ = some (.string ⟨#[]⟩) := hZZ.cell 7
    have e8 : (w3).cell? ⟨w.heap.size, 8, none⟩ = some (.bool false) := hZZ.cell 8
    have e9 : (w3).cell? ⟨w.heap.size, 9, none⟩ = some (.string ⟨#[]⟩) := hZZ.cell 9
    have e10 : (w3).cell? ⟨w.heap.size, 10, none⟩ = some (.bool false) := hZZ.cell 10
    have e11 : (w3).cell? ⟨w.heap.size, 11, none⟩ = some (.string ⟨#[]⟩) := hZZ.cell 11
    refine bodyPost_ret (v := .tuple #[.agg #[.int .i64 0, .string ⟨#[]⟩, .string ⟨#[]⟩, .int .i64 0, .bool false, .string ⟨#[]⟩, .bool false, .string ⟨#[]⟩, .bool false, .string ⟨#[]⟩, .bool false, .string ⟨#[]⟩], .int .i64 15]) (by simp [results, Tryz.results10, go_sem, e0, e1, e2, e3, e4, e5, e6, e7, e8, e9, e10, e11]) rfl ?_
    exact ⟨congrArg Ending.returned (HPN.out HC9.out), hS9⟩
  case false =>
    have c2 := hR3.c2f
    have DD := fun (j : Nat) => hB3.cell j
    by_cases hj : j2 = s.length
    case neg =>
      have HC9 : Hid ((false || (decide (j2 ≠ s.length) || !M)) = true) := by show _ = _; simp [hj]
      have hq : ((j2 : Int) != (s.length : Int)) = true := by simp; omega
      have hZ9 := hZ3
      clear hB3 hZ3 hR3 DD hj
      have HZ9 : Hid (w3.heap[w.heap.size]? = some (.cells #[.int .i64 0, .string ⟨#[]⟩, .string ⟨#[]⟩, .int .i64 0, .bool false, .string ⟨#[]⟩, .bool false, .string ⟨#[]⟩, .bool false, .string ⟨#[]⟩, .bool false, .string ⟨#[]⟩] 28 (0, 0))) := hZ9
      have hself : Hid (w3.setRow w.heap.size #[.int .i64 0, .string ⟨#[]⟩, .string ⟨#[]⟩, .int .i64 0, .bool false, .string ⟨#[]⟩, .bool false, .string ⟨#[]⟩, .bool false, .string ⟨#[]⟩, .bool false, .string ⟨#[]⟩] = w3) := setRow_self _ w.heap.size _ _ _ HZ9.out
      clear hZ9
      go_wp2_with ((refine wpList_store_row rfl 28 (.tmp 2) (.tmp 38) rfl w.heap.size #[.int .i64 0, .string ⟨#[]⟩, .string ⟨#[]⟩, .int .i64 0, .bool false, .string ⟨#[]⟩, .bool false, .string ⟨#[]⟩, .bool false, .string ⟨#[]⟩, .bool false, .string ⟨#[]⟩] rfl rfl 28 _ HZ9.out reqInfo rfl honeZ.out ?_); rw [hself.out])
      have hZZ : Cel w3 w.heap.size #[.int .i64 0, .string ⟨#[]⟩, .string ⟨#[]⟩, .int .i64 0, .bool false, .string ⟨#[]⟩, .bool false, .string ⟨#[]⟩, .bool false, .string ⟨#[]⟩, .bool false, .string ⟨#[]⟩] 28 := HZ9.out
      have e0 : (w3).cell? ⟨w.heap.size, 0, none⟩ = some (.int .i64 0) := hZZ.cell 0
      have e1 : (w3).cell? ⟨w.heap.size, 1, none⟩ = some (.string ⟨#[]⟩) := hZZ.cell 1
      have e2 : (w3).cell? ⟨w.heap.size, 2, none⟩ = some (.string ⟨#[]⟩) := hZZ.cell 2
      have e3 : (w3).cell? ⟨w.heap.size, 3, none⟩ = some (.int .i64 0) := hZZ.cell 3
      have e4 : (w3).cell? ⟨w.heap.size, 4, none⟩ = some (.bool false) := hZZ.cell 4
      have e5 : (w3).cell? ⟨w.heap.size, 5, none⟩ = some (.string ⟨#[]⟩) := hZZ.cell 5
      have e6 : (w3).cell? ⟨w.heap.size, 6, none⟩ = some (.bool false) := hZZ.cell 6
      have e7 : (w3).cell? ⟨w.heap.size, 7, none⟩ = some (.string ⟨#[]⟩) := hZZ.cell 7
      have e8 : (w3).cell? ⟨w.heap.size, 8, none⟩ = some (.bool false) := hZZ.cell 8
      have e9 : (w3).cell? ⟨w.heap.size, 9, none⟩ = some (.string ⟨#[]⟩) := hZZ.cell 9
      have e10 : (w3).cell? ⟨w.heap.size, 10, none⟩ = some (.bool false) := hZZ.cell 10
      have e11 : (w3).cell? ⟨w.heap.size, 11, none⟩ = some (.string ⟨#[]⟩) := hZZ.cell 11
      refine bodyPost_ret (v := .tuple #[.agg #[.int .i64 0, .string ⟨#[]⟩, .string ⟨#[]⟩, .int .i64 0, .bool false, .string ⟨#[]⟩, .bool false, .string ⟨#[]⟩, .bool false, .string ⟨#[]⟩, .bool false, .string ⟨#[]⟩], .int .i64 15]) (by simp [results, Tryz.results10, go_sem, e0, e1, e2, e3, e4, e5, e6, e7, e8, e9, e10, e11]) rfl ?_
      exact ⟨congrArg Ending.returned (HPN.out HC9.out), hS9⟩
    case pos =>
      have hq : ((j2 : Int) != (s.length : Int)) = false := by simp [hj]
      have d0 : w3.cell? ⟨w2.heap.size, 0, none⟩ = some (.int .i64 (k : Int)) := DD 0
      have d1 : w3.cell? ⟨w2.heap.size, 1, none⟩ = some (.string ⟨a_s.toArray⟩) := DD 1
      have d2 : w3.cell? ⟨w2.heap.size, 2, none⟩ = some (.string ⟨a_p.toArray⟩) := DD 2
      have d3 : w3.cell? ⟨w2.heap.size, 3, none⟩ = some (.int .i64 a_n) := DD 3
      have d4 : w3.cell? ⟨w2.heap.size, 4, none⟩ = some (.bool a_v0) := DD 4
      have d5 : w3.cell? ⟨w2.heap.size, 5, none⟩ = some (.string ⟨a_l0.toArray⟩) := DD 5
      have d6 : w3.cell? ⟨w2.heap.size, 6, none⟩ = some (.bool a_v1) := DD 6
      have d7 : w3.cell? ⟨w2.heap.size, 7, none⟩ = some (.string ⟨a_l1.toArray⟩) := DD 7
      have d8 : w3.cell? ⟨w2.heap.size, 8, none⟩ = some (.bool a_v2) := DD 8
      have d9 : w3.cell? ⟨w2.heap.size, 9, none⟩ = some (.string ⟨a_l2.toArray⟩) := DD 9
      have d10 : w3.cell? ⟨w2.heap.size, 10, none⟩ = some (.bool a_v3) := DD 10
      have d11 : w3.cell? ⟨w2.heap.size, 11, none⟩ = some (.string ⟨a_l3.toArray⟩) := DD 11
      have hZh := Lib.hid hZ3
      clear hB3 hZ3 hR3 DD
      cases M
      · have HC9 : Hid ((false || (decide (j2 ≠ s.length) || !false)) = true) := by show _ = _; simp
        clear hj
        go_wp2_with fail
        refine (HM.out _).mono ?_
        rintro e w4 ⟨rfl, hb⟩
        have hZ9 : Cel w4 w.heap.size #[.int .i64 0, .string ⟨#[]⟩, .string ⟨#[]⟩, .int .i64 0, .bool false, .string ⟨#[]⟩, .bool false, .string ⟨#[]⟩, .bool false, .string ⟨#[]⟩, .bool false, .string ⟨#[]⟩] 28 := hZh.out.next hb
        replace hS9 := hS9.trans hb
        clear hb d0 d1 d2 d3 d4 d5 d6 d7 d8 d9 d10 d11
        have HZ9 : Hid (w4.heap[w.heap.size]? = some (.cells #[.int .i64 0, .string ⟨#[]⟩, .string ⟨#[]⟩, .int .i64 0, .bool false, .string ⟨#[]⟩, .bool false, .string ⟨#[]⟩, .bool false, .string ⟨#[]⟩, .bool false, .string ⟨#[]⟩] 28 (0, 0))) := hZ9
        have hself : Hid (w4.setRow w.heap.size #[.int .i64 0, .string ⟨#[]⟩, .string ⟨#[]⟩, .int .i64 0, .bool false, .string ⟨#[]⟩, .bool false, .string ⟨#[]⟩, .bool false, .string ⟨#[]⟩, .bool false, .string ⟨#[]⟩] = w4) := setRow_self _ w.heap.size _ _ _ HZ9.out
        clear hZ9
        go_wp2_with ((refine wpList_store_row rfl 28 (.tmp 2) (.tmp 38) rfl w.heap.size #[.int .i64 0, .string ⟨#[]⟩, .string ⟨#[]⟩, .int .i64 0, .bool false, .string ⟨#[]⟩, .bool false, .string ⟨#[]⟩, .bool false, .string ⟨#[]⟩, .bool false, .string ⟨#[]⟩] rfl rfl 28 _ HZ9.out reqInfo rfl honeZ.out ?_); rw [hself.out])
        have hZZ : Cel w4 w.heap.size #[.int .i64 0, .string ⟨#[]⟩, .string ⟨#[]⟩, .int .i64 0, .bool false, .string ⟨#[]⟩, .bool false, .string ⟨#[]⟩, .bool false, .string ⟨#[]⟩, .bool false, .string ⟨#[]⟩] 28 := HZ9.out
        have e0 : (w4).cell? ⟨w.heap.size, 0, none⟩ = some (.int .i64 0) := hZZ.cell 0
        have e1 : (w4).cell? ⟨w.heap.size, 1, none⟩ = some (.string ⟨#[]⟩) := hZZ.cell 1
        have e2 : (w4).cell? ⟨w.heap.size, 2, none⟩ = some (.string ⟨#[]⟩) := hZZ.cell 2
        have e3 : (w4).cell? ⟨w.heap.size, 3, none⟩ = some (.int .i64 0) := hZZ.cell 3
        have e4 : (w4).cell? ⟨w.heap.size, 4, none⟩ = some (.bool false) := hZZ.cell 4
        have e5 : (w4).cell? ⟨w.heap.size, 5, none⟩ = some (.string ⟨#[]⟩) := hZZ.cell 5
        have e6 : (w4).cell? ⟨w.heap.size, 6, none⟩ = some (.bool false) := hZZ.cell 6
        have e7 : (w4).cell? ⟨w.heap.size, 7, none⟩ = some (.string ⟨#[]⟩) := hZZ.cell 7
        have e8 : (w4).cell? ⟨w.heap.size, 8, none⟩ = some (.bool false) := hZZ.cell 8
        have e9 : (w4).cell? ⟨w.heap.size, 9, none⟩ = some (.string ⟨#[]⟩) := hZZ.cell 9
        have e10 : (w4).cell? ⟨w.heap.size, 10, none⟩ = some (.bool false) := hZZ.cell 10
        have e11 : (w4).cell? ⟨w.heap.size, 11, none⟩ = some (.string ⟨#[]⟩) := hZZ.cell 11
        refine bodyPost_ret (v := .tuple #[.agg #[.int .i64 0, .string ⟨#[]⟩, .string ⟨#[]⟩, .int .i64 0, .bool false, .string ⟨#[]⟩, .bool false, .string ⟨#[]⟩, .bool false, .string ⟨#[]⟩, .bool false, .string ⟨#[]⟩], .int .i64 15]) (by simp [results, Tryz.results10, go_sem, e0, e1, e2, e3, e4, e5, e6, e7, e8, e9, e10, e11]) rfl ?_
        exact ⟨congrArg Ending.returned (HPN.out HC9.out), hS9⟩
      · have HC9 : Hid ((false || (decide (j2 ≠ s.length) || !true)) = false) := by show _ = _; simp [hj]
        clear hj
        go_wp2_with fail
        refine (HM.out _).mono ?_
        rintro e w4 ⟨rfl, hb⟩
        have hZ9 : Cel w4 w.heap.size #[.int .i64 0, .string ⟨#[]⟩, .string ⟨#[]⟩, .int .i64 0, .bool false, .string ⟨#[]⟩, .bool false, .string ⟨#[]⟩, .bool false, .string ⟨#[]⟩, .bool false, .string ⟨#[]⟩] 28 := hZh.out.next hb
        replace hS9 := hS9.trans hb
        replace d0 := hb.cell d0
        replace d1 := hb.cell d1
        replace d2 := hb.cell d2
        replace d3 := hb.cell d3
        replace d4 := hb.cell d4
        replace d5 := hb.cell d5
        replace d6 := hb.cell d6
        replace d7 := hb.cell d7
        replace d8 := hb.cell d8
        replace d9 := hb.cell d9
        replace d10 := hb.cell d10
        replace d11 := hb.cell d11
        clear hb
        have HZ9 : Hid (w4.heap[w.heap.size]? = some (.cells #[.int .i64 0, .string ⟨#[]⟩, .string ⟨#[]⟩, .int .i64 0, .bool false, .string ⟨#[]⟩, .bool false, .string ⟨#[]⟩, .bool false, .string ⟨#[]⟩, .bool false, .string ⟨#[]⟩] 28 (0, 0))) := hZ9
        have hF4 : Cel (w4.setRow w.heap.size #[.int .i64 (k : Int), .string ⟨a_s.toArray⟩, .string ⟨a_p.toArray⟩, .int .i64 a_n, .bool a_v0, .string ⟨a_l0.toArray⟩, .bool a_v1, .string ⟨a_l1.toArray⟩, .bool a_v2, .string ⟨a_l2.toArray⟩, .bool a_v3, .string ⟨a_l3.toArray⟩]) w.heap.size #[.int .i64 (k : Int), .string ⟨a_s.toArray⟩, .string ⟨a_p.toArray⟩, .int .i64 a_n, .bool a_v0, .string ⟨a_l0.toArray⟩, .bool a_v1, .string ⟨a_l1.toArray⟩, .bool a_v2, .string ⟨a_l2.toArray⟩, .bool a_v3, .string ⟨a_l3.toArray⟩] 28 := hZ9.row _
        have HF4 := Lib.hid hF4
        have hS4 : Since w (w4.setRow w.heap.size #[.int .i64 (k : Int), .string ⟨a_s.toArray⟩, .string ⟨a_p.toArray⟩, .int .i64 a_n, .bool a_v0, .string ⟨a_l0.toArray⟩, .bool a_v1, .string ⟨a_l1.toArray⟩, .bool a_v2, .string ⟨a_l2.toArray⟩, .bool a_v3, .string ⟨a_l3.toArray⟩]) := since_row hS9 (Nat.le_refl _) _
        clear hZ9 hF4
        go_wp2_with ((refine wpList_store_row rfl 28 (.tmp 2) (.tmp 39) rfl w.heap.size #[.int .i64 (k : Int), .string ⟨a_s.toArray⟩, .string ⟨a_p.toArray⟩, .int .i64 a_n, .bool a_v0, .string ⟨a_l0.toArray⟩, .bool a_v1, .string ⟨a_l1.toArray⟩, .bool a_v2, .string ⟨a_l2.toArray⟩, .bool a_v3, .string ⟨a_l3.toArray⟩] rfl rfl 28 _ HZ9.out reqInfo rfl honeK.out ?_))
        have e0 : (w4.setRow w.heap.size #[.int .i64 (k : Int), .string ⟨a_s.toArray⟩, .string ⟨a_p.toArray⟩, .int .i64 a_n, .bool a_v0, .string ⟨a_l0.toArray⟩, .bool a_v1, .string ⟨a_l1.toArray⟩, .bool a_v2, .string ⟨a_l2.toArray⟩, .bool a_v3, .string ⟨a_l3.toArray⟩]).cell? ⟨w.heap.size, 0, none⟩ = some (.int .i64 (k : Int)) := HF4.out.cell 0
        have e1 : (w4.setRow w.heap.size #[.int .i64 (k : Int), .string ⟨a_s.toArray⟩, .string ⟨a_p.toArray⟩, .int .i64 a_n, .bool a_v0, .string ⟨a_l0.toArray⟩, .bool a_v1, .string ⟨a_l1.toArray⟩, .bool a_v2, .string ⟨a_l2.toArray⟩, .bool a_v3, .string ⟨a_l3.toArray⟩]).cell? ⟨w.heap.size, 1, none⟩ = some (.string ⟨a_s.toArray⟩) := HF4.out.cell 1
        have e2 : (w4.setRow w.heap.size #[.int .i64 (k : Int), .string ⟨a_s.toArray⟩, .string ⟨a_p.toArray⟩, .int .i64 a_n, .bool a_v0, .string ⟨a_l0.toArray⟩, .bool a_v1, .string ⟨a_l1.toArray⟩, .bool a_v2, .string ⟨a_l2.toArray⟩, .bool a_v3, .string ⟨a_l3.toArray⟩]).cell? ⟨w.heap.size, 2, none⟩ = some (.string ⟨a_p.toArray⟩) := HF4.out.cell 2
        have e3 : (w4.setRow w.heap.size #[.int .i64 (k : Int), .string ⟨a_s.toArray⟩, .string ⟨a_p.toArray⟩, .int .i64 a_n, .bool a_v0, .string ⟨a_l0.toArray⟩, .bool a_v1, .string ⟨a_l1.toArray⟩, .bool a_v2, .string ⟨a_l2.toArray⟩, .bool a_v3, .string ⟨a_l3.toArray⟩]).cell? ⟨w.heap.size, 3, none⟩ = some (.int .i64 a_n) := HF4.out.cell 3
        have e4 : (w4.setRow w.heap.size #[.int .i64 (k : Int), .string ⟨a_s.toArray⟩, .string ⟨a_p.toArray⟩, .int .i64 a_n, .bool a_v0, .string ⟨a_l0.toArray⟩, .bool a_v1, .string ⟨a_l1.toArray⟩, .bool a_v2, .string ⟨a_l2.toArray⟩, .bool a_v3, .string ⟨a_l3.toArray⟩]).cell? ⟨w.heap.size, 4, none⟩ = some (.bool a_v0) := HF4.out.cell 4
        have e5 : (w4.setRow w.heap.size #[.int .i64 (k : Int), .string ⟨a_s.toArray⟩, .string ⟨a_p.toArray⟩, .int .i64 a_n, .bool a_v0, .string ⟨a_l0.toArray⟩, .bool a_v1, .string ⟨a_l1.toArray⟩, .bool a_v2, .string ⟨a_l2.toArray⟩, .bool a_v3, .string ⟨a_l3.toArray⟩]).cell? ⟨w.heap.size, 5, none⟩ = some (.string ⟨a_l0.toArray⟩) := HF4.out.cell 5
        have e6 : (w4.setRow w.heap.size #[.int .i64 (k : Int), .string ⟨a_s.toArray⟩, .string ⟨a_p.toArray⟩, .int .i64 a_n, .bool a_v0, .string ⟨a_l0.toArray⟩, .bool a_v1, .string ⟨a_l1.toArray⟩, .bool a_v2, .string ⟨a_l2.toArray⟩, .bool a_v3, .string ⟨a_l3.toArray⟩]).cell? ⟨w.heap.size, 6, none⟩ = some (.bool a_v1) := HF4.out.cell 6
        have e7 : (w4.setRow w.heap.size #[.int .i64 (k : Int), .string ⟨a_s.toArray⟩, .string ⟨a_p.toArray⟩, .int .i64 a_n, .bool a_v0, .string ⟨a_l0.toArray⟩, .bool a_v1, .string ⟨a_l1.toArray⟩, .bool a_v2, .string ⟨a_l2.toArray⟩, .bool a_v3, .string ⟨a_l3.toArray⟩]).cell? ⟨w.heap.size, 7, none⟩ = some (.string ⟨a_l1.toArray⟩) := HF4.out.cell 7
        have e8 : (w4.setRow w.heap.size #[.int .i64 (k : Int), .string ⟨a_s.toArray⟩, .string ⟨a_p.toArray⟩, .int .i64 a_n, .bool a_v0, .string ⟨a_l0.toArray⟩, .bool a_v1, .string ⟨a_l1.toArray⟩, .bool a_v2, .string ⟨a_l2.toArray⟩, .bool a_v3, .string ⟨a_l3.toArray⟩]).cell? ⟨w.heap.size, 8, none⟩ = some (.bool a_v2) := HF4.out.cell 8
        have e9 : (w4.setRow w.heap.size #[.int .i64 (k : Int), .string ⟨a_s.toArray⟩, .string ⟨a_p.toArray⟩, .int .i64 a_n, .bool a_v0, .string ⟨a_l0.toArray⟩, .bool a_v1, .string ⟨a_l1.toArray⟩, .bool a_v2, .string ⟨a_l2.toArray⟩, .bool a_v3, .string ⟨a_l3.toArray⟩]).cell? ⟨w.heap.size, 9, none⟩ = some (.string ⟨a_l2.toArray⟩) := HF4.out.cell 9
        have e10 : (w4.setRow w.heap.size #[.int .i64 (k : Int), .string ⟨a_s.toArray⟩, .string ⟨a_p.toArray⟩, .int .i64 a_n, .bool a_v0, .string ⟨a_l0.toArray⟩, .bool a_v1, .string ⟨a_l1.toArray⟩, .bool a_v2, .string ⟨a_l2.toArray⟩, .bool a_v3, .string ⟨a_l3.toArray⟩]).cell? ⟨w.heap.size, 10, none⟩ = some (.bool a_v3) := HF4.out.cell 10
        have e11 : (w4.setRow w.heap.size #[.int .i64 (k : Int), .string ⟨a_s.toArray⟩, .string ⟨a_p.toArray⟩, .int .i64 a_n, .bool a_v0, .string ⟨a_l0.toArray⟩, .bool a_v1, .string ⟨a_l1.toArray⟩, .bool a_v2, .string ⟨a_l2.toArray⟩, .bool a_v3, .string ⟨a_l3.toArray⟩]).cell? ⟨w.heap.size, 11, none⟩ = some (.string ⟨a_l3.toArray⟩) := HF4.out.cell 11
        refine bodyPost_ret (v := .tuple #[.agg #[.int .i64 (k : Int), .string ⟨a_s.toArray⟩, .string ⟨a_p.toArray⟩, .int .i64 a_n, .bool a_v0, .string ⟨a_l0.toArray⟩, .bool a_v1, .string ⟨a_l1.toArray⟩, .bool a_v2, .string ⟨a_l2.toArray⟩, .bool a_v3, .string ⟨a_l3.toArray⟩], .int .i64 0]) (by simp [results, Tryz.results10, go_sem, e0, e1, e2, e3, e4, e5, e6, e7, e8, e9, e10, e11]) rfl ?_
        exact ⟨congrArg Ending.returned (HPY.out HC9.out), hS4⟩
end Go.Proofs.YtkdeokgkjmboeaaGreatDoor
