/- The cursor of package cert: text, flag. -/
import Derived.Test.YtkdeokgkjmboeaaGreatDoorCertC
namespace Go.Proofs.YtkdeokgkjmboeaaGreatDoor
open Go.RowKit

theorem run_midE {S : List UInt8} {i j : Nat} (h : i ≤ j) (hj : j ≤ S.length) (W : World) : (Instr.slice 9 (.string ⟨S.toArray⟩) (some (.int .i64 i)) (some (.int .i64 j)) none).run Tryz.prog W = .ok (.string ⟨((S.take j).drop i).toArray⟩) W := by
  have e := ext_bytes S i j
  rw [← e]
  have h' : (i : Int) ≤ (j : Int) := by omega
  have hj' : (j : Int) ≤ (S.length : Int) := by omega
  clear e
  go_simp
theorem numS_le {s : List UInt8} {i : Nat} {bad : Bool} (hi : i ≤ s.length) : (numS s i bad).1 ≤ 4294967295 ∧ (numS s i bad).2.1 ≤ s.length := by
  unfold numS
  split
  · exact ⟨by simp, hi⟩
  · cases hr : readL (s.drop i) with
    | none => exact ⟨by simp, hi⟩
    | some p =>
      obtain ⟨n, k⟩ := p
      have := readL_len hr
      rw [List.length_drop] at this
      exact ⟨this.2.1, by show i + k ≤ _; omega⟩
theorem gdrewN {w w' : World} {row : Option Nat} (h : w.grownBy w' row) (n : Nat) : w.grownBy (w'.drewN n) row := gsince h ((Since.refl _).drewN n)
/-- What text comes to. -/
def textS (s : List UInt8) (i : Nat) (bad : Bool) : List UInt8 × Nat × Bool :=
  let r := numS s i bad
  if r.2.2 then ([], r.2.1, true) else if s.length < r.2.1 + r.1 then ([], r.2.1, true) else ((s.drop r.2.1).take r.1, r.2.1 + r.1, false)
def TextPost (s : List UInt8) (i : Nat) (bad : Bool) (g : Nat) (T : TypeId) (w : World) (e : Ending) (w' : World) : Prop :=
  e = .returned (.string ⟨(textS s i bad).1.toArray⟩) ∧ Rdr w' g T s (textS s i bad).2.1 (textS s i bad).2.2 ∧ w.grownBy w' (some g)
set_option maxHeartbeats 2000000 in
set_option maxRecDepth 100000 in
theorem ctext_any (s : List UInt8) (i : Nat) (bad : Bool) (g : Nat) (T : TypeId) (w : World) (hs : s.length ≤ 1000000) (hi : i ≤ s.length) (hR : Rdr w g T s i bad) :
    Calls Tryz.prog 87 #[.pointer (some ⟨g, 0, none⟩)] w (TextPost s i bad g T w) := by
  have HN := Lib.hid (cnum_any s i bad g T w hs hi hR)
  obtain ⟨hn1, hn2⟩ := numS_le (bad := bad) hi
  have HP : Hid (∀ W u k b, textS s i bad = (u, k, b) → Rdr W g T s k b → w.grownBy W (some g) → TextPost s i bad g T w (.returned (.string ⟨u.toArray⟩)) W) := by
    intro W u k b h1 h2 h3
    unfold TextPost
    rw [h1]; exact ⟨rfl, h2, h3⟩
  have hT : textS s i bad = (if (numS s i bad).2.2 then ([], (numS s i bad).2.1, true) else if s.length < (numS s i bad).2.1 + (numS s i bad).1 then ([], (numS s i bad).2.1, true) else ((s.drop (numS s i bad).2.1).take (numS s i bad).1, (numS s i bad).2.1 + (numS s i bad).1, false)) := rfl
  unfold NumPost at HN
  generalize numS s i bad = r at *
  obtain ⟨n, j, b⟩ := r
  simp only at hn1 hn2 hT HN
  have HT := Lib.hid hT
  clear hT hR
  cases b
  · have e0 : IntKind.i64.wrap ((s.length : Int) - (j : Int)) = (s.length : Int) - (j : Int) := IntWalk.i64_in _ (by omega)
    have e1 : IntKind.i64.wrap ((j : Int) + (n : Int)) = (j : Int) + (n : Int) := IntWalk.i64_in _ (by omega)
    have e2 : IntKind.i64.wrap (n : Int) = (n : Int) := IntWalk.i64_in _ (by omega)
    by_cases hc : s.length < j + n
    · have hd : decide ((s.length : Int) - (j : Int) < (n : Int)) = true := decide_eq_true (by omega)
      have HT2 : Hid (textS s i bad = ([], j, true)) := by
        show _ = _
        rw [HT.out, if_neg (by simp), if_pos hc]
      go_enter Tryz.func87, Tryz.ntmps87
      go_wp2_with fail
      refine HN.out.mono ?_
      rintro e w1 ⟨rfl, hR1, hg1⟩
      have c0 := hR1.c0
      have c1 := hR1.c1
      have c2 := hR1.c2
      go_wp2_with fail
      have hlt := hR1.lt
      have hfree := hR1.free
      go_region
      all_goals go_wp2_with fail
      all_goals go_ret
      all_goals exact HP.out _ _ _ _ HT2.out (hR1.set2 true).drew (gdrew (gset hg1 _ _))
    · have hd : decide ((s.length : Int) - (j : Int) < (n : Int)) = false := decide_eq_false (by omega)
      have HT2 : Hid (textS s i bad = ((s.drop j).take n, j + n, false)) := by
        show _ = _
        rw [HT.out, if_neg (by simp), if_neg hc]
      have hsl : ∀ W, (Instr.slice 9 (.string ⟨s.toArray⟩) (some (.int .i64 (j : Int))) (some (.int .i64 ((j : Int) + (n : Int)))) none).run Tryz.prog W = .ok (.string ⟨((s.drop j).take n).toArray⟩) W := by
        intro W
        have h := run_midE (S := s) (i := j) (j := j + n) (Nat.le_add_right _ _) (by omega) W
        rw [Int.natCast_add] at h
        rw [h, List.drop_take, show j + n - j = n by omega]
      go_enter Tryz.func87, Tryz.ntmps87
      go_wp2_with fail
      refine HN.out.mono ?_
      rintro e w1 ⟨rfl, hR1, hg1⟩
      have c0 := hR1.c0
      have c1 := hR1.c1
      have c2 := hR1.c2
      go_wp2_with fail
      have hlt := hR1.lt
      have hfree := hR1.free
      go_region
      all_goals go_wp2_with fail
      all_goals go_quiet (fail)
      all_goals go_wp2_with fail
      all_goals go_ret
      all_goals
        have h1 := (hR1.set2 false).set1 (j + n)
        rw [Int.natCast_add] at h1
        exact HP.out _ _ _ _ HT2.out (h1.drew.drewN _) (gdrewN (gdrew (gset (gset hg1 _ _) _ _)) _)
  · have HT2 : Hid (textS s i bad = ([], j, true)) := by
      show _ = _
      rw [HT.out, if_pos rfl]
    go_enter Tryz.func87, Tryz.ntmps87
    go_wp2_with fail
    refine HN.out.mono ?_
    rintro e w1 ⟨rfl, hR1, hg1⟩
    have c0 := hR1.c0
    have c1 := hR1.c1
    have c2 := hR1.c2
    have hlt := hR1.lt
    have hfree := hR1.free
    go_wp2_with fail
    go_region
    all_goals
      go_wp2_with fail
      go_ret
      exact HP.out _ _ _ _ HT2.out (hR1.set2 true).drew (gdrew (gset hg1 _ _))
/-- What flag comes to. -/
def flagS (s : List UInt8) (i : Nat) (bad : Bool) : Bool × Nat × Bool :=
  if bad then (false, i, true) else match s.drop i with | [] => (false, i, true) | c :: _ => if c.toNat ≤ 1 then (c == 1, i + 1, false) else (false, i, true)
def FlagPost (s : List UInt8) (i : Nat) (bad : Bool) (g : Nat) (T : TypeId) (w : World) (e : Ending) (w' : World) : Prop :=
  e = .returned (.bool (flagS s i bad).1) ∧ Rdr w' g T s (flagS s i bad).2.1 (flagS s i bad).2.2 ∧ w.grownBy w' (some g)
set_option maxHeartbeats 2000000 in
set_option maxRecDepth 100000 in
theorem cflag_any (s : List UInt8) (i : Nat) (bad : Bool) (g : Nat) (T : TypeId) (w : World) (hs : s.length ≤ 1000000) (hi : i ≤ s.length) (hR : Rdr w g T s i bad) :
    Calls Tryz.prog 89 #[.pointer (some ⟨g, 0, none⟩)] w (FlagPost s i bad g T w) := by
  have HP : Hid (∀ W u k b, flagS s i bad = (u, k, b) → Rdr W g T s k b → w.grownBy W (some g) → FlagPost s i bad g T w (.returned (.bool u)) W) := by
    intro W u k b h1 h2 h3
    unfold FlagPost
    rw [h1]; exact ⟨rfl, h2, h3⟩
  have c0 := hR.c0
  have c1 := hR.c1
  have c2 := hR.c2
  have hlt := hR.lt
  have hfree := hR.free
  cases hb : bad
  case true =>
    subst hb
    have HT2 : Hid (flagS s i true = (false, i, true)) := rfl
    go_enter Tryz.func89, Tryz.ntmps89
    go_wp2_with fail
    go_region
    all_goals
      go_wp2_with fail
      go_ret
      exact HP.out _ _ _ _ HT2.out (hR.set2 true).drew (gdrew (gset (World.grownBy.refl _ _) _ _))
  case false =>
    subst hb
    by_cases he : i = s.length
    · have hq : ((i : Int) == (s.length : Int)) = true := by rw [beq_iff_eq]; omega
      have HT2 : Hid (flagS s i false = (false, i, true)) := by
        show _ = _
        rw [flagS, if_neg (by simp), List.drop_eq_nil_of_le (by omega)]
      go_enter Tryz.func89, Tryz.ntmps89
      go_wp2_with fail
      go_region
      all_goals
        go_wp2_with fail
        go_ret
        exact HP.out _ _ _ _ HT2.out (hR.set2 true).drew (gdrew (gset (World.grownBy.refl _ _) _ _))
    · have hil : i < s.length := by omega
      have hq : ((i : Int) == (s.length : Int)) = false := by rw [beq_eq_false_iff_ne]; omega
      have hi1 : (i : Int) < (s.length : Int) := by omega
      have hat := at_bytes s i hil hil
      cases hc : decide ((1 : Int) < (((ByteArray.mk s.toArray)[i]'hil).toNat : Int))
      · have hle : s[i].toNat ≤ 1 := by
          rw [hat] at hc
          have := of_decide_eq_false hc
          omega
        have HT2 : Hid (flagS s i false = (s[i] == 1, i + 1, false)) := by
          show _ = _
          rw [flagS, if_neg (by simp), List.drop_eq_getElem_cons hil]
          simp only
          rw [if_pos hle]
        have e1 : IntKind.i64.wrap ((i : Int) + 1) = (i : Int) + 1 := IntWalk.i64_in _ (by omega)
        have e2 : IntKind.i64.wrap ((i : Int) + 1 - 1) = (i : Int) := by rw [IntWalk.i64_in _ (by omega)]; omega
        have hv : ((((ByteArray.mk s.toArray)[i]'hil).toNat : Int) == 1) = (s[i] == 1) := by
          rw [hat, Bool.eq_iff_iff, beq_iff_eq, beq_iff_eq]
          constructor
          · intro h; exact UInt8.toNat_inj.1 (show s[i].toNat = 1 by omega)
          · intro h; rw [h]; rfl
        have HP2 : Hid (∀ W, Rdr W g T s (i + 1) false → w.grownBy W (some g) → FlagPost s i false g T w (.returned (.bool ((((ByteArray.mk s.toArray)[i]'hil).toNat : Int) == 1))) W) := by
          intro W h1 h2
          rw [hv]
          exact HP.out _ _ _ _ HT2.out h1 h2
        clear hat hle hv
        go_enter Tryz.func89, Tryz.ntmps89
        go_wp2_with fail
        go_region
        all_goals go_wp2_with fail
        all_goals go_quiet (fail)
        all_goals go_wp2_with fail
        all_goals go_ret
        all_goals
          have h1 := (hR.set2 false).set1 (i + 1)
          rw [Int.natCast_add] at h1
          exact HP2.out _ (h1.drew.drewN _) (gdrewN (gdrew (gset (gset (World.grownBy.refl _ _) _ _) _ _)) _)
      · have hle : ¬ s[i].toNat ≤ 1 := by
          rw [hat] at hc
          have := of_decide_eq_true hc
          omega
        have HT2 : Hid (flagS s i false = (false, i, true)) := by
          show _ = _
          rw [flagS, if_neg (by simp), List.drop_eq_getElem_cons hil]
          simp only
          rw [if_neg hle]
        clear hat hle
        go_enter Tryz.func89, Tryz.ntmps89
        go_wp2_with fail
        go_region
        all_goals
          go_wp2_with fail
          go_ret
          exact HP.out _ _ _ _ HT2.out (hR.set2 true).drew (gdrew (gset (World.grownBy.refl _ _) _ _))
end Go.Proofs.YtkdeokgkjmboeaaGreatDoor
