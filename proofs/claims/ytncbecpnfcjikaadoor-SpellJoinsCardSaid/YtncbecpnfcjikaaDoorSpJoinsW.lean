/- SpellJoins returns true at every two strings, in every world in which the library's table strings.asciiSpace stands. -/
import Derived.Test.YtncbecpnfcjikaaDoorSpLives
namespace Go.Proofs.YtncbecpnfcjikaaDoor
open Go.RowKit

theorem low_line : lowB 95 = true := by decide
theorem words_no_line : ∀ x ∈ wordsL, (95 : UInt8) ∉ x := by decide +kernel
theorem words_no_great : ∀ x ∈ wordsL, (88 : UInt8) ∉ x := by decide +kernel
theorem first_low' {n : Int} (h : firstB n = true) : lowB n = true := by
  unfold firstB at h; unfold lowB; rw [h, Bool.true_or]
theorem low_var {n : Int} (h : lowB n = true) : varB n = true := by rw [varB, h, Bool.true_or]
theorem great_low {n : Int} (h : greatB n = true) : lowB n = false := by
  simp only [greatB, lowB, smallB, digitB, Bool.and_eq_true, decide_eq_true_eq] at *
  rw [Bool.eq_false_iff]; simp; omega
theorem spelledB_all {f m : Int → Bool} (hfm : ∀ n, f n = true → m n = true) {l : List UInt8} (h : spelledB f m l = true) : (l.all fun x => m x.toNat) = true ∧ l.length ≤ 255 ∧ 0 < l.length := by
  cases l with
  | nil => simp [spelledB] at h
  | cons c r =>
    simp only [spelledB, Bool.and_eq_true, decide_eq_true_eq] at h
    exact ⟨by rw [List.all_cons, hfm _ h.1.2, h.2]; rfl, h.1.1, by simp⟩
theorem constantB_spelled {l : List UInt8} (h : constantB l = true) : spelledB firstB lowB l = true := by
  rw [constantB, Bool.and_eq_true] at h; exact h.1
theorem not_reserved {l : List UInt8} {c : UInt8} (hw : ∀ x ∈ wordsL, c ∉ x) (hc : c ∈ l) : reservedB l = false := by
  rw [Bool.eq_false_iff]; intro h
  rw [reservedB, List.contains_iff_mem] at h
  exact hw _ h hc
/-- A word, _, a word: is one, if it is not too long. -/
theorem join_spelled {f : Int → Bool} {s t : List UInt8} (hs : spelledB f lowB s = true) (ht : (t.all fun x => lowB x.toNat) = true) :
    spelledB f lowB (s ++ 95 :: t) = decide ((s ++ 95 :: t).length ≤ 255) := by
  cases s with
  | nil => simp [spelledB] at hs
  | cons c r =>
    simp only [spelledB, Bool.and_eq_true, List.cons_append] at hs ⊢
    rw [hs.1.2, List.all_append, hs.2, List.all_cons, ht]
    simp [low_line]
theorem join_constant {s t : List UInt8} (hs : constantB s = true) (ht : constantB t = true) : constantB (s ++ 95 :: t) = decide ((s ++ 95 :: t).length ≤ 255) := by
  have h1 := constantB_spelled hs
  have h2 := (spelledB_all (fun _ => first_low') (constantB_spelled ht)).1
  rw [constantB, join_spelled h1 h2, not_reserved words_no_line (by simp), Bool.not_false, Bool.and_true]
theorem join_principal {s t : List UInt8} (hs : constantB s = true) (ht : constantB t = true) : principalB (s ++ 95 :: t) = (decide ((s ++ 95 :: t).length ≤ 255) && principalB s) := by
  have h2 := (spelledB_all (fun _ => first_low') (constantB_spelled ht)).1
  have hr : reservedB s = false := by rw [constantB, Bool.and_eq_true] at hs; simpa using hs.2
  rw [principalB, not_reserved words_no_line (by simp), Bool.not_false, Bool.and_true, principalB, hr, Bool.not_false, Bool.and_true]
  cases s with
  | nil => have := constantB_spelled hs; simp [spelledB] at this
  | cons c r =>
    have h1 := constantB_spelled hs
    simp only [spelledB, Bool.and_eq_true, List.cons_append, decide_eq_true_eq] at h1 ⊢
    rw [List.all_append, h1.2, List.all_cons, h2, show lowB ((95 : UInt8).toNat : Int) = true from low_line, decide_eq_true h1.1.1]
    simp
/-- X before a word: a variable, if it is not too long; no constant. _ before one: no constant. -/
theorem great_join {s : List UInt8} (hs : constantB s = true) : variableB (88 :: s) = decide (s.length < 255) ∧ constantB (88 :: s) = false ∧ constantB (95 :: s) = false ∧ variableB s = false := by
  have h2 := spelledB_all (fun _ => first_low') (constantB_spelled hs)
  have hv : (s.all fun x => varB x.toNat) = true := by
    have := h2.1
    simp only [List.all_eq_true] at this ⊢
    exact fun x hx => low_var (this x hx)
  refine ⟨?_, ?_, ?_, ?_⟩
  · have hg : greatB ((88 : UInt8).toNat : Int) = true := by decide
    simp only [variableB, spelledB, hg, hv, Bool.and_true, List.length_cons]
    rw [Bool.eq_iff_iff]; simp; omega
  · have hg : firstB ((88 : UInt8).toNat : Int) = false := by decide
    rw [constantB, spelledB_first (by simp) (by exact hg), Bool.false_and]
  · have hg : firstB ((95 : UInt8).toNat : Int) = false := by decide
    rw [constantB, spelledB_first (by simp) (by exact hg), Bool.false_and]
  · cases s with
    | nil => simp at h2
    | cons c r =>
      have h1 := constantB_spelled hs
      simp only [spelledB, Bool.and_eq_true] at h1
      have hf : firstB (c.toNat : Int) = true := h1.1.2
      have hg : greatB (c.toNat : Int) = false := by
        rw [Bool.eq_false_iff]; intro h
        have := great_low h
        rw [first_low' hf] at this; cases this
      exact spelledB_first (by simp) hg
theorem var_join {s : List UInt8} (hv : variableB s = true) : constantB (97 :: s) = false := by
  cases s with
  | nil => simp [variableB, spelledB] at hv
  | cons c r =>
    simp only [variableB, spelledB, Bool.and_eq_true] at hv
    have := great_low hv.1.2
    simp only [constantB, spelledB, List.all_cons, this, Bool.false_and, Bool.and_false]

set_option maxHeartbeats 1000000 in
set_option maxRecDepth 100000 in
theorem joins_walk (s t : List UInt8) (w : World) (hs : s.length ≤ maxLen) (ht : t.length ≤ maxLen) (hE : Env w) :
    Calls Tryd.prog 3 #[.string ⟨s.toArray⟩, .string ⟨t.toArray⟩] w fun e w' => e = .returned (.bool true) ∧ Since w w' := by
  have hS := Since.refl w
  have hs' := hs
  have ht' := ht
  unfold maxLen at hs' ht'
  by_cases h6 : (s.length : Int) ≤ 600
  · by_cases h7 : (t.length : Int) ≤ 600
    · obtain ⟨X, hX⟩ : ∃ X, Hid (X = s ++ 95 :: t) := ⟨s ++ 95 :: t, rfl⟩
      obtain ⟨U, hU⟩ : ∃ U, Hid (U = s ++ [95]) := ⟨s ++ [95], rfl⟩
      obtain ⟨Y, hY⟩ : ∃ Y, Hid (Y = 88 :: s) := ⟨88 :: s, rfl⟩
      obtain ⟨Z, hZ⟩ : ∃ Z, Hid (Z = 95 :: s) := ⟨95 :: s, rfl⟩
      obtain ⟨V, hV⟩ : ∃ V, Hid (V = 97 :: s) := ⟨97 :: s, rfl⟩
      have hXl : X.length = s.length + 1 + t.length := by rw [hX.out]; simp; omega
      have mX : X.length ≤ maxLen := by unfold maxLen; omega
      have mY : Y.length ≤ maxLen := by rw [hY.out]; unfold maxLen; simp; omega
      have mZ : Z.length ≤ maxLen := by rw [hZ.out]; unfold maxLen; simp; omega
      have mV : V.length ≤ maxLen := by rw [hV.out]; unfold maxLen; simp; omega
      have hUl : U.length ≤ 601 := by rw [hU.out]; simp; omega
      have c1 : ByteArray.mk s.toArray ++ ByteArray.mk #[95] = ByteArray.mk U.toArray := by rw [hU.out]; exact cat_bytes s [95]
      have c2 : ByteArray.mk U.toArray ++ ByteArray.mk t.toArray = ByteArray.mk X.toArray := by rw [hU.out, hX.out, cat_bytes, List.append_assoc]; rfl
      have c3 : ByteArray.mk #[88] ++ ByteArray.mk s.toArray = ByteArray.mk Y.toArray := by rw [hY.out]; exact cat_bytes [88] s
      have c4 : ByteArray.mk #[95] ++ ByteArray.mk s.toArray = ByteArray.mk Z.toArray := by rw [hZ.out]; exact cat_bytes [95] s
      have c5 : ByteArray.mk #[97] ++ ByteArray.mk s.toArray = ByteArray.mk V.toArray := by rw [hV.out]; exact cat_bytes [97] s
      have HXl := Lib.hid hXl
      clear hXl
      cases k1 : constantB s
      · cases k2 : variableB s
        · go_enter Tryd.func3, Tryd.ntmps3
          go_wp2_with (first | (go_at_call 8; refine (lives_any _ hE).mono ?_; rintro e w1 ⟨rfl, hb⟩; replace hE := hE.next hb; replace hS := hS.trans hb) | (go_at_call 9; refine (constant_any _ _ (by assumption) hE).mono ?_; rintro e w1 ⟨rfl, hb⟩; replace hE := hE.next hb; replace hS := hS.trans hb) | (go_at_call 10; refine (principal_any _ _ (by assumption) hE).mono ?_; rintro e w1 ⟨rfl, hb⟩; replace hE := hE.next hb; replace hS := hS.trans hb) | (go_at_call 11; refine (variable_any _ _ (by assumption)).mono ?_; rintro e w1 ⟨rfl, rfl⟩))
          go_ret
          exact ⟨rfl, hS⟩
        · have k3 : constantB V = false := by rw [hV.out]; exact var_join k2
          go_enter Tryd.func3, Tryd.ntmps3
          go_wp2_with (first | (go_at_call 8; refine (lives_any _ hE).mono ?_; rintro e w1 ⟨rfl, hb⟩; replace hE := hE.next hb; replace hS := hS.trans hb) | (go_at_call 9; refine (constant_any _ _ (by assumption) hE).mono ?_; rintro e w1 ⟨rfl, hb⟩; replace hE := hE.next hb; replace hS := hS.trans hb) | (go_at_call 10; refine (principal_any _ _ (by assumption) hE).mono ?_; rintro e w1 ⟨rfl, hb⟩; replace hE := hE.next hb; replace hS := hS.trans hb) | (go_at_call 11; refine (variable_any _ _ (by assumption)).mono ?_; rintro e w1 ⟨rfl, rfl⟩))
          go_ret
          exact ⟨rfl, hS⟩
      · obtain ⟨j1, j2, j3, j4⟩ := great_join k1
        rw [← hY.out] at j1 j2
        rw [← hZ.out] at j3
        cases k2 : constantB t
        · cases h8 : decide ((s.length : Int) < 255)
          all_goals
            have j5 : variableB Y = decide ((s.length : Int) < 255) := by rw [j1, Bool.eq_iff_iff]; simp; omega
            rw [h8] at j5
            clear j1
            go_enter Tryd.func3, Tryd.ntmps3
            go_wp2_with (first | (go_at_call 8; refine (lives_any _ hE).mono ?_; rintro e w1 ⟨rfl, hb⟩; replace hE := hE.next hb; replace hS := hS.trans hb) | (go_at_call 9; refine (constant_any _ _ (by assumption) hE).mono ?_; rintro e w1 ⟨rfl, hb⟩; replace hE := hE.next hb; replace hS := hS.trans hb) | (go_at_call 10; refine (principal_any _ _ (by assumption) hE).mono ?_; rintro e w1 ⟨rfl, hb⟩; replace hE := hE.next hb; replace hS := hS.trans hb) | (go_at_call 11; refine (variable_any _ _ (by assumption)).mono ?_; rintro e w1 ⟨rfl, rfl⟩))
            go_ret
            exact ⟨rfl, hS⟩
        · have i1 := join_constant k1 k2
          have i2 := join_principal k1 k2
          rw [← hX.out] at i1 i2
          cases h8 : decide ((s.length : Int) < 255)
          all_goals
            have j5 : variableB Y = decide ((s.length : Int) < 255) := by rw [j1, Bool.eq_iff_iff]; simp; omega
            rw [h8] at j5
            clear j1
            cases h9 : decide ((X.length : Int) ≤ 255)
          all_goals
            have i3 : constantB X = decide ((X.length : Int) ≤ 255) := by rw [i1, Bool.eq_iff_iff]; simp; omega
            rw [h9] at i3
            have i4 : principalB X = (decide ((X.length : Int) ≤ 255) && principalB s) := by rw [i2, ← i1, i3, h9]
            rw [h9] at i4
            clear i1 i2
            cases k3 : principalB s
          all_goals
            rw [k3] at i4; simp only [Bool.and_self, Bool.and_true, Bool.and_false] at i4
            go_enter Tryd.func3, Tryd.ntmps3
            go_wp2_with (first | (go_at_call 8; refine (lives_any _ hE).mono ?_; rintro e w1 ⟨rfl, hb⟩; replace hE := hE.next hb; replace hS := hS.trans hb) | (go_at_call 9; refine (constant_any _ _ (by assumption) hE).mono ?_; rintro e w1 ⟨rfl, hb⟩; replace hE := hE.next hb; replace hS := hS.trans hb) | (go_at_call 10; refine (principal_any _ _ (by assumption) hE).mono ?_; rintro e w1 ⟨rfl, hb⟩; replace hE := hE.next hb; replace hS := hS.trans hb) | (go_at_call 11; refine (variable_any _ _ (by assumption)).mono ?_; rintro e w1 ⟨rfl, rfl⟩))
            go_ret
            exact ⟨rfl, hS⟩
    · go_enter Tryd.func3, Tryd.ntmps3
      go_wp2_with (go_at_call 8; refine (lives_any _ hE).mono ?_; rintro e w1 ⟨rfl, hb⟩; replace hE := hE.next hb; replace hS := hS.trans hb)
      go_ret
      exact ⟨rfl, hS⟩
  · go_enter Tryd.func3, Tryd.ntmps3
    go_wp2_with (go_at_call 8; refine (lives_any _ hE).mono ?_; rintro e w1 ⟨rfl, hb⟩; replace hE := hE.next hb; replace hS := hS.trans hb)
    go_ret
    exact ⟨rfl, hS⟩
end Go.Proofs.YtncbecpnfcjikaaDoor
