/- SpellLengths returns true at every length and byte, in every world in which the library's table strings.asciiSpace stands. -/
import Derived.Test.YtncbecpnfcjikaaDoorSpLives
namespace Go.Proofs.YtncbecpnfcjikaaDoor
open Go.RowKit

theorem timesL_one (c : UInt8) (m : Nat) : timesL [c] m = List.replicate m c := by
  induction m with
  | zero => rfl
  | succ n ih => rw [timesL_succ, ih]; rfl
theorem all_replicate {m : UInt8 → Bool} (c : UInt8) (n : Nat) : (List.replicate (n + 1) c).all m = m c := by
  rw [Bool.eq_iff_iff, List.all_eq_true]; simp
theorem spelledB_rep {f m : Int → Bool} {a c : UInt8} (k : Nat) (ha : f a.toNat = true) : spelledB f m (a :: List.replicate (k + 1) c) = (decide ((k : Int) + 2 ≤ 255) && m c.toNat) := by
  have hd : decide ((a :: List.replicate (k + 1) c).length ≤ 255) = decide ((k : Int) + 2 ≤ 255) := by
    rw [List.length_cons, List.length_replicate, decide_eq_decide]; omega
  rw [spelledB, hd, ha, all_replicate, Bool.and_true]
theorem no_head (a : UInt8) (h : ∀ x ∈ wordsL, x.head? ≠ some a) (r : List UInt8) : reservedB (a :: r) = false := by
  rw [Bool.eq_false_iff]; intro hr
  rw [reservedB, List.contains_iff_mem] at hr
  exact h _ hr rfl
theorem rep_facts (c : UInt8) (k : Nat) :
    principalB (122 :: List.replicate (k + 1) c) = (decide ((k : Int) + 2 ≤ 255) && lowB c.toNat) ∧ constantB (55 :: List.replicate (k + 1) c) = (decide ((k : Int) + 2 ≤ 255) && lowB c.toNat) ∧
    variableB (90 :: List.replicate (k + 1) c) = (decide ((k : Int) + 2 ≤ 255) && varB c.toNat) ∧ principalB (55 :: List.replicate (k + 1) c) = false ∧ variableB (122 :: List.replicate (k + 1) c) = false := by
  refine ⟨?_, ?_, ?_, ?_, ?_⟩
  · rw [principalB, no_head 122 (by decide +kernel), spelledB_rep k (by decide), Bool.not_false, Bool.and_true]
  · rw [constantB, no_head 55 (by decide +kernel), spelledB_rep k (by decide), Bool.not_false, Bool.and_true]
  · rw [variableB, spelledB_rep k (by decide)]
  · rw [principalB, spelledB_first (by simp) (by exact (by decide : smallB ((55 : UInt8).toNat : Int) = false)), Bool.false_and]
  · rw [variableB, spelledB_first (by simp) (by exact (by decide : greatB ((122 : UInt8).toNat : Int) = false))]
set_option maxHeartbeats 4000000 in
set_option maxRecDepth 100000 in
theorem lengths_walk (n : Int) (c : UInt8) (w : World) (hn1 : -9223372036854775808 ≤ n) (hn2 : n ≤ 9223372036854775807) (hE : Env w) :
    Calls Tryd.prog 4 #[.int .i64 n, .int .u8 c.toNat] w fun e w' => e = .returned (.bool true) ∧ Since w w' := by
  have hS := Since.refl w
  have b1 := Int.emod_nonneg n (show (300 : Int) ≠ 0 by omega)
  have b2 := Int.emod_lt_of_pos n (show (0 : Int) < 300 by omega)
  obtain ⟨m, hm⟩ := Int.eq_ofNat_of_zero_le b1
  have HP : Hid (∀ w, Calls Tryd.prog 12 #[.int .i64 n, .int .i64 300] w fun e w' => e = .returned (.int .i64 m) ∧ w = w') := by
    intro w; rw [← hm]; exact pick_any n 300 w hn1 hn2 (by omega) (by omega)
  rw [hm] at b2
  clear b1 hm
  obtain ⟨R, hR⟩ : ∃ R, Hid (R = List.replicate (m + 1) c) := ⟨List.replicate (m + 1) c, rfl⟩
  have HT : Hid (∀ w, Calls Tryd.prog 13 #[.string ⟨#[c]⟩, .int .i64 (2 + (m : Int) - 1)] w fun e w' => e = .returned (.string ⟨R.toArray⟩) ∧ w = w') := by
    intro w
    rw [hR.out, ← timesL_one, show (2 : Int) + (m : Int) - 1 = ((m + 1 : Nat) : Int) from by omega]
    exact times_any [c] (m + 1) w (by omega) (by simp; omega) (by simp)
  have hconv : ∀ w : World, (convert 27 9 (.slice (some ⟨w.heap.size, 0, none⟩) 1 1)).run Tryd.prog (w.alloc (.cells #[.int .u8 c.toNat] 5)) = .ok (.string ⟨#[c]⟩) (w.alloc (.cells #[.int .u8 c.toNat] 5)) := by
    intro w
    refine run_convert_bytes_back (w.alloc (.cells #[.int .u8 c.toNat] 5)) 27 9 5 ⟨w.heap.size, 0, none⟩ 1 [c] Tryd.underlying27 Tryd.underlying5 Tryd.underlying9 ?_
    intro j hj
    obtain rfl : j = 0 := by simpa using hj
    rw [show (⟨w.heap.size, 0, none⟩ : Addr).add 0 = ⟨w.heap.size, 0, none⟩ from rfl, World.cell?_alloc_new]
    rfl
  have hRl : R.length = m + 1 := by rw [hR.out]; simp
  have HRL := Lib.hid hRl
  have hRb : R.length ≤ 301 := by omega
  clear hRl
  obtain ⟨Y, hY⟩ : ∃ Y, Hid (Y = 122 :: R) := ⟨122 :: R, rfl⟩
  obtain ⟨Z, hZ⟩ : ∃ Z, Hid (Z = 55 :: R) := ⟨55 :: R, rfl⟩
  obtain ⟨V, hV⟩ : ∃ V, Hid (V = 90 :: R) := ⟨90 :: R, rfl⟩
  have c1 : ByteArray.mk #[122] ++ ByteArray.mk R.toArray = ByteArray.mk Y.toArray := by rw [hY.out]; exact cat_bytes [122] R
  have c2 : ByteArray.mk #[55] ++ ByteArray.mk R.toArray = ByteArray.mk Z.toArray := by rw [hZ.out]; exact cat_bytes [55] R
  have c3 : ByteArray.mk #[90] ++ ByteArray.mk R.toArray = ByteArray.mk V.toArray := by rw [hV.out]; exact cat_bytes [90] R
  have mY : Y.length ≤ maxLen := by rw [hY.out]; unfold maxLen; simp; omega
  have mZ : Z.length ≤ maxLen := by rw [hZ.out]; unfold maxLen; simp; omega
  have mV : V.length ≤ maxLen := by rw [hV.out]; unfold maxLen; simp; omega
  obtain ⟨f1, f2, f3, f4, f5⟩ := rep_facts c m
  rw [← hR.out] at f1 f2 f3 f4 f5
  rw [← hY.out] at f1 f5
  rw [← hZ.out] at f2 f4
  rw [← hV.out] at f3
  have hv : varB c.toNat = (lowB c.toNat || greatB c.toNat) := rfl
  have h10 : decide (2 + (m : Int) ≤ 255) = decide ((m : Int) + 2 ≤ 255) := by rw [Int.add_comm]
  have H := Lib.hid (And.intro f1 (And.intro f2 (And.intro f3 (And.intro h10 hv))))
  clear f1 f2 f3 h10 hv
  go_enter Tryd.func4, Tryd.ntmps4
  go_upto_region 4 with (first | (go_at_call 8; refine (lives_any _ hE).mono ?_; rintro e w1 ⟨rfl, hb⟩; replace hS : Since w w1 := (by first | exact hS.trans hb | exact (hS.alloc _).trans hb); replace hE : Env w1 := (by first | exact hE.next hb | exact (hE.next ((Since.refl _).alloc _)).next hb)) | (go_at_call 9; refine (constant_any _ _ (by assumption) (by first | exact hE | exact hE.next ((Since.refl _).alloc _))).mono ?_; rintro e w1 ⟨rfl, hb⟩; replace hS : Since w w1 := (by first | exact hS.trans hb | exact (hS.alloc _).trans hb); replace hE : Env w1 := (by first | exact hE.next hb | exact (hE.next ((Since.refl _).alloc _)).next hb)) | (go_at_call 10; refine (principal_any _ _ (by assumption) (by first | exact hE | exact hE.next ((Since.refl _).alloc _))).mono ?_; rintro e w1 ⟨rfl, hb⟩; replace hS : Since w w1 := (by first | exact hS.trans hb | exact (hS.alloc _).trans hb); replace hE : Env w1 := (by first | exact hE.next hb | exact (hE.next ((Since.refl _).alloc _)).next hb)) | (go_at_call 11; refine (variable_any _ _ (by assumption)).mono ?_; rintro e w1 ⟨rfl, rfl⟩) | (go_at_call 12; refine (HP.out _).mono ?_; rintro e w1 ⟨rfl, rfl⟩) | (go_at_call 13; refine (HT.out _).mono ?_; rintro e w1 ⟨rfl, rfl⟩))
  go_cut [5] (fun s5 wx => s5 = .bool (lowB c.toNat) ∧ Env wx ∧ Since w wx)
  case first =>
    go_wp2_with fail
    all_goals
      go_meet
      refine ⟨?_, hE, hS⟩
      congr 1
      rw [Bool.eq_iff_iff]
      simp [lowB, smallB, digitB]
      omega
  case rest =>
    obtain ⟨rfl, hE, hS⟩ := hcut
    cases hL : lowB c.toNat
    all_goals
      go_upto_region 5 with (fail)
      go_cut [6] (fun s6 wx => s6 = .bool (varB c.toNat) ∧ Env wx ∧ Since w wx)
      case first =>
        go_wp2_with fail
        all_goals
          go_meet
          refine ⟨?_, hE, hS⟩
          rw [H.out.2.2.2.2, hL]
          refine congrArg Value.bool ?_
          first | rfl | (rw [Bool.eq_iff_iff]; simp [greatB]; omega)
      case rest =>
        obtain ⟨rfl, hE, hS⟩ := hcut
        cases hV : varB c.toNat
        all_goals
          cases h9 : decide ((m : Int) + 2 ≤ 255)
          all_goals
            obtain ⟨f1, f2, f3, h10, hx⟩ := H.out
            clear hx
            rw [h9, hL] at f1 f2
            rw [h9, hV] at f3
            rw [h9] at h10
            simp only [Bool.and_self, Bool.and_true, Bool.and_false] at f1 f2 f3
            clear hL hV h9 H
            go_wp2_with (first | (go_at_call 8; refine (lives_any _ hE).mono ?_; rintro e w1 ⟨rfl, hb⟩; replace hS : Since w w1 := (by first | exact hS.trans hb | exact (hS.alloc _).trans hb); replace hE : Env w1 := (by first | exact hE.next hb | exact (hE.next ((Since.refl _).alloc _)).next hb)) | (go_at_call 9; refine (constant_any _ _ (by assumption) (by first | exact hE | exact hE.next ((Since.refl _).alloc _))).mono ?_; rintro e w1 ⟨rfl, hb⟩; replace hS : Since w w1 := (by first | exact hS.trans hb | exact (hS.alloc _).trans hb); replace hE : Env w1 := (by first | exact hE.next hb | exact (hE.next ((Since.refl _).alloc _)).next hb)) | (go_at_call 10; refine (principal_any _ _ (by assumption) (by first | exact hE | exact hE.next ((Since.refl _).alloc _))).mono ?_; rintro e w1 ⟨rfl, hb⟩; replace hS : Since w w1 := (by first | exact hS.trans hb | exact (hS.alloc _).trans hb); replace hE : Env w1 := (by first | exact hE.next hb | exact (hE.next ((Since.refl _).alloc _)).next hb)) | (go_at_call 11; refine (variable_any _ _ (by assumption)).mono ?_; rintro e w1 ⟨rfl, rfl⟩) | (go_at_call 12; refine (HP.out _).mono ?_; rintro e w1 ⟨rfl, rfl⟩) | (go_at_call 13; refine (HT.out _).mono ?_; rintro e w1 ⟨rfl, rfl⟩))
            go_ret
            exact ⟨rfl, hS⟩
end Go.Proofs.YtncbecpnfcjikaaDoor
