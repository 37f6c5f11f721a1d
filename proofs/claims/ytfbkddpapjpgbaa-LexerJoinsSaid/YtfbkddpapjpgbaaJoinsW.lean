/- LexerJoins returns true at every two strings. -/
import Derived.Test.YtfbkddpapjpgbaaLexW
namespace Go.Proofs.Ytfbkddpapjpgbaa
open Go.RowKit
attribute [local go_sem ↓] run_tokEq
attribute [local go_sem] eqK_self

set_option maxHeartbeats 2000000 in
set_option maxRecDepth 100000 in
theorem joins_any (s t : List UInt8) (w : World) :
    Calls Try.prog 4 #[.string ⟨s.toArray⟩, .string ⟨t.toArray⟩] w fun e w' => e = .returned (.bool true) ∧ Since w w' := by
  by_cases h1 : 1000 < s.length
  · have g1 : decide ((1000 : Int) < (s.length : Int)) = true := decide_eq_true (by omega)
    go_enter Try.func4, Try.ntmps4
    go_wp2_with fail
    refine (lives_any _).mono ?_
    rintro e w1 ⟨rfl, hS⟩
    go_wp2_with fail
    go_ret
    exact ⟨rfl, hS⟩
  have g1 : decide ((1000 : Int) < (s.length : Int)) = false := decide_eq_false (by omega)
  by_cases h2 : 1000 < t.length
  · have g2 : decide ((1000 : Int) < (t.length : Int)) = true := decide_eq_true (by omega)
    go_enter Try.func4, Try.ntmps4
    go_wp2_with fail
    refine (lives_any _).mono ?_
    rintro e w1 ⟨rfl, hS⟩
    go_wp2_with fail
    go_ret
    exact ⟨rfl, hS⟩
  have g2 : decide ((1000 : Int) < (t.length : Int)) = false := decide_eq_false (by omega)
  have h1' : s.length ≤ 1000 := by omega
  have h2' : t.length ≤ 1000 := by omega
  clear h1 h2
  obtain ⟨X, hX⟩ : ∃ X, Hid (X = s ++ [10]) := ⟨s ++ [10], rfl⟩
  obtain ⟨Y, hY⟩ : ∃ Y, Hid (Y = X ++ t) := ⟨_, rfl⟩
  have c1 : ByteArray.mk s.toArray ++ ByteArray.mk #[10] = ByteArray.mk X.toArray := by rw [hX.out]; exact cat_bytes s [10]
  have c2 : ByteArray.mk X.toArray ++ ByteArray.mk t.toArray = ByteArray.mk Y.toArray := by rw [hY.out]; exact cat_bytes X t
  have hXl : X.length ≤ 1001 := by rw [hX.out]; simp; omega
  have hYl : Y.length ≤ 2001 := by rw [hY.out]; simp; omega
  have eY : Y = s ++ 10 :: t := by rw [hY.out, hX.out]; simp
  have HJ := toksL_join s t
  rw [← eY] at HJ
  clear eY hX hY
  cases hs : toksL s with
  | mk La oa =>
  cases ht : toksL t with
  | mk Lb ob =>
  rw [hs, ht] at HJ
  have hsL : s.length ≤ 65536 := by omega
  have htL : t.length ≤ 65536 := by omega
  have hYL : Y.length ≤ 65536 := by omega
  cases oa with
  | some pe =>
    obtain ⟨p, x⟩ := pe
    obtain ⟨hp, hx⟩ := toksF_err (s.length + 1) s 0 p x (by rw [show toksF (s.length + 1) s 0 = toksL s from rfl, hs])
    have hx1 : (x != 0) = true := by simpa using hx
    have A1 := Lib.hid (fun W => all_no hsL hs W)
    have A2 := Lib.hid (fun W => all_any t W (by unfold maxLen; omega))
    have A3 := Lib.hid (fun W => all_no hYL HJ W)
    clear hs ht HJ
    go_enter Try.func4, Try.ntmps4
    go_wp2_with fail
    refine (lives_any _).mono ?_
    rintro e w1 ⟨rfl, hS⟩
    go_wp2_with fail
    refine (A1.out _).mono ?_
    rintro e w2 ⟨b1, n1, rfl, hb⟩
    replace hS := hS.trans hb
    clear hb
    go_wp2_with fail
    refine (A2.out _).mono ?_
    rintro e w3 ⟨v, rfl, _, hb⟩
    replace hS := hS.trans hb
    clear hb
    generalize (allL t).2.1 = q1
    generalize (allL t).2.2 = q2
    go_wp2_with fail
    refine (A3.out _).mono ?_
    rintro e w4 ⟨b3, n3, rfl, hb⟩
    replace hS := hS.trans hb
    clear hb
    go_wp2_with fail
    go_ret
    exact ⟨ret_bool (by simp), hS⟩
  | none =>
  cases ob with
  | some pe =>
    obtain ⟨p, x⟩ := pe
    obtain ⟨hp, hx⟩ := toksF_err (t.length + 1) t 0 p x (by rw [show toksF (t.length + 1) t 0 = toksL t from rfl, ht])
    have hx1 : (x != 0) = true := by simpa using hx
    have A1 := Lib.hid (fun W => all_yes hsL hs W)
    have A2 := Lib.hid (fun W => all_no htL ht W)
    have A3 := Lib.hid (fun W => all_no hYL HJ W)
    have e1 : IntKind.i64.wrap ((s.length : Int) + 1) = (s.length : Int) + 1 := IntWalk.i64_in _ (by omega)
    have e2 : IntKind.i64.wrap ((s.length : Int) + 1 + (p : Int)) = (s.length : Int) + 1 + (p : Int) := IntWalk.i64_in _ (by omega)
    clear hs ht HJ
    go_enter Try.func4, Try.ntmps4
    go_wp2_with fail
    refine (lives_any _).mono ?_
    rintro e w1 ⟨rfl, hS⟩
    go_wp2_with fail
    refine (A1.out _).mono ?_
    rintro e w2 ⟨b1, n1, rfl, _, _, hb⟩
    replace hS := hS.trans hb
    clear hb
    go_wp2_with fail
    refine (A2.out _).mono ?_
    rintro e w3 ⟨b2, n2, rfl, hb⟩
    replace hS := hS.trans hb
    clear hb
    go_wp2_with fail
    refine (A3.out _).mono ?_
    rintro e w4 ⟨b3, n3, rfl, hb⟩
    replace hS := hS.trans hb
    clear hb
    go_wp2_with fail
    go_ret
    exact ⟨ret_bool (by simp), hS⟩
  | none =>
    have A1 := Lib.hid (fun W => all_yes hsL hs W)
    have A2 := Lib.hid (fun W => all_yes htL ht W)
    obtain ⟨Lc, hLc⟩ : ∃ Lc, Hid (Lc = La ++ Lb.map (shK (s.length + 1))) := ⟨_, rfl⟩
    have HJ' : toksL Y = (Lc, none) := by rw [HJ, hLc.out]; rfl
    have A3 := Lib.hid (fun W => all_yes hYL HJ' W)
    have na := toksL_count hs
    have nb := toksL_count ht
    have nc := toksL_count HJ'
    have hlc : Lc.length = La.length + Lb.length := by rw [hLc.out, List.length_append, List.length_map]
    have e1 : IntKind.i64.wrap ((La.length : Int) + (Lb.length : Int)) = (La.length : Int) + (Lb.length : Int) := IntWalk.i64_in _ (by omega)
    have e2 : ((Lc.length : Int) != (La.length : Int) + (Lb.length : Int)) = false := by rw [bne_eq_false_iff_eq]; omega
    have HLC := Lib.hid hlc
    have hpl : Hid (∀ x ∈ Lb, x.2.2 ≤ 1000) := by
      intro x hx
      have := (toksF_good (t.length + 1) t 0 x (by rw [show toksF (t.length + 1) t 0 = toksL t from rfl, ht]; exact hx)).2.2.1
      omega
    clear hs ht HJ HJ' hlc
    go_enter Try.func4, Try.ntmps4
    go_wp2_with fail
    refine (lives_any _).mono ?_
    rintro e w1 ⟨rfl, hS⟩
    go_wp2_with fail
    refine (A1.out _).mono ?_
    rintro e w2 ⟨b1, n1, rfl, hn1, hr1, hb⟩
    replace hS := hS.trans hb
    clear hb
    go_wp2_with fail
    refine (A2.out _).mono ?_
    rintro e w3 ⟨b2, n2, rfl, hn2, hr2, hb⟩
    replace hr1 := hr1.next hb
    replace hS := hS.trans hb
    clear hb
    go_wp2_with fail
    refine (A3.out _).mono ?_
    rintro e w4 ⟨b3, n3, rfl, hn3, hr3, hb⟩
    replace hr1 := hr1.next hb
    replace hr2 := hr2.next hb
    replace hS := hS.trans hb
    clear hb
    have hcut := fun W => run_cutK b3 Lc.length n3 La.length (by rw [HLC.out]; omega) hn3 W
    go_wp2_with fail
    refine (same_tok _ _ La La w4 (row_cut (L := La) (M := Lb.map (shK (s.length + 1))) (by rw [← hLc.out]; exact hr3) (by rw [HLC.out, List.length_map]) rfl hn3) hr1 (by omega) (by omega)).mono ?_
    rintro e w5 ⟨rfl, hb⟩
    rw [decide_eq_true rfl]
    replace hr2 := hr2.next hb
    replace hr3 := hr3.next hb
    replace hS := hS.trans hb
    clear hb hr1 hcut e1 e2 A1 A2 A3
    have HR2 := Lib.hid hr2
    have HR3 := Lib.hid hr3
    clear hr2 hr3
    go_wp2_with fail
    go_loopw [14] (fun i wr => ∃ k : Nat, k ≤ Lb.length ∧ i = .int .i64 k ∧ Since w5 wr) (fun i _ => Lb.length - (intOf i).toNat)
    case atStart => exact ⟨0, Nat.zero_le _, rfl, Since.refl _⟩
    case round =>
      obtain ⟨k, hk, rfl, hSr⟩ := hrel
      by_cases hlt : k < Lb.length
      · obtain ⟨b, o, c, he, _, hcells⟩ := (HR2.out.next hSr).some (by omega)
        cases he
        obtain ⟨d0, d1, d2⟩ := tk_at hcells hlt
        obtain ⟨b', o', c', he', _, hcells'⟩ := (HR3.out.next hSr).some (by rw [HLC.out]; omega)
        cases he'
        obtain ⟨j, hj⟩ : ∃ j, j = La.length + k := ⟨_, rfl⟩
        have hlc : j < Lc.length := by rw [HLC.out, hj]; omega
        obtain ⟨f0, f1, f2⟩ := tk_at hcells' hlc
        have hx : Lc[j] = shK (s.length + 1) Lb[k] := by
          have h := hLc.out
          subst h
          subst hj
          rw [List.getElem_append_right (Nat.le_add_right _ _)]
          simp
        rw [hx] at f0 f1 f2
        have hat : (Lb[k]).2.2 ≤ 1000 := hpl.out _ (List.getElem_mem hlt)
        clear hcells hcells' hx
        generalize Lb[k] = x at *
        obtain ⟨xk, xt, xa⟩ := x
        simp only [shK] at d0 d1 d2 f0 f1 f2 hat
        have e1 : IntKind.i64.wrap ((xa : Int) + (s.length : Int)) = (xa : Int) + (s.length : Int) := IntWalk.i64_in _ (by omega)
        have e2 : IntKind.i64.wrap ((xa : Int) + (s.length : Int) + 1) = (xa : Int) + (s.length : Int) + 1 := IntWalk.i64_in _ (by omega)
        have e3 : IntKind.i64.wrap ((La.length : Int) + (k : Int)) = (j : Int) := by rw [IntWalk.i64_in _ (by omega), hj]; simp
        clear hj
        have e4 : ((s.length + 1 + xa : Nat) : Int) = (xa : Int) + (s.length : Int) + 1 := by omega
        rw [e4] at f2
        clear e4
        go_wp2_with fail
        have hA : Since wr (wr.alloc (.cells #[.int .i64 xk, .string ⟨xt.toArray⟩, .int .i64 ((xa : Int) + (s.length : Int) + 1)] 25)) := (Since.refl _).alloc _
        replace f0 := hA.cell f0; replace f1 := hA.cell f1; replace f2 := hA.cell f2
        go_quiet (fail)
        go_wp2_with fail
        go_roundw
        case rel => exact ⟨k + 1, by omega, by go_num, (hSr.trans hA).drewN _⟩
        case measure => simp [intOf]; omega
      · go_wp2_with fail
        go_ret
        exact ⟨rfl, hS.trans hSr⟩
end Go.Proofs.Ytfbkddpapjpgbaa
