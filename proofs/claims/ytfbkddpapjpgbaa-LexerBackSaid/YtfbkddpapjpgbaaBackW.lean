/- LexerBack returns true at every string. -/
import Derived.Test.YtfbkddpapjpgbaaLexW
namespace Go.Proofs.Ytfbkddpapjpgbaa
open Go.RowKit
attribute [local go_sem ↓] run_tokEq
attribute [local go_sem] eqK_self

def kt (t : Tk) : Int × List UInt8 := (t.1, t.2.1)
theorem blanks_len : ∀ (L : List (List UInt8)), (blanksL L).length ≤ (L.map fun t => t.length + 1).sum
  | [] => by simp [blanksL]
  | [t] => by simp [blanksL]
  | t :: u :: r => by
    have := blanks_len (u :: r)
    rw [blanksL, List.length_append, List.length_cons, List.map_cons, List.sum_cons]
    omega
theorem texts_sum : ∀ (f : Nat) (r : List UInt8) (i : Nat), ((textsK (toksF f r i).1).map fun t => t.length + 1).sum ≤ 2 * r.length
  | 0, _, _ => by simp [toksF, textsK]
  | f + 1, r, i => by
    rw [toksF]
    cases hk : tokN (r.drop (skipN false r)) with
    | none => simp [textsK]
    | some x =>
      cases x with
      | error e => simp [textsK]
      | ok p =>
        obtain ⟨q, u⟩ := p
        obtain ⟨h1, r', h2⟩ := tokN_len hk
        have hl := congrArg List.length h2
        rw [List.length_drop, List.length_append] at hl
        have := texts_sum f (r.drop (skipN false r + u.length)) (i + skipN false r + u.length)
        rw [List.length_drop] at this
        simp only [textsK, List.map_cons, List.sum_cons] at this ⊢
        omega
/-- What LexerBack leans on. -/
theorem back_facts {s : List UInt8} {L : List Tk} (h : toksL s = (L, none)) : (blanksL (textsK L)).length ≤ 2 * s.length ∧ ∃ M, toksL (blanksL (textsK L)) = (M, none) ∧ M.length = L.length ∧ ∀ k, (h1 : k < L.length) → (h2 : k < M.length) → M[k].1 = L[k].1 ∧ M[k].2.1 = L[k].2.1 := by
  have e : (toksF (s.length + 1) s 0).1 = L := by rw [show toksF (s.length + 1) s 0 = toksL s from rfl, h]
  refine ⟨?_, ?_⟩
  · have h1 := blanks_len (textsK L)
    have h2 := texts_sum (s.length + 1) s 0
    rw [e] at h2
    omega
  · have hw : ∀ p ∈ L.map kt, WordT p.1 p.2 := by
      intro p hp
      obtain ⟨t, ht, rfl⟩ := List.mem_map.1 hp
      rw [← e] at ht
      exact (toksF_good (s.length + 1) s 0 t ht).1
    have ht : (L.map kt).map (·.2) = textsK L := by rw [List.map_map]; rfl
    have hb := toks_blanks (L.map kt) ((blanksL (textsK L)).length + 1) 0 hw (by rw [ht]; omega)
    rw [ht] at hb
    obtain ⟨h1, h2⟩ := hb
    have hM : toksL (blanksL (textsK L)) = ((toksL (blanksL (textsK L))).1, none) := Prod.ext rfl h2
    have h1' : (toksL (blanksL (textsK L))).1.map kt = L.map kt := h1
    refine ⟨_, hM, by simpa using congrArg List.length h1', fun k h3 h4 => ?_⟩
    have hk : ((toksL (blanksL (textsK L))).1.map kt)[k]'(by simpa using h4) = (L.map kt)[k]'(by simpa using h3) := by simp only [h1']
    rw [List.getElem_map, List.getElem_map] at hk
    exact ⟨congrArg (fun p : Int × List UInt8 => p.1) hk, congrArg (fun p : Int × List UInt8 => p.2) hk⟩
/-- A token of a text, and the one before it. -/
theorem tok_facts {s : List UInt8} {L : List Tk} (h : toksL s = (L, none)) {k : Nat} (hk : k < L.length) : 0 < L[k].2.1.length ∧ L[k].2.2 + L[k].2.1.length ≤ s.length ∧ (s.take (L[k].2.2 + L[k].2.1.length)).drop L[k].2.2 = L[k].2.1 := by
  have e : (toksF (s.length + 1) s 0).1 = L := by rw [show toksF (s.length + 1) s 0 = toksL s from rfl, h]
  have hm : L[k] ∈ (toksF (s.length + 1) s 0).1 := by rw [e]; exact List.getElem_mem hk
  obtain ⟨h1, _, h3, h4⟩ := toksF_good _ _ _ _ hm
  refine ⟨List.length_pos_iff.2 h1.2.2, by omega, ?_⟩
  rw [List.drop_take, show L[k].2.2 + L[k].2.1.length - L[k].2.2 = L[k].2.1.length by omega]
  exact h4
theorem tok_before {s : List UInt8} {L : List Tk} (h : toksL s = (L, none)) {i k : Nat} (hi : i < k) (hk : k < L.length) : (L[i]'(by omega)).2.2 + (L[i]'(by omega)).2.1.length ≤ L[k].2.2 := by
  have e : (toksF (s.length + 1) s 0).1 = L := by rw [show toksF (s.length + 1) s 0 = toksL s from rfl, h]
  have := toksF_rising (s.length + 1) s 0
  rw [e] at this
  exact List.pairwise_iff_getElem.1 this i k (by omega) hk hi

set_option maxHeartbeats 2000000 in
set_option maxRecDepth 100000 in
theorem back_any (s : List UInt8) (w : World) :
    Calls Try.prog 5 #[.string ⟨s.toArray⟩] w fun e w' => e = .returned (.bool true) ∧ Since w w' := by
  by_cases h1 : 1000 < s.length
  · have g1 : decide ((1000 : Int) < (s.length : Int)) = true := decide_eq_true (by omega)
    go_enter Try.func5, Try.ntmps5
    go_wp2_with fail
    refine (lives_any _).mono ?_
    rintro e w1 ⟨rfl, hS⟩
    go_wp2_with fail
    go_ret
    exact ⟨rfl, hS⟩
  have g1 : decide ((1000 : Int) < (s.length : Int)) = false := decide_eq_false (by omega)
  have h1' : s.length ≤ 1000 := by omega
  clear h1
  have hsL : s.length ≤ 65536 := by omega
  cases hs : toksL s with
  | mk L oa =>
  cases oa with
  | some pe =>
    obtain ⟨p, x⟩ := pe
    obtain ⟨hp, hx⟩ := toksF_err (s.length + 1) s 0 p x (by rw [show toksF (s.length + 1) s 0 = toksL s from rfl, hs])
    have hx1 : (x != 0) = true := by simpa using hx
    have g2 : decide ((p : Int) < (s.length : Int)) = true := decide_eq_true (by omega)
    have A1 := Lib.hid (fun W => all_no hsL hs W)
    clear hs
    go_enter Try.func5, Try.ntmps5
    go_wp2_with fail
    refine (lives_any _).mono ?_
    rintro e w1 ⟨rfl, hS⟩
    go_wp2_with fail
    refine (A1.out _).mono ?_
    rintro e w2 ⟨b1, n1, rfl, hb⟩
    replace hS := hS.trans hb
    clear hb
    go_wp2_with fail
    go_ret
    exact ⟨ret_bool (by simp; omega), hS⟩
  | none =>
    have A1 := Lib.hid (fun W => all_yes hsL hs W)
    have HS := Lib.hid hs
    have na := toksL_count hs
    clear hs
    go_enter Try.func5, Try.ntmps5
    go_wp2_with fail
    refine (lives_any _).mono ?_
    rintro e w1 ⟨rfl, hS⟩
    go_wp2_with fail
    refine (A1.out _).mono ?_
    rintro e w2 ⟨b1, n1, rfl, hn1, hr1, hb⟩
    replace hS := hS.trans hb
    have HR := Lib.hid hr1
    clear hb hr1 A1 g1
    go_wp2_with fail
    go_loopw [6] (fun i wr => ∃ k : Nat, k ≤ L.length ∧ i = .int .i64 k ∧ Since w2 wr) (fun i _ => L.length - (intOf i).toNat)
    case atStart => exact ⟨0, Nat.zero_le _, rfl, Since.refl _⟩
    case round =>
      obtain ⟨k, hk, rfl, hSr⟩ := hrel
      by_cases hlt : k < L.length
      · obtain ⟨b, o, c, he, _, hcells⟩ := (HR.out.next hSr).some (by omega)
        cases he
        obtain ⟨d0, d1, d2⟩ := tk_at hcells hlt
        obtain ⟨q1, q2, q3⟩ := tok_facts HS.out hlt
        by_cases hk0 : k = 0
        · have g3 : decide ((0 : Int) < (k : Int)) = false := decide_eq_false (by omega)
          have g5 : decide (0 < k) = false := decide_eq_false (by omega)
          clear hk0
          clear hcells
          generalize L[k] = x at *
          obtain ⟨xk, xt, xa⟩ := x
          simp only at d0 d1 d2 q1 q2 q3
          have q4 : xt.isEmpty = false := by rw [List.isEmpty_eq_false_iff]; exact List.length_pos_iff.1 q1
          have e0 : decide ((xa : Int) < 0) = false := decide_eq_false (by omega)
          have e1 : IntKind.i64.wrap ((s.length : Int) - (xt.length : Int)) = (s.length : Int) - (xt.length : Int) := IntWalk.i64_in _ (by omega)
          have e2 : decide ((s.length : Int) - (xt.length : Int) < (xa : Int)) = false := decide_eq_false (by omega)
          have e3 : IntKind.i64.wrap ((xa : Int) + (xt.length : Int)) = (xa : Int) + (xt.length : Int) := IntWalk.i64_in _ (by omega)
          have hsl : ∀ W, (Instr.slice 9 (.string ⟨s.toArray⟩) (some (.int .i64 xa)) (some (.int .i64 ((xa : Int) + (xt.length : Int)))) none).run Try.prog W = .ok (.string ⟨xt.toArray⟩) W := by
            intro W
            have := run_mid (S := s) (i := xa) (j := xa + xt.length) (Nat.le_add_right _ _) q2 W
            rw [q3] at this
            exact_mod_cast this
          go_wp2_with fail
          have hA : Since wr (wr.alloc (.cells #[.int .i64 xk, .string ⟨xt.toArray⟩, .int .i64 (xa : Int)] 25)) := (Since.refl _).alloc _
          have x1 : (wr.alloc (.cells #[.int .i64 xk, .string ⟨xt.toArray⟩, .int .i64 (xa : Int)] 25)).cell? ⟨wr.heap.size, 1, none⟩ = some (.string ⟨xt.toArray⟩) := by rw [World.cell?_alloc_new]; rfl
          have x2 : (wr.alloc (.cells #[.int .i64 xk, .string ⟨xt.toArray⟩, .int .i64 (xa : Int)] 25)).cell? ⟨wr.heap.size, 2, none⟩ = some (.int .i64 (xa : Int)) := by rw [World.cell?_alloc_new]; rfl
          clear d0 d1 d2
          generalize wr.alloc (.cells #[.int .i64 xk, .string ⟨xt.toArray⟩, .int .i64 (xa : Int)] 25) = wx at *
          have hx := hSr.trans hA
          clear hSr hA
          go_quiet (fail)
          go_wp2_with fail
          go_roundw
          case rel => exact ⟨k + 1, by omega, by go_num, hx.drewN _⟩
          case measure => simp [intOf]; omega
        · obtain ⟨kp, hkp⟩ : ∃ kp, kp + 1 = k := ⟨k - 1, by omega⟩
          have hltp : kp < L.length := by omega
          obtain ⟨p0, p1, p2⟩ := tk_at hcells hltp
          have q5 := tok_before HS.out (i := kp) (k := k) (by omega) hlt
          obtain ⟨_, q6, _⟩ := tok_facts HS.out hltp
          have g3 : decide ((0 : Int) < (k : Int)) = true := decide_eq_true (by omega)
          have g5 : decide (0 < k) = true := decide_eq_true (by omega)
          have g4 : IntKind.i64.wrap ((k : Int) - 1) = (kp : Int) := by rw [IntWalk.i64_in _ (by omega)]; omega
          clear hcells
          generalize L[k] = x at *
          generalize L[kp] = y at *
          obtain ⟨xk, xt, xa⟩ := x
          obtain ⟨yk, yt, ya⟩ := y
          simp only at d0 d1 d2 p0 p1 p2 q1 q2 q3 q5 q6
          have q4 : xt.isEmpty = false := by rw [List.isEmpty_eq_false_iff]; exact List.length_pos_iff.1 q1
          have e0 : decide ((xa : Int) < 0) = false := decide_eq_false (by omega)
          have e1 : IntKind.i64.wrap ((s.length : Int) - (xt.length : Int)) = (s.length : Int) - (xt.length : Int) := IntWalk.i64_in _ (by omega)
          have e2 : decide ((s.length : Int) - (xt.length : Int) < (xa : Int)) = false := decide_eq_false (by omega)
          have e3 : IntKind.i64.wrap ((xa : Int) + (xt.length : Int)) = (xa : Int) + (xt.length : Int) := IntWalk.i64_in _ (by omega)
          have e4 : IntKind.i64.wrap ((ya : Int) + (yt.length : Int)) = (ya : Int) + (yt.length : Int) := IntWalk.i64_in _ (by omega)
          have e5 : decide ((xa : Int) < (ya : Int) + (yt.length : Int)) = false := decide_eq_false (by omega)
          have hsl : ∀ W, (Instr.slice 9 (.string ⟨s.toArray⟩) (some (.int .i64 xa)) (some (.int .i64 ((xa : Int) + (xt.length : Int)))) none).run Try.prog W = .ok (.string ⟨xt.toArray⟩) W := by
            intro W
            have := run_mid (S := s) (i := xa) (j := xa + xt.length) (Nat.le_add_right _ _) q2 W
            rw [q3] at this
            exact_mod_cast this
          go_wp2_with fail
          have hA : Since wr (wr.alloc (.cells #[.int .i64 xk, .string ⟨xt.toArray⟩, .int .i64 (xa : Int)] 25)) := (Since.refl _).alloc _
          have x1 : (wr.alloc (.cells #[.int .i64 xk, .string ⟨xt.toArray⟩, .int .i64 (xa : Int)] 25)).cell? ⟨wr.heap.size, 1, none⟩ = some (.string ⟨xt.toArray⟩) := by rw [World.cell?_alloc_new]; rfl
          have x2 : (wr.alloc (.cells #[.int .i64 xk, .string ⟨xt.toArray⟩, .int .i64 (xa : Int)] 25)).cell? ⟨wr.heap.size, 2, none⟩ = some (.int .i64 (xa : Int)) := by rw [World.cell?_alloc_new]; rfl
          replace p0 := hA.cell p0; replace p1 := hA.cell p1; replace p2 := hA.cell p2
          clear d0 d1 d2
          generalize wr.alloc (.cells #[.int .i64 xk, .string ⟨xt.toArray⟩, .int .i64 (xa : Int)] 25) = wx at *
          have hx := hSr.trans hA
          clear hSr hA
          go_quiet (fail)
          go_wp2_with fail
          go_roundw
          case rel => exact ⟨k + 1, by omega, by go_num, hx.drewN _⟩
          case measure => simp [intOf]; omega
      · obtain ⟨f1, M, f2, f3, f4⟩ := back_facts HS.out
        have HT := Lib.hid (text_any _ L wr (HR.out.next hSr) (by omega) (by omega))
        have hTL : (blanksL (textsK L)).length ≤ 65536 := by omega
        have HM := Lib.hid (fun W => all_yes hTL f2 W)
        have HF := Lib.hid f4
        have hml : M.length ≤ 1000 := by omega
        have HML := Lib.hid f3
        have e1 : ((M.length : Int) != (L.length : Int)) = false := by rw [bne_eq_false_iff_eq]; omega
        clear f1 f2 f3 f4 hTL
        generalize blanksL (textsK L) = T at *
        go_wp2_with fail
        refine HT.out.mono ?_
        rintro e w3 ⟨rfl, hb3⟩
        go_wp2_with fail
        refine (HM.out _).mono ?_
        rintro e w4 ⟨b2, n2, rfl, hn2, hr2, hb4⟩
        have hS4 := hSr.trans (hb3.trans hb4)
        have HR2 := Lib.hid hr2
        clear hb3 hb4 HT HM hr2
        go_wp2_with fail
        go_loopw [11] (fun i wq => ∃ j : Nat, j ≤ L.length ∧ i = .int .i64 j ∧ Since w4 wq) (fun i _ => L.length - (intOf i).toNat)
        case atStart => exact ⟨0, Nat.zero_le _, rfl, Since.refl _⟩
        case round =>
          obtain ⟨j, hj, rfl, hSq⟩ := hrel
          by_cases hjt : j < L.length
          · have hjm : j < M.length := by rw [HML.out]; exact hjt
            obtain ⟨b, o, c, he, _, hcells⟩ := ((HR.out.next hS4).next hSq).some (by omega)
            cases he
            obtain ⟨d0, d1, _⟩ := tk_at hcells hjt
            obtain ⟨b', o', c', he', _, hcells'⟩ := (HR2.out.next hSq).some (by omega)
            cases he'
            obtain ⟨f0, f1, _⟩ := tk_at hcells' hjm
            obtain ⟨z1, z2⟩ := HF.out j hjt hjm
            rw [z1] at f0
            rw [z2] at f1
            clear hcells hcells' z1 z2
            generalize L[j] = x at *
            generalize M[j] = y at *
            obtain ⟨xk, xt, xa⟩ := x
            simp only at d0 d1 f0 f1
            have g6 : (j : Int) < (M.length : Int) := by omega
            go_wp2_with fail
            go_quiet (fail)
            go_wp2_with fail
            go_roundw
            case rel => exact ⟨j + 1, by omega, by go_num, hSq.drewN _⟩
            case measure => simp [intOf]; omega
          · go_wp2_with fail
            go_ret
            exact ⟨rfl, hS.trans (hS4.trans hSq)⟩
end Go.Proofs.Ytfbkddpapjpgbaa
