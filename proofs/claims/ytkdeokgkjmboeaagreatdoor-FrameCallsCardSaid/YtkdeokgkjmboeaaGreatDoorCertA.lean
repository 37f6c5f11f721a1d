/- cert.Atom: the bytes of every atom whose names have at most 300 bytes, or the error. -/
import Derived.Test.YtkdeokgkjmboeaaGreatDoorCertJ
import Derived.Test.YtkdeokgkjmboeaaGreatDoorTermG
import Derived.Deep.RegionHeld3
namespace Go.Proofs.YtkdeokgkjmboeaaGreatDoor
open Go.RowKit

theorem checkA_range {a : Atm} (h : checkA a = 0) : 0 ≤ a.2.2.1 ∧ a.2.2.1 ≤ 4 ∧ (countA a : Int) = a.2.2.1 := by
  unfold checkA at h
  by_cases h1 : (!(principalB a.1 && principalB a.2.1)) = true
  · rw [if_pos h1] at h; cases h
  rw [if_neg h1] at h
  by_cases h2 : a.2.2.1 < 0 ∨ 4 < a.2.2.1
  · rw [if_pos h2] at h; cases h
  have hc := countA_in (a := a) (by omega) (by omega)
  exact ⟨by omega, by omega, by omega⟩
/-- What Atom comes to. -/
def certA (a : Atm) : List UInt8 × Int := if checkA a = 0 then (atomB a, 0) else ([], 2)
def CertAP (a : Atm) (w : World) (e : Ending) (w' : World) : Prop := e = .returned (.tuple #[.string ⟨(certA a).1.toArray⟩, .int .i64 (certA a).2]) ∧ Since w w'

set_option maxHeartbeats 1000000 in
set_option maxRecDepth 100000 in
theorem catom_any (a_s a_p : List UInt8) (a_n : Int) (a_v0 a_v1 a_v2 a_v3 : Bool) (a_l0 a_l1 a_l2 a_l3 : List UInt8) (w : World) (hF : FitsA ((a_s, a_p, a_n, (a_v0, a_l0), (a_v1, a_l1), (a_v2, a_l2), (a_v3, a_l3)) : Atm)) (hE : Env w) (hL : lightB ((a_s, a_p, a_n, (a_v0, a_l0), (a_v1, a_l1), (a_v2, a_l2), (a_v3, a_l3)) : Atm) = true) :
    Calls Tryz.prog 21 #[.agg #[.string ⟨a_s.toArray⟩, .string ⟨a_p.toArray⟩, .int .i64 a_n, .bool a_v0, .string ⟨a_l0.toArray⟩, .bool a_v1, .string ⟨a_l1.toArray⟩, .bool a_v2, .string ⟨a_l2.toArray⟩, .bool a_v3, .string ⟨a_l3.toArray⟩]] w (CertAP ((a_s, a_p, a_n, (a_v0, a_l0), (a_v1, a_l1), (a_v2, a_l2), (a_v3, a_l3)) : Atm) w) := by
  have hS : Since w (w.alloc (.cells #[.string ⟨a_s.toArray⟩, .string ⟨a_p.toArray⟩, .int .i64 a_n, .bool a_v0, .string ⟨a_l0.toArray⟩, .bool a_v1, .string ⟨a_l1.toArray⟩, .bool a_v2, .string ⟨a_l2.toArray⟩, .bool a_v3, .string ⟨a_l3.toArray⟩] 26)) := (Since.refl _).alloc _
  have a_B : Box (w.alloc (.cells #[.string ⟨a_s.toArray⟩, .string ⟨a_p.toArray⟩, .int .i64 a_n, .bool a_v0, .string ⟨a_l0.toArray⟩, .bool a_v1, .string ⟨a_l1.toArray⟩, .bool a_v2, .string ⟨a_l2.toArray⟩, .bool a_v3, .string ⟨a_l3.toArray⟩] 26)) w.heap.size ((a_s, a_p, a_n, (a_v0, a_l0), (a_v1, a_l1), (a_v2, a_l2), (a_v3, a_l3)) : Atm) := box_new w ((a_s, a_p, a_n, (a_v0, a_l0), (a_v1, a_l1), (a_v2, a_l2), (a_v3, a_l3)) : Atm) _
  obtain ⟨a_c0, a_c1, a_c2, a_c3, a_c4, a_c5, a_c6, a_c7, a_c8, a_c9, a_c10⟩ := a_B.all
  have hE1 := hE.next hS
  have HC := Lib.hid (fun W hE => check_any a_s a_p a_n a_v0 a_v1 a_v2 a_v3 a_l0 a_l1 a_l2 a_l3 W hF hE)
  clear hF hE
  cases hz : (checkA ((a_s, a_p, a_n, (a_v0, a_l0), (a_v1, a_l1), (a_v2, a_l2), (a_v3, a_l3)) : Atm) != 0)
  case true =>
    have hR : Hid (certA ((a_s, a_p, a_n, (a_v0, a_l0), (a_v1, a_l1), (a_v2, a_l2), (a_v3, a_l3)) : Atm) = ([], 2)) := by show _ = _; rw [certA, if_neg (by simpa using hz)]
    have HP : Hid (∀ W, Since w W → CertAP ((a_s, a_p, a_n, (a_v0, a_l0), (a_v1, a_l1), (a_v2, a_l2), (a_v3, a_l3)) : Atm) w (.returned (.tuple #[.string ⟨#[]⟩, .int .i64 2])) W) := by
      intro W hs
      rw [CertAP, hR.out]; exact ⟨rfl, hs⟩
    generalize checkA ((a_s, a_p, a_n, (a_v0, a_l0), (a_v1, a_l1), (a_v2, a_l2), (a_v3, a_l3)) : Atm) = kk at *
    go_enter Tryz.func21, Tryz.ntmps21
    go_wp2_with fail
    refine (HC.out _ hE1).mono ?_
    rintro e w1 ⟨rfl, hb⟩
    go_wp2_with fail
    go_ret2
    exact HP.out _ (hS.trans hb)
  case false =>
    have hz0 : checkA ((a_s, a_p, a_n, (a_v0, a_l0), (a_v1, a_l1), (a_v2, a_l2), (a_v3, a_l3)) : Atm) = 0 := by simpa using hz
    obtain ⟨n0, n4, nc⟩ := checkA_range hz0
    obtain ⟨m, hm⟩ : ∃ m, Hid (m = countA ((a_s, a_p, a_n, (a_v0, a_l0), (a_v1, a_l1), (a_v2, a_l2), (a_v3, a_l3)) : Atm)) := ⟨_, rfl⟩
    have hmn : a_n = (m : Int) := by rw [hm.out]; exact nc.symm
    have hm4 : m ≤ 4 := by rw [hm.out]; exact countA_le _
    have hw : IntKind.u32.wrap a_n = (m : Int) := by rw [IntWalk.u32_in _ (by have h0 : 0 ≤ a_n := n0; have h4 : a_n ≤ 4 := n4; omega)]; exact hmn
    have hsl : ∀ b o W, (Instr.sliceAt 24 (.pointer (some ⟨b, o, none⟩)) none (some (.int .i64 a_n)) none).run Tryz.prog W = .ok (.slice (some ⟨b, o, none⟩) m 4) W := by
      intro b o W
      rw [sl_h _ n0 n4, hmn]; rfl
    have hlt := atomB_le hL
    have hl2 := hL
    simp only [lightB, Bool.and_eq_true, decide_eq_true_eq, List.all_eq_true] at hl2
    obtain ⟨⟨l1, l2⟩, l3⟩ := hl2
    have l1' : a_s.length ≤ 300 := by have : (a_s.length : Int) ≤ 300 := l1; omega
    have l2' : a_p.length ≤ 300 := by have : (a_p.length : Int) ≤ 300 := l2; omega
    have L3 := Lib.hid l3
    obtain ⟨T, hT⟩ : ∃ T, Hid (T = atomB ((a_s, a_p, a_n, (a_v0, a_l0), (a_v1, a_l1), (a_v2, a_l2), (a_v3, a_l3)) : Atm)) := ⟨_, rfl⟩
    obtain ⟨X, hX⟩ : ∃ X, Hid (X = textB a_s) := ⟨_, rfl⟩
    obtain ⟨Y, hY⟩ : ∃ Y, Hid (Y = textB a_p) := ⟨_, rfl⟩
    obtain ⟨Z, hZ⟩ : ∃ Z, Hid (Z = numL m) := ⟨_, rfl⟩
    obtain ⟨H, hH⟩ : ∃ H, Hid (H = X ++ (Y ++ Z)) := ⟨_, rfl⟩
    obtain ⟨A, hA⟩ : ∃ A, Hid (A = (argsL ((a_s, a_p, a_n, (a_v0, a_l0), (a_v1, a_l1), (a_v2, a_l2), (a_v3, a_l3)) : Atm)).take m) := ⟨_, rfl⟩
    have hAl : A.length = m := by rw [hA.out, List.length_take, argsL_len]; omega
    have hTH : T = H ++ A.flatMap nameB := by
      have e1 : (a_n).toNat = m := by omega
      rw [hT.out, hH.out, hX.out, hY.out, hZ.out, hA.out, hm.out]
      show (textB a_s ++ (textB a_p ++ numL a_n.toNat)) ++ _ = _
      rw [e1, hm.out]
    have HAT : Hid (∀ k, (h : k < A.length) → A[k] ∈ argsL ((a_s, a_p, a_n, (a_v0, a_l0), (a_v1, a_l1), (a_v2, a_l2), (a_v3, a_l3)) : Atm)) := by
      intro k h
      have hh := hA.out
      subst hh
      exact List.mem_of_mem_take (List.getElem_mem h)
    have HAW : Hid (∀ W, Box W w.heap.size ((a_s, a_p, a_n, (a_v0, a_l0), (a_v1, a_l1), (a_v2, a_l2), (a_v3, a_l3)) : Atm) → ∀ k, (h : k < A.length) → W.cell? ⟨w.heap.size, 3 + k * 2, none⟩ = some (.bool A[k].1) ∧ W.cell? ⟨w.heap.size, 3 + k * 2 + 1, none⟩ = some (.string ⟨A[k].2.toArray⟩)) := by
      intro W hB k h
      have hh := hA.out
      subst hh
      rw [List.getElem_take]
      exact hB.args.2 k _
    have hP : ∀ W, Since w W → CertAP ((a_s, a_p, a_n, (a_v0, a_l0), (a_v1, a_l1), (a_v2, a_l2), (a_v3, a_l3)) : Atm) w (.returned (.tuple #[.string ⟨T.toArray⟩, .int .i64 0])) W := by
      intro W hs
      rw [CertAP, certA, if_pos hz0, ← hT.out]; exact ⟨rfl, hs⟩
    rw [← hT.out] at hlt
    have hHl : H.length ≤ 2000 := by
      have := congrArg List.length hTH
      rw [List.length_append] at this; omega
    have HX := Lib.hid (fun W => text_any a_s W (by omega))
    have HY := Lib.hid (fun W => text_any a_p W (by omega))
    have HZ := Lib.hid (fun W => number_any m W (by omega))
    rw [← hX.out] at HX
    rw [← hY.out] at HY
    rw [← hZ.out] at HZ
    have HJ : Hid (∀ W g, Row W (.slice (some ⟨g, 0, none⟩) 3 3) 3 ([X, Y, Z].map strV) → Calls Tryz.prog 41 #[.slice (some ⟨g, 0, none⟩) 3 3] W fun e w' => e = .returned (.string ⟨H.toArray⟩) ∧ W = w') := by
      intro W g hr
      have e : ([X, Y, Z] : List (List UInt8)).flatten = H := by rw [hH.out]; simp
      have := cj_any _ [X, Y, Z] W hr (by simp) (by rw [e]; omega)
      rwa [e] at this
    have HP := Lib.hid hP
    have HTH := Lib.hid hTH
    clear hP hTH hX hY hZ hH hA hT hm hL n0 n4 nc l1 l2 l3 hmn
    generalize checkA ((a_s, a_p, a_n, (a_v0, a_l0), (a_v1, a_l1), (a_v2, a_l2), (a_v3, a_l3)) : Atm) = kk at *
    subst hz0
    clear hz
    go_enter Tryz.func21, Tryz.ntmps21
    go_wp2_with fail
    refine (HC.out _ hE1).mono ?_
    rintro e w1 ⟨rfl, hb⟩
    replace a_B := a_B.next hb; replace a_c0 := hb.cell a_c0; replace a_c1 := hb.cell a_c1; replace a_c2 := hb.cell a_c2; replace a_c3 := hb.cell a_c3; replace a_c4 := hb.cell a_c4; replace a_c5 := hb.cell a_c5; replace a_c6 := hb.cell a_c6; replace a_c7 := hb.cell a_c7; replace a_c8 := hb.cell a_c8; replace a_c9 := hb.cell a_c9; replace a_c10 := hb.cell a_c10
    replace hS := hS.trans hb
    clear hb HC hE1
    go_wp2_with fail
    go_region_held3 (fun w' => (w'.cell? ⟨w.heap.size, 0, none⟩ = some (.string ⟨a_s.toArray⟩) ∧ w'.cell? ⟨w.heap.size, 1, none⟩ = some (.string ⟨a_p.toArray⟩) ∧ w'.cell? ⟨w.heap.size, 2, none⟩ = some (.int .i64 a_n) ∧ w'.cell? ⟨w.heap.size, 3, none⟩ = some (.bool a_v0) ∧ w'.cell? ⟨w.heap.size, 4, none⟩ = some (.string ⟨a_l0.toArray⟩) ∧ w'.cell? ⟨w.heap.size, 5, none⟩ = some (.bool a_v1) ∧ w'.cell? ⟨w.heap.size, 6, none⟩ = some (.string ⟨a_l1.toArray⟩) ∧ w'.cell? ⟨w.heap.size, 7, none⟩ = some (.bool a_v2) ∧ w'.cell? ⟨w.heap.size, 8, none⟩ = some (.string ⟨a_l2.toArray⟩) ∧ w'.cell? ⟨w.heap.size, 9, none⟩ = some (.bool a_v3) ∧ w'.cell? ⟨w.heap.size, 10, none⟩ = some (.string ⟨a_l3.toArray⟩)) ∧ Since w w')
      ((go_split_ands; (refine ⟨⟨?_, ?_, ?_, ?_, ?_, ?_, ?_, ?_, ?_, ?_, ?_⟩, ?_⟩) <;> (first | assumption | (refine Since.drew ?_; assumption) | (refine Since.drew (Since.alloc ?_ _); assumption) | (refine Since.cell (Since.drew (Since.alloc (Since.refl _) _)) ?_; assumption) | (refine Since.alloc ?_ _; assumption) | (refine Since.cell (Since.alloc (Since.refl _) _) ?_; assumption) | (refine Since.cell hb ?_; assumption) | (refine Since.trans ?_ hb; assumption))))
      (first
        | (go_at_call 42; first | ((with_reducible refine (HX.out _).mono ?_); rintro e w2 ⟨rfl, hb⟩) | ((with_reducible refine (HY.out _).mono ?_); rintro e w2 ⟨rfl, hb⟩))
        | (go_at_call 43; ((with_reducible refine (HZ.out _).mono ?_); rintro e w2 ⟨rfl, hb⟩))
        | (go_at_call 41; ((with_reducible refine Calls.mono (HJ.out _ _ ?_) ?_); (first | exact row3_new _ _ _ _ _ | exact (row3_new _ _ _ _ _).next (Since.drew (Since.refl _))); rintro e w2 ⟨rfl, rfl⟩)))
    go_wp2_with fail
    go_split_ands
    generalize w2.alloc (.cells #[.string ⟨X.toArray⟩, .string ⟨Y.toArray⟩, .string ⟨Z.toArray⟩] 9) = w3 at *
    have hS3 : Since w w3 := by assumption
    have a_B3 : Box w3 w.heap.size ((a_s, a_p, a_n, (a_v0, a_l0), (a_v1, a_l1), (a_v2, a_l2), (a_v3, a_l3)) : Atm) := by
      intro j hj
      match j, hj with
      | 0, _ => assumption
      | 1, _ => assumption
      | 2, _ => assumption
      | 3, _ => assumption
      | 4, _ => assumption
      | 5, _ => assumption
      | 6, _ => assumption
      | 7, _ => assumption
      | 8, _ => assumption
      | 9, _ => assumption
      | 10, _ => assumption
    clear a_c0 a_c1 a_c2 a_c3 a_c4 a_c5 a_c6 a_c7 a_c8 a_c9 a_c10 hS
    have HROW := Lib.hid (HAW.out w3 a_B3)
    have HTA : Hid (∀ k, (h : k < A.length) → A[k].2.length ≤ 300) := by
      intro k h
      have := L3.out _ (HAT.out k h)
      omega
    clear HAW HAT L3 a_B3 a_B hsl hw HX HY HZ HJ
    go_loopw [4, 27] (fun o i wr => ∃ (k : Nat) (acc : List UInt8), k ≤ m ∧ i = .int .i64 k ∧ o = .string ⟨acc.toArray⟩ ∧ acc.length ≤ 2000 ∧ Since w3 wr ∧ Hid (T = acc ++ (A.drop k).flatMap nameB)) (fun _ i _ => m - (intOf i).toNat)
    case atStart => exact ⟨0, H, by omega, rfl, rfl, hHl, Since.refl _, HTH.out⟩
    case round =>
      obtain ⟨k, acc, hk, rfl, rfl, hacc, hSr, hres⟩ := hrel
      by_cases hlt2 : k < m
      · have hkA : k < A.length := by omega
        obtain ⟨d1, d2⟩ := HROW.out k hkA
        replace d1 := hSr.cell d1
        replace d2 := hSr.cell d2
        have hl3 := HTA.out k hkA
        have hres' : T = (acc ++ nameB A[k]) ++ (A.drop (k + 1)).flatMap nameB := by
          rw [hres.out, List.drop_eq_getElem_cons hkA, List.flatMap_cons, List.append_assoc]
        have hlen : (acc ++ nameB A[k]).length ≤ 2000 := by
          have := congrArg List.length hres'
          rw [List.length_append] at this
          omega
        have HN := Lib.hid hres'
        clear hres hres'
        generalize A[k] = x at *
        obtain ⟨xv, xl⟩ := x
        have HM := Lib.hid (fun W => name_any xv xl W (by simp only at hl3; omega))
        generalize hN : nameB (xv, xl) = N at *
        clear hN
        have HJ2 : Hid (∀ (W : World) (ty : TypeId), Calls Tryz.prog 41 #[.slice (some ⟨W.heap.size, 0, none⟩) 2 2] (W.alloc (.cells #[.string ⟨acc.toArray⟩, .string ⟨N.toArray⟩] ty)) fun e w' => e = .returned (.string ⟨(acc ++ N).toArray⟩) ∧ W.alloc (.cells #[.string ⟨acc.toArray⟩, .string ⟨N.toArray⟩] ty) = w') := fun W ty => cj2_any acc N _ rfl W ty (by omega)
        go_wp2_with fail
        refine (HM.out _).mono ?_
        rintro e w5 ⟨rfl, hb⟩
        go_wp2_with fail
        refine (HJ2.out _ _).mono ?_
        rintro e w6 ⟨rfl, rfl⟩
        have hS6 := ((hSr.alloc (.cells #[.bool xv, .string ⟨xl.toArray⟩] 23)).trans hb).alloc (.cells #[.string ⟨acc.toArray⟩, .string ⟨N.toArray⟩] 9)
        go_wp2_with fail
        go_roundw
        case rel => exact ⟨k + 1, acc ++ N, by omega, by go_num, rfl, hlen, by first | exact hS6 | (refine Since.alloc ?_ _; exact (hSr.alloc _).trans hb), HN.out⟩
        case measure => simp [intOf]; omega
      · obtain rfl : k = m := by omega
        have hT2 : acc = T := by rw [hres.out, List.drop_eq_nil_of_le (by omega)]; simp
        subst hT2
        go_wp2_with fail
        go_ret2
        exact HP.out _ (hS3.trans hSr)
end Go.Proofs.YtkdeokgkjmboeaaGreatDoor
