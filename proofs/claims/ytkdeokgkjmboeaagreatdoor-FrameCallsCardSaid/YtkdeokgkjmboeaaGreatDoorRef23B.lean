/- Reference 23: the bytes of texts and atoms; Atom. -/
import Derived.Test.YtkdeokgkjmboeaaGreatDoorRef23
namespace Go.Proofs.YtkdeokgkjmboeaaGreatDoor
open Go.RowKit

theorem runcat {a b c : ByteArray} (h : a ++ b = c) (hl : a.size + b.size ≤ 1000000) (W : World) : (Op.stringOp .add a b).run Tryz.prog W = .ok (.string c) W := by
  subst h
  exact run_string_add W a b (by omega) (by omega)
theorem rtext_any (s : List UInt8) (w : World) (hs : s.length ≤ 10000) :
    Calls Tryz.prog 68 #[.string ⟨s.toArray⟩] w fun e w' => e = .returned (.string ⟨(textB s).toArray⟩) ∧ Since w w' := by
  have hw : IntKind.u32.wrap (s.length : Int) = (s.length : Int) := IntWalk.u32_in _ (by omega)
  have HN := Lib.hid (fun w => rnumber_any s.length w (by omega))
  obtain ⟨X, hX⟩ : ∃ X, Hid (X = numL s.length) := ⟨_, rfl⟩
  have hT : textB s = X ++ s := by rw [hX.out]; rfl
  have hc := cat_bytes X s
  have hXl : X.length ≤ 5 := by rw [hX.out]; exact num_len _
  rw [← hX.out] at HN
  rw [← hT] at hc
  generalize textB s = T at *
  clear hT hX
  go_enter Tryz.func68, Tryz.ntmps68
  go_wp2_with fail
  refine (HN.out _).mono ?_
  rintro e w1 ⟨rfl, hb⟩
  go_wp2_with fail
  go_ret
  exact ⟨rfl, hb⟩

set_option maxHeartbeats 1000000 in
set_option maxRecDepth 100000 in
theorem rbytes_any (a_s a_p : List UInt8) (a_n : Int) (a_v0 a_v1 a_v2 a_v3 : Bool) (a_l0 a_l1 a_l2 a_l3 : List UInt8) (w : World) (hL : lightB ((a_s, a_p, a_n, (a_v0, a_l0), (a_v1, a_l1), (a_v2, a_l2), (a_v3, a_l3)) : Atm) = true) (m : Nat) (hm4 : m ≤ 4) (hmn : a_n = (m : Int)) :
    Calls Tryz.prog 46 #[.agg #[.string ⟨a_s.toArray⟩, .string ⟨a_p.toArray⟩, .int .i64 a_n, .bool a_v0, .string ⟨a_l0.toArray⟩, .bool a_v1, .string ⟨a_l1.toArray⟩, .bool a_v2, .string ⟨a_l2.toArray⟩, .bool a_v3, .string ⟨a_l3.toArray⟩]] w fun e w' => e = .returned (.string ⟨(atomB ((a_s, a_p, a_n, (a_v0, a_l0), (a_v1, a_l1), (a_v2, a_l2), (a_v3, a_l3)) : Atm)).toArray⟩) ∧ Since w w' := by
  subst hmn
  have hS : Since w (w.alloc (.cells #[.string ⟨a_s.toArray⟩, .string ⟨a_p.toArray⟩, .int .i64 (m : Int), .bool a_v0, .string ⟨a_l0.toArray⟩, .bool a_v1, .string ⟨a_l1.toArray⟩, .bool a_v2, .string ⟨a_l2.toArray⟩, .bool a_v3, .string ⟨a_l3.toArray⟩] 26)) := (Since.refl _).alloc _
  have a_B : Box (w.alloc (.cells #[.string ⟨a_s.toArray⟩, .string ⟨a_p.toArray⟩, .int .i64 (m : Int), .bool a_v0, .string ⟨a_l0.toArray⟩, .bool a_v1, .string ⟨a_l1.toArray⟩, .bool a_v2, .string ⟨a_l2.toArray⟩, .bool a_v3, .string ⟨a_l3.toArray⟩] 26)) w.heap.size (a_s, a_p, (m : Int), (a_v0, a_l0), (a_v1, a_l1), (a_v2, a_l2), (a_v3, a_l3)) := box_new w (a_s, a_p, (m : Int), (a_v0, a_l0), (a_v1, a_l1), (a_v2, a_l2), (a_v3, a_l3)) _
  obtain ⟨a_c0, a_c1, a_c2, a_c3, a_c4, a_c5, a_c6, a_c7, a_c8, a_c9, a_c10⟩ := a_B.all
  have hw : IntKind.u32.wrap (m : Int) = (m : Int) := IntWalk.u32_in _ (by omega)
  have hlt := atomB_le hL
  have hl2 := hL
  simp only [lightB, Bool.and_eq_true, decide_eq_true_eq, List.all_eq_true] at hl2
  obtain ⟨⟨l1, l2⟩, l3⟩ := hl2
  have l1' : a_s.length ≤ 300 := by have : (a_s.length : Int) ≤ 300 := l1; omega
  have l2' : a_p.length ≤ 300 := by have : (a_p.length : Int) ≤ 300 := l2; omega
  have L3 := Lib.hid l3
  obtain ⟨T, hT⟩ : ∃ T, Hid (T = atomB (a_s, a_p, (m : Int), (a_v0, a_l0), (a_v1, a_l1), (a_v2, a_l2), (a_v3, a_l3))) := ⟨_, rfl⟩
  obtain ⟨X, hX⟩ : ∃ X, Hid (X = textB a_s) := ⟨_, rfl⟩
  obtain ⟨Y, hY⟩ : ∃ Y, Hid (Y = textB a_p) := ⟨_, rfl⟩
  obtain ⟨Z, hZ⟩ : ∃ Z, Hid (Z = numL m) := ⟨_, rfl⟩
  obtain ⟨A, hA⟩ : ∃ A, Hid (A = (argsL (a_s, a_p, (m : Int), (a_v0, a_l0), (a_v1, a_l1), (a_v2, a_l2), (a_v3, a_l3))).take m) := ⟨_, rfl⟩
  have hmc : m = countA (a_s, a_p, (m : Int), (a_v0, a_l0), (a_v1, a_l1), (a_v2, a_l2), (a_v3, a_l3)) := by
    show m = (min (max (m : Int) 0) 4).toNat
    omega
  have hAl : A.length = m := by rw [hA.out, List.length_take, argsL_len]; omega
  have hTH : T = ((X ++ Y) ++ Z) ++ A.flatMap nameB := by
    rw [hT.out, hX.out, hY.out, hZ.out, hA.out]
    conv => lhs; rw [atomB, ← hmc]
    show (textB a_s ++ (textB a_p ++ numL (m : Int).toNat)) ++ _ = _
    rw [Int.toNat_natCast]
    simp only [List.append_assoc]
  have HAT : Hid (∀ k, (h : k < A.length) → A[k].2.length ≤ 300) := by
    intro k h
    have hh := hA.out
    subst hh
    have := L3.out _ (List.mem_of_mem_take (List.getElem_mem h))
    omega
  have HAW : Hid (∀ W, Box W w.heap.size (a_s, a_p, (m : Int), (a_v0, a_l0), (a_v1, a_l1), (a_v2, a_l2), (a_v3, a_l3)) → ∀ k, (h : k < A.length) → W.cell? ⟨w.heap.size, 3 + k * 2, none⟩ = some (.bool A[k].1) ∧ W.cell? ⟨w.heap.size, 3 + k * 2 + 1, none⟩ = some (.string ⟨A[k].2.toArray⟩)) := by
    intro W hB k h
    have hh := hA.out
    subst hh
    rw [List.getElem_take]
    exact hB.args.2 k _
  rw [← hT.out] at hlt ⊢
  have hHl : ((X ++ Y) ++ Z).length ≤ 2000 := by
    have := congrArg List.length hTH
    rw [List.length_append] at this; omega
  have hHl2 : X.length + Y.length + Z.length ≤ 2000 := by rw [List.length_append, List.length_append] at hHl; omega
  have HX := Lib.hid (fun W => rtext_any a_s W (by omega))
  have HY := Lib.hid (fun W => rtext_any a_p W (by omega))
  have HZ := Lib.hid (fun W => rnumber_any m W (by omega))
  rw [← hX.out] at HX
  rw [← hY.out] at HY
  rw [← hZ.out] at HZ
  have HTH := Lib.hid hTH
  have hTl := hlt
  clear hTH hX hY hZ hA hT hL l1 l2 l3 hmc L3 hlt
  have k1 := fun W => runcat (cat_bytes X Y) (by show X.length + Y.length ≤ _; omega) W
  have k2 := fun W => runcat (cat_bytes (X ++ Y) Z) (by show (X ++ Y).length + Z.length ≤ _; rw [List.length_append]; omega) W
  go_enter Tryz.func46, Tryz.ntmps46
  go_wp2_with fail
  go_region_held3 (fun w' => ((w'.cell? ⟨w.heap.size, 0, none⟩ = some (.string ⟨a_s.toArray⟩) ∧ w'.cell? ⟨w.heap.size, 1, none⟩ = some (.string ⟨a_p.toArray⟩) ∧ w'.cell? ⟨w.heap.size, 2, none⟩ = some (.int .i64 (m : Int))) ∧ Box w' w.heap.size (a_s, a_p, (m : Int), (a_v0, a_l0), (a_v1, a_l1), (a_v2, a_l2), (a_v3, a_l3))) ∧ Since w w')
    ((go_split_ands; (refine ⟨⟨⟨?_, ?_, ?_⟩, ?_⟩, ?_⟩) <;> (first | assumption | (refine Since.drew ?_; assumption) | (refine Box.next ?_ (Since.drew (Since.refl _)); assumption) | (refine Since.cell hb ?_; assumption) | (refine Box.next ?_ hb; assumption) | (refine Since.trans ?_ hb; assumption))))
    (first
      | (go_at_call 68; first | ((with_reducible refine (HX.out _).mono ?_); rintro e w2 ⟨rfl, hb⟩) | ((with_reducible refine (HY.out _).mono ?_); rintro e w2 ⟨rfl, hb⟩))
      | (go_at_call 33; ((with_reducible refine (HZ.out _).mono ?_); rintro e w2 ⟨rfl, hb⟩)))
  go_wp2_with fail
  go_split_ands
  clear hS a_c0 a_c1 a_c2 a_c3 a_c4 a_c5 a_c6 a_c7 a_c8 a_c9 a_c10 k1 k2 HX HY HZ a_B hw
  have hS3 : Since w w2 := by assumption
  have a_B3 : Box w2 w.heap.size (a_s, a_p, (m : Int), (a_v0, a_l0), (a_v1, a_l1), (a_v2, a_l2), (a_v3, a_l3)) := by assumption
  have HROW := Lib.hid (HAW.out w2 a_B3)
  have z2 : w2.cell? ⟨w.heap.size, 2, none⟩ = some (.int .i64 (m : Int)) := by assumption
  have Z2 := Lib.hid z2
  clear HAW z2
  go_loopw [3, 4] (fun o i wr => ∃ (k : Nat) (acc : List UInt8), k ≤ m ∧ i = .int .i64 k ∧ o = .string ⟨acc.toArray⟩ ∧ acc.length ≤ 2000 ∧ Since w2 wr ∧ Hid (T = acc ++ (A.drop k).flatMap nameB)) (fun _ i _ => m - (intOf i).toNat)
  case atStart => exact ⟨0, X ++ (Y ++ Z), by omega, rfl, rfl, by rw [← List.append_assoc]; exact hHl, Since.refl _, by rw [← List.append_assoc]; exact HTH.out⟩
  case round =>
    obtain ⟨k, acc, hk, rfl, rfl, hacc, hSr, hres⟩ := hrel
    have z2 := hSr.cell Z2.out
    by_cases hlt2 : k < m
    · have hkA : k < A.length := by omega
      obtain ⟨d1, d2⟩ := HROW.out k hkA
      replace d1 := hSr.cell d1
      replace d2 := hSr.cell d2
      have hl3 := HAT.out k hkA
      have hk4 : (k : Int) < 4 := by omega
      have hres' : T = (acc ++ nameB A[k]) ++ (A.drop (k + 1)).flatMap nameB := by
        rw [hres.out, List.drop_eq_getElem_cons hkA, List.flatMap_cons, List.append_assoc]
      have hlen : (acc ++ nameB A[k]).length ≤ 2000 := by
        have h1 := congrArg List.length hres'
        have h2 := congrArg List.length HTH.out
        have h3 := hTl
        rw [List.length_append] at h1
        omega
      have HN := Lib.hid hres'
      clear hres hres'
      generalize A[k] = x at *
      obtain ⟨xv, xl⟩ := x
      have HM := Lib.hid (fun W => rtext_any xl W (by simp only at hl3; omega))
      obtain ⟨N, hN⟩ : ∃ N, Hid (N = textB xl) := ⟨_, rfl⟩
      rw [← hN.out] at HM
      cases xv
      · have e1 : nameB (false, xl) = [0] ++ N := by rw [hN.out]; rfl
        rw [e1] at HN hlen
        have HN2 : Hid (T = (acc ++ 0 :: N) ++ (A.drop (k + 1)).flatMap nameB) := HN.out
        have hl4 : (acc ++ 0 :: N).length ≤ 2000 := hlen
        have q1 := cat_bytes acc [0]
        have q2 := cat_bytes (acc ++ [0]) N
        have hl5 : acc.length + 1 + N.length ≤ 2000 := by rw [List.length_append, List.length_cons] at hl4; omega
        clear HN hlen hN e1
        go_wp2_with fail
        refine (HM.out _).mono ?_
        rintro e w5 ⟨rfl, hb⟩
        go_wp2_with fail
        go_roundw
        case rel => exact ⟨k + 1, acc ++ 0 :: N, by omega, by go_num, rfl, hl4, hSr.trans hb, HN2.out⟩
        case measure => simp [intOf]; omega
      · have e1 : nameB (true, xl) = [1] ++ N := by rw [hN.out]; rfl
        rw [e1] at HN hlen
        have HN2 : Hid (T = (acc ++ 1 :: N) ++ (A.drop (k + 1)).flatMap nameB) := HN.out
        have hl4 : (acc ++ 1 :: N).length ≤ 2000 := hlen
        have q1 := cat_bytes acc [1]
        have q2 := cat_bytes (acc ++ [1]) N
        have hl5 : acc.length + 1 + N.length ≤ 2000 := by rw [List.length_append, List.length_cons] at hl4; omega
        clear HN hlen hN e1
        go_wp2_with fail
        refine (HM.out _).mono ?_
        rintro e w5 ⟨rfl, hb⟩
        go_wp2_with fail
        go_roundw
        case rel => exact ⟨k + 1, acc ++ 1 :: N, by omega, by go_num, rfl, hl4, hSr.trans hb, HN2.out⟩
        case measure => simp [intOf]; omega
    · obtain rfl : k = m := by omega
      have hT2 : acc = T := by rw [hres.out, List.drop_eq_nil_of_le (by omega)]; simp
      subst hT2
      clear hres
      go_wp2_with fail
      go_ret
      exact ⟨rfl, hS3.trans hSr⟩

theorem ratom23_yes (a_s a_p : List UInt8) (a_n : Int) (a_v0 a_v1 a_v2 a_v3 : Bool) (a_l0 a_l1 a_l2 a_l3 : List UInt8) (w : World) (hF : FitsA ((a_s, a_p, a_n, (a_v0, a_l0), (a_v1, a_l1), (a_v2, a_l2), (a_v3, a_l3)) : Atm)) (hL : lightB ((a_s, a_p, a_n, (a_v0, a_l0), (a_v1, a_l1), (a_v2, a_l2), (a_v3, a_l3)) : Atm) = true) (h : checkA ((a_s, a_p, a_n, (a_v0, a_l0), (a_v1, a_l1), (a_v2, a_l2), (a_v3, a_l3)) : Atm) = 0) :
    Calls Tryz.prog 24 #[.agg #[.string ⟨a_s.toArray⟩, .string ⟨a_p.toArray⟩, .int .i64 a_n, .bool a_v0, .string ⟨a_l0.toArray⟩, .bool a_v1, .string ⟨a_l1.toArray⟩, .bool a_v2, .string ⟨a_l2.toArray⟩, .bool a_v3, .string ⟨a_l3.toArray⟩]] w fun e w' => e = .returned (.tuple #[.string ⟨(atomB ((a_s, a_p, a_n, (a_v0, a_l0), (a_v1, a_l1), (a_v2, a_l2), (a_v3, a_l3)) : Atm)).toArray⟩, .int .i64 0]) ∧ Since w w' := by
  have hS : Since w (w.alloc (.cells #[.string ⟨a_s.toArray⟩, .string ⟨a_p.toArray⟩, .int .i64 a_n, .bool a_v0, .string ⟨a_l0.toArray⟩, .bool a_v1, .string ⟨a_l1.toArray⟩, .bool a_v2, .string ⟨a_l2.toArray⟩, .bool a_v3, .string ⟨a_l3.toArray⟩] 26)) := (Since.refl _).alloc _
  have a_B : Box (w.alloc (.cells #[.string ⟨a_s.toArray⟩, .string ⟨a_p.toArray⟩, .int .i64 a_n, .bool a_v0, .string ⟨a_l0.toArray⟩, .bool a_v1, .string ⟨a_l1.toArray⟩, .bool a_v2, .string ⟨a_l2.toArray⟩, .bool a_v3, .string ⟨a_l3.toArray⟩] 26)) w.heap.size ((a_s, a_p, a_n, (a_v0, a_l0), (a_v1, a_l1), (a_v2, a_l2), (a_v3, a_l3)) : Atm) := box_new w ((a_s, a_p, a_n, (a_v0, a_l0), (a_v1, a_l1), (a_v2, a_l2), (a_v3, a_l3)) : Atm) _
  obtain ⟨a_c0, a_c1, a_c2, a_c3, a_c4, a_c5, a_c6, a_c7, a_c8, a_c9, a_c10⟩ := a_B.all
  have HC := Lib.hid (fun W => rcheck_any a_s a_p a_n a_v0 a_v1 a_v2 a_v3 a_l0 a_l1 a_l2 a_l3 W hF)
  rw [h] at HC
  obtain ⟨n0, n4, nc⟩ := checkA_range h
  have HB := Lib.hid (fun W => rbytes_any a_s a_p a_n a_v0 a_v1 a_v2 a_v3 a_l0 a_l1 a_l2 a_l3 W hL (countA ((a_s, a_p, a_n, (a_v0, a_l0), (a_v1, a_l1), (a_v2, a_l2), (a_v3, a_l3)) : Atm)) (countA_le _) nc.symm)
  generalize atomB ((a_s, a_p, a_n, (a_v0, a_l0), (a_v1, a_l1), (a_v2, a_l2), (a_v3, a_l3)) : Atm) = T at *
  clear hF hL h n0 n4 nc
  go_enter Tryz.func24, Tryz.ntmps24
  go_wp2_with fail
  refine (HC.out _).mono ?_
  rintro e w1 ⟨rfl, hb⟩
  replace a_B := a_B.next hb; replace a_c0 := hb.cell a_c0; replace a_c1 := hb.cell a_c1; replace a_c2 := hb.cell a_c2; replace a_c3 := hb.cell a_c3; replace a_c4 := hb.cell a_c4; replace a_c5 := hb.cell a_c5; replace a_c6 := hb.cell a_c6; replace a_c7 := hb.cell a_c7; replace a_c8 := hb.cell a_c8; replace a_c9 := hb.cell a_c9; replace a_c10 := hb.cell a_c10
  replace hS := hS.trans hb
  clear hb
  go_wp2_with fail
  refine (HB.out _).mono ?_
  rintro e w2 ⟨rfl, hb⟩
  go_wp2_with fail
  go_ret2
  exact ⟨rfl, hS.trans hb⟩
theorem ratom23_no (a_s a_p : List UInt8) (a_n : Int) (a_v0 a_v1 a_v2 a_v3 : Bool) (a_l0 a_l1 a_l2 a_l3 : List UInt8) (w : World) (hF : FitsA ((a_s, a_p, a_n, (a_v0, a_l0), (a_v1, a_l1), (a_v2, a_l2), (a_v3, a_l3)) : Atm)) (h : ¬ checkA ((a_s, a_p, a_n, (a_v0, a_l0), (a_v1, a_l1), (a_v2, a_l2), (a_v3, a_l3)) : Atm) = 0) :
    Calls Tryz.prog 24 #[.agg #[.string ⟨a_s.toArray⟩, .string ⟨a_p.toArray⟩, .int .i64 a_n, .bool a_v0, .string ⟨a_l0.toArray⟩, .bool a_v1, .string ⟨a_l1.toArray⟩, .bool a_v2, .string ⟨a_l2.toArray⟩, .bool a_v3, .string ⟨a_l3.toArray⟩]] w fun e w' => e = .returned (.tuple #[.string ⟨#[]⟩, .int .i64 2]) ∧ Since w w' := by
  have hS : Since w (w.alloc (.cells #[.string ⟨a_s.toArray⟩, .string ⟨a_p.toArray⟩, .int .i64 a_n, .bool a_v0, .string ⟨a_l0.toArray⟩, .bool a_v1, .string ⟨a_l1.toArray⟩, .bool a_v2, .string ⟨a_l2.toArray⟩, .bool a_v3, .string ⟨a_l3.toArray⟩] 26)) := (Since.refl _).alloc _
  have a_B : Box (w.alloc (.cells #[.string ⟨a_s.toArray⟩, .string ⟨a_p.toArray⟩, .int .i64 a_n, .bool a_v0, .string ⟨a_l0.toArray⟩, .bool a_v1, .string ⟨a_l1.toArray⟩, .bool a_v2, .string ⟨a_l2.toArray⟩, .bool a_v3, .string ⟨a_l3.toArray⟩] 26)) w.heap.size ((a_s, a_p, a_n, (a_v0, a_l0), (a_v1, a_l1), (a_v2, a_l2), (a_v3, a_l3)) : Atm) := box_new w ((a_s, a_p, a_n, (a_v0, a_l0), (a_v1, a_l1), (a_v2, a_l2), (a_v3, a_l3)) : Atm) _
  obtain ⟨a_c0, a_c1, a_c2, a_c3, a_c4, a_c5, a_c6, a_c7, a_c8, a_c9, a_c10⟩ := a_B.all
  have HC := Lib.hid (fun W => rcheck_any a_s a_p a_n a_v0 a_v1 a_v2 a_v3 a_l0 a_l1 a_l2 a_l3 W hF)
  have hz : (checkA ((a_s, a_p, a_n, (a_v0, a_l0), (a_v1, a_l1), (a_v2, a_l2), (a_v3, a_l3)) : Atm) != 0) = true := by simpa using h
  generalize checkA ((a_s, a_p, a_n, (a_v0, a_l0), (a_v1, a_l1), (a_v2, a_l2), (a_v3, a_l3)) : Atm) = kk at *
  clear hF h
  go_enter Tryz.func24, Tryz.ntmps24
  go_wp2_with fail
  refine (HC.out _).mono ?_
  rintro e w1 ⟨rfl, hb⟩
  clear a_c0 a_c1 a_c2 a_c3 a_c4 a_c5 a_c6 a_c7 a_c8 a_c9 a_c10
  go_wp2_with fail
  go_ret2
  exact ⟨rfl, hS.trans hb⟩
end Go.Proofs.YtkdeokgkjmboeaaGreatDoor
