/- The reference of layer 3: names, Vars, Consts, Said, Text: what they answer at every atom. -/
import Derived.Test.YtnfjjckbgnieeaaGreatDoorTermP
import Derived.Test.YtnfjjckbgnieeaaGreatDoorEq
import Derived.Deep.RegionHeld3
namespace Go.Proofs.YtnfjjckbgnieeaaGreatDoor
open Go.RowKit
attribute [local go_sem ↓] run_termEq'

theorem own_since {w w' : World} {base : Nat} {e : TypeId} {size : Nat} {v : Value} {n : Nat} {xs : List Value} (h : w.ownsRow base e size v n xs) (hs : Since w w') : w'.ownsRow base e size v n xs := by
  obtain ⟨hl, h | ⟨g, cap, cur, hv, hgb, hg, r⟩⟩ := h
  · exact ⟨hl, .inl h⟩
  · exact ⟨hl, .inr ⟨g, cap, cur, hv, hgb, (Below.block hs g ((Array.getElem?_eq_some_iff.1 hg).1)).trans hg, r⟩⟩
theorem any_eqT (L : List Tm) (t : Tm) : (L.any fun u => eqT u t) = L.contains t := by
  rw [Bool.eq_iff_iff, List.any_eq_true, List.contains_iff_mem]
  constructor
  · rintro ⟨u, hu, he⟩
    rw [eqT_iff] at he
    rw [← he]; exact hu
  · intro h; exact ⟨t, h, eqT_self t⟩

/-- Two texts joined. -/
theorem run_cat {a b c : ByteArray} (h : a ++ b = c) (hl : a.size + b.size ≤ 1000000) (W : World) : (Op.stringOp .add a b).run Tryz.prog W = .ok (.string c) W := by
  subst h
  exact run_string_add W a b (by omega) (by omega)
/-- An atom's text without who says it. -/
def saidA (a : Atm) : List UInt8 := a.2.1 ++ if countA a = 0 then [] else [40] ++ (Lib.join (namesOf a) [44, 32] ++ [41])
theorem said_text (a : Atm) : textA a = (a.1 ++ [32, 115, 97, 121, 115, 32]) ++ saidA a := by
  rw [textA, saidA, frontA]; simp
/-- What stands of it after k terms. -/
def saidK (p : List UInt8) (L : List Tm) (k : Nat) : List UInt8 := p ++ if k = 0 then [] else [40] ++ Lib.join ((L.take k).map (·.2)) [44, 32]
theorem saidK_0 (p : List UInt8) (L : List Tm) : saidK p L 0 = p := by rw [saidK, if_pos rfl, List.append_nil]
theorem saidK_1 {p : List UInt8} {L : List Tm} (h : 0 < L.length) : saidK p L 1 = (p ++ ([40] : List UInt8)) ++ L[0].2 := by
  rw [saidK, if_neg (by decide), List.take_succ_eq_append_getElem h, List.take_zero, List.nil_append, List.map_cons, List.map_nil, join_one]; simp
theorem saidK_succ {p : List UInt8} {L : List Tm} {k : Nat} (h : k < L.length) (h0 : k ≠ 0) : saidK p L (k + 1) = (saidK p L k ++ [44, 32]) ++ L[k].2 := by
  have hne : (L.take k).map (fun t : Tm => t.2) ≠ [] := by
    intro e
    have := congrArg List.length e
    rw [List.length_map, List.length_take, List.length_nil] at this
    omega
  rw [saidK, saidK, if_neg (by omega), if_neg h0, List.take_succ_eq_append_getElem h, List.map_append, List.map_cons, List.map_nil, join_snoc _ _ hne]
  simp

set_option maxHeartbeats 4000000 in
set_option maxRecDepth 100000 in
theorem rsaid_any (a_s a_p : List UInt8) (a_n : Int) (a_v0 a_v1 a_v2 a_v3 : Bool) (a_l0 a_l1 a_l2 a_l3 : List UInt8) (w : World) (hL : Light ((a_s, a_p, a_n, (a_v0, a_l0), (a_v1, a_l1), (a_v2, a_l2), (a_v3, a_l3)) : Atm)) :
    Calls Tryz.prog 20 #[.agg #[.string ⟨a_s.toArray⟩, .string ⟨a_p.toArray⟩, .int .i64 a_n, .bool a_v0, .string ⟨a_l0.toArray⟩, .bool a_v1, .string ⟨a_l1.toArray⟩, .bool a_v2, .string ⟨a_l2.toArray⟩, .bool a_v3, .string ⟨a_l3.toArray⟩]] w fun e w' => e = .returned (.string ⟨(saidA ((a_s, a_p, a_n, (a_v0, a_l0), (a_v1, a_l1), (a_v2, a_l2), (a_v3, a_l3)) : Atm)).toArray⟩) ∧ Since w w' := by
  have hS0 : Since w (w.alloc (.cells #[.string ⟨a_s.toArray⟩, .string ⟨a_p.toArray⟩, .int .i64 a_n, .bool a_v0, .string ⟨a_l0.toArray⟩, .bool a_v1, .string ⟨a_l1.toArray⟩, .bool a_v2, .string ⟨a_l2.toArray⟩, .bool a_v3, .string ⟨a_l3.toArray⟩] 44)) := (Since.refl _).alloc _
  have HW0 : Box (w.alloc (.cells #[.string ⟨a_s.toArray⟩, .string ⟨a_p.toArray⟩, .int .i64 a_n, .bool a_v0, .string ⟨a_l0.toArray⟩, .bool a_v1, .string ⟨a_l1.toArray⟩, .bool a_v2, .string ⟨a_l2.toArray⟩, .bool a_v3, .string ⟨a_l3.toArray⟩] 44)) w.heap.size ((a_s, a_p, a_n, (a_v0, a_l0), (a_v1, a_l1), (a_v2, a_l2), (a_v3, a_l3)) : Atm) := box_new w ((a_s, a_p, a_n, (a_v0, a_l0), (a_v1, a_l1), (a_v2, a_l2), (a_v3, a_l3)) : Atm) _
  obtain ⟨L, hLL⟩ : ∃ L, Hid (L = (argsL ((a_s, a_p, a_n, (a_v0, a_l0), (a_v1, a_l1), (a_v2, a_l2), (a_v3, a_l3)) : Atm)).take (countA ((a_s, a_p, a_n, (a_v0, a_l0), (a_v1, a_l1), (a_v2, a_l2), (a_v3, a_l3)) : Atm))) := ⟨_, rfl⟩
  obtain ⟨n, hn⟩ : ∃ n, Hid (n = countA ((a_s, a_p, a_n, (a_v0, a_l0), (a_v1, a_l1), (a_v2, a_l2), (a_v3, a_l3)) : Atm)) := ⟨_, rfl⟩
  have hLn : Hid (L.length = n) := by show _ = _; rw [hLL.out, List.length_take, argsL_len, ← hn.out]; have := countA_le ((a_s, a_p, a_n, (a_v0, a_l0), (a_v1, a_l1), (a_v2, a_l2), (a_v3, a_l3)) : Atm); rw [← hn.out] at this; omega
  have hn4 : n ≤ 4 := by rw [hn.out]; exact countA_le _
  have f2 : a_p.length ≤ 300 := hL.2.1
  have hL3 : Hid (∀ t ∈ L, t.2.length ≤ 300) := by intro t ht; rw [hLL.out] at ht; exact hL.2.2 t (List.mem_of_mem_take ht)
  have HC := Lib.hid (fun w => rcount_any a_s a_p a_n a_v0 a_v1 a_v2 a_v3 a_l0 a_l1 a_l2 a_l3 w)
  rw [← hn.out] at HC
  obtain ⟨R, hR⟩ : ∃ R, Hid (R = saidA ((a_s, a_p, a_n, (a_v0, a_l0), (a_v1, a_l1), (a_v2, a_l2), (a_v3, a_l3)) : Atm)) := ⟨_, rfl⟩
  have hRK : Hid (R = saidK a_p L n ++ if n = 0 then [] else [41]) := by
    show _ = _
    rw [hR.out, saidA, saidK, ← hn.out, List.take_of_length_le (by rw [hLn.out]; omega), hLL.out]
    by_cases h : n = 0
    · rw [if_pos h, if_pos h, if_pos h]; simp
    · rw [if_neg h, if_neg h, if_neg h]; simp [namesOf]
  rw [← hR.out]
  have HCE : Hid (∀ k, (h : k < L.length) → (w.alloc (.cells #[.string ⟨a_s.toArray⟩, .string ⟨a_p.toArray⟩, .int .i64 a_n, .bool a_v0, .string ⟨a_l0.toArray⟩, .bool a_v1, .string ⟨a_l1.toArray⟩, .bool a_v2, .string ⟨a_l2.toArray⟩, .bool a_v3, .string ⟨a_l3.toArray⟩] 44)).cell? ⟨w.heap.size, 3 + k * 2, none⟩ = some (.bool L[k].1) ∧ (w.alloc (.cells #[.string ⟨a_s.toArray⟩, .string ⟨a_p.toArray⟩, .int .i64 a_n, .bool a_v0, .string ⟨a_l0.toArray⟩, .bool a_v1, .string ⟨a_l1.toArray⟩, .bool a_v2, .string ⟨a_l2.toArray⟩, .bool a_v3, .string ⟨a_l3.toArray⟩] 44)).cell? ⟨w.heap.size, 3 + k * 2 + 1, none⟩ = some (.string ⟨L[k].2.toArray⟩)) := by
    intro k h
    have hk : k < (argsL ((a_s, a_p, a_n, (a_v0, a_l0), (a_v1, a_l1), (a_v2, a_l2), (a_v3, a_l3)) : Atm)).length := by
      have h1 := hLn.out
      show k < 4
      omega
    have h5 := HW0.args.2 k hk
    have e : L[k] = (argsL ((a_s, a_p, a_n, (a_v0, a_l0), (a_v1, a_l1), (a_v2, a_l2), (a_v3, a_l3)) : Atm))[k] := by
      have h6 := hLL.out
      subst h6
      rw [List.getElem_take]
    exact ⟨h5.1.trans (by rw [e]), h5.2.trans (by rw [e])⟩
  clear hL
  go_enter Tryz.func20, Tryz.ntmps20
  go_wp2_with fail
  obtain ⟨W, hWW⟩ : ∃ W : World, Hid (W = w.alloc (.cells #[.string ⟨a_s.toArray⟩, .string ⟨a_p.toArray⟩, .int .i64 a_n, .bool a_v0, .string ⟨a_l0.toArray⟩, .bool a_v1, .string ⟨a_l1.toArray⟩, .bool a_v2, .string ⟨a_l2.toArray⟩, .bool a_v3, .string ⟨a_l3.toArray⟩] 44)) := ⟨_, rfl⟩
  rw [← hWW.out] at HW0 hS0 HCE ⊢
  go_loopw [3, 4] (fun s i wr => ∃ (k : Nat) (X : List UInt8), k ≤ n ∧ i = .int .i64 k ∧ s = .string ⟨X.toArray⟩ ∧ Hid (X = saidK a_p L k) ∧ X.length ≤ 300 + k * 310 ∧ Since W wr) (fun _ i _ => n - (intOf i).toNat)
  case atStart => exact ⟨0, a_p, by omega, rfl, rfl, (saidK_0 _ _).symm, by omega, Since.refl _⟩
  case round =>
    obtain ⟨k, X, hk, rfl, rfl, hX, hXl, hSr⟩ := hrel
    obtain ⟨b0, b1, b2, b3, b4, b5, b6, b7, b8, b9, b10⟩ := (HW0.next hSr).all
    go_wp2_with fail
    refine (HC.out _).mono ?_
    rintro e w4 ⟨rfl, hb4⟩
    clear b0 b1 b2 b3 b4 b5 b6 b7 b8 b9 b10
    have hS4 := hSr.trans hb4
    clear hb4 hSr
    by_cases hlt : k < n
    · have hkL : k < L.length := by rw [hLn.out]; exact hlt
      obtain ⟨d3, d4⟩ := HCE.out k hkL
      replace d3 := hS4.cell d3
      replace d4 := hS4.cell d4
      have hl3 := hL3.out _ (List.getElem_mem hkL)
      have hk4 : (k : Int) < 4 := by omega
      have e1 : k = 0 → saidK a_p L (k + 1) = (a_p ++ [40]) ++ L[k].2 := by rintro rfl; exact saidK_1 hkL
      have e2 : k ≠ 0 → saidK a_p L (k + 1) = (X ++ [44, 32]) ++ L[k].2 := by intro h; rw [hX.out]; exact saidK_succ hkL h
      have E1 := Lib.hid e1
      have E2 := Lib.hid e2
      clear e1 e2
      generalize L[k] = t at *
      obtain ⟨tv, tl⟩ := t
      have hl3' : tl.length ≤ 300 := hl3
      by_cases h0 : k = 0
      · have hX0 : X = a_p := by rw [hX.out, h0, saidK_0]
        obtain ⟨Y, hY⟩ : ∃ Y, Hid (Y = X ++ [40]) := ⟨X ++ [40], rfl⟩
        obtain ⟨Z, hZ⟩ : ∃ Z, Hid (Z = Y ++ tl) := ⟨_, rfl⟩
        have hZ2 : Hid (Z = saidK a_p L (k + 1)) := by show _ = _; rw [E1.out h0, hZ.out, hY.out, hX0]
        have c1 : ByteArray.mk X.toArray ++ ByteArray.mk #[40] = ByteArray.mk Y.toArray := by rw [hY.out]; exact cat_bytes X [40]
        have c2 : ByteArray.mk Y.toArray ++ ByteArray.mk tl.toArray = ByteArray.mk Z.toArray := by rw [hZ.out]; exact cat_bytes Y tl
        have l1 : Y.length = X.length + 1 := by rw [hY.out]; simp
        have l2 : Z.length ≤ 300 + (k + 1) * 310 := by rw [hZ.out]; simp; omega
        have l1' : Y.length ≤ 2000 := by omega
        have hk0 : ((k : Int) == 0) = true := by rw [beq_iff_eq]; omega
        clear l1 hX0 E1 E2 h0
        go_wp2_with fail
        go_roundw
        case rel => exact ⟨k + 1, Z, by omega, by go_num, rfl, hZ2, l2, hS4⟩
        case measure => simp [intOf]; omega
      · obtain ⟨Y, hY⟩ : ∃ Y, Hid (Y = X ++ [44, 32]) := ⟨X ++ [44, 32], rfl⟩
        obtain ⟨Z, hZ⟩ : ∃ Z, Hid (Z = Y ++ tl) := ⟨_, rfl⟩
        have hZ2 : Hid (Z = saidK a_p L (k + 1)) := by show _ = _; rw [E2.out h0, hZ.out, hY.out]
        have c1 : ByteArray.mk X.toArray ++ ByteArray.mk #[44, 32] = ByteArray.mk Y.toArray := by rw [hY.out]; exact cat_bytes X [44, 32]
        have c2 : ByteArray.mk Y.toArray ++ ByteArray.mk tl.toArray = ByteArray.mk Z.toArray := by rw [hZ.out]; exact cat_bytes Y tl
        have l1 : Y.length = X.length + 2 := by rw [hY.out]; simp
        have l2 : Z.length ≤ 300 + (k + 1) * 310 := by rw [hZ.out]; simp; omega
        have l1' : Y.length ≤ 2000 := by omega
        have hk0 : ((k : Int) == 0) = false := by rw [beq_eq_false_iff_ne]; omega
        clear l1 E1 E2 h0
        go_wp2_with fail
        go_roundw
        case rel => exact ⟨k + 1, Z, by omega, by go_num, rfl, hZ2, l2, hS4⟩
        case measure => simp [intOf]; omega
    · obtain rfl : k = n := by omega
      have HW4 := HW0.next hS4
      obtain ⟨b0, b1, b2, b3, b4, b5, b6, b7, b8, b9, b10⟩ := HW4.all
      go_wp2_with fail
      refine (HC.out _).mono ?_
      rintro e w5 ⟨rfl, hb5⟩
      clear b0 b1 b2 b3 b4 b5 b6 b7 b8 b9 b10 hlt
      have hS5 := (hS0.trans hS4).trans hb5
      by_cases h0 : 0 < k
      · have c1 : ByteArray.mk X.toArray ++ ByteArray.mk #[41] = ByteArray.mk R.toArray := by
          rw [hRK.out, if_neg (by omega), ← hX.out]; exact cat_bytes X [41]
        have hk0 : decide ((0 : Int) < (k : Int)) = true := decide_eq_true (by omega)
        go_wp2_with fail
        go_ret
        exact ⟨rfl, hS5⟩
      · have c1 : R = X := by rw [hRK.out, if_pos (by omega), ← hX.out, List.append_nil]
        have hk0 : decide ((0 : Int) < (k : Int)) = false := decide_eq_false (by omega)
        subst c1
        go_wp2_with fail
        go_ret
        exact ⟨rfl, hS5⟩

set_option maxHeartbeats 1000000 in
set_option maxRecDepth 100000 in
theorem rtext_any (a_s a_p : List UInt8) (a_n : Int) (a_v0 a_v1 a_v2 a_v3 : Bool) (a_l0 a_l1 a_l2 a_l3 : List UInt8) (w : World) (hL : Light ((a_s, a_p, a_n, (a_v0, a_l0), (a_v1, a_l1), (a_v2, a_l2), (a_v3, a_l3)) : Atm)) :
    Calls Tryz.prog 19 #[.agg #[.string ⟨a_s.toArray⟩, .string ⟨a_p.toArray⟩, .int .i64 a_n, .bool a_v0, .string ⟨a_l0.toArray⟩, .bool a_v1, .string ⟨a_l1.toArray⟩, .bool a_v2, .string ⟨a_l2.toArray⟩, .bool a_v3, .string ⟨a_l3.toArray⟩]] w fun e w' => e = .returned (.string ⟨(textA ((a_s, a_p, a_n, (a_v0, a_l0), (a_v1, a_l1), (a_v2, a_l2), (a_v3, a_l3)) : Atm)).toArray⟩) ∧ Since w w' := by
  have hS0 : Since w (w.alloc (.cells #[.string ⟨a_s.toArray⟩, .string ⟨a_p.toArray⟩, .int .i64 a_n, .bool a_v0, .string ⟨a_l0.toArray⟩, .bool a_v1, .string ⟨a_l1.toArray⟩, .bool a_v2, .string ⟨a_l2.toArray⟩, .bool a_v3, .string ⟨a_l3.toArray⟩] 44)) := (Since.refl _).alloc _
  have HW0 : Box (w.alloc (.cells #[.string ⟨a_s.toArray⟩, .string ⟨a_p.toArray⟩, .int .i64 a_n, .bool a_v0, .string ⟨a_l0.toArray⟩, .bool a_v1, .string ⟨a_l1.toArray⟩, .bool a_v2, .string ⟨a_l2.toArray⟩, .bool a_v3, .string ⟨a_l3.toArray⟩] 44)) w.heap.size ((a_s, a_p, a_n, (a_v0, a_l0), (a_v1, a_l1), (a_v2, a_l2), (a_v3, a_l3)) : Atm) := box_new w ((a_s, a_p, a_n, (a_v0, a_l0), (a_v1, a_l1), (a_v2, a_l2), (a_v3, a_l3)) : Atm) _
  obtain ⟨a_c0, a_c1, a_c2, a_c3, a_c4, a_c5, a_c6, a_c7, a_c8, a_c9, a_c10⟩ := HW0.all
  obtain ⟨Y, hY⟩ : ∃ Y, Hid (Y = saidA ((a_s, a_p, a_n, (a_v0, a_l0), (a_v1, a_l1), (a_v2, a_l2), (a_v3, a_l3)) : Atm)) := ⟨_, rfl⟩
  obtain ⟨X, hX⟩ : ∃ X, Hid (X = a_s ++ [32, 115, 97, 121, 115, 32]) := ⟨a_s ++ [32, 115, 97, 121, 115, 32], rfl⟩
  obtain ⟨R, hR⟩ : ∃ R, Hid (R = textA ((a_s, a_p, a_n, (a_v0, a_l0), (a_v1, a_l1), (a_v2, a_l2), (a_v3, a_l3)) : Atm)) := ⟨_, rfl⟩
  have c1 : ByteArray.mk a_s.toArray ++ ByteArray.mk #[32, 115, 97, 121, 115, 32] = ByteArray.mk X.toArray := by rw [hX.out]; exact cat_bytes a_s [32, 115, 97, 121, 115, 32]
  have c2 : ByteArray.mk X.toArray ++ ByteArray.mk Y.toArray = ByteArray.mk R.toArray := by rw [cat_bytes, hX.out, hY.out, hR.out, said_text]
  have f1 : a_s.length ≤ 300 := hL.1
  have l1 : X.length ≤ 400 := by rw [hX.out]; simp; omega
  have l2 : Y.length ≤ 3000 := by
    have h1 := text_len hL trivial
    rw [said_text, List.length_append] at h1
    rw [hY.out]; omega
  have HSD : Hid (∀ W, Calls Tryz.prog 20 #[.agg #[.string ⟨a_s.toArray⟩, .string ⟨a_p.toArray⟩, .int .i64 a_n, .bool a_v0, .string ⟨a_l0.toArray⟩, .bool a_v1, .string ⟨a_l1.toArray⟩, .bool a_v2, .string ⟨a_l2.toArray⟩, .bool a_v3, .string ⟨a_l3.toArray⟩]] W fun e w' => e = .returned (.string ⟨Y.toArray⟩) ∧ Since W w') := by
    intro W; rw [hY.out]; exact rsaid_any a_s a_p a_n a_v0 a_v1 a_v2 a_v3 a_l0 a_l1 a_l2 a_l3 W hL
  rw [← hR.out]
  have ha1 := fun W => run_cat c1 (by show a_s.length + 6 ≤ 1000000; omega) W
  have ha2 := fun W => run_cat c2 (by show X.length + Y.length ≤ 1000000; omega) W
  clear hL HW0 c1 c2
  go_enter Tryz.func19, Tryz.ntmps19
  go_wp2_with fail
  obtain ⟨W, hWW⟩ : ∃ W : World, Hid (W = w.alloc (.cells #[.string ⟨a_s.toArray⟩, .string ⟨a_p.toArray⟩, .int .i64 a_n, .bool a_v0, .string ⟨a_l0.toArray⟩, .bool a_v1, .string ⟨a_l1.toArray⟩, .bool a_v2, .string ⟨a_l2.toArray⟩, .bool a_v3, .string ⟨a_l3.toArray⟩] 44)) := ⟨_, rfl⟩
  rw [← hWW.out] at a_c0 a_c1 a_c2 a_c3 a_c4 a_c5 a_c6 a_c7 a_c8 a_c9 a_c10 hS0 ⊢
  go_region_held3 (fun w' => w'.cell? ⟨w.heap.size, 0, none⟩ = some (.string ⟨a_s.toArray⟩) ∧ w'.cell? ⟨w.heap.size, 1, none⟩ = some (.string ⟨a_p.toArray⟩) ∧ w'.cell? ⟨w.heap.size, 2, none⟩ = some (.int .i64 a_n) ∧ w'.cell? ⟨w.heap.size, 3, none⟩ = some (.bool a_v0) ∧ w'.cell? ⟨w.heap.size, 4, none⟩ = some (.string ⟨a_l0.toArray⟩) ∧ w'.cell? ⟨w.heap.size, 5, none⟩ = some (.bool a_v1) ∧ w'.cell? ⟨w.heap.size, 6, none⟩ = some (.string ⟨a_l1.toArray⟩) ∧ w'.cell? ⟨w.heap.size, 7, none⟩ = some (.bool a_v2) ∧ w'.cell? ⟨w.heap.size, 8, none⟩ = some (.string ⟨a_l2.toArray⟩) ∧ w'.cell? ⟨w.heap.size, 9, none⟩ = some (.bool a_v3) ∧ w'.cell? ⟨w.heap.size, 10, none⟩ = some (.string ⟨a_l3.toArray⟩)) (first | (refine ⟨?_, ?_, ?_, ?_, ?_, ?_, ?_, ?_, ?_, ?_, ?_⟩ <;> assumption) | (go_split_ands; refine ⟨?_, ?_, ?_, ?_, ?_, ?_, ?_, ?_, ?_, ?_, ?_⟩ <;> (refine Since.cell hb ?_; assumption)))
    (first | (go_at_call 20; ((with_reducible refine (HSD.out _).mono ?_); rintro e w2 ⟨rfl, hb⟩)))
  go_wp2_with fail
  go_ret
  exact ⟨rfl, hS0.drew.trans hb⟩
end Go.Proofs.YtnfjjckbgnieeaaGreatDoor
