/- Reference 3's Said and Text, beside package frame's texts. Reference 8: Compare, Is. The reference's mayResponse. -/
import Derived.Test.YtkdeokgkjmboeaaGreatDoorTermT2
import Derived.Test.YtkdeokgkjmboeaaGreatDoorEq
import Derived.Deep.RegionHeld3
import Derived.Test.YtkdeokgkjmboeaaGreatDoorFrE
import Derived.Test.YtkdeokgkjmboeaaGreatDoorR24A
import Derived.Test.YtkdeokgkjmboeaaGreatDoorRefFact
namespace Go.Proofs.YtkdeokgkjmboeaaGreatDoor
open Go.RowKit
attribute [local go_sem ↓] run_termEq'

def termsA (a : Atm) : List Tm := (argsL a).take (countA a)
theorem termsA_len (a : Atm) : (termsA a).length = countA a := by
  rw [termsA, List.length_take, argsL_len]
  have := countA_le a
  omega
theorem join_two (x y : List UInt8) (r : List (List UInt8)) : Lib.join (x :: y :: r) [44, 32] = x ++ 44 :: 32 :: Lib.join (y :: r) [44, 32] := by
  simp [Lib.join, List.intercalate]
theorem join_one (x : List UInt8) : Lib.join [x] [44, 32] = x := by simp [Lib.join, List.intercalate]
theorem join_snoc (xs : List (List UInt8)) (x : List UInt8) (h : xs ≠ []) : Lib.join (xs ++ [x]) [44, 32] = Lib.join xs [44, 32] ++ 44 :: 32 :: x := by
  match xs, h with
  | [a], _ => rw [join_one]; exact (join_two a x []).trans (by rw [join_one])
  | a :: b :: r, _ =>
    rw [show (a :: b :: r) ++ [x] = a :: b :: (r ++ [x]) from rfl, join_two, join_two]
    have := join_snoc (b :: r) x (by simp)
    rw [show (b :: r) ++ [x] = b :: (r ++ [x]) from rfl] at this
    rw [this]; simp

theorem text_len {a : Atm} (h : Light a) (_h : True) : (textA a).length ≤ 3000 := by
  obtain ⟨h1, h2, h3⟩ := h
  have hj := join_len [44, 32] (namesOf a) 300 (by
    intro x hx
    obtain ⟨t, ht, rfl⟩ := List.mem_map.1 hx
    exact h3 t (List.mem_of_mem_take ht))
  have hl : (namesOf a).length ≤ 4 := by
    have := termsA_len a
    rw [namesOf, List.length_map]
    rw [termsA] at this
    rw [this]; exact countA_le a
  have h5 : (namesOf a).length * (300 + [(44 : UInt8), 32].length) ≤ 4 * 302 := Nat.mul_le_mul hl (by decide)
  rw [textA, frontA]
  split <;> simp <;> omega
/-- Two texts joined. -/
theorem run_cat3 {a b c : ByteArray} (h : a ++ b = c) (hl : a.size + b.size ≤ 1000000) (W : World) : (Op.stringOp .add a b).run Tryz.prog W = .ok (.string c) W := by
  subst h
  exact run_string_add W a b (by omega) (by omega)
/-- An atom's text without who says it. -/
def saidA (a : Atm) : List UInt8 := a.2.1 ++ if countA a = 0 then [] else [40] ++ (Lib.join (namesOf a) [44, 32] ++ [41])
theorem said_text (a : Atm) : textA a = (a.1 ++ [32, 115, 97, 121, 115, 32]) ++ saidA a := by
  rw [textA, saidA, frontA]; simp
/-- What stands of it after k terms. -/
def saidK (p : List UInt8) (L : List Tm) (k : Nat) : List UInt8 := p ++ if k = 0 then [] else [40] ++ Lib.join ((L.take k).map (·.2)) [44, 32]
theorem saidK_0 (p : List UInt8) (L : List Tm) : saidK p L 0 = p := by rw [saidK, if_pos rfl, List.append_nil]
theorem saidK_1 {p : List UInt8} {L : List Tm} (h : 0 < L.length) : saidK p L 1 = (p ++ ([40] : List UInt8)) ++ L[0].2 := by
  rw [saidK, if_neg (by decide), List.take_succ_eq_append_getElem h, List.take_zero, List.nil_append, List.map_cons, List.map_nil, join_one]; simp
theorem saidK_succ {p : List UInt8} {L : List Tm} {k : Nat} (h : k < L.length) (h0 : k ≠ 0) : saidK p L (k + 1) = (saidK p L k ++ [44, 32]) ++ L[k].2 := by
  have hne : (L.take k).map (fun t : Tm => t.2) ≠ [] := by
    intro e
    have := congrArg List.length e
    rw [List.length_map, List.length_take, List.length_nil] at this
    omega
  rw [saidK, saidK, if_neg (by omega), if_neg h0, List.take_succ_eq_append_getElem h, List.map_append, List.map_cons, List.map_nil, join_snoc _ _ hne]
  simp

set_option maxHeartbeats 4000000 in
set_option maxRecDepth 100000 in
theorem rsaid_any (a_s a_p : List UInt8) (a_n : Int) (a_v0 a_v1 a_v2 a_v3 : Bool) (a_l0 a_l1 a_l2 a_l3 : List UInt8) (w : World) (hL : Light ((a_s, a_p, a_n, (a_v0, a_l0), (a_v1, a_l1), (a_v2, a_l2), (a_v3, a_l3)) : Atm)) :
    Calls Tryz.prog 107 #[.agg #[.string ⟨a_s.toArray⟩, .string ⟨a_p.toArray⟩, .int .i64 a_n, .bool a_v0, .string ⟨a_l0.toArray⟩, .bool a_v1, .string ⟨a_l1.toArray⟩, .bool a_v2, .string ⟨a_l2.toArray⟩, .bool a_v3, .string ⟨a_l3.toArray⟩]] w fun e w' => e = .returned (.string ⟨(saidA ((a_s, a_p, a_n, (a_v0, a_l0), (a_v1, a_l1), (a_v2, a_l2), (a_v3, a_l3)) : Atm)).toArray⟩) ∧ Since w w' := by
  have hS0 : Since w (w.alloc (.cells #[.string ⟨a_s.toArray⟩, .string ⟨a_p.toArray⟩, .int .i64 a_n, .bool a_v0, .string ⟨a_l0.toArray⟩, .bool a_v1, .string ⟨a_l1.toArray⟩, .bool a_v2, .string ⟨a_l2.toArray⟩, .bool a_v3, .string ⟨a_l3.toArray⟩] 26)) := (Since.refl _).alloc _
  have HW0 : Box (w.alloc (.cells #[.string ⟨a_s.toArray⟩, .string ⟨a_p.toArray⟩, .int .i64 a_n, .bool a_v0, .string ⟨a_l0.toArray⟩, .bool a_v1, .string ⟨a_l1.toArray⟩, .bool a_v2, .string ⟨a_l2.toArray⟩, .bool a_v3, .string ⟨a_l3.toArray⟩] 26)) w.heap.size ((a_s, a_p, a_n, (a_v0, a_l0), (a_v1, a_l1), (a_v2, a_l2), (a_v3, a_l3)) : Atm) := box_new w ((a_s, a_p, a_n, (a_v0, a_l0), (a_v1, a_l1), (a_v2, a_l2), (a_v3, a_l3)) : Atm) _
  obtain ⟨L, hLL⟩ : ∃ L, Hid (L = (argsL ((a_s, a_p, a_n, (a_v0, a_l0), (a_v1, a_l1), (a_v2, a_l2), (a_v3, a_l3)) : Atm)).take (countA ((a_s, a_p, a_n, (a_v0, a_l0), (a_v1, a_l1), (a_v2, a_l2), (a_v3, a_l3)) : Atm))) := ⟨_, rfl⟩
  obtain ⟨n, hn⟩ : ∃ n, Hid (n = countA ((a_s, a_p, a_n, (a_v0, a_l0), (a_v1, a_l1), (a_v2, a_l2), (a_v3, a_l3)) : Atm)) := ⟨_, rfl⟩
  have hLn : Hid (L.length = n) := by show _ = _; rw [hLL.out, List.length_take, argsL_len, ← hn.out]; have := countA_le ((a_s, a_p, a_n, (a_v0, a_l0), (a_v1, a_l1), (a_v2, a_l2), (a_v3, a_l3)) : Atm); rw [← hn.out] at this; omega
  have hn4 : n ≤ 4 := by rw [hn.out]; exact countA_le _
  have f2 : a_p.length ≤ 300 := hL.2.1
  have hL3 : Hid (∀ t ∈ L, t.2.length ≤ 300) := by intro t ht; rw [hLL.out] at ht; exact hL.2.2 t (List.mem_of_mem_take ht)
  have HC := Lib.hid (fun w => rcount_any a_s a_p a_n a_v0 a_v1 a_v2 a_v3 a_l0 a_l1 a_l2 a_l3 w)
  rw [← hn.out] at HC
  obtain ⟨R, hR⟩ : ∃ R, Hid (R = saidA ((a_s, a_p, a_n, (a_v0, a_l0), (a_v1, a_l1), (a_v2, a_l2), (a_v3, a_l3)) : Atm)) := ⟨_, rfl⟩
  have hRK : Hid (R = saidK a_p L n ++ if n = 0 then [] else [41]) := by
    show _ = _
    rw [hR.out, saidA, saidK, ← hn.out, List.take_of_length_le (by rw [hLn.out]; omega), hLL.out]
    by_cases h : n = 0
    · rw [if_pos h, if_pos h, if_pos h]; simp
    · rw [if_neg h, if_neg h, if_neg h]; simp [namesOf]
  rw [← hR.out]
  have HCE : Hid (∀ k, (h : k < L.length) → (w.alloc (.cells #[.string ⟨a_s.toArray⟩, .string ⟨a_p.toArray⟩, .int .i64 a_n, .bool a_v0, .string ⟨a_l0.toArray⟩, .bool a_v1, .string ⟨a_l1.toArray⟩, .bool a_v2, .string ⟨a_l2.toArray⟩, .bool a_v3, .string ⟨a_l3.toArray⟩] 26)).cell? ⟨w.heap.size, 3 + k * 2, none⟩ = some (.bool L[k].1) ∧ (w.alloc (.cells #[.string ⟨a_s.toArray⟩, .string ⟨a_p.toArray⟩, .int .i64 a_n, .bool a_v0, .string ⟨a_l0.toArray⟩, .bool a_v1, .string ⟨a_l1.toArray⟩, .bool a_v2, .string ⟨a_l2.toArray⟩, .bool a_v3, .string ⟨a_l3.toArray⟩] 26)).cell? ⟨w.heap.size, 3 + k * 2 + 1, none⟩ = some (.string ⟨L[k].2.toArray⟩)) := by
    intro k h
    have hk : k < (argsL ((a_s, a_p, a_n, (a_v0, a_l0), (a_v1, a_l1), (a_v2, a_l2), (a_v3, a_l3)) : Atm)).length := by
      have h1 := hLn.out
      show k < 4
      omega
    have h5 := HW0.args.2 k hk
    have e : L[k] = (argsL ((a_s, a_p, a_n, (a_v0, a_l0), (a_v1, a_l1), (a_v2, a_l2), (a_v3, a_l3)) : Atm))[k] := by
      have h6 := hLL.out
      subst h6
      rw [List.getElem_take]
    exact ⟨h5.1.trans (by rw [e]), h5.2.trans (by rw [e])⟩
  clear hL
  go_enter Tryz.func107, Tryz.ntmps107
  go_wp2_with fail
  obtain ⟨W, hWW⟩ : ∃ W : World, Hid (W = w.alloc (.cells #[.string ⟨a_s.toArray⟩, .string ⟨a_p.toArray⟩, .int .i64 a_n, .bool a_v0, .string ⟨a_l0.toArray⟩, .bool a_v1, .string ⟨a_l1.toArray⟩, .bool a_v2, .string ⟨a_l2.toArray⟩, .bool a_v3, .string ⟨a_l3.toArray⟩] 26)) := ⟨_, rfl⟩
  rw [← hWW.out] at HW0 hS0 HCE ⊢
  go_loopw [3, 4] (fun s i wr => ∃ (k : Nat) (X : List UInt8), k ≤ n ∧ i = .int .i64 k ∧ s = .string ⟨X.toArray⟩ ∧ Hid (X = saidK a_p L k) ∧ X.length ≤ 300 + k * 310 ∧ Since W wr) (fun _ i _ => n - (intOf i).toNat)
  case atStart => exact ⟨0, a_p, by omega, rfl, rfl, (saidK_0 _ _).symm, by omega, Since.refl _⟩
  case round =>
    obtain ⟨k, X, hk, rfl, rfl, hX, hXl, hSr⟩ := hrel
    obtain ⟨b0, b1, b2, b3, b4, b5, b6, b7, b8, b9, b10⟩ := (HW0.next hSr).all
    go_wp2_with fail
    refine (HC.out _).mono ?_
    rintro e w4 ⟨rfl, hb4⟩
    clear b0 b1 b2 b3 b4 b5 b6 b7 b8 b9 b10
    have hS4 := hSr.trans hb4
    clear hb4 hSr
    by_cases hlt : k < n
    · have hkL : k < L.length := by rw [hLn.out]; exact hlt
      obtain ⟨d3, d4⟩ := HCE.out k hkL
      replace d3 := hS4.cell d3
      replace d4 := hS4.cell d4
      have hl3 := hL3.out _ (List.getElem_mem hkL)
      have hk4 : (k : Int) < 4 := by omega
      have e1 : k = 0 → saidK a_p L (k + 1) = (a_p ++ [40]) ++ L[k].2 := by rintro rfl; exact saidK_1 hkL
      have e2 : k ≠ 0 → saidK a_p L (k + 1) = (X ++ [44, 32]) ++ L[k].2 := by intro h; rw [hX.out]; exact saidK_succ hkL h
      have E1 := Lib.hid e1
      have E2 := Lib.hid e2
      clear e1 e2
      generalize L[k] = t at *
      obtain ⟨tv, tl⟩ := t
      have hl3' : tl.length ≤ 300 := hl3
      by_cases h0 : k = 0
      · have hX0 : X = a_p := by rw [hX.out, h0, saidK_0]
        obtain ⟨Y, hY⟩ : ∃ Y, Hid (Y = X ++ [40]) := ⟨X ++ [40], rfl⟩
        obtain ⟨Z, hZ⟩ : ∃ Z, Hid (Z = Y ++ tl) := ⟨_, rfl⟩
        have hZ2 : Hid (Z = saidK a_p L (k + 1)) := by show _ = _; rw [E1.out h0, hZ.out, hY.out, hX0]
        have c1 : ByteArray.mk X.toArray ++ ByteArray.mk #[40] = ByteArray.mk Y.toArray := by rw [hY.out]; exact cat_bytes X [40]
        have c2 : ByteArray.mk Y.toArray ++ ByteArray.mk tl.toArray = ByteArray.mk Z.toArray := by rw [hZ.out]; exact cat_bytes Y tl
        have l1 : Y.length = X.length + 1 := by rw [hY.out]; simp
        have l2 : Z.length ≤ 300 + (k + 1) * 310 := by rw [hZ.out]; simp; omega
        have l1' : Y.length ≤ 2000 := by omega
        have hk0 : ((k : Int) == 0) = true := by rw [beq_iff_eq]; omega
        clear l1 hX0 E1 E2 h0
        go_wp2_with fail
        go_roundw
        case rel => exact ⟨k + 1, Z, by omega, by go_num, rfl, hZ2, l2, hS4⟩
        case measure => simp [intOf]; omega
      · obtain ⟨Y, hY⟩ : ∃ Y, Hid (Y = X ++ [44, 32]) := ⟨X ++ [44, 32], rfl⟩
        obtain ⟨Z, hZ⟩ : ∃ Z, Hid (Z = Y ++ tl) := ⟨_, rfl⟩
        have hZ2 : Hid (Z = saidK a_p L (k + 1)) := by show _ = _; rw [E2.out h0, hZ.out, hY.out]
        have c1 : ByteArray.mk X.toArray ++ ByteArray.mk #[44, 32] = ByteArray.mk Y.toArray := by rw [hY.out]; exact cat_bytes X [44, 32]
        have c2 : ByteArray.mk Y.toArray ++ ByteArray.mk tl.toArray = ByteArray.mk Z.toArray := by rw [hZ.out]; exact cat_bytes Y tl
        have l1 : Y.length = X.length + 2 := by rw [hY.out]; simp
        have l2 : Z.length ≤ 300 + (k + 1) * 310 := by rw [hZ.out]; simp; omega
        have l1' : Y.length ≤ 2000 := by omega
        have hk0 : ((k : Int) == 0) = false := by rw [beq_eq_false_iff_ne]; omega
        clear l1 E1 E2 h0
        go_wp2_with fail
        go_roundw
        case rel => exact ⟨k + 1, Z, by omega, by go_num, rfl, hZ2, l2, hS4⟩
        case measure => simp [intOf]; omega
    · obtain rfl : k = n := by omega
      have HW4 := HW0.next hS4
      obtain ⟨b0, b1, b2, b3, b4, b5, b6, b7, b8, b9, b10⟩ := HW4.all
      go_wp2_with fail
      refine (HC.out _).mono ?_
      rintro e w5 ⟨rfl, hb5⟩
      clear b0 b1 b2 b3 b4 b5 b6 b7 b8 b9 b10 hlt
      have hS5 := (hS0.trans hS4).trans hb5
      by_cases h0 : 0 < k
      · have c1 : ByteArray.mk X.toArray ++ ByteArray.mk #[41] = ByteArray.mk R.toArray := by
          rw [hRK.out, if_neg (by omega), ← hX.out]; exact cat_bytes X [41]
        have hk0 : decide ((0 : Int) < (k : Int)) = true := decide_eq_true (by omega)
        go_wp2_with fail
        go_ret
        exact ⟨rfl, hS5⟩
      · have c1 : R = X := by rw [hRK.out, if_pos (by omega), ← hX.out, List.append_nil]
        have hk0 : decide ((0 : Int) < (k : Int)) = false := decide_eq_false (by omega)
        subst c1
        go_wp2_with fail
        go_ret
        exact ⟨rfl, hS5⟩

set_option maxHeartbeats 1000000 in
set_option maxRecDepth 100000 in
theorem rtext3_any (a_s a_p : List UInt8) (a_n : Int) (a_v0 a_v1 a_v2 a_v3 : Bool) (a_l0 a_l1 a_l2 a_l3 : List UInt8) (w : World) (hL : Light ((a_s, a_p, a_n, (a_v0, a_l0), (a_v1, a_l1), (a_v2, a_l2), (a_v3, a_l3)) : Atm)) :
    Calls Tryz.prog 93 #[.agg #[.string ⟨a_s.toArray⟩, .string ⟨a_p.toArray⟩, .int .i64 a_n, .bool a_v0, .string ⟨a_l0.toArray⟩, .bool a_v1, .string ⟨a_l1.toArray⟩, .bool a_v2, .string ⟨a_l2.toArray⟩, .bool a_v3, .string ⟨a_l3.toArray⟩]] w fun e w' => e = .returned (.string ⟨(textA ((a_s, a_p, a_n, (a_v0, a_l0), (a_v1, a_l1), (a_v2, a_l2), (a_v3, a_l3)) : Atm)).toArray⟩) ∧ Since w w' := by
  have hS0 : Since w (w.alloc (.cells #[.string ⟨a_s.toArray⟩, .string ⟨a_p.toArray⟩, .int .i64 a_n, .bool a_v0, .string ⟨a_l0.toArray⟩, .bool a_v1, .string ⟨a_l1.toArray⟩, .bool a_v2, .string ⟨a_l2.toArray⟩, .bool a_v3, .string ⟨a_l3.toArray⟩] 26)) := (Since.refl _).alloc _
  have HW0 : Box (w.alloc (.cells #[.string ⟨a_s.toArray⟩, .string ⟨a_p.toArray⟩, .int .i64 a_n, .bool a_v0, .string ⟨a_l0.toArray⟩, .bool a_v1, .string ⟨a_l1.toArray⟩, .bool a_v2, .string ⟨a_l2.toArray⟩, .bool a_v3, .string ⟨a_l3.toArray⟩] 26)) w.heap.size ((a_s, a_p, a_n, (a_v0, a_l0), (a_v1, a_l1), (a_v2, a_l2), (a_v3, a_l3)) : Atm) := box_new w ((a_s, a_p, a_n, (a_v0, a_l0), (a_v1, a_l1), (a_v2, a_l2), (a_v3, a_l3)) : Atm) _
  obtain ⟨a_c0, a_c1, a_c2, a_c3, a_c4, a_c5, a_c6, a_c7, a_c8, a_c9, a_c10⟩ := HW0.all
  obtain ⟨Y, hY⟩ : ∃ Y, Hid (Y = saidA ((a_s, a_p, a_n, (a_v0, a_l0), (a_v1, a_l1), (a_v2, a_l2), (a_v3, a_l3)) : Atm)) := ⟨_, rfl⟩
  obtain ⟨X, hX⟩ : ∃ X, Hid (X = a_s ++ [32, 115, 97, 121, 115, 32]) := ⟨a_s ++ [32, 115, 97, 121, 115, 32], rfl⟩
  obtain ⟨R, hR⟩ : ∃ R, Hid (R = textA ((a_s, a_p, a_n, (a_v0, a_l0), (a_v1, a_l1), (a_v2, a_l2), (a_v3, a_l3)) : Atm)) := ⟨_, rfl⟩
  have c1 : ByteArray.mk a_s.toArray ++ ByteArray.mk #[32, 115, 97, 121, 115, 32] = ByteArray.mk X.toArray := by rw [hX.out]; exact cat_bytes a_s [32, 115, 97, 121, 115, 32]
  have c2 : ByteArray.mk X.toArray ++ ByteArray.mk Y.toArray = ByteArray.mk R.toArray := by rw [cat_bytes, hX.out, hY.out, hR.out, said_text]
  have f1 : a_s.length ≤ 300 := hL.1
  have l1 : X.length ≤ 400 := by rw [hX.out]; simp; omega
  have l2 : Y.length ≤ 3000 := by
    have h1 := text_len hL trivial
    rw [said_text, List.length_append] at h1
    rw [hY.out]; omega
  have HSD : Hid (∀ W, Calls Tryz.prog 107 #[.agg #[.string ⟨a_s.toArray⟩, .string ⟨a_p.toArray⟩, .int .i64 a_n, .bool a_v0, .string ⟨a_l0.toArray⟩, .bool a_v1, .string ⟨a_l1.toArray⟩, .bool a_v2, .string ⟨a_l2.toArray⟩, .bool a_v3, .string ⟨a_l3.toArray⟩]] W fun e w' => e = .returned (.string ⟨Y.toArray⟩) ∧ Since W w') := by
    intro W; rw [hY.out]; exact rsaid_any a_s a_p a_n a_v0 a_v1 a_v2 a_v3 a_l0 a_l1 a_l2 a_l3 W hL
  rw [← hR.out]
  have ha1 := fun W => run_cat3 c1 (by show a_s.length + 6 ≤ 1000000; omega) W
  have ha2 := fun W => run_cat3 c2 (by show X.length + Y.length ≤ 1000000; omega) W
  clear hL HW0 c1 c2
  go_enter Tryz.func93, Tryz.ntmps93
  go_wp2_with fail
  obtain ⟨W, hWW⟩ : ∃ W : World, Hid (W = w.alloc (.cells #[.string ⟨a_s.toArray⟩, .string ⟨a_p.toArray⟩, .int .i64 a_n, .bool a_v0, .string ⟨a_l0.toArray⟩, .bool a_v1, .string ⟨a_l1.toArray⟩, .bool a_v2, .string ⟨a_l2.toArray⟩, .bool a_v3, .string ⟨a_l3.toArray⟩] 26)) := ⟨_, rfl⟩
  rw [← hWW.out] at a_c0 a_c1 a_c2 a_c3 a_c4 a_c5 a_c6 a_c7 a_c8 a_c9 a_c10 hS0 ⊢
  go_region_held3 (fun w' => w'.cell? ⟨w.heap.size, 0, none⟩ = some (.string ⟨a_s.toArray⟩) ∧ w'.cell? ⟨w.heap.size, 1, none⟩ = some (.string ⟨a_p.toArray⟩) ∧ w'.cell? ⟨w.heap.size, 2, none⟩ = some (.int .i64 a_n) ∧ w'.cell? ⟨w.heap.size, 3, none⟩ = some (.bool a_v0) ∧ w'.cell? ⟨w.heap.size, 4, none⟩ = some (.string ⟨a_l0.toArray⟩) ∧ w'.cell? ⟨w.heap.size, 5, none⟩ = some (.bool a_v1) ∧ w'.cell? ⟨w.heap.size, 6, none⟩ = some (.string ⟨a_l1.toArray⟩) ∧ w'.cell? ⟨w.heap.size, 7, none⟩ = some (.bool a_v2) ∧ w'.cell? ⟨w.heap.size, 8, none⟩ = some (.string ⟨a_l2.toArray⟩) ∧ w'.cell? ⟨w.heap.size, 9, none⟩ = some (.bool a_v3) ∧ w'.cell? ⟨w.heap.size, 10, none⟩ = some (.string ⟨a_l3.toArray⟩)) (first | (refine ⟨?_, ?_, ?_, ?_, ?_, ?_, ?_, ?_, ?_, ?_, ?_⟩ <;> assumption) | (go_split_ands; refine ⟨?_, ?_, ?_, ?_, ?_, ?_, ?_, ?_, ?_, ?_, ?_⟩ <;> (refine Since.cell hb ?_; assumption)))
    (first | (go_at_call 107; ((with_reducible refine (HSD.out _).mono ?_); rintro e w2 ⟨rfl, hb⟩)))
  go_wp2_with fail
  go_ret
  exact ⟨rfl, hS0.drew.trans hb⟩
end Go.Proofs.YtkdeokgkjmboeaaGreatDoor

namespace Go.Proofs.YtkdeokgkjmboeaaGreatDoor
open Go.RowKit

theorem cmp_less : ∀ (a b : List UInt8), (Op.bytesLess a b = true ∧ (a == b) = false ∧ Lib.compareBytes a b = -1) ∨ (Op.bytesLess a b = false ∧ (a == b) = true ∧ Lib.compareBytes a b = 0) ∨ (Op.bytesLess a b = false ∧ (a == b) = false ∧ Lib.compareBytes a b = 1)
  | [], [] => .inr (.inl ⟨rfl, rfl, rfl⟩)
  | [], _ :: _ => .inl ⟨rfl, rfl, rfl⟩
  | _ :: _, [] => .inr (.inr ⟨rfl, rfl, rfl⟩)
  | x :: a, y :: b => by
    have ih := cmp_less a b
    by_cases h1 : x < y
    · left
      have hne : (x == y) = false := by
        rw [beq_eq_false_iff_ne]; intro e; subst e; exact absurd h1 (UInt8.lt_irrefl _)
      refine ⟨by simp [Op.bytesLess, h1], by simp only [List.cons_beq_cons, hne, Bool.false_and], by simp [Lib.compareBytes, h1]⟩
    · by_cases h2 : y < x
      · right; right
        have hne : (x == y) = false := by
          rw [beq_eq_false_iff_ne]; intro e; subst e; exact absurd h2 (UInt8.lt_irrefl _)
        refine ⟨by simp only [Op.bytesLess, hne, Bool.false_and, Bool.or_false, decide_eq_false h1], by simp only [List.cons_beq_cons, hne, Bool.false_and], by simp [Lib.compareBytes, h1, h2]⟩
      · have he : x = y := UInt8.le_antisymm (UInt8.not_lt.1 h2) (UInt8.not_lt.1 h1)
        subst he
        simp only [Op.bytesLess, Lib.compareBytes, List.cons_beq_cons, beq_self_eq_true, Bool.true_and, h1, decide_false, Bool.false_or, if_false]
        exact ih
set_option maxHeartbeats 2000000 in
set_option maxRecDepth 100000 in
theorem rcompare_any (a_s a_p : List UInt8) (a_n : Int) (a_v0 a_v1 a_v2 a_v3 : Bool) (a_l0 a_l1 a_l2 a_l3 : List UInt8) (b_s b_p : List UInt8) (b_n : Int) (b_v0 b_v1 b_v2 b_v3 : Bool) (b_l0 b_l1 b_l2 b_l3 : List UInt8) (w : World) (ha : Light ((a_s, a_p, a_n, (a_v0, a_l0), (a_v1, a_l1), (a_v2, a_l2), (a_v3, a_l3)) : Atm)) (hb0 : Light ((b_s, b_p, b_n, (b_v0, b_l0), (b_v1, b_l1), (b_v2, b_l2), (b_v3, b_l3)) : Atm)) :
    Calls Tryz.prog 74 #[.agg #[.string ⟨a_s.toArray⟩, .string ⟨a_p.toArray⟩, .int .i64 a_n, .bool a_v0, .string ⟨a_l0.toArray⟩, .bool a_v1, .string ⟨a_l1.toArray⟩, .bool a_v2, .string ⟨a_l2.toArray⟩, .bool a_v3, .string ⟨a_l3.toArray⟩], .agg #[.string ⟨b_s.toArray⟩, .string ⟨b_p.toArray⟩, .int .i64 b_n, .bool b_v0, .string ⟨b_l0.toArray⟩, .bool b_v1, .string ⟨b_l1.toArray⟩, .bool b_v2, .string ⟨b_l2.toArray⟩, .bool b_v3, .string ⟨b_l3.toArray⟩]] w fun e w' => e = .returned (.int .i64 (cmpA ((a_s, a_p, a_n, (a_v0, a_l0), (a_v1, a_l1), (a_v2, a_l2), (a_v3, a_l3)) : Atm) ((b_s, b_p, b_n, (b_v0, b_l0), (b_v1, b_l1), (b_v2, b_l2), (b_v3, b_l3)) : Atm))) ∧ Since w w' := by
  have HA := Lib.hid (fun W => rtext3_any a_s a_p a_n a_v0 a_v1 a_v2 a_v3 a_l0 a_l1 a_l2 a_l3 W ha)
  have HB := Lib.hid (fun W => rtext3_any b_s b_p b_n b_v0 b_v1 b_v2 b_v3 b_l0 b_l1 b_l2 b_l3 W hb0)
  have hc : cmpA ((a_s, a_p, a_n, (a_v0, a_l0), (a_v1, a_l1), (a_v2, a_l2), (a_v3, a_l3)) : Atm) ((b_s, b_p, b_n, (b_v0, b_l0), (b_v1, b_l1), (b_v2, b_l2), (b_v3, b_l3)) : Atm) = Lib.compareBytes (textA ((a_s, a_p, a_n, (a_v0, a_l0), (a_v1, a_l1), (a_v2, a_l2), (a_v3, a_l3)) : Atm)) (textA ((b_s, b_p, b_n, (b_v0, b_l0), (b_v1, b_l1), (b_v2, b_l2), (b_v3, b_l3)) : Atm)) := rfl
  rw [hc]
  clear hc
  generalize textA ((a_s, a_p, a_n, (a_v0, a_l0), (a_v1, a_l1), (a_v2, a_l2), (a_v3, a_l3)) : Atm) = X at *
  generalize textA ((b_s, b_p, b_n, (b_v0, b_l0), (b_v1, b_l1), (b_v2, b_l2), (b_v3, b_l3)) : Atm) = Y at *
  have hS : Since w ((w.alloc (.cells #[.string ⟨a_s.toArray⟩, .string ⟨a_p.toArray⟩, .int .i64 a_n, .bool a_v0, .string ⟨a_l0.toArray⟩, .bool a_v1, .string ⟨a_l1.toArray⟩, .bool a_v2, .string ⟨a_l2.toArray⟩, .bool a_v3, .string ⟨a_l3.toArray⟩] 26)).alloc (.cells #[.string ⟨b_s.toArray⟩, .string ⟨b_p.toArray⟩, .int .i64 b_n, .bool b_v0, .string ⟨b_l0.toArray⟩, .bool b_v1, .string ⟨b_l1.toArray⟩, .bool b_v2, .string ⟨b_l2.toArray⟩, .bool b_v3, .string ⟨b_l3.toArray⟩] 26)) := ((Since.refl _).alloc _).alloc _
  have a_B : Box ((w.alloc (.cells #[.string ⟨a_s.toArray⟩, .string ⟨a_p.toArray⟩, .int .i64 a_n, .bool a_v0, .string ⟨a_l0.toArray⟩, .bool a_v1, .string ⟨a_l1.toArray⟩, .bool a_v2, .string ⟨a_l2.toArray⟩, .bool a_v3, .string ⟨a_l3.toArray⟩] 26)).alloc (.cells #[.string ⟨b_s.toArray⟩, .string ⟨b_p.toArray⟩, .int .i64 b_n, .bool b_v0, .string ⟨b_l0.toArray⟩, .bool b_v1, .string ⟨b_l1.toArray⟩, .bool b_v2, .string ⟨b_l2.toArray⟩, .bool b_v3, .string ⟨b_l3.toArray⟩] 26)) w.heap.size ((a_s, a_p, a_n, (a_v0, a_l0), (a_v1, a_l1), (a_v2, a_l2), (a_v3, a_l3)) : Atm) := (box_new w ((a_s, a_p, a_n, (a_v0, a_l0), (a_v1, a_l1), (a_v2, a_l2), (a_v3, a_l3)) : Atm) _).next ((Since.refl _).alloc _)
  have b_B : Box ((w.alloc (.cells #[.string ⟨a_s.toArray⟩, .string ⟨a_p.toArray⟩, .int .i64 a_n, .bool a_v0, .string ⟨a_l0.toArray⟩, .bool a_v1, .string ⟨a_l1.toArray⟩, .bool a_v2, .string ⟨a_l2.toArray⟩, .bool a_v3, .string ⟨a_l3.toArray⟩] 26)).alloc (.cells #[.string ⟨b_s.toArray⟩, .string ⟨b_p.toArray⟩, .int .i64 b_n, .bool b_v0, .string ⟨b_l0.toArray⟩, .bool b_v1, .string ⟨b_l1.toArray⟩, .bool b_v2, .string ⟨b_l2.toArray⟩, .bool b_v3, .string ⟨b_l3.toArray⟩] 26)) (w.heap.size + 1) ((b_s, b_p, b_n, (b_v0, b_l0), (b_v1, b_l1), (b_v2, b_l2), (b_v3, b_l3)) : Atm) := by
    have h := box_new (w.alloc (.cells #[.string ⟨a_s.toArray⟩, .string ⟨a_p.toArray⟩, .int .i64 a_n, .bool a_v0, .string ⟨a_l0.toArray⟩, .bool a_v1, .string ⟨a_l1.toArray⟩, .bool a_v2, .string ⟨a_l2.toArray⟩, .bool a_v3, .string ⟨a_l3.toArray⟩] 26)) ((b_s, b_p, b_n, (b_v0, b_l0), (b_v1, b_l1), (b_v2, b_l2), (b_v3, b_l3)) : Atm) 26
    rw [World.size_alloc] at h
    exact h
  obtain ⟨a_c0, a_c1, a_c2, a_c3, a_c4, a_c5, a_c6, a_c7, a_c8, a_c9, a_c10⟩ := a_B.all
  obtain ⟨b_c0, b_c1, b_c2, b_c3, b_c4, b_c5, b_c6, b_c7, b_c8, b_c9, b_c10⟩ := b_B.all
  clear ha hb0
  rcases cmp_less X Y with ⟨h1, h2, h3⟩ | ⟨h1, h2, h3⟩ | ⟨h1, h2, h3⟩
  case' inr.inl => obtain rfl : X = Y := by simpa using h2
  all_goals
    rw [h3]
    clear h3
    go_enter Tryz.func74, Tryz.ntmps74
    go_wp2_with fail
    go_region_held3 (fun w' => (w'.cell? ⟨w.heap.size, 0, none⟩ = some (.string ⟨a_s.toArray⟩) ∧ w'.cell? ⟨w.heap.size, 1, none⟩ = some (.string ⟨a_p.toArray⟩) ∧ w'.cell? ⟨w.heap.size, 2, none⟩ = some (.int .i64 a_n) ∧ w'.cell? ⟨w.heap.size, 3, none⟩ = some (.bool a_v0) ∧ w'.cell? ⟨w.heap.size, 4, none⟩ = some (.string ⟨a_l0.toArray⟩) ∧ w'.cell? ⟨w.heap.size, 5, none⟩ = some (.bool a_v1) ∧ w'.cell? ⟨w.heap.size, 6, none⟩ = some (.string ⟨a_l1.toArray⟩) ∧ w'.cell? ⟨w.heap.size, 7, none⟩ = some (.bool a_v2) ∧ w'.cell? ⟨w.heap.size, 8, none⟩ = some (.string ⟨a_l2.toArray⟩) ∧ w'.cell? ⟨w.heap.size, 9, none⟩ = some (.bool a_v3) ∧ w'.cell? ⟨w.heap.size, 10, none⟩ = some (.string ⟨a_l3.toArray⟩)) ∧ (w'.cell? ⟨w.heap.size + 1, 0, none⟩ = some (.string ⟨b_s.toArray⟩) ∧ w'.cell? ⟨w.heap.size + 1, 1, none⟩ = some (.string ⟨b_p.toArray⟩) ∧ w'.cell? ⟨w.heap.size + 1, 2, none⟩ = some (.int .i64 b_n) ∧ w'.cell? ⟨w.heap.size + 1, 3, none⟩ = some (.bool b_v0) ∧ w'.cell? ⟨w.heap.size + 1, 4, none⟩ = some (.string ⟨b_l0.toArray⟩) ∧ w'.cell? ⟨w.heap.size + 1, 5, none⟩ = some (.bool b_v1) ∧ w'.cell? ⟨w.heap.size + 1, 6, none⟩ = some (.string ⟨b_l1.toArray⟩) ∧ w'.cell? ⟨w.heap.size + 1, 7, none⟩ = some (.bool b_v2) ∧ w'.cell? ⟨w.heap.size + 1, 8, none⟩ = some (.string ⟨b_l2.toArray⟩) ∧ w'.cell? ⟨w.heap.size + 1, 9, none⟩ = some (.bool b_v3) ∧ w'.cell? ⟨w.heap.size + 1, 10, none⟩ = some (.string ⟨b_l3.toArray⟩)) ∧ Since w w')
      (first | (refine ⟨⟨?_, ?_, ?_, ?_, ?_, ?_, ?_, ?_, ?_, ?_, ?_⟩, ⟨?_, ?_, ?_, ?_, ?_, ?_, ?_, ?_, ?_, ?_, ?_⟩, ?_⟩ <;> first | assumption | (refine Since.drew ?_; assumption)) | (go_split_ands; refine ⟨⟨?_, ?_, ?_, ?_, ?_, ?_, ?_, ?_, ?_, ?_, ?_⟩, ⟨?_, ?_, ?_, ?_, ?_, ?_, ?_, ?_, ?_, ?_, ?_⟩, ?_⟩ <;> first | (refine Since.cell hb ?_; assumption) | (refine Since.trans ?_ hb; assumption) | assumption))
      (first
        | (go_at_call 93; first | ((with_reducible refine (HA.out _).mono ?_); rintro e w9 ⟨rfl, hb⟩) | ((with_reducible refine (HB.out _).mono ?_); rintro e w9 ⟨rfl, hb⟩)))
    go_split_ands
    go_wp2_with fail
    go_ret
    exact ⟨rfl, by assumption⟩
set_option maxHeartbeats 4000000 in
set_option maxRecDepth 100000 in
theorem ris_any (v : Value) (L : List Atm) (w : World) (hv : AtmRow w v L) (hl : ∀ x ∈ L, Light x) (hm : L.length ≤ 1000000) :
    Calls Tryz.prog 53 #[v] w fun e w' => e = .returned (.bool (isF L)) ∧ Since w w' := by
  obtain ⟨a, c, rfl⟩ := hv.form
  have HV := Lib.hid hv
  have HL := Lib.hid hl
  obtain ⟨R, hR⟩ : ∃ R, Hid (R = isF L) := ⟨_, rfl⟩
  have hR0 : Hid (R = isF (L.drop 0)) := hR
  rw [← hR.out]
  clear hv hl hR
  go_enter Tryz.func53, Tryz.ntmps53
  go_wp2_with fail
  go_loopw [3] (fun i wr => ∃ m : Nat, m ≤ L.length ∧ i = .int .i64 ((m : Int) + 1) ∧ Since w wr ∧ Hid (R = isF (L.drop m))) (fun i _ => L.length + 1 - (intOf i).toNat)
  case atStart => exact ⟨0, by omega, rfl, Since.refl _, hR0.out⟩
  case round =>
    clear hR0
    obtain ⟨m, hk, rfl, hS, hres⟩ := hrel
    by_cases hlt : m + 1 < L.length
    · have hmm : m < m + 1 := Nat.lt_succ_self m
      have hm1 : m < L.length := by omega
      obtain ⟨_, b, o, he, hc, hat⟩ := (HV.out.next hS).get (by omega)
      cases he
      have hx := hat m hm1
      have hy := hat (m + 1) hlt
      have lx := HL.out _ (List.getElem_mem hm1)
      have ly := HL.out _ (List.getElem_mem hlt)
      have hst := isF_drop hm1 hlt
      have hst2 : Hid (R = (decide (cmpA L[m] L[m + 1] < 0) && isF (L.drop (m + 1)))) := by show _ = _; rw [hres.out, ← hst]
      clear hat hst hres
      generalize L[m] = x at *
      generalize L[m + 1] = y at *
      obtain ⟨a_s, a_p, a_n, ⟨a_v0, a_l0⟩, ⟨a_v1, a_l1⟩, ⟨a_v2, a_l2⟩, ⟨a_v3, a_l3⟩⟩ := x
      obtain ⟨b_s, b_p, b_n, ⟨b_v0, b_l0⟩, ⟨b_v1, b_l1⟩, ⟨b_v2, b_l2⟩, ⟨b_v3, b_l3⟩⟩ := y
      obtain ⟨a_c0, a_c1, a_c2, a_c3, a_c4, a_c5, a_c6, a_c7, a_c8, a_c9, a_c10⟩ := hx.all
      obtain ⟨b_c0, b_c1, b_c2, b_c3, b_c4, b_c5, b_c6, b_c7, b_c8, b_c9, b_c10⟩ := hy.all
      have HCM := Lib.hid (fun W => rcompare_any a_s a_p a_n a_v0 a_v1 a_v2 a_v3 a_l0 a_l1 a_l2 a_l3 b_s b_p b_n b_v0 b_v1 b_v2 b_v3 b_l0 b_l1 b_l2 b_l3 W lx ly)
      obtain ⟨C, hC⟩ : ∃ C, Hid (C = cmpA ((a_s, a_p, a_n, (a_v0, a_l0), (a_v1, a_l1), (a_v2, a_l2), (a_v3, a_l3)) : Atm) ((b_s, b_p, b_n, (b_v0, b_l0), (b_v1, b_l1), (b_v2, b_l2), (b_v3, b_l3)) : Atm)) := ⟨_, rfl⟩
      rw [← hC.out] at HCM hst2
      have hg0 : decide ((0 : Int) < (m : Int) + 1) = true := decide_eq_true (by omega)
      have hg1 : IntKind.i64.wrap ((m : Int) + 1 - 1) = (m : Int) := by rw [IntWalk.i64_in _ (by omega)]; omega
      have hg5 : IntKind.i64.wrap (m : Int) = (m : Int) := IntWalk.i64_in _ (by omega)
      have hg6 : (0 : Int) ≤ (m : Int) := by omega
      have hg2 : (m : Int) < (L.length : Int) := by omega
      have hg3 : (m : Int) + 1 < (L.length : Int) := by omega
      have hg4 : (0 : Int) ≤ (m : Int) + 1 := by omega
      clear hC hx hy lx ly
      cases hz : decide (0 ≤ C)
      · have hnx : Hid (R = isF (L.drop (m + 1))) := by
          show _ = _
          rw [hst2.out, decide_eq_true (by simp at hz; omega), Bool.true_and]
        go_wp2_with fail
        go_region_held3 (fun w' => (w'.cell? ⟨b, o + m * 11, none⟩ = some (.string ⟨a_s.toArray⟩) ∧ w'.cell? ⟨b, o + m * 11 + 1, none⟩ = some (.string ⟨a_p.toArray⟩) ∧ w'.cell? ⟨b, o + m * 11 + 2, none⟩ = some (.int .i64 a_n) ∧ w'.cell? ⟨b, o + m * 11 + 3, none⟩ = some (.bool a_v0) ∧ w'.cell? ⟨b, o + m * 11 + 4, none⟩ = some (.string ⟨a_l0.toArray⟩) ∧ w'.cell? ⟨b, o + m * 11 + 5, none⟩ = some (.bool a_v1) ∧ w'.cell? ⟨b, o + m * 11 + 6, none⟩ = some (.string ⟨a_l1.toArray⟩) ∧ w'.cell? ⟨b, o + m * 11 + 7, none⟩ = some (.bool a_v2) ∧ w'.cell? ⟨b, o + m * 11 + 8, none⟩ = some (.string ⟨a_l2.toArray⟩) ∧ w'.cell? ⟨b, o + m * 11 + 9, none⟩ = some (.bool a_v3) ∧ w'.cell? ⟨b, o + m * 11 + 10, none⟩ = some (.string ⟨a_l3.toArray⟩)) ∧ (w'.cell? ⟨b, o + (m + 1) * 11, none⟩ = some (.string ⟨b_s.toArray⟩) ∧ w'.cell? ⟨b, o + (m + 1) * 11 + 1, none⟩ = some (.string ⟨b_p.toArray⟩) ∧ w'.cell? ⟨b, o + (m + 1) * 11 + 2, none⟩ = some (.int .i64 b_n) ∧ w'.cell? ⟨b, o + (m + 1) * 11 + 3, none⟩ = some (.bool b_v0) ∧ w'.cell? ⟨b, o + (m + 1) * 11 + 4, none⟩ = some (.string ⟨b_l0.toArray⟩) ∧ w'.cell? ⟨b, o + (m + 1) * 11 + 5, none⟩ = some (.bool b_v1) ∧ w'.cell? ⟨b, o + (m + 1) * 11 + 6, none⟩ = some (.string ⟨b_l1.toArray⟩) ∧ w'.cell? ⟨b, o + (m + 1) * 11 + 7, none⟩ = some (.bool b_v2) ∧ w'.cell? ⟨b, o + (m + 1) * 11 + 8, none⟩ = some (.string ⟨b_l2.toArray⟩) ∧ w'.cell? ⟨b, o + (m + 1) * 11 + 9, none⟩ = some (.bool b_v3) ∧ w'.cell? ⟨b, o + (m + 1) * 11 + 10, none⟩ = some (.string ⟨b_l3.toArray⟩)) ∧ Since w w')
          (first | (refine ⟨⟨?_, ?_, ?_, ?_, ?_, ?_, ?_, ?_, ?_, ?_, ?_⟩, ⟨?_, ?_, ?_, ?_, ?_, ?_, ?_, ?_, ?_, ?_, ?_⟩, ?_⟩ <;> first | assumption | (refine Since.drew ?_; assumption)) | (go_split_ands; refine ⟨⟨?_, ?_, ?_, ?_, ?_, ?_, ?_, ?_, ?_, ?_, ?_⟩, ⟨?_, ?_, ?_, ?_, ?_, ?_, ?_, ?_, ?_, ?_, ?_⟩, ?_⟩ <;> first | (refine Since.cell hb ?_; assumption) | (refine Since.trans ?_ hb; assumption) | assumption))
          (first | (go_at_call 74; ((with_reducible refine (HCM.out _).mono ?_); rintro e w9 ⟨rfl, hb⟩)))
        go_split_ands
        go_wp2_with fail
        go_roundw
        case rel => exact ⟨m + 1, by omega, by go_num, by assumption, hnx.out⟩
        case measure => simp [intOf]; omega
      · have hnx : Hid (R = false) := by
          show _ = _
          rw [hst2.out, decide_eq_false (by simp at hz; omega), Bool.false_and]
        go_wp2_with fail
        go_region_held3 (fun w' => (w'.cell? ⟨b, o + m * 11, none⟩ = some (.string ⟨a_s.toArray⟩) ∧ w'.cell? ⟨b, o + m * 11 + 1, none⟩ = some (.string ⟨a_p.toArray⟩) ∧ w'.cell? ⟨b, o + m * 11 + 2, none⟩ = some (.int .i64 a_n) ∧ w'.cell? ⟨b, o + m * 11 + 3, none⟩ = some (.bool a_v0) ∧ w'.cell? ⟨b, o + m * 11 + 4, none⟩ = some (.string ⟨a_l0.toArray⟩) ∧ w'.cell? ⟨b, o + m * 11 + 5, none⟩ = some (.bool a_v1) ∧ w'.cell? ⟨b, o + m * 11 + 6, none⟩ = some (.string ⟨a_l1.toArray⟩) ∧ w'.cell? ⟨b, o + m * 11 + 7, none⟩ = some (.bool a_v2) ∧ w'.cell? ⟨b, o + m * 11 + 8, none⟩ = some (.string ⟨a_l2.toArray⟩) ∧ w'.cell? ⟨b, o + m * 11 + 9, none⟩ = some (.bool a_v3) ∧ w'.cell? ⟨b, o + m * 11 + 10, none⟩ = some (.string ⟨a_l3.toArray⟩)) ∧ (w'.cell? ⟨b, o + (m + 1) * 11, none⟩ = some (.string ⟨b_s.toArray⟩) ∧ w'.cell? ⟨b, o + (m + 1) * 11 + 1, none⟩ = some (.string ⟨b_p.toArray⟩) ∧ w'.cell? ⟨b, o + (m + 1) * 11 + 2, none⟩ = some (.int .i64 b_n) ∧ w'.cell? ⟨b, o + (m + 1) * 11 + 3, none⟩ = some (.bool b_v0) ∧ w'.cell? ⟨b, o + (m + 1) * 11 + 4, none⟩ = some (.string ⟨b_l0.toArray⟩) ∧ w'.cell? ⟨b, o + (m + 1) * 11 + 5, none⟩ = some (.bool b_v1) ∧ w'.cell? ⟨b, o + (m + 1) * 11 + 6, none⟩ = some (.string ⟨b_l1.toArray⟩) ∧ w'.cell? ⟨b, o + (m + 1) * 11 + 7, none⟩ = some (.bool b_v2) ∧ w'.cell? ⟨b, o + (m + 1) * 11 + 8, none⟩ = some (.string ⟨b_l2.toArray⟩) ∧ w'.cell? ⟨b, o + (m + 1) * 11 + 9, none⟩ = some (.bool b_v3) ∧ w'.cell? ⟨b, o + (m + 1) * 11 + 10, none⟩ = some (.string ⟨b_l3.toArray⟩)) ∧ Since w w')
          (first | (refine ⟨⟨?_, ?_, ?_, ?_, ?_, ?_, ?_, ?_, ?_, ?_, ?_⟩, ⟨?_, ?_, ?_, ?_, ?_, ?_, ?_, ?_, ?_, ?_, ?_⟩, ?_⟩ <;> first | assumption | (refine Since.drew ?_; assumption)) | (go_split_ands; refine ⟨⟨?_, ?_, ?_, ?_, ?_, ?_, ?_, ?_, ?_, ?_, ?_⟩, ⟨?_, ?_, ?_, ?_, ?_, ?_, ?_, ?_, ?_, ?_, ?_⟩, ?_⟩ <;> first | (refine Since.cell hb ?_; assumption) | (refine Since.trans ?_ hb; assumption) | assumption))
          (first | (go_at_call 74; ((with_reducible refine (HCM.out _).mono ?_); rintro e w9 ⟨rfl, hb⟩)))
        go_split_ands
        go_wp2_with fail
        go_ret
        exact ⟨ret_bool hnx.out.symm, by assumption⟩
    · have hnx : Hid (R = true) := by
        show _ = _
        rw [hres.out]
        exact isF_short (by rw [List.length_drop]; omega)
      clear hres
      go_wp2_with fail
      go_ret
      exact ⟨ret_bool hnx.out.symm, hS⟩
end Go.Proofs.YtkdeokgkjmboeaaGreatDoor

namespace Go.Proofs.YtkdeokgkjmboeaaGreatDoor
open Go.RowKit

theorem odd_fact (a : Atm) : (checkA a == 0 && groundA a) = !oddB a := by
  unfold oddB
  rw [Bool.not_or, Bool.not_not, bne, Bool.not_not]
set_option maxHeartbeats 8000000 in
set_option maxRecDepth 100000 in
theorem rmayRs_any (code : Int) (ch : Bool) (v : Value) (L : List Atm) (ct : List UInt8) (w : World) (hv : AtmRow w v L) (hl : ∀ x ∈ L, FitsA x) (hg : ∀ x ∈ L, Light x) (hm : L.length ≤ 1000000) :
    Calls Tryz.prog 32 #[.agg #[.int .i64 code, .bool ch, v, .string ⟨ct.toArray⟩]] w fun e w' => e = .returned (.bool (mayRs (code, ch, L, ct))) ∧ Since w w' := by
  obtain ⟨a, c, rfl⟩ := hv.form
  have hA : Since w (w.alloc (.cells #[.int .i64 code, .bool ch, .slice a L.length c, .string ⟨ct.toArray⟩] 32)) := (Since.refl _).alloc _
  have hC : Cel (w.alloc (.cells #[.int .i64 code, .bool ch, .slice a L.length c, .string ⟨ct.toArray⟩] 32)) w.heap.size #[.int .i64 code, .bool ch, .slice a L.length c, .string ⟨ct.toArray⟩] 32 := heap_alloc_new w _
  have HV := Lib.hid (hv.next hA)
  have HI := Lib.hid (fun W hv => ris_any (.slice a L.length c) L W hv hg hm)
  have HF := Lib.hid hl
  have hM : Hid (mayRs (code, ch, L, ct) = if code < 0 ∨ 16 < code then false else if code ≠ 0 then !moreB (code, ch, L, ct) && !ch else if moreB (code, ch, L, ct) && ch then false else isF L && !(L.any oddB)) := rfl
  have hmo : Hid (moreB (code, ch, L, ct) = (decide (0 < L.length) || !ct.isEmpty)) := rfl
  generalize mayRs (code, ch, L, ct) = M at *
  generalize moreB (code, ch, L, ct) = O at *
  have c0 : (w.alloc (.cells #[.int .i64 code, .bool ch, .slice a L.length c, .string ⟨ct.toArray⟩] 32)).cell? ⟨w.heap.size, 0, none⟩ = some (.int .i64 code) := hC.cell 0
  have c1 : (w.alloc (.cells #[.int .i64 code, .bool ch, .slice a L.length c, .string ⟨ct.toArray⟩] 32)).cell? ⟨w.heap.size, 1, none⟩ = some (.bool ch) := hC.cell 1
  have c2 : (w.alloc (.cells #[.int .i64 code, .bool ch, .slice a L.length c, .string ⟨ct.toArray⟩] 32)).cell? ⟨w.heap.size, 2, none⟩ = some (.slice a L.length c) := hC.cell 2
  have c3 : (w.alloc (.cells #[.int .i64 code, .bool ch, .slice a L.length c, .string ⟨ct.toArray⟩] 32)).cell? ⟨w.heap.size, 3, none⟩ = some (.string ⟨ct.toArray⟩) := hC.cell 3
  clear hv hg hl hC
  by_cases hlo : code < 0
  · have hMv : Hid (M = false) := by show _ = _; rw [hM.out, if_pos (.inl hlo)]
    clear hM
    go_enter Tryz.func32, Tryz.ntmps32
    go_wp2_with fail
    go_ret
    exact ⟨ret_bool hMv.out.symm, hA⟩
  by_cases hhi : 16 < code
  · have hMv : Hid (M = false) := by show _ = _; rw [hM.out, if_pos (.inr hhi)]
    clear hM
    go_enter Tryz.func32, Tryz.ntmps32
    go_wp2_with fail
    go_ret
    exact ⟨ret_bool hMv.out.symm, hA⟩
  by_cases hne : code = 0
  case neg =>
    have hMv : Hid (M = (!O && !ch)) := by show _ = _; rw [hM.out, if_neg (by omega), if_pos hne]
    have hq : (code != 0) = true := by simpa using hne
    clear hM
    cases h1 : decide (0 < L.length)
    · cases h2 : ct.isEmpty
      · obtain rfl : O = true := by rw [hmo.out, h1, h2]; rfl
        clear hmo
        have hMw : Hid (M = false) := hMv.out
        clear hMv
        go_enter Tryz.func32, Tryz.ntmps32
        go_wp2_with fail
        all_goals
          go_ret
          exact ⟨ret_bool hMw.out.symm, hA⟩
      · obtain rfl : O = false := by rw [hmo.out, h1, h2]; rfl
        clear hmo
        have hMw : Hid (M = !ch) := by show _ = _; rw [hMv.out]; rfl
        clear hMv
        go_enter Tryz.func32, Tryz.ntmps32
        go_wp2_with fail
        all_goals
          go_ret
          exact ⟨ret_bool hMw.out.symm, hA⟩
    · obtain rfl : O = true := by rw [hmo.out, h1]; rfl
      clear hmo
      have hMw : Hid (M = false) := hMv.out
      clear hMv
      go_enter Tryz.func32, Tryz.ntmps32
      go_wp2_with fail
      all_goals
        go_ret
        exact ⟨ret_bool hMw.out.symm, hA⟩
  case pos =>
    subst hne
    have hMv : Hid (M = if O && ch then false else isF L && !(L.any oddB)) := by show _ = _; rw [hM.out, if_neg (by omega), if_neg (by simp)]
    clear hM hlo hhi
    have hOc : (decide (0 < L.length) = true ∧ O = true) ∨ (decide (0 < L.length) = false ∧ ct.isEmpty = true ∧ O = false) ∨ (decide (0 < L.length) = false ∧ ct.isEmpty = false ∧ O = true) := by
      rw [hmo.out]
      cases decide (0 < L.length) <;> cases ct.isEmpty <;> simp
    clear hmo
    rcases hOc with ⟨h1, rfl⟩ | ⟨h1, h2, rfl⟩ | ⟨h1, h2, rfl⟩
    · go_enter Tryz.func32, Tryz.ntmps32
      go_wp2_with fail
      go_loopw [4] (fun i wr => ∃ k : Nat, k ≤ L.length ∧ i = .int .i64 (k : Int) ∧ Since (w.alloc (.cells #[.int .i64 0, .bool ch, .slice a L.length c, .string ⟨ct.toArray⟩] 32)) wr ∧ Hid ((L.take k).any oddB = false)) (fun i _ => L.length - (intOf i).toNat)
      case atStart => exact ⟨0, by omega, rfl, Since.refl _, by show _ = _; simp⟩
      case round =>
        obtain ⟨k, hk, rfl, hS, hres⟩ := hrel
        replace c1 := hS.cell c1
        replace c2 := hS.cell c2
        by_cases hlt : k < L.length
        · obtain ⟨_, b, o, he, hc, hat⟩ := (HV.out.next hS).get (by omega)
          cases he
          have hx := hat k hlt
          have hfl := HF.out _ (List.getElem_mem hlt)
          have htk : L.take (k + 1) = L.take k ++ [L[k]] := List.take_succ_eq_append_getElem hlt
          have hpick : oddB L[k] = true → Hid (L.any oddB = true) := fun h => by show _ = _; exact List.any_eq_true.2 ⟨_, List.getElem_mem hlt, h⟩
          have HTK := Lib.hid htk
          have hkl : (k : Int) < (L.length : Int) := by omega
          clear hat htk
          generalize L[k] = x at *
          obtain ⟨a_s, a_p, a_n, ⟨a_v0, a_l0⟩, ⟨a_v1, a_l1⟩, ⟨a_v2, a_l2⟩, ⟨a_v3, a_l3⟩⟩ := x
          obtain ⟨a_c0, a_c1, a_c2, a_c3, a_c4, a_c5, a_c6, a_c7, a_c8, a_c9, a_c10⟩ := hx.all
          have HC := Lib.hid (fun W => rfact_any a_s a_p a_n a_v0 a_v1 a_v2 a_v3 a_l0 a_l1 a_l2 a_l3 W hfl)
          rw [odd_fact] at HC
          clear hx hfl
          cases ho : oddB ((a_s, a_p, a_n, (a_v0, a_l0), (a_v1, a_l1), (a_v2, a_l2), (a_v3, a_l3)) : Atm)
          · have hnx : Hid ((L.take (k + 1)).any oddB = false) := by
              show _ = _
              rw [HTK.out, List.any_append, hres.out, List.any_cons, ho]; rfl
            rw [ho] at HC
            clear hres HTK ho hpick
            go_wp2_with fail
            refine (HC.out _).mono ?_
            rintro e w4 ⟨rfl, hb4⟩
            clear a_c0 a_c1 a_c2 a_c3 a_c4 a_c5 a_c6 a_c7 a_c8 a_c9 a_c10
            go_wp2_with fail
            go_roundw
            case rel => exact ⟨k + 1, by omega, by go_num, hS.trans hb4, hnx.out⟩
            case measure => simp [intOf]; omega
          · have hany := (hpick ho)
            have hMw : Hid (M = false) := by
              show _ = _
              rw [hMv.out, hany.out]
              simp
            rw [ho] at HC
            clear hres HTK ho hpick hany hMv
            go_wp2_with fail
            refine (HC.out _).mono ?_
            rintro e w4 ⟨rfl, hb4⟩
            clear a_c0 a_c1 a_c2 a_c3 a_c4 a_c5 a_c6 a_c7 a_c8 a_c9 a_c10
            go_wp2_with fail
            go_ret
            exact ⟨ret_bool hMw.out.symm, (hA.trans hS).trans hb4⟩
        · have hkl : ¬ (k : Int) < (L.length : Int) := by omega
          have hno : L.any oddB = false := by
            have h := hres.out
            rw [List.take_of_length_le (by omega)] at h
            exact h
          have hMw : Hid (M = (isF L && !(true && ch))) := by
            show _ = _
            rw [hMv.out, hno]
            cases ch <;> cases isF L <;> rfl
          have hIL := HI.out wr (HV.out.next hS)
          obtain ⟨I, hI⟩ : ∃ I, Hid (I = isF L) := ⟨_, rfl⟩
          rw [← hI.out] at hMw hIL
          clear hMv hres hno hI
          cases I
          · have hMx : Hid (M = false) := hMw.out
            clear hMw
            go_wp2_with fail
            refine hIL.mono ?_
            rintro e w5 ⟨rfl, hb5⟩
            go_wp2_with fail
            go_ret
            exact ⟨ret_bool hMx.out.symm, (hA.trans hS).trans hb5⟩
          · have hMx : Hid (M = !(true && ch)) := by show _ = _; rw [hMw.out]; rfl
            clear hMw
            go_wp2_with fail
            refine hIL.mono ?_
            rintro e w5 ⟨rfl, hb5⟩
            replace c1 := hb5.cell c1
            go_wp2_with fail
            go_ret
            exact ⟨ret_bool (by rw [hMx.out]; cases ch <;> rfl), (hA.trans hS).trans hb5⟩
    · go_enter Tryz.func32, Tryz.ntmps32
      go_wp2_with fail
      go_loopw [4] (fun i wr => ∃ k : Nat, k ≤ L.length ∧ i = .int .i64 (k : Int) ∧ Since (w.alloc (.cells #[.int .i64 0, .bool ch, .slice a L.length c, .string ⟨ct.toArray⟩] 32)) wr ∧ Hid ((L.take k).any oddB = false)) (fun i _ => L.length - (intOf i).toNat)
      case atStart => exact ⟨0, by omega, rfl, Since.refl _, by show _ = _; simp⟩
      case round =>
        obtain ⟨k, hk, rfl, hS, hres⟩ := hrel
        replace c1 := hS.cell c1
        replace c2 := hS.cell c2
        by_cases hlt : k < L.length
        · obtain ⟨_, b, o, he, hc, hat⟩ := (HV.out.next hS).get (by omega)
          cases he
          have hx := hat k hlt
          have hfl := HF.out _ (List.getElem_mem hlt)
          have htk : L.take (k + 1) = L.take k ++ [L[k]] := List.take_succ_eq_append_getElem hlt
          have hpick : oddB L[k] = true → Hid (L.any oddB = true) := fun h => by show _ = _; exact List.any_eq_true.2 ⟨_, List.getElem_mem hlt, h⟩
          have HTK := Lib.hid htk
          have hkl : (k : Int) < (L.length : Int) := by omega
          clear hat htk
          generalize L[k] = x at *
          obtain ⟨a_s, a_p, a_n, ⟨a_v0, a_l0⟩, ⟨a_v1, a_l1⟩, ⟨a_v2, a_l2⟩, ⟨a_v3, a_l3⟩⟩ := x
          obtain ⟨a_c0, a_c1, a_c2, a_c3, a_c4, a_c5, a_c6, a_c7, a_c8, a_c9, a_c10⟩ := hx.all
          have HC := Lib.hid (fun W => rfact_any a_s a_p a_n a_v0 a_v1 a_v2 a_v3 a_l0 a_l1 a_l2 a_l3 W hfl)
          rw [odd_fact] at HC
          clear hx hfl
          cases ho : oddB ((a_s, a_p, a_n, (a_v0, a_l0), (a_v1, a_l1), (a_v2, a_l2), (a_v3, a_l3)) : Atm)
          · have hnx : Hid ((L.take (k + 1)).any oddB = false) := by
              show _ = _
              rw [HTK.out, List.any_append, hres.out, List.any_cons, ho]; rfl
            rw [ho] at HC
            clear hres HTK ho hpick
            go_wp2_with fail
            refine (HC.out _).mono ?_
            rintro e w4 ⟨rfl, hb4⟩
            clear a_c0 a_c1 a_c2 a_c3 a_c4 a_c5 a_c6 a_c7 a_c8 a_c9 a_c10
            go_wp2_with fail
            go_roundw
            case rel => exact ⟨k + 1, by omega, by go_num, hS.trans hb4, hnx.out⟩
            case measure => simp [intOf]; omega
          · have hany := (hpick ho)
            have hMw : Hid (M = false) := by
              show _ = _
              rw [hMv.out, hany.out]
              simp
            rw [ho] at HC
            clear hres HTK ho hpick hany hMv
            go_wp2_with fail
            refine (HC.out _).mono ?_
            rintro e w4 ⟨rfl, hb4⟩
            clear a_c0 a_c1 a_c2 a_c3 a_c4 a_c5 a_c6 a_c7 a_c8 a_c9 a_c10
            go_wp2_with fail
            go_ret
            exact ⟨ret_bool hMw.out.symm, (hA.trans hS).trans hb4⟩
        · have hkl : ¬ (k : Int) < (L.length : Int) := by omega
          have hno : L.any oddB = false := by
            have h := hres.out
            rw [List.take_of_length_le (by omega)] at h
            exact h
          have hMw : Hid (M = (isF L && !(false && ch))) := by
            show _ = _
            rw [hMv.out, hno]
            cases ch <;> cases isF L <;> rfl
          have hIL := HI.out wr (HV.out.next hS)
          obtain ⟨I, hI⟩ : ∃ I, Hid (I = isF L) := ⟨_, rfl⟩
          rw [← hI.out] at hMw hIL
          clear hMv hres hno hI
          cases I
          · have hMx : Hid (M = false) := hMw.out
            clear hMw
            go_wp2_with fail
            refine hIL.mono ?_
            rintro e w5 ⟨rfl, hb5⟩
            go_wp2_with fail
            go_ret
            exact ⟨ret_bool hMx.out.symm, (hA.trans hS).trans hb5⟩
          · have hMx : Hid (M = !(false && ch)) := by show _ = _; rw [hMw.out]; rfl
            clear hMw
            go_wp2_with fail
            refine hIL.mono ?_
            rintro e w5 ⟨rfl, hb5⟩
            replace c1 := hb5.cell c1
            go_wp2_with fail
            go_ret
            exact ⟨ret_bool (by rw [hMx.out]; cases ch <;> rfl), (hA.trans hS).trans hb5⟩
    · go_enter Tryz.func32, Tryz.ntmps32
      go_wp2_with fail
      go_loopw [4] (fun i wr => ∃ k : Nat, k ≤ L.length ∧ i = .int .i64 (k : Int) ∧ Since (w.alloc (.cells #[.int .i64 0, .bool ch, .slice a L.length c, .string ⟨ct.toArray⟩] 32)) wr ∧ Hid ((L.take k).any oddB = false)) (fun i _ => L.length - (intOf i).toNat)
      case atStart => exact ⟨0, by omega, rfl, Since.refl _, by show _ = _; simp⟩
      case round =>
        obtain ⟨k, hk, rfl, hS, hres⟩ := hrel
        replace c1 := hS.cell c1
        replace c2 := hS.cell c2
        by_cases hlt : k < L.length
        · obtain ⟨_, b, o, he, hc, hat⟩ := (HV.out.next hS).get (by omega)
          cases he
          have hx := hat k hlt
          have hfl := HF.out _ (List.getElem_mem hlt)
          have htk : L.take (k + 1) = L.take k ++ [L[k]] := List.take_succ_eq_append_getElem hlt
          have hpick : oddB L[k] = true → Hid (L.any oddB = true) := fun h => by show _ = _; exact List.any_eq_true.2 ⟨_, List.getElem_mem hlt, h⟩
          have HTK := Lib.hid htk
          have hkl : (k : Int) < (L.length : Int) := by omega
          clear hat htk
          generalize L[k] = x at *
          obtain ⟨a_s, a_p, a_n, ⟨a_v0, a_l0⟩, ⟨a_v1, a_l1⟩, ⟨a_v2, a_l2⟩, ⟨a_v3, a_l3⟩⟩ := x
          obtain ⟨a_c0, a_c1, a_c2, a_c3, a_c4, a_c5, a_c6, a_c7, a_c8, a_c9, a_c10⟩ := hx.all
          have HC := Lib.hid (fun W => rfact_any a_s a_p a_n a_v0 a_v1 a_v2 a_v3 a_l0 a_l1 a_l2 a_l3 W hfl)
          rw [odd_fact] at HC
          clear hx hfl
          cases ho : oddB ((a_s, a_p, a_n, (a_v0, a_l0), (a_v1, a_l1), (a_v2, a_l2), (a_v3, a_l3)) : Atm)
          · have hnx : Hid ((L.take (k + 1)).any oddB = false) := by
              show _ = _
              rw [HTK.out, List.any_append, hres.out, List.any_cons, ho]; rfl
            rw [ho] at HC
            clear hres HTK ho hpick
            go_wp2_with fail
            refine (HC.out _).mono ?_
            rintro e w4 ⟨rfl, hb4⟩
            clear a_c0 a_c1 a_c2 a_c3 a_c4 a_c5 a_c6 a_c7 a_c8 a_c9 a_c10
            go_wp2_with fail
            go_roundw
            case rel => exact ⟨k + 1, by omega, by go_num, hS.trans hb4, hnx.out⟩
            case measure => simp [intOf]; omega
          · have hany := (hpick ho)
            have hMw : Hid (M = false) := by
              show _ = _
              rw [hMv.out, hany.out]
              simp
            rw [ho] at HC
            clear hres HTK ho hpick hany hMv
            go_wp2_with fail
            refine (HC.out _).mono ?_
            rintro e w4 ⟨rfl, hb4⟩
            clear a_c0 a_c1 a_c2 a_c3 a_c4 a_c5 a_c6 a_c7 a_c8 a_c9 a_c10
            go_wp2_with fail
            go_ret
            exact ⟨ret_bool hMw.out.symm, (hA.trans hS).trans hb4⟩
        · have hkl : ¬ (k : Int) < (L.length : Int) := by omega
          have hno : L.any oddB = false := by
            have h := hres.out
            rw [List.take_of_length_le (by omega)] at h
            exact h
          have hMw : Hid (M = (isF L && !(true && ch))) := by
            show _ = _
            rw [hMv.out, hno]
            cases ch <;> cases isF L <;> rfl
          have hIL := HI.out wr (HV.out.next hS)
          obtain ⟨I, hI⟩ : ∃ I, Hid (I = isF L) := ⟨_, rfl⟩
          rw [← hI.out] at hMw hIL
          clear hMv hres hno hI
          cases I
          · have hMx : Hid (M = false) := hMw.out
            clear hMw
            go_wp2_with fail
            refine hIL.mono ?_
            rintro e w5 ⟨rfl, hb5⟩
            go_wp2_with fail
            go_ret
            exact ⟨ret_bool hMx.out.symm, (hA.trans hS).trans hb5⟩
          · have hMx : Hid (M = !(true && ch)) := by show _ = _; rw [hMw.out]; rfl
            clear hMw
            go_wp2_with fail
            refine hIL.mono ?_
            rintro e w5 ⟨rfl, hb5⟩
            replace c1 := hb5.cell c1
            go_wp2_with fail
            go_ret
            exact ⟨ret_bool (by rw [hMx.out]; cases ch <;> rfl), (hA.trans hS).trans hb5⟩
end Go.Proofs.YtkdeokgkjmboeaaGreatDoor
