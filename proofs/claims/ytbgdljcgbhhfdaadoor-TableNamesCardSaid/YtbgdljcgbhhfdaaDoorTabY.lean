/- TableNames: the walk. -/
import Derived.Test.YtbgdljcgbhhfdaaDoorTabS
import Derived.Test.YtbgdljcgbhhfdaaDoorHeldZ
namespace Go.Proofs.YtbgdljcgbhhfdaaDoor
open Go.RowKit Go.Maps Go.WideMaps
attribute [local go_sem ↓] run_atomEq
attribute [local go_sem] eqA_self

section
set_option maxHeartbeats 1000000
theorem tat_nil (i : Int) (w : World) : Calls Tryd.prog 33 #[.pointer none, .int .i64 i] w fun e w' => e = .returned (.pointer none) ∧ Since w w' := by
  go_enter Tryd.func33, Tryd.ntmps33
  go_wp2_with fail
  go_ret
  exact ⟨rfl, Since.refl _⟩
theorem tlen_nil (w : World) : Calls Tryd.prog 14 #[.pointer none] w fun e w' => e = .returned (.int .i64 0) ∧ Since w w' := by
  go_enter Tryd.func14, Tryd.ntmps14
  go_wp2_with fail
  go_ret
  exact ⟨rfl, Since.refl _⟩
theorem tcount_nil (w : World) : Calls Tryd.prog 19 #[.pointer none] w fun e w' => e = .returned (.int .i64 0) ∧ Since w w' := by
  go_enter Tryd.func19, Tryd.ntmps19
  go_wp2_with fail
  go_ret
  exact ⟨rfl, Since.refl _⟩
theorem tW_nil (i x : Int) (w : World) : Calls Tryd.prog 16 #[.pointer none, .int .i64 i, .int .i64 x] w fun e w' => e = .returned (.int .i64 1) ∧ Since w w' := by
  go_enter Tryd.func16, Tryd.ntmps16
  go_wp2_with fail
  go_ret
  exact ⟨rfl, Since.refl _⟩
theorem twaiters_nil (i : Int) (w : World) : Calls Tryd.prog 18 #[.pointer none, .int .i64 i] w fun e w' => e = .returned (.slice none 0 0) ∧ Since w w' := by
  have HAT := Lib.hid (tat_nil i w)
  go_enter Tryd.func18, Tryd.ntmps18
  go_wp2_with fail
  refine HAT.out.mono ?_
  rintro e w2 ⟨rfl, hb⟩
  go_wp2_with fail
  go_ret
  exact ⟨rfl, hb⟩
theorem tans_nil (i : Int) (w : World) : Calls Tryd.prog 23 #[.pointer none, .int .i64 i] w fun e w' => e = .returned (.slice none 0 0) ∧ Since w w' := by
  have HAT := Lib.hid (tat_nil i w)
  go_enter Tryd.func23, Tryd.ntmps23
  go_wp2_with fail
  refine HAT.out.mono ?_
  rintro e w2 ⟨rfl, hb⟩
  go_wp2_with fail
  go_ret
  exact ⟨rfl, hb⟩
theorem topen_nil (a_s a_p : List UInt8) (a_n : Int) (a_v0 a_v1 a_v2 a_v3 : Bool) (a_l0 a_l1 a_l2 a_l3 : List UInt8) (w : World) : Calls Tryd.prog 10 #[.pointer none, .agg #[.string ⟨a_s.toArray⟩, .string ⟨a_p.toArray⟩, .int .i64 a_n, .bool a_v0, .string ⟨a_l0.toArray⟩, .bool a_v1, .string ⟨a_l1.toArray⟩, .bool a_v2, .string ⟨a_l2.toArray⟩, .bool a_v3, .string ⟨a_l3.toArray⟩]] w fun e w' => e = .returned (.tuple #[.int .i64 0, .bool false, .int .i64 1]) ∧ Since w w' := by
  have hS : Since w (w.alloc (.cells #[.string ⟨a_s.toArray⟩, .string ⟨a_p.toArray⟩, .int .i64 a_n, .bool a_v0, .string ⟨a_l0.toArray⟩, .bool a_v1, .string ⟨a_l1.toArray⟩, .bool a_v2, .string ⟨a_l2.toArray⟩, .bool a_v3, .string ⟨a_l3.toArray⟩] 34)) := (Since.refl w).alloc _
  go_enter Tryd.func10, Tryd.ntmps10
  go_wp2_with fail
  go_ret3
  exact ⟨rfl, hS⟩
theorem tadd_nil (i : Int) (a_s a_p : List UInt8) (a_n : Int) (a_v0 a_v1 a_v2 a_v3 : Bool) (a_l0 a_l1 a_l2 a_l3 : List UInt8) (w : World) : Calls Tryd.prog 21 #[.pointer none, .int .i64 i, .agg #[.string ⟨a_s.toArray⟩, .string ⟨a_p.toArray⟩, .int .i64 a_n, .bool a_v0, .string ⟨a_l0.toArray⟩, .bool a_v1, .string ⟨a_l1.toArray⟩, .bool a_v2, .string ⟨a_l2.toArray⟩, .bool a_v3, .string ⟨a_l3.toArray⟩]] w fun e w' => e = .returned (.tuple #[.bool false, .int .i64 1]) ∧ Since w w' := by
  have hS : Since w (w.alloc (.cells #[.string ⟨a_s.toArray⟩, .string ⟨a_p.toArray⟩, .int .i64 a_n, .bool a_v0, .string ⟨a_l0.toArray⟩, .bool a_v1, .string ⟨a_l1.toArray⟩, .bool a_v2, .string ⟨a_l2.toArray⟩, .bool a_v3, .string ⟨a_l3.toArray⟩] 34)) := (Since.refl w).alloc _
  go_enter Tryd.func21, Tryd.ntmps21
  go_wp2_with fail
  go_ret2
  exact ⟨rfl, hS⟩
end
def nmS (A : List Atm) (W : List Int) : List TCall := [((([97], [112], 1, (true, [86, 48]), (false, []), (false, []), (false, [])) : Atm), A, W)]
theorem nm_can : canA (([97], [112], 1, (false, [99]), (false, []), (false, []), (false, [])) : Atm) = (([97], [112], 1, (false, [99]), (false, []), (false, []), (false, [])) : Atm) := by
  have hn : namesA (([97], [112], 1, (false, [99]), (false, []), (false, []), (false, [])) : Atm) true = [] := by
    unfold namesA
    rw [show countA (([97], [112], 1, (false, [99]), (false, []), (false, []), (false, [])) : Atm) = 1 from rfl]
    simp [argsL, namesF]
  unfold canA
  rw [hn, show countA (([97], [112], 1, (false, [99]), (false, []), (false, []), (false, [])) : Atm) = 1 from rfl]
  unfold partC
  simp [canT]
theorem nm_chk : checkA (([97], [112], 1, (true, [86, 48]), (false, []), (false, []), (false, [])) : Atm) = 0 := by kernel_rfl
theorem nm_yes : addOK (([97], [112], 1, (true, [86, 48]), (false, []), (false, []), (false, [])) : Atm) (([97], [112], 1, (false, [99]), (false, []), (false, []), (false, [])) : Atm) = true := by kernel_rfl
theorem nm_q : addOK (([97], [112], 1, (true, [86, 48]), (false, []), (false, []), (false, [])) : Atm) (([97], [113], 1, (false, [99]), (false, []), (false, []), (false, [])) : Atm) = false := by kernel_rfl
theorem nm_x : addOK (([97], [112], 1, (true, [86, 48]), (false, []), (false, []), (false, [])) : Atm) (([97], [112], 1, (true, [88]), (false, []), (false, []), (false, [])) : Atm) = false := by kernel_rfl
theorem nm_zero : ¬ checkA (([], [], 0, (false, []), (false, []), (false, []), (false, [])) : Atm) = 0 := by
  rw [show checkA (([], [], 0, (false, []), (false, []), (false, []), (false, [])) : Atm) = 3 by kernel_rfl]
  decide
theorem fits_z : FitsN (([], [], 0, (false, []), (false, []), (false, []), (false, [])) : Atm) := by
  refine ⟨⟨by simp [maxLen], by simp [maxLen], fun t ht => ?_⟩, by simp, by simp⟩
  simp only [argsL, List.mem_cons, List.not_mem_nil, or_false, or_self] at ht
  rw [ht]; simp [maxLen]
theorem kints_eq (v1 v2 : Value) (L : List Int) (w : World) (h1 : IRow w v1 L) (h2 : IRow w v2 L) (hm : L.length ≤ 1000000) :
    Calls Tryd.prog 17 #[v1, v2] w fun e w' => e = .returned (.bool true) ∧ Since w w' :=
  (ksame_int v1 v2 L L w h1 h2 hm hm).mono fun e w' ⟨h, m, hm⟩ => ⟨by rw [h, decide_eq_true rfl], hm ▸ (Since.refl _).drewN m⟩
theorem irow_lit {W : World} {b : Nat} {x y : Int} (h : Cel W b #[.int .i64 x, .int .i64 y] 3) : IRow W (.slice (some ⟨b, 0, none⟩) 2 2) [x, y] := by
  refine ⟨_, _, rfl, Nat.le_refl _, fun _ => ⟨b, 0, rfl, fun k hk => ?_⟩⟩
  have h2 : k < 2 := hk
  rcases (show k = 0 ∨ k = 1 by omega) with rfl | rfl
  · exact h.cell 0
  · exact h.cell 1
theorem arow_lit {W : World} {b : Nat} {x : Atm} (h : Cel W b (atmC x) 34) : ARow W (.slice (some ⟨b, 0, none⟩) 1 1) [x] := by
  refine ⟨_, _, rfl, Nat.le_refl _, fun _ => ⟨b, 0, rfl, fun k hk => ?_⟩⟩
  obtain rfl : k = 0 := by have : k < 1 := hk; omega
  intro j u hu
  have h2 := h.cell j
  rw [Nat.zero_mul, Nat.add_zero, Nat.zero_add, h2]
  exact hu
set_option maxHeartbeats 1000000 in
set_option maxRecDepth 100000 in
theorem eqg_sameA {o : Oper} {x y : Operand} {ev : Operand → Value} (a_s a_p : List UInt8) (a_n : Int) (a_v0 a_v1 a_v2 a_v3 : Bool) (a_l0 a_l1 a_l2 a_l3 : List UInt8) (ho : o.op = Op.binOp .eql 34 x y 34) (hx : ev x = .agg #[.string ⟨a_s.toArray⟩, .string ⟨a_p.toArray⟩, .int .i64 a_n, .bool a_v0, .string ⟨a_l0.toArray⟩, .bool a_v1, .string ⟨a_l1.toArray⟩, .bool a_v2, .string ⟨a_l2.toArray⟩, .bool a_v3, .string ⟨a_l3.toArray⟩]) (hy : ev y = .agg #[.string ⟨a_s.toArray⟩, .string ⟨a_p.toArray⟩, .int .i64 a_n, .bool a_v0, .string ⟨a_l0.toArray⟩, .bool a_v1, .string ⟨a_l1.toArray⟩, .bool a_v2, .string ⟨a_l2.toArray⟩, .bool a_v3, .string ⟨a_l3.toArray⟩]) (W : World) :
    (execOp ev o).run Tryd.prog W = .ok (.value (.bool true)) W := by
  simp only [execOp, ho]
  go_simp
set_option maxHeartbeats 0 in
set_option maxRecDepth 100000 in
theorem names18_any (w : World) (hE : Env w) : Calls Tryd.prog 6 #[] w fun e w' => e = .returned (.bool true) ∧ Since w w' := by
  have HE := Lib.hid hE
  have HX : Hid (∀ (W : World), Calls Tryd.prog 25 #[.string ⟨#[97]⟩, .string ⟨#[112]⟩, .string ⟨#[88]⟩] W fun e w' => e = .returned (.agg #[.string ⟨#[97]⟩, .string ⟨#[112]⟩, .int .i64 1, .bool true, .string ⟨#[88]⟩, .bool false, .string ⟨#[]⟩, .bool false, .string ⟨#[]⟩, .bool false, .string ⟨#[]⟩]) ∧ Since W w') :=
    fun W => of_any [97] [112] [88] W
  have HXQ : Hid (∀ (W : World), Calls Tryd.prog 25 #[.string ⟨#[97]⟩, .string ⟨#[112]⟩, .string ⟨#[81]⟩] W fun e w' => e = .returned (.agg #[.string ⟨#[97]⟩, .string ⟨#[112]⟩, .int .i64 1, .bool true, .string ⟨#[81]⟩, .bool false, .string ⟨#[]⟩, .bool false, .string ⟨#[]⟩, .bool false, .string ⟨#[]⟩]) ∧ Since W w') :=
    fun W => of_any [97] [112] [81] W
  have HXV : Hid (∀ (W : World), Calls Tryd.prog 25 #[.string ⟨#[97]⟩, .string ⟨#[112]⟩, .string ⟨#[86, 48]⟩] W fun e w' => e = .returned (.agg #[.string ⟨#[97]⟩, .string ⟨#[112]⟩, .int .i64 1, .bool true, .string ⟨#[86, 48]⟩, .bool false, .string ⟨#[]⟩, .bool false, .string ⟨#[]⟩, .bool false, .string ⟨#[]⟩]) ∧ Since W w') :=
    fun W => of_any [97] [112] [86, 48] W
  have HG : Hid (∀ (W : World), Calls Tryd.prog 26 #[.string ⟨#[97]⟩, .string ⟨#[112]⟩, .string ⟨#[99]⟩] W fun e w' => e = .returned (.agg #[.string ⟨#[97]⟩, .string ⟨#[112]⟩, .int .i64 1, .bool false, .string ⟨#[99]⟩, .bool false, .string ⟨#[]⟩, .bool false, .string ⟨#[]⟩, .bool false, .string ⟨#[]⟩]) ∧ Since W w') :=
    fun W => at_any [97] [112] [99] W
  have HQ : Hid (∀ (W : World), Calls Tryd.prog 26 #[.string ⟨#[97]⟩, .string ⟨#[113]⟩, .string ⟨#[99]⟩] W fun e w' => e = .returned (.agg #[.string ⟨#[97]⟩, .string ⟨#[113]⟩, .int .i64 1, .bool false, .string ⟨#[99]⟩, .bool false, .string ⟨#[]⟩, .bool false, .string ⟨#[]⟩, .bool false, .string ⟨#[]⟩]) ∧ Since W w') :=
    fun W => at_any [97] [113] [99] W
  have HO0 : Hid (∀ (W : World) (g B : Nat) (Z : Nat → Prop), Tab W B g Z ([]) → Env W → Calls Tryd.prog 10 #[.pointer (some ⟨g, 0, none⟩), .agg #[.string ⟨#[]⟩, .string ⟨#[]⟩, .int .i64 0, .bool false, .string ⟨#[]⟩, .bool false, .string ⟨#[]⟩, .bool false, .string ⟨#[]⟩, .bool false, .string ⟨#[]⟩]] W fun e w' => e = .returned (.tuple #[.int .i64 0, .bool false, .int .i64 2]) ∧ Since W w') :=
    fun W g B Z h hE => topen_bad [] [] 0 false false false false [] [] [] [] W fits_z hE nm_zero
  have HO1 : Hid (∀ (W : World) (g B : Nat) (Z : Nat → Prop), Tab W B g Z ([]) → Env W → Calls Tryd.prog 10 #[.pointer (some ⟨g, 0, none⟩), .agg #[.string ⟨#[97]⟩, .string ⟨#[112]⟩, .int .i64 1, .bool true, .string ⟨#[88]⟩, .bool false, .string ⟨#[]⟩, .bool false, .string ⟨#[]⟩, .bool false, .string ⟨#[]⟩]] W fun e w' => e = .returned (.tuple #[.int .i64 0, .bool true, .int .i64 0]) ∧ TOp Z B g W w' (nmS [] [])) :=
    fun W g B Z h hE => topen_t [97] [112] 1 true false false false [88] [] [] [] W h (fits_of _ (by simp) (by simp)) hE (by kernel_rfl) (by simp) (by unfold openS; rw [can_of]; rfl)
  have HA1 : Hid (∀ (W : World) (g B : Nat) (Z : Nat → Prop), Tab W B g Z (nmS [] []) → Env W → Calls Tryd.prog 21 #[.pointer (some ⟨g, 0, none⟩), .int .i64 0, .agg #[.string ⟨#[97]⟩, .string ⟨#[112]⟩, .int .i64 1, .bool false, .string ⟨#[99]⟩, .bool false, .string ⟨#[]⟩, .bool false, .string ⟨#[]⟩, .bool false, .string ⟨#[]⟩]] W fun e w' => e = .returned (.tuple #[.bool true, .int .i64 0]) ∧ TOp Z B g W w' (nmS [(([97], [112], 1, (false, [99]), (false, []), (false, []), (false, [])) : Atm)] [])) :=
    fun W g B Z h hE => tadd_t3 0 [97] [112] 1 false false false false [99] [] [] [] W h (by decide) (fits_of _ (by simp) (by simp)) hE nm_chk nm_yes (by simp [nmS]) (by simp [nmS]) (by decide)
  have HA2 : Hid (∀ (W : World) (g B : Nat) (Z : Nat → Prop), Tab W B g Z (nmS [(([97], [112], 1, (false, [99]), (false, []), (false, []), (false, [])) : Atm)] []) → Env W → Calls Tryd.prog 21 #[.pointer (some ⟨g, 0, none⟩), .int .i64 0, .agg #[.string ⟨#[97]⟩, .string ⟨#[112]⟩, .int .i64 1, .bool false, .string ⟨#[99]⟩, .bool false, .string ⟨#[]⟩, .bool false, .string ⟨#[]⟩, .bool false, .string ⟨#[]⟩]] W fun e w' => e = .returned (.tuple #[.bool false, .int .i64 0]) ∧ Since W w') :=
    fun W g B Z h hE => tadd_t2 0 [97] [112] 1 false false false false [99] [] [] [] W h (by decide) (fits_of _ (by simp) (by simp)) hE nm_chk nm_yes (by simp [nmS])
  have HA3 : Hid (∀ (W : World) (g B : Nat) (Z : Nat → Prop), Tab W B g Z (nmS [(([97], [112], 1, (false, [99]), (false, []), (false, []), (false, [])) : Atm)] []) → Env W → Calls Tryd.prog 21 #[.pointer (some ⟨g, 0, none⟩), .int .i64 0, .agg #[.string ⟨#[97]⟩, .string ⟨#[113]⟩, .int .i64 1, .bool false, .string ⟨#[99]⟩, .bool false, .string ⟨#[]⟩, .bool false, .string ⟨#[]⟩, .bool false, .string ⟨#[]⟩]] W fun e w' => e = .returned (.tuple #[.bool false, .int .i64 2]) ∧ Since W w') :=
    fun W g B Z h hE => tadd_t1 0 [97] [113] 1 false false false false [99] [] [] [] W h (by decide) (fits_of _ (by simp) (by simp)) hE nm_chk nm_q
  have HA4 : Hid (∀ (W : World) (g B : Nat) (Z : Nat → Prop), Tab W B g Z (nmS [(([97], [112], 1, (false, [99]), (false, []), (false, []), (false, [])) : Atm)] []) → Env W → Calls Tryd.prog 21 #[.pointer (some ⟨g, 0, none⟩), .int .i64 0, .agg #[.string ⟨#[97]⟩, .string ⟨#[112]⟩, .int .i64 1, .bool true, .string ⟨#[88]⟩, .bool false, .string ⟨#[]⟩, .bool false, .string ⟨#[]⟩, .bool false, .string ⟨#[]⟩]] W fun e w' => e = .returned (.tuple #[.bool false, .int .i64 2]) ∧ Since W w') :=
    fun W g B Z h hE => tadd_t1 0 [97] [112] 1 true false false false [88] [] [] [] W h (by decide) (fits_of _ (by simp) (by simp)) hE nm_chk nm_x
  have HA5 : Hid (∀ (W : World) (g B : Nat) (Z : Nat → Prop), Tab W B g Z (nmS [(([97], [112], 1, (false, [99]), (false, []), (false, []), (false, [])) : Atm)] []) → Env W → Calls Tryd.prog 21 #[.pointer (some ⟨g, 0, none⟩), .int .i64 1, .agg #[.string ⟨#[97]⟩, .string ⟨#[112]⟩, .int .i64 1, .bool false, .string ⟨#[99]⟩, .bool false, .string ⟨#[]⟩, .bool false, .string ⟨#[]⟩, .bool false, .string ⟨#[]⟩]] W fun e w' => e = .returned (.tuple #[.bool false, .int .i64 13]) ∧ Since W w') :=
    fun W g B Z h hE => tadd_tn 1 [97] [112] 1 false false false false [99] [] [] [] W h (.inr (by decide))
  have HW1 : Hid (∀ (W : World) (g B : Nat) (Z : Nat → Prop), Tab W B g Z (nmS [(([97], [112], 1, (false, [99]), (false, []), (false, []), (false, [])) : Atm)] []) → Env W → Calls Tryd.prog 16 #[.pointer (some ⟨g, 0, none⟩), .int .i64 0, .int .i64 7] W fun e w' => e = .returned (.int .i64 0) ∧ TOp Z B g W w' (nmS [(([97], [112], 1, (false, [99]), (false, []), (false, []), (false, [])) : Atm)] [7])) :=
    fun W g B Z h hE => tW_t 0 7 W h (by decide) (by simp [nmS])
  have HW2 : Hid (∀ (W : World) (g B : Nat) (Z : Nat → Prop), Tab W B g Z (nmS [(([97], [112], 1, (false, [99]), (false, []), (false, []), (false, [])) : Atm)] [7]) → Env W → Calls Tryd.prog 16 #[.pointer (some ⟨g, 0, none⟩), .int .i64 0, .int .i64 7] W fun e w' => e = .returned (.int .i64 0) ∧ TOp Z B g W w' (nmS [(([97], [112], 1, (false, [99]), (false, []), (false, []), (false, [])) : Atm)] [7])) :=
    fun W g B Z h hE => tW_t 0 7 W h (by decide) (by simp [nmS])
  have HW3 : Hid (∀ (W : World) (g B : Nat) (Z : Nat → Prop), Tab W B g Z (nmS [(([97], [112], 1, (false, [99]), (false, []), (false, []), (false, [])) : Atm)] [7]) → Env W → Calls Tryd.prog 16 #[.pointer (some ⟨g, 0, none⟩), .int .i64 (-1), .int .i64 7] W fun e w' => e = .returned (.int .i64 13) ∧ Since W w') :=
    fun W g B Z h hE => tW_tn (-1) 7 W h (.inl (by decide))
  have HW4 : Hid (∀ (W : World) (g B : Nat) (Z : Nat → Prop), Tab W B g Z (nmS [(([97], [112], 1, (false, [99]), (false, []), (false, []), (false, [])) : Atm)] [7]) → Env W → Calls Tryd.prog 16 #[.pointer (some ⟨g, 0, none⟩), .int .i64 0, .int .i64 3] W fun e w' => e = .returned (.int .i64 0) ∧ TOp Z B g W w' (nmS [(([97], [112], 1, (false, [99]), (false, []), (false, []), (false, [])) : Atm)] [7, 3])) :=
    fun W g B Z h hE => tW_t 0 3 W h (by decide) (by simp [nmS])
  have HC1 : Hid (∀ (W : World) (g B : Nat) (Z : Nat → Prop), Tab W B g Z (nmS [(([97], [112], 1, (false, [99]), (false, []), (false, []), (false, [])) : Atm)] [7, 3]) → Env W → Calls Tryd.prog 13 #[.pointer (some ⟨g, 0, none⟩), .int .i64 0] W fun e w' => e = .returned (.tuple #[.agg #[.string ⟨#[97]⟩, .string ⟨#[112]⟩, .int .i64 1, .bool true, .string ⟨#[86, 48]⟩, .bool false, .string ⟨#[]⟩, .bool false, .string ⟨#[]⟩, .bool false, .string ⟨#[]⟩], .bool true]) ∧ Since W w') :=
    fun W g B Z h hE => tcall_t 0 W h (by decide)
  have HC2 : Hid (∀ (W : World) (g B : Nat) (Z : Nat → Prop), Tab W B g Z (nmS [(([97], [112], 1, (false, [99]), (false, []), (false, []), (false, [])) : Atm)] [7, 3]) → Env W → Calls Tryd.prog 13 #[.pointer (some ⟨g, 0, none⟩), .int .i64 1] W fun e w' => e = .returned (.tuple #[.agg #[.string ⟨#[]⟩, .string ⟨#[]⟩, .int .i64 0, .bool false, .string ⟨#[]⟩, .bool false, .string ⟨#[]⟩, .bool false, .string ⟨#[]⟩, .bool false, .string ⟨#[]⟩], .bool false]) ∧ Since W w') :=
    fun W g B Z h hE => tcall_tn 1 W h (.inr (by decide))
  have HF1 : Hid (∀ (W : World) (g B : Nat) (Z : Nat → Prop), Tab W B g Z (nmS [(([97], [112], 1, (false, [99]), (false, []), (false, []), (false, [])) : Atm)] [7, 3]) → Env W → Calls Tryd.prog 12 #[.pointer (some ⟨g, 0, none⟩), .agg #[.string ⟨#[97]⟩, .string ⟨#[112]⟩, .int .i64 1, .bool true, .string ⟨#[81]⟩, .bool false, .string ⟨#[]⟩, .bool false, .string ⟨#[]⟩, .bool false, .string ⟨#[]⟩]] W fun e w' => e = .returned (.tuple #[.int .i64 0, .bool true]) ∧ Since W w') :=
    fun W g B Z h hE => by have := tfind_t [97] [112] 1 true false false false [81] [] [] [] W h (fits_of _ (by simp) (by simp)); rw [can_of] at this; exact this
  have HF2 : Hid (∀ (W : World) (g B : Nat) (Z : Nat → Prop), Tab W B g Z (nmS [(([97], [112], 1, (false, [99]), (false, []), (false, []), (false, [])) : Atm)] [7, 3]) → Env W → Calls Tryd.prog 12 #[.pointer (some ⟨g, 0, none⟩), .agg #[.string ⟨#[97]⟩, .string ⟨#[112]⟩, .int .i64 1, .bool false, .string ⟨#[99]⟩, .bool false, .string ⟨#[]⟩, .bool false, .string ⟨#[]⟩, .bool false, .string ⟨#[]⟩]] W fun e w' => e = .returned (.tuple #[.int .i64 0, .bool false]) ∧ Since W w') :=
    fun W g B Z h hE => by have := tfind_t [97] [112] 1 false false false false [99] [] [] [] W h (fits_of _ (by simp) (by simp)); rw [nm_can] at this; exact this
  clear hE
  go_enter Tryd.func6, Tryd.ntmps6
  go_wp2_with fail
  refine (lives18_any _ HE.out).mono ?_
  rintro e w1 ⟨rfl, hS⟩
  go_wp2_with fail
  refine (tnew_t _).mono ?_
  rintro e w2 ⟨g, rfl, ⟨Z, hT⟩, hb⟩
  obtain ⟨B, hB0⟩ : ∃ B, Hid (w1.heap.size = B) := ⟨_, rfl⟩
  have HB : Hid (w.heap.size ≤ B) := by show _ ≤ _; rw [← hB0.out]; exact hS.size
  rw [hB0.out] at hT
  replace hS := hS.trans hb
  clear hb hB0
  go_wp2_with fail
  refine (HO0.out _ _ _ _ hT (HE.out.next hS)).mono ?_
  rintro e w3 ⟨rfl, hb⟩
  replace hS := hS.trans hb
  replace hT := hT.next hb
  clear hb
  go_wp2_with fail
  refine (HX.out _).mono ?_
  rintro e w4 ⟨rfl, hb⟩
  replace hS := hS.trans hb
  replace hT := hT.next hb
  clear hb
  go_wp2_with fail
  refine (HO1.out _ _ _ _ hT (HE.out.next hS)).mono ?_
  rintro e w5 ⟨rfl, hO⟩
  replace hS := hT.since hO.keep hS HB.out
  replace hT := hO.tab
  clear hO HO1
  go_wp2_with fail
  refine (HG.out _).mono ?_
  rintro e w6 ⟨rfl, hb⟩
  replace hS := hS.trans hb
  replace hT := hT.next hb
  clear hb
  go_wp2_with fail
  refine (HA1.out _ _ _ _ hT (HE.out.next hS)).mono ?_
  rintro e w7 ⟨rfl, hO⟩
  replace hS := hT.since hO.keep hS HB.out
  replace hT := hO.tab
  clear hO HA1
  go_wp2_with fail
  refine (HG.out _).mono ?_
  rintro e w8 ⟨rfl, hb⟩
  replace hS := hS.trans hb
  replace hT := hT.next hb
  clear hb
  go_wp2_with fail
  refine (HA2.out _ _ _ _ hT (HE.out.next hS)).mono ?_
  rintro e w9 ⟨rfl, hb⟩
  replace hS := hS.trans hb
  replace hT := hT.next hb
  clear hb
  go_wp2_with fail
  refine (HQ.out _).mono ?_
  rintro e w10 ⟨rfl, hb⟩
  replace hS := hS.trans hb
  replace hT := hT.next hb
  clear hb
  go_wp2_with fail
  refine (HA3.out _ _ _ _ hT (HE.out.next hS)).mono ?_
  rintro e w11 ⟨rfl, hb⟩
  replace hS := hS.trans hb
  replace hT := hT.next hb
  clear hb
  go_wp2_with fail
  refine (HX.out _).mono ?_
  rintro e w12 ⟨rfl, hb⟩
  replace hS := hS.trans hb
  replace hT := hT.next hb
  clear hb
  go_wp2_with fail
  refine (HA4.out _ _ _ _ hT (HE.out.next hS)).mono ?_
  rintro e w13 ⟨rfl, hb⟩
  replace hS := hS.trans hb
  replace hT := hT.next hb
  clear hb
  go_wp2_with fail
  refine (HG.out _).mono ?_
  rintro e w14 ⟨rfl, hb⟩
  replace hS := hS.trans hb
  replace hT := hT.next hb
  clear hb
  go_wp2_with fail
  refine (HA5.out _ _ _ _ hT (HE.out.next hS)).mono ?_
  rintro e w15 ⟨rfl, hb⟩
  replace hS := hS.trans hb
  replace hT := hT.next hb
  clear hb
  go_wp2_with fail
  refine (HW1.out _ _ _ _ hT (HE.out.next hS)).mono ?_
  rintro e w16 ⟨rfl, hO⟩
  replace hS := hT.since hO.keep hS HB.out
  replace hT := hO.tab
  clear hO HW1
  go_wp2_with fail
  refine (HW2.out _ _ _ _ hT (HE.out.next hS)).mono ?_
  rintro e w17 ⟨rfl, hO⟩
  replace hS := hT.since hO.keep hS HB.out
  replace hT := hO.tab
  clear hO HW2
  go_wp2_with fail
  refine (HW3.out _ _ _ _ hT (HE.out.next hS)).mono ?_
  rintro e w18 ⟨rfl, hb⟩
  replace hS := hS.trans hb
  replace hT := hT.next hb
  clear hb
  go_wp2_with fail
  refine (HW4.out _ _ _ _ hT (HE.out.next hS)).mono ?_
  rintro e w19 ⟨rfl, hO⟩
  replace hS := hT.since hO.keep hS HB.out
  replace hT := hO.tab
  clear hO HW4
  go_wp2_with fail
  refine (HC1.out _ _ _ _ hT (HE.out.next hS)).mono ?_
  rintro e w20 ⟨rfl, hb⟩
  replace hS := hS.trans hb
  replace hT := hT.next hb
  clear hb
  have K12 : Hid (Cel (w20.alloc (.cells #[.string ⟨#[]⟩, .string ⟨#[]⟩, .int .i64 0, .bool false, .string ⟨#[]⟩, .bool false, .string ⟨#[]⟩, .bool false, .string ⟨#[]⟩, .bool false, .string ⟨#[]⟩] 34)) w20.heap.size #[.string ⟨#[]⟩, .string ⟨#[]⟩, .int .i64 0, .bool false, .string ⟨#[]⟩, .bool false, .string ⟨#[]⟩, .bool false, .string ⟨#[]⟩, .bool false, .string ⟨#[]⟩] 34) := heap_alloc_new w20 _
  have hone : Hid (((#[.string ⟨#[97]⟩, .string ⟨#[112]⟩, .int .i64 1, .bool true, .string ⟨#[86, 48]⟩, .bool false, .string ⟨#[]⟩, .bool false, .string ⟨#[]⟩, .bool false, .string ⟨#[]⟩] : Array Value).all (·.oneCell')) = true) := by show _ = _; simp [Value.oneCell']
  go_wp2_with (refine wpList_store_row rfl 34 (.tmp 18) (.tmp 86) rfl w20.heap.size #[.string ⟨#[97]⟩, .string ⟨#[112]⟩, .int .i64 1, .bool true, .string ⟨#[86, 48]⟩, .bool false, .string ⟨#[]⟩, .bool false, .string ⟨#[]⟩, .bool false, .string ⟨#[]⟩] rfl rfl 34 #[.string ⟨#[]⟩, .string ⟨#[]⟩, .int .i64 0, .bool false, .string ⟨#[]⟩, .bool false, .string ⟨#[]⟩, .bool false, .string ⟨#[]⟩, .bool false, .string ⟨#[]⟩] K12.out ainfoC rfl hone.out ?_; have hC12 : Cel ((w20.alloc (.cells #[.string ⟨#[]⟩, .string ⟨#[]⟩, .int .i64 0, .bool false, .string ⟨#[]⟩, .bool false, .string ⟨#[]⟩, .bool false, .string ⟨#[]⟩, .bool false, .string ⟨#[]⟩] 34)).setRow w20.heap.size #[.string ⟨#[97]⟩, .string ⟨#[112]⟩, .int .i64 1, .bool true, .string ⟨#[86, 48]⟩, .bool false, .string ⟨#[]⟩, .bool false, .string ⟨#[]⟩, .bool false, .string ⟨#[]⟩]) w20.heap.size #[.string ⟨#[97]⟩, .string ⟨#[112]⟩, .int .i64 1, .bool true, .string ⟨#[86, 48]⟩, .bool false, .string ⟨#[]⟩, .bool false, .string ⟨#[]⟩, .bool false, .string ⟨#[]⟩] 34 := K12.out.row _; have hS12 : Since w20 ((w20.alloc (.cells #[.string ⟨#[]⟩, .string ⟨#[]⟩, .int .i64 0, .bool false, .string ⟨#[]⟩, .bool false, .string ⟨#[]⟩, .bool false, .string ⟨#[]⟩, .bool false, .string ⟨#[]⟩] 34)).setRow w20.heap.size #[.string ⟨#[97]⟩, .string ⟨#[112]⟩, .int .i64 1, .bool true, .string ⟨#[86, 48]⟩, .bool false, .string ⟨#[]⟩, .bool false, .string ⟨#[]⟩, .bool false, .string ⟨#[]⟩]) := since_setRow ((Since.refl w20).alloc _) (Nat.le_refl _) _; replace hS := hS.trans hS12; replace hT := hT.next hS12; obtain ⟨xb, hdb⟩ : ∃ n, Hid (w20.heap.size = n) := ⟨_, rfl⟩; obtain ⟨w21, hw12⟩ : ∃ n, Hid ((w20.alloc (.cells #[.string ⟨#[]⟩, .string ⟨#[]⟩, .int .i64 0, .bool false, .string ⟨#[]⟩, .bool false, .string ⟨#[]⟩, .bool false, .string ⟨#[]⟩, .bool false, .string ⟨#[]⟩] 34)).setRow w20.heap.size #[.string ⟨#[97]⟩, .string ⟨#[112]⟩, .int .i64 1, .bool true, .string ⟨#[86, 48]⟩, .bool false, .string ⟨#[]⟩, .bool false, .string ⟨#[]⟩, .bool false, .string ⟨#[]⟩] = n) := ⟨_, rfl⟩; rw [hw12.out] at hC12 hS12 hS hT; rw [hdb.out] at hC12; rw [hw12.out, hdb.out]; have HXB := Lib.hid hC12; clear hw12 hdb hS12 K12 hone hC12)
  refine (HC2.out _ _ _ _ hT (HE.out.next hS)).mono ?_
  rintro e w22 ⟨rfl, hb⟩
  replace hS := hS.trans hb
  replace hT := hT.next hb
  replace HXB := Lib.hid (HXB.out.next hb)
  clear hb
  have K12 : Hid (Cel (w22.alloc (.cells #[.string ⟨#[]⟩, .string ⟨#[]⟩, .int .i64 0, .bool false, .string ⟨#[]⟩, .bool false, .string ⟨#[]⟩, .bool false, .string ⟨#[]⟩, .bool false, .string ⟨#[]⟩] 34)) w22.heap.size #[.string ⟨#[]⟩, .string ⟨#[]⟩, .int .i64 0, .bool false, .string ⟨#[]⟩, .bool false, .string ⟨#[]⟩, .bool false, .string ⟨#[]⟩, .bool false, .string ⟨#[]⟩] 34) := heap_alloc_new w22 _
  have hone : Hid (((#[.string ⟨#[]⟩, .string ⟨#[]⟩, .int .i64 0, .bool false, .string ⟨#[]⟩, .bool false, .string ⟨#[]⟩, .bool false, .string ⟨#[]⟩, .bool false, .string ⟨#[]⟩] : Array Value).all (·.oneCell')) = true) := by show _ = _; simp [Value.oneCell']
  go_wp2_with (refine wpList_store_row rfl 34 (.tmp 20) (.tmp 91) rfl w22.heap.size #[.string ⟨#[]⟩, .string ⟨#[]⟩, .int .i64 0, .bool false, .string ⟨#[]⟩, .bool false, .string ⟨#[]⟩, .bool false, .string ⟨#[]⟩, .bool false, .string ⟨#[]⟩] rfl rfl 34 #[.string ⟨#[]⟩, .string ⟨#[]⟩, .int .i64 0, .bool false, .string ⟨#[]⟩, .bool false, .string ⟨#[]⟩, .bool false, .string ⟨#[]⟩, .bool false, .string ⟨#[]⟩] K12.out ainfoC rfl hone.out ?_; have hC12 : Cel ((w22.alloc (.cells #[.string ⟨#[]⟩, .string ⟨#[]⟩, .int .i64 0, .bool false, .string ⟨#[]⟩, .bool false, .string ⟨#[]⟩, .bool false, .string ⟨#[]⟩, .bool false, .string ⟨#[]⟩] 34)).setRow w22.heap.size #[.string ⟨#[]⟩, .string ⟨#[]⟩, .int .i64 0, .bool false, .string ⟨#[]⟩, .bool false, .string ⟨#[]⟩, .bool false, .string ⟨#[]⟩, .bool false, .string ⟨#[]⟩]) w22.heap.size #[.string ⟨#[]⟩, .string ⟨#[]⟩, .int .i64 0, .bool false, .string ⟨#[]⟩, .bool false, .string ⟨#[]⟩, .bool false, .string ⟨#[]⟩, .bool false, .string ⟨#[]⟩] 34 := K12.out.row _; have hS12 : Since w22 ((w22.alloc (.cells #[.string ⟨#[]⟩, .string ⟨#[]⟩, .int .i64 0, .bool false, .string ⟨#[]⟩, .bool false, .string ⟨#[]⟩, .bool false, .string ⟨#[]⟩, .bool false, .string ⟨#[]⟩] 34)).setRow w22.heap.size #[.string ⟨#[]⟩, .string ⟨#[]⟩, .int .i64 0, .bool false, .string ⟨#[]⟩, .bool false, .string ⟨#[]⟩, .bool false, .string ⟨#[]⟩, .bool false, .string ⟨#[]⟩]) := since_setRow ((Since.refl w22).alloc _) (Nat.le_refl _) _; replace hS := hS.trans hS12; replace hT := hT.next hS12; obtain ⟨zb, hdb⟩ : ∃ n, Hid (w22.heap.size = n) := ⟨_, rfl⟩; obtain ⟨w23, hw12⟩ : ∃ n, Hid ((w22.alloc (.cells #[.string ⟨#[]⟩, .string ⟨#[]⟩, .int .i64 0, .bool false, .string ⟨#[]⟩, .bool false, .string ⟨#[]⟩, .bool false, .string ⟨#[]⟩, .bool false, .string ⟨#[]⟩] 34)).setRow w22.heap.size #[.string ⟨#[]⟩, .string ⟨#[]⟩, .int .i64 0, .bool false, .string ⟨#[]⟩, .bool false, .string ⟨#[]⟩, .bool false, .string ⟨#[]⟩, .bool false, .string ⟨#[]⟩] = n) := ⟨_, rfl⟩; have hxb := HXB.out.next hS12; rw [hw12.out] at hC12 hS12 hS hT hxb; rw [hdb.out] at hC12; rw [hw12.out, hdb.out]; have HXC := Lib.hid hxb; clear hw12 hdb hS12 K12 hone hC12 HXB hxb)
  refine (HXQ.out _).mono ?_
  rintro e w24 ⟨rfl, hb⟩
  replace hS := hS.trans hb
  replace hT := hT.next hb
  replace HXC := Lib.hid (HXC.out.next hb)
  clear hb
  go_wp2_with fail
  refine (HF1.out _ _ _ _ hT (HE.out.next hS)).mono ?_
  rintro e w25 ⟨rfl, hb⟩
  replace hS := hS.trans hb
  replace hT := hT.next hb
  replace HXC := Lib.hid (HXC.out.next hb)
  clear hb
  go_wp2_with fail
  refine (HG.out _).mono ?_
  rintro e w26 ⟨rfl, hb⟩
  replace hS := hS.trans hb
  replace hT := hT.next hb
  replace HXC := Lib.hid (HXC.out.next hb)
  clear hb
  go_wp2_with fail
  refine (HF2.out _ _ _ _ hT (HE.out.next hS)).mono ?_
  rintro e w27 ⟨rfl, hb⟩
  replace hS := hS.trans hb
  replace hT := hT.next hb
  replace HXC := Lib.hid (HXC.out.next hb)
  clear hb
  go_wp2_with fail
  refine (HX.out _).mono ?_
  rintro e w28 ⟨rfl, hb⟩
  replace hS := hS.trans hb
  replace hT := hT.next hb
  replace HXC := Lib.hid (HXC.out.next hb)
  clear hb
  go_wp2_with fail
  refine (topen_nil [97] [112] 1 true false false false [88] [] [] [] _).mono ?_
  rintro e w29 ⟨rfl, hb⟩
  replace hS := hS.trans hb
  replace hT := hT.next hb
  replace HXC := Lib.hid (HXC.out.next hb)
  clear hb
  go_wp2_with fail
  refine (HG.out _).mono ?_
  rintro e w30 ⟨rfl, hb⟩
  replace hS := hS.trans hb
  replace hT := hT.next hb
  replace HXC := Lib.hid (HXC.out.next hb)
  clear hb
  go_wp2_with fail
  refine (tadd_nil 0 [97] [112] 1 false false false false [99] [] [] [] _).mono ?_
  rintro e w31 ⟨rfl, hb⟩
  replace hS := hS.trans hb
  replace hT := hT.next hb
  replace HXC := Lib.hid (HXC.out.next hb)
  clear hb
  go_upto_region 20 with (fail)
  have hT20 := Lib.hid hT
  have hS20 := Lib.hid hS
  have HWT := Lib.hid (fun W (h : Since w31 W) => twait_t 0 W (hT.next h) (by decide))
  have HAN := Lib.hid (fun W (h : Since w31 W) => tans_t 0 W (hT.next h) (by decide))
  have HA4 := Lib.hid (fun W (h : Since w31 W) => tans_tn 4 W (hT.next h) (.inr (by decide)))
  have HLN := Lib.hid (fun W (h : Since w31 W) => tlen_t W (hT.next h))
  have HCN := Lib.hid (fun W (h : Since w31 W) => tcount_t W (hT.next h))
  have xA := HXC.out.at
  clear hT hS
  simp only [List.append_eq, List.cons_append, List.nil_append]
  have hz0 : Since w31 w31.drew := (Since.refl _).drew
  refine hz_begin (n := 246) (S := fun W => Since w31 W) (by kernel_rfl) (by kernel_rfl) (by kernel_rfl) (fun _ _ _ _ _ h => h) (fun hns hQ => ?_) hz0
  refine hz_take (i := 0) (oi := _) (v := .int .i64 2) rfl rfl hns (by kernel_rfl) hQ (by kernel_rfl) (fun _ _ => by kernel_rfl) hz0 ?_
  refine hz_take (i := 1) (oi := _) (v := .bool true) rfl rfl hns (by kernel_rfl) hQ (by kernel_rfl) (fun W _ => eqs_intE (s := 2) rfl (by kernel_rfl) (by kernel_rfl) W) hz0 ?_
  refine hz_take (i := 2) (oi := _) (v := .bool true) rfl rfl hns (by kernel_rfl) hQ (by kernel_rfl) (fun _ _ => by kernel_rfl) hz0 ?_
  refine hz_take (i := 3) (oi := _) (v := .bool true) rfl rfl hns (by kernel_rfl) hQ (by kernel_rfl) (fun _ _ => by kernel_rfl) hz0 ?_
  refine hz_take (i := 4) (oi := _) (v := .bool true) rfl rfl hns (by kernel_rfl) hQ (by kernel_rfl) (fun _ _ => by kernel_rfl) hz0 ?_
  refine hz_take (i := 5) (oi := _) (v := .bool true) rfl rfl hns (by kernel_rfl) hQ (by kernel_rfl) (fun _ _ => by kernel_rfl) hz0 ?_
  refine hz_take (i := 6) (oi := _) (v := .int .i64 0) rfl rfl hns (by kernel_rfl) hQ (by kernel_rfl) (fun _ _ => by kernel_rfl) hz0 ?_
  refine hz_take (i := 7) (oi := _) (v := .bool true) rfl rfl hns (by kernel_rfl) hQ (by kernel_rfl) (fun W _ => eqs_intE (s := 0) rfl (by kernel_rfl) (by kernel_rfl) W) hz0 ?_
  refine hz_take (i := 8) (oi := _) (v := .bool true) rfl rfl hns (by kernel_rfl) hQ (by kernel_rfl) (fun _ _ => by kernel_rfl) hz0 ?_
  refine hz_take (i := 9) (oi := _) (v := .bool true) rfl rfl hns (by kernel_rfl) hQ (by kernel_rfl) (fun _ _ => by kernel_rfl) hz0 ?_
  refine hz_take (i := 10) (oi := _) (v := .bool false) rfl rfl hns (by kernel_rfl) hQ (by kernel_rfl) (fun _ _ => by kernel_rfl) hz0 ?_
  refine hz_take (i := 11) (oi := _) (v := .bool true) rfl rfl hns (by kernel_rfl) hQ (by kernel_rfl) (fun _ _ => by kernel_rfl) hz0 ?_
  refine hz_take (i := 12) (oi := _) (v := .bool true) rfl rfl hns (by kernel_rfl) hQ (by kernel_rfl) (fun _ _ => by kernel_rfl) hz0 ?_
  refine hz_take (i := 13) (oi := _) (v := .bool true) rfl rfl hns (by kernel_rfl) hQ (by kernel_rfl) (fun _ _ => by kernel_rfl) hz0 ?_
  refine hz_take (i := 14) (oi := _) (v := .int .i64 0) rfl rfl hns (by kernel_rfl) hQ (by kernel_rfl) (fun _ _ => by kernel_rfl) hz0 ?_
  refine hz_take (i := 15) (oi := _) (v := .bool true) rfl rfl hns (by kernel_rfl) hQ (by kernel_rfl) (fun W _ => eqs_intE (s := 0) rfl (by kernel_rfl) (by kernel_rfl) W) hz0 ?_
  refine hz_take (i := 16) (oi := _) (v := .bool true) rfl rfl hns (by kernel_rfl) hQ (by kernel_rfl) (fun _ _ => by kernel_rfl) hz0 ?_
  refine hz_take (i := 17) (oi := _) (v := .bool true) rfl rfl hns (by kernel_rfl) hQ (by kernel_rfl) (fun _ _ => by kernel_rfl) hz0 ?_
  refine hz_take (i := 18) (oi := _) (v := .int .i64 2) rfl rfl hns (by kernel_rfl) hQ (by kernel_rfl) (fun _ _ => by kernel_rfl) hz0 ?_
  refine hz_take (i := 19) (oi := _) (v := .bool true) rfl rfl hns (by kernel_rfl) hQ (by kernel_rfl) (fun W _ => eqs_intE (s := 2) rfl (by kernel_rfl) (by kernel_rfl) W) hz0 ?_
  refine hz_take (i := 20) (oi := _) (v := .bool true) rfl rfl hns (by kernel_rfl) hQ (by kernel_rfl) (fun _ _ => by kernel_rfl) hz0 ?_
  refine hz_take (i := 21) (oi := _) (v := .bool true) rfl rfl hns (by kernel_rfl) hQ (by kernel_rfl) (fun _ _ => by kernel_rfl) hz0 ?_
  refine hz_take (i := 22) (oi := _) (v := .int .i64 2) rfl rfl hns (by kernel_rfl) hQ (by kernel_rfl) (fun _ _ => by kernel_rfl) hz0 ?_
  refine hz_take (i := 23) (oi := _) (v := .bool true) rfl rfl hns (by kernel_rfl) hQ (by kernel_rfl) (fun W _ => eqs_intE (s := 2) rfl (by kernel_rfl) (by kernel_rfl) W) hz0 ?_
  refine hz_take (i := 24) (oi := _) (v := .bool true) rfl rfl hns (by kernel_rfl) hQ (by kernel_rfl) (fun _ _ => by kernel_rfl) hz0 ?_
  refine hz_take (i := 25) (oi := _) (v := .bool true) rfl rfl hns (by kernel_rfl) hQ (by kernel_rfl) (fun _ _ => by kernel_rfl) hz0 ?_
  refine hz_take (i := 26) (oi := _) (v := .int .i64 13) rfl rfl hns (by kernel_rfl) hQ (by kernel_rfl) (fun _ _ => by kernel_rfl) hz0 ?_
  refine hz_take (i := 27) (oi := _) (v := .bool true) rfl rfl hns (by kernel_rfl) hQ (by kernel_rfl) (fun W _ => eqs_intE (s := 13) rfl (by kernel_rfl) (by kernel_rfl) W) hz0 ?_
  refine hz_take (i := 28) (oi := _) (v := .bool true) rfl rfl hns (by kernel_rfl) hQ (by kernel_rfl) (fun _ _ => by kernel_rfl) hz0 ?_
  refine hz_take (i := 29) (oi := _) (v := .bool true) rfl rfl hns (by kernel_rfl) hQ (by kernel_rfl) (fun _ _ => by kernel_rfl) hz0 ?_
  refine hz_take (i := 30) (oi := _) (v := .int .i64 0) rfl rfl hns (by kernel_rfl) hQ (by kernel_rfl) (fun _ _ => by kernel_rfl) hz0 ?_
  refine hz_take (i := 31) (oi := _) (v := .bool true) rfl rfl hns (by kernel_rfl) hQ (by kernel_rfl) (fun W _ => eqs_intE (s := 0) rfl (by kernel_rfl) (by kernel_rfl) W) hz0 ?_
  refine hz_take (i := 32) (oi := _) (v := .bool true) rfl rfl hns (by kernel_rfl) hQ (by kernel_rfl) (fun _ _ => by kernel_rfl) hz0 ?_
  refine hz_take (i := 33) (oi := _) (v := .bool true) rfl rfl hns (by kernel_rfl) hQ (by kernel_rfl) (fun _ _ => by kernel_rfl) hz0 ?_
  refine hz_take (i := 34) (oi := _) (v := .int .i64 0) rfl rfl hns (by kernel_rfl) hQ (by kernel_rfl) (fun _ _ => by kernel_rfl) hz0 ?_
  refine hz_take (i := 35) (oi := _) (v := .bool true) rfl rfl hns (by kernel_rfl) hQ (by kernel_rfl) (fun W _ => eqs_intE (s := 0) rfl (by kernel_rfl) (by kernel_rfl) W) hz0 ?_
  refine hz_take (i := 36) (oi := _) (v := .bool true) rfl rfl hns (by kernel_rfl) hQ (by kernel_rfl) (fun _ _ => by kernel_rfl) hz0 ?_
  refine hz_take (i := 37) (oi := _) (v := .bool true) rfl rfl hns (by kernel_rfl) hQ (by kernel_rfl) (fun _ _ => by kernel_rfl) hz0 ?_
  refine hz_take (i := 38) (oi := _) (v := .int .i64 13) rfl rfl hns (by kernel_rfl) hQ (by kernel_rfl) (fun _ _ => by kernel_rfl) hz0 ?_
  refine hz_take (i := 39) (oi := _) (v := .bool true) rfl rfl hns (by kernel_rfl) hQ (by kernel_rfl) (fun W _ => eqs_intE (s := 13) rfl (by kernel_rfl) (by kernel_rfl) W) hz0 ?_
  refine hz_take (i := 40) (oi := _) (v := .bool true) rfl rfl hns (by kernel_rfl) hQ (by kernel_rfl) (fun _ _ => by kernel_rfl) hz0 ?_
  refine hz_take (i := 41) (oi := _) (v := .bool true) rfl rfl hns (by kernel_rfl) hQ (by kernel_rfl) (fun _ _ => by kernel_rfl) hz0 ?_
  refine hz_take (i := 42) (oi := _) (v := .bool true) rfl rfl hns (by kernel_rfl) hQ (by kernel_rfl) (fun _ _ => by kernel_rfl) hz0 ?_
  refine hz_take (i := 43) (oi := _) (v := .bool true) rfl rfl hns (by kernel_rfl) hQ (by kernel_rfl) (fun _ _ => by kernel_rfl) hz0 ?_
  refine hz_take (i := 44) (oi := _) (v := .bool true) rfl rfl hns (by kernel_rfl) hQ (by kernel_rfl) (fun _ _ => by kernel_rfl) hz0 ?_
  refine hz_take (i := 45) (oi := _) (v := .agg #[.string ⟨#[97]⟩, .string ⟨#[112]⟩, .int .i64 1, .bool true, .string ⟨#[86, 48]⟩, .bool false, .string ⟨#[]⟩, .bool false, .string ⟨#[]⟩, .bool false, .string ⟨#[]⟩]) rfl rfl hns (by kernel_rfl) hQ (by kernel_rfl) (fun W hW => ld_at rfl (by kernel_rfl) (by kernel_rfl) (by kernel_rfl) W (xA.next hW)) hz0 ?_
  refine hz_call (i := 46) (oi := _) 25 #[.string ⟨#[97]⟩, .string ⟨#[112]⟩, .string ⟨#[86, 48]⟩] rfl rfl hns (by kernel_rfl) (by kernel_rfl) (by kernel_rfl) (HXV.out _) ?_
  rintro e wx91 ⟨rfl, hb⟩
  have hz1 : Since w31 wx91 := hz0.trans hb
  clear hb
  refine ⟨_, rfl, hz1, ?_⟩
  refine hz_take (i := 47) (oi := _) (v := .bool true) rfl rfl hns (by kernel_rfl) hQ (by kernel_rfl) (fun W _ => eqg_sameA [97] [112] 1 true false false false [86, 48] [] [] [] rfl (by kernel_rfl) (by kernel_rfl) W) hz1 ?_
  refine hz_take (i := 48) (oi := _) (v := .bool true) rfl rfl hns (by kernel_rfl) hQ (by kernel_rfl) (fun _ _ => by kernel_rfl) hz1 ?_
  refine hz_take (i := 49) (oi := _) (v := .bool true) rfl rfl hns (by kernel_rfl) hQ (by kernel_rfl) (fun _ _ => by kernel_rfl) hz1 ?_
  refine hz_take (i := 50) (oi := _) (v := .bool false) rfl rfl hns (by kernel_rfl) hQ (by kernel_rfl) (fun _ _ => by kernel_rfl) hz1 ?_
  refine hz_take (i := 51) (oi := _) (v := .bool true) rfl rfl hns (by kernel_rfl) hQ (by kernel_rfl) (fun _ _ => by kernel_rfl) hz1 ?_
  refine hz_take (i := 52) (oi := _) (v := .bool true) rfl rfl hns (by kernel_rfl) hQ (by kernel_rfl) (fun _ _ => by kernel_rfl) hz1 ?_
  refine hz_take (i := 53) (oi := _) (v := .bool true) rfl rfl hns (by kernel_rfl) hQ (by kernel_rfl) (fun _ _ => by kernel_rfl) hz1 ?_
  refine hz_take (i := 54) (oi := _) (v := .bool true) rfl rfl hns (by kernel_rfl) hQ (by kernel_rfl) (fun _ _ => by kernel_rfl) hz1 ?_
  refine hz_take (i := 55) (oi := _) (v := .bool true) rfl rfl hns (by kernel_rfl) hQ (by kernel_rfl) (fun _ _ => by kernel_rfl) hz1 ?_
  refine hz_take (i := 56) (oi := _) (v := .bool true) rfl rfl hns (by kernel_rfl) hQ (by kernel_rfl) (fun _ _ => by kernel_rfl) hz1 ?_
  refine hz_take (i := 57) (oi := _) (v := .int .i64 0) rfl rfl hns (by kernel_rfl) hQ (by kernel_rfl) (fun _ _ => by kernel_rfl) hz1 ?_
  refine hz_take (i := 58) (oi := _) (v := .bool true) rfl rfl hns (by kernel_rfl) hQ (by kernel_rfl) (fun W _ => eqs_int (s := 0) rfl (by kernel_rfl) (by kernel_rfl) W) hz1 ?_
  refine hz_take (i := 59) (oi := _) (v := .bool true) rfl rfl hns (by kernel_rfl) hQ (by kernel_rfl) (fun _ _ => by kernel_rfl) hz1 ?_
  refine hz_take (i := 60) (oi := _) (v := .bool true) rfl rfl hns (by kernel_rfl) hQ (by kernel_rfl) (fun _ _ => by kernel_rfl) hz1 ?_
  refine hz_take (i := 61) (oi := _) (v := .bool false) rfl rfl hns (by kernel_rfl) hQ (by kernel_rfl) (fun _ _ => by kernel_rfl) hz1 ?_
  refine hz_take (i := 62) (oi := _) (v := .bool true) rfl rfl hns (by kernel_rfl) hQ (by kernel_rfl) (fun _ _ => by kernel_rfl) hz1 ?_
  refine hz_take (i := 63) (oi := _) (v := .bool true) rfl rfl hns (by kernel_rfl) hQ (by kernel_rfl) (fun _ _ => by kernel_rfl) hz1 ?_
  refine hz_take (i := 64) (oi := _) (v := .bool true) rfl rfl hns (by kernel_rfl) hQ (by kernel_rfl) (fun _ _ => by kernel_rfl) hz1 ?_
  refine hz_take (i := 65) (oi := _) (v := .pointer (some ⟨g, 0, none⟩)) rfl rfl hns (by kernel_rfl) hQ (by kernel_rfl) (fun _ _ => by kernel_rfl) hz1 ?_
  refine hz_join (i := 66) (j := 67) (fun u v W => (∃ a c, u = .slice a 2 c ∧ IRow W u [7, 3]) ∧ ∃ b, v = .slice (some ⟨b, 0, none⟩) 2 2 ∧ Cel W b #[.int .i64 7, .int .i64 3] 3) rfl rfl rfl rfl (by kernel_rfl) hns (by kernel_rfl) (by kernel_rfl) (by kernel_rfl) (by kernel_rfl) (by kernel_rfl) (fun _ => by kernel_rfl) (fun _ => by kernel_rfl) ?_ ?_ ?_
  · refine .calls 18 #[.pointer (some ⟨g, 0, none⟩), .int .i64 0] (by kernel_rfl) (HWT.out _ hz1) ?_
    rintro e wx ⟨vw, rfl, hwv, hb⟩
    refine ⟨_, rfl, hz1.trans hb, .val (.slice (some ⟨wx.heap.size, 0, none⟩) 2 2) (wx.alloc (.cells #[.int .i64 7, .int .i64 3] 3)) (by kernel_rfl) ⟨(hz1.trans hb).alloc _, ?_⟩⟩
    obtain ⟨aw, cw, rfl⟩ : ∃ a c, vw = .slice a 2 c := own_slice hwv
    exact ⟨⟨aw, cw, rfl, own_irow1 (own_since hwv ((Since.refl wx).alloc (.cells #[.int .i64 7, .int .i64 3] 3)))⟩, _, rfl, heap_alloc_new _ _⟩
  · refine .val (.slice (some ⟨wx91.heap.size, 0, none⟩) 2 2) (wx91.alloc (.cells #[.int .i64 7, .int .i64 3] 3)) (by kernel_rfl) ⟨hz1.alloc _, ?_⟩
    refine .calls 18 #[.pointer (some ⟨g, 0, none⟩), .int .i64 0] (by kernel_rfl) (HWT.out _ (hz1.alloc _)) ?_
    rintro e wx ⟨vw, rfl, hwv, hb⟩
    have hk : Cel (wx91.alloc (.cells #[.int .i64 7, .int .i64 3] 3)) wx91.heap.size #[.int .i64 7, .int .i64 3] 3 := heap_alloc_new _ _
    refine ⟨_, rfl, (hz1.alloc _).trans hb, ?_⟩
    obtain ⟨aw, cw, rfl⟩ : ∃ a c, vw = .slice a 2 c := own_slice hwv
    exact ⟨⟨aw, cw, rfl, own_irow1 hwv⟩, _, rfl, hk.next hb⟩
  rintro _ _ wj ⟨⟨aw, cw, rfl, hwv⟩, kb, rfl, k185⟩ hzj
  refine hz_call (i := 68) (oi := _) 17 #[.slice aw 2 cw, .slice (some ⟨kb, 0, none⟩) 2 2] rfl rfl hns (by kernel_rfl) (by kernel_rfl) (by kernel_rfl) (kints_eq _ _ [7, 3] _ (hwv) (irow_lit k185) (by decide)) ?_
  rintro e wx92 ⟨rfl, hb⟩
  have hz2 : Since w31 wx92 := hzj.trans hb
  replace k185 := k185.next hb
  replace hwv := inext hwv hb
  clear hb
  refine ⟨_, rfl, hz2, ?_⟩
  refine hz_take (i := 69) (oi := _) (v := .bool true) rfl rfl hns (by kernel_rfl) hQ (by kernel_rfl) (fun _ _ => by kernel_rfl) hz2 ?_
  refine hz_take (i := 70) (oi := _) (v := .bool true) rfl rfl hns (by kernel_rfl) hQ (by kernel_rfl) (fun _ _ => by kernel_rfl) hz2 ?_
  refine hz_take (i := 71) (oi := _) (v := .pointer (some ⟨g, 0, none⟩)) rfl rfl hns (by kernel_rfl) hQ (by kernel_rfl) (fun _ _ => by kernel_rfl) hz2 ?_
  refine hz_call (i := 72) (oi := _) 23 #[.pointer (some ⟨g, 0, none⟩), .int .i64 0] rfl rfl hns (by kernel_rfl) (by kernel_rfl) (by kernel_rfl) (HAN.out _ hz2) ?_
  rintro e wx93 ⟨va, rfl, hav, hb⟩
  have hz3 : Since w31 wx93 := hz2.trans hb
  replace k185 := k185.next hb
  replace hwv := inext hwv hb
  obtain ⟨aa, ac, rfl⟩ : ∃ a c, va = .slice a 1 c := own_slice hav
  clear hb
  refine ⟨_, rfl, hz3, ?_⟩
  refine hz_call (i := 73) (oi := _) 26 #[.string ⟨#[97]⟩, .string ⟨#[112]⟩, .string ⟨#[99]⟩] rfl rfl hns (by kernel_rfl) (by kernel_rfl) (by kernel_rfl) (HG.out _) ?_
  rintro e wx94 ⟨rfl, hb⟩
  have hz4 : Since w31 wx94 := hz3.trans hb
  replace k185 := k185.next hb
  replace hwv := inext hwv hb
  replace hav := own_since hav hb
  clear hb
  refine ⟨_, rfl, hz4, ?_⟩
  have hz5 : Since w31 (wx94.alloc (.cells #[.string ⟨#[97]⟩, .string ⟨#[112]⟩, .int .i64 1, .bool false, .string ⟨#[99]⟩, .bool false, .string ⟨#[]⟩, .bool false, .string ⟨#[]⟩, .bool false, .string ⟨#[]⟩] 34)) := hz4.alloc _
  replace k185 := k185.next ((Since.refl wx94).alloc (.cells #[.string ⟨#[97]⟩, .string ⟨#[112]⟩, .int .i64 1, .bool false, .string ⟨#[99]⟩, .bool false, .string ⟨#[]⟩, .bool false, .string ⟨#[]⟩, .bool false, .string ⟨#[]⟩] 34))
  replace hwv := inext hwv ((Since.refl wx94).alloc (.cells #[.string ⟨#[97]⟩, .string ⟨#[112]⟩, .int .i64 1, .bool false, .string ⟨#[99]⟩, .bool false, .string ⟨#[]⟩, .bool false, .string ⟨#[]⟩, .bool false, .string ⟨#[]⟩] 34))
  replace hav := own_since hav ((Since.refl wx94).alloc (.cells #[.string ⟨#[97]⟩, .string ⟨#[112]⟩, .int .i64 1, .bool false, .string ⟨#[99]⟩, .bool false, .string ⟨#[]⟩, .bool false, .string ⟨#[]⟩, .bool false, .string ⟨#[]⟩] 34))
  refine hz_make (i := 74) (oi := _) (.slice (some ⟨wx94.heap.size, 0, none⟩) 1 1) (wx94.alloc (.cells #[.string ⟨#[97]⟩, .string ⟨#[112]⟩, .int .i64 1, .bool false, .string ⟨#[99]⟩, .bool false, .string ⟨#[]⟩, .bool false, .string ⟨#[]⟩, .bool false, .string ⟨#[]⟩] 34)) rfl rfl hns (by kernel_rfl) (by kernel_rfl) (by kernel_rfl) hz5 ?_
  have k192 : Cel (wx94.alloc (.cells #[.string ⟨#[97]⟩, .string ⟨#[112]⟩, .int .i64 1, .bool false, .string ⟨#[99]⟩, .bool false, .string ⟨#[]⟩, .bool false, .string ⟨#[]⟩, .bool false, .string ⟨#[]⟩] 34)) wx94.heap.size #[.string ⟨#[97]⟩, .string ⟨#[112]⟩, .int .i64 1, .bool false, .string ⟨#[99]⟩, .bool false, .string ⟨#[]⟩, .bool false, .string ⟨#[]⟩, .bool false, .string ⟨#[]⟩] 34 := heap_alloc_new _ _
  refine hz_call (i := 75) (oi := _) 24 #[.slice aa 1 ac, .slice (some ⟨wx94.heap.size, 0, none⟩) 1 1] rfl rfl hns (by kernel_rfl) (by kernel_rfl) (by kernel_rfl) (same_atms _ _ [(([97], [112], 1, (false, [99]), (false, []), (false, []), (false, [])) : Atm)] _ (own_arow1 hav) (arow_lit (x := (([97], [112], 1, (false, [99]), (false, []), (false, []), (false, [])) : Atm)) k192) (by decide)) ?_
  rintro e wx95 ⟨rfl, hb⟩
  have hz6 : Since w31 wx95 := hz5.trans hb
  replace k185 := k185.next hb
  replace hwv := inext hwv hb
  replace hav := own_since hav hb
  replace k192 := k192.next hb
  clear hb
  refine ⟨_, rfl, hz6, ?_⟩
  refine hz_take (i := 76) (oi := _) (v := .bool true) rfl rfl hns (by kernel_rfl) hQ (by kernel_rfl) (fun _ _ => by kernel_rfl) hz6 ?_
  refine hz_take (i := 77) (oi := _) (v := .bool true) rfl rfl hns (by kernel_rfl) hQ (by kernel_rfl) (fun _ _ => by kernel_rfl) hz6 ?_
  refine hz_take (i := 78) (oi := _) (v := .pointer (some ⟨g, 0, none⟩)) rfl rfl hns (by kernel_rfl) hQ (by kernel_rfl) (fun _ _ => by kernel_rfl) hz6 ?_
  refine hz_call (i := 79) (oi := _) 23 #[.pointer (some ⟨g, 0, none⟩), .int .i64 4] rfl rfl hns (by kernel_rfl) (by kernel_rfl) (by kernel_rfl) (HA4.out _ hz6) ?_
  rintro e wx96 ⟨rfl, hb⟩
  have hz7 : Since w31 wx96 := hz6.trans hb
  replace k185 := k185.next hb
  replace hwv := inext hwv hb
  replace hav := own_since hav hb
  replace k192 := k192.next hb
  clear hb
  refine ⟨_, rfl, hz7, ?_⟩
  refine hz_take (i := 80) (oi := _) (v := .int .i64 0) rfl rfl hns (by kernel_rfl) hQ (by kernel_rfl) (fun _ _ => by kernel_rfl) hz7 ?_
  refine hz_take (i := 81) (oi := _) (v := .bool true) rfl rfl hns (by kernel_rfl) hQ (by kernel_rfl) (fun W _ => eqs_int (s := 0) rfl (by kernel_rfl) (by kernel_rfl) W) hz7 ?_
  refine hz_take (i := 82) (oi := _) (v := .bool true) rfl rfl hns (by kernel_rfl) hQ (by kernel_rfl) (fun _ _ => by kernel_rfl) hz7 ?_
  refine hz_take (i := 83) (oi := _) (v := .bool true) rfl rfl hns (by kernel_rfl) hQ (by kernel_rfl) (fun _ _ => by kernel_rfl) hz7 ?_
  refine hz_take (i := 84) (oi := _) (v := .pointer (some ⟨g, 0, none⟩)) rfl rfl hns (by kernel_rfl) hQ (by kernel_rfl) (fun _ _ => by kernel_rfl) hz7 ?_
  refine hz_call (i := 85) (oi := _) 14 #[.pointer (some ⟨g, 0, none⟩)] rfl rfl hns (by kernel_rfl) (by kernel_rfl) (by kernel_rfl) (HLN.out _ hz7) ?_
  rintro e wx97 ⟨rfl, hb⟩
  have hz8 : Since w31 wx97 := hz7.trans hb
  replace k185 := k185.next hb
  replace hwv := inext hwv hb
  replace hav := own_since hav hb
  replace k192 := k192.next hb
  clear hb
  refine ⟨_, rfl, hz8, ?_⟩
  refine hz_take (i := 86) (oi := _) (v := .bool true) rfl rfl hns (by kernel_rfl) hQ (by kernel_rfl) (fun W _ => eqs_int (s := 1) rfl (by kernel_rfl) (by kernel_rfl) W) hz8 ?_
  refine hz_take (i := 87) (oi := _) (v := .bool true) rfl rfl hns (by kernel_rfl) hQ (by kernel_rfl) (fun _ _ => by kernel_rfl) hz8 ?_
  refine hz_take (i := 88) (oi := _) (v := .bool true) rfl rfl hns (by kernel_rfl) hQ (by kernel_rfl) (fun _ _ => by kernel_rfl) hz8 ?_
  refine hz_take (i := 89) (oi := _) (v := .pointer (some ⟨g, 0, none⟩)) rfl rfl hns (by kernel_rfl) hQ (by kernel_rfl) (fun _ _ => by kernel_rfl) hz8 ?_
  refine hz_call (i := 90) (oi := _) 19 #[.pointer (some ⟨g, 0, none⟩)] rfl rfl hns (by kernel_rfl) (by kernel_rfl) (by kernel_rfl) (HCN.out _ hz8) ?_
  rintro e wx98 ⟨rfl, hb⟩
  have hz9 : Since w31 wx98 := hz8.trans hb
  replace k185 := k185.next hb
  replace hwv := inext hwv hb
  replace hav := own_since hav hb
  replace k192 := k192.next hb
  clear hb
  refine ⟨_, rfl, hz9, ?_⟩
  refine hz_take (i := 91) (oi := _) (v := .bool true) rfl rfl hns (by kernel_rfl) hQ (by kernel_rfl) (fun W _ => eqs_int (s := 1) rfl (by kernel_rfl) (by kernel_rfl) W) hz9 ?_
  refine hz_take (i := 92) (oi := _) (v := .bool true) rfl rfl hns (by kernel_rfl) hQ (by kernel_rfl) (fun _ _ => by kernel_rfl) hz9 ?_
  refine hz_take (i := 93) (oi := _) (v := .bool true) rfl rfl hns (by kernel_rfl) hQ (by kernel_rfl) (fun _ _ => by kernel_rfl) hz9 ?_
  refine hz_take (i := 94) (oi := _) (v := .int .i64 1) rfl rfl hns (by kernel_rfl) hQ (by kernel_rfl) (fun _ _ => by kernel_rfl) hz9 ?_
  refine hz_take (i := 95) (oi := _) (v := .bool true) rfl rfl hns (by kernel_rfl) hQ (by kernel_rfl) (fun W _ => eqs_intE (s := 1) rfl (by kernel_rfl) (by kernel_rfl) W) hz9 ?_
  refine hz_take (i := 96) (oi := _) (v := .bool true) rfl rfl hns (by kernel_rfl) hQ (by kernel_rfl) (fun _ _ => by kernel_rfl) hz9 ?_
  refine hz_take (i := 97) (oi := _) (v := .bool true) rfl rfl hns (by kernel_rfl) hQ (by kernel_rfl) (fun _ _ => by kernel_rfl) hz9 ?_
  refine hz_take (i := 98) (oi := _) (v := .int .i64 1) rfl rfl hns (by kernel_rfl) hQ (by kernel_rfl) (fun _ _ => by kernel_rfl) hz9 ?_
  refine hz_take (i := 99) (oi := _) (v := .bool true) rfl rfl hns (by kernel_rfl) hQ (by kernel_rfl) (fun W _ => eqs_intE (s := 1) rfl (by kernel_rfl) (by kernel_rfl) W) hz9 ?_
  refine hz_take (i := 100) (oi := _) (v := .bool true) rfl rfl hns (by kernel_rfl) hQ (by kernel_rfl) (fun _ _ => by kernel_rfl) hz9 ?_
  refine hz_take (i := 101) (oi := _) (v := .bool true) rfl rfl hns (by kernel_rfl) hQ (by kernel_rfl) (fun _ _ => by kernel_rfl) hz9 ?_
  refine hz_take (i := 102) (oi := _) (v := .pointer none) rfl rfl hns (by kernel_rfl) hQ (by kernel_rfl) (fun _ _ => by kernel_rfl) hz9 ?_
  refine hz_call (i := 103) (oi := _) 16 #[.pointer none, .int .i64 0, .int .i64 1] rfl rfl hns (by kernel_rfl) (by kernel_rfl) (by kernel_rfl) (tW_nil 0 1 _) ?_
  rintro e wx99 ⟨rfl, hb⟩
  have hz10 : Since w31 wx99 := hz9.trans hb
  replace k185 := k185.next hb
  replace hwv := inext hwv hb
  replace hav := own_since hav hb
  replace k192 := k192.next hb
  clear hb
  refine ⟨_, rfl, hz10, ?_⟩
  refine hz_take (i := 104) (oi := _) (v := .bool true) rfl rfl hns (by kernel_rfl) hQ (by kernel_rfl) (fun W _ => eqs_intE (s := 1) rfl (by kernel_rfl) (by kernel_rfl) W) hz10 ?_
  refine hz_take (i := 105) (oi := _) (v := .bool true) rfl rfl hns (by kernel_rfl) hQ (by kernel_rfl) (fun _ _ => by kernel_rfl) hz10 ?_
  refine hz_take (i := 106) (oi := _) (v := .bool true) rfl rfl hns (by kernel_rfl) hQ (by kernel_rfl) (fun _ _ => by kernel_rfl) hz10 ?_
  refine hz_take (i := 107) (oi := _) (v := .pointer none) rfl rfl hns (by kernel_rfl) hQ (by kernel_rfl) (fun _ _ => by kernel_rfl) hz10 ?_
  refine hz_call (i := 108) (oi := _) 14 #[.pointer none] rfl rfl hns (by kernel_rfl) (by kernel_rfl) (by kernel_rfl) (tlen_nil _) ?_
  rintro e wx100 ⟨rfl, hb⟩
  have hz11 : Since w31 wx100 := hz10.trans hb
  replace k185 := k185.next hb
  replace hwv := inext hwv hb
  replace hav := own_since hav hb
  replace k192 := k192.next hb
  clear hb
  refine ⟨_, rfl, hz11, ?_⟩
  refine hz_take (i := 109) (oi := _) (v := .bool true) rfl rfl hns (by kernel_rfl) hQ (by kernel_rfl) (fun W _ => eqs_int (s := 0) rfl (by kernel_rfl) (by kernel_rfl) W) hz11 ?_
  refine hz_take (i := 110) (oi := _) (v := .bool true) rfl rfl hns (by kernel_rfl) hQ (by kernel_rfl) (fun _ _ => by kernel_rfl) hz11 ?_
  refine hz_take (i := 111) (oi := _) (v := .bool true) rfl rfl hns (by kernel_rfl) hQ (by kernel_rfl) (fun _ _ => by kernel_rfl) hz11 ?_
  refine hz_take (i := 112) (oi := _) (v := .pointer none) rfl rfl hns (by kernel_rfl) hQ (by kernel_rfl) (fun _ _ => by kernel_rfl) hz11 ?_
  refine hz_call (i := 113) (oi := _) 19 #[.pointer none] rfl rfl hns (by kernel_rfl) (by kernel_rfl) (by kernel_rfl) (tcount_nil _) ?_
  rintro e wx101 ⟨rfl, hb⟩
  have hz12 : Since w31 wx101 := hz11.trans hb
  replace k185 := k185.next hb
  replace hwv := inext hwv hb
  replace hav := own_since hav hb
  replace k192 := k192.next hb
  clear hb
  refine ⟨_, rfl, hz12, ?_⟩
  refine hz_take (i := 114) (oi := _) (v := .bool true) rfl rfl hns (by kernel_rfl) hQ (by kernel_rfl) (fun W _ => eqs_int (s := 0) rfl (by kernel_rfl) (by kernel_rfl) W) hz12 ?_
  refine hz_take (i := 115) (oi := _) (v := .bool true) rfl rfl hns (by kernel_rfl) hQ (by kernel_rfl) (fun _ _ => by kernel_rfl) hz12 ?_
  refine hz_take (i := 116) (oi := _) (v := .bool true) rfl rfl hns (by kernel_rfl) hQ (by kernel_rfl) (fun _ _ => by kernel_rfl) hz12 ?_
  refine hz_take (i := 117) (oi := _) (v := .pointer none) rfl rfl hns (by kernel_rfl) hQ (by kernel_rfl) (fun _ _ => by kernel_rfl) hz12 ?_
  refine hz_call (i := 118) (oi := _) 18 #[.pointer none, .int .i64 0] rfl rfl hns (by kernel_rfl) (by kernel_rfl) (by kernel_rfl) (twaiters_nil 0 _) ?_
  rintro e wx102 ⟨rfl, hb⟩
  have hz13 : Since w31 wx102 := hz12.trans hb
  replace k185 := k185.next hb
  replace hwv := inext hwv hb
  replace hav := own_since hav hb
  replace k192 := k192.next hb
  clear hb
  refine ⟨_, rfl, hz13, ?_⟩
  refine hz_take (i := 119) (oi := _) (v := .int .i64 0) rfl rfl hns (by kernel_rfl) hQ (by kernel_rfl) (fun _ _ => by kernel_rfl) hz13 ?_
  refine hz_take (i := 120) (oi := _) (v := .bool true) rfl rfl hns (by kernel_rfl) hQ (by kernel_rfl) (fun W _ => eqs_int (s := 0) rfl (by kernel_rfl) (by kernel_rfl) W) hz13 ?_
  refine hz_take (i := 121) (oi := _) (v := .bool true) rfl rfl hns (by kernel_rfl) hQ (by kernel_rfl) (fun _ _ => by kernel_rfl) hz13 ?_
  refine hz_take (i := 122) (oi := _) (v := .bool true) rfl rfl hns (by kernel_rfl) hQ (by kernel_rfl) (fun _ _ => by kernel_rfl) hz13 ?_
  refine hz_take (i := 123) (oi := _) (v := .pointer none) rfl rfl hns (by kernel_rfl) hQ (by kernel_rfl) (fun _ _ => by kernel_rfl) hz13 ?_
  refine hz_call (i := 124) (oi := _) 23 #[.pointer none, .int .i64 0] rfl rfl hns (by kernel_rfl) (by kernel_rfl) (by kernel_rfl) (tans_nil 0 _) ?_
  rintro e wx103 ⟨rfl, hb⟩
  have hz14 : Since w31 wx103 := hz13.trans hb
  replace k185 := k185.next hb
  replace hwv := inext hwv hb
  replace hav := own_since hav hb
  replace k192 := k192.next hb
  clear hb
  refine ⟨_, rfl, hz14, ?_⟩
  refine hz_take (i := 125) (oi := _) (v := .int .i64 0) rfl rfl hns (by kernel_rfl) hQ (by kernel_rfl) (fun _ _ => by kernel_rfl) hz14 ?_
  refine hz_take (i := 126) (oi := _) (v := .bool true) rfl rfl hns (by kernel_rfl) hQ (by kernel_rfl) (fun W _ => eqs_int (s := 0) rfl (by kernel_rfl) (by kernel_rfl) W) hz14 ?_
  refine hz_take (i := 127) (oi := _) (v := .bool true) rfl rfl hns (by kernel_rfl) hQ (by kernel_rfl) (fun _ _ => by kernel_rfl) hz14 ?_
  refine hz_take (i := 128) (oi := _) (v := .bool true) rfl rfl hns (by kernel_rfl) hQ (by kernel_rfl) (fun _ _ => by kernel_rfl) hz14 ?_
  refine hz_fin 0 (.bool true) hns (by kernel_rfl) (by kernel_rfl) (fun L hL => ?_)
  clear hns hQ
  go_wp2_with fail
  go_ret
  refine ⟨?_, hS20.out.trans hz14⟩
  show Ending.returned (L.toArray.getD 0 undef) = _
  rw [hL]
end Go.Proofs.YtbgdljcgbhhfdaaDoor
