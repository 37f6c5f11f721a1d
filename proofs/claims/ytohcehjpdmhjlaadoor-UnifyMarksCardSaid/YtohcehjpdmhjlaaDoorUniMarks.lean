/- UnifyMarks returns true at every two atoms and two marks. -/
import Derived.Test.YtohcehjpdmhjlaaDoorMkR
import Derived.Test.YtohcehjpdmhjlaaDoorUniLv
import Derived.Test.YtohcehjpdmhjlaaDoorRef3N
import Derived.Test.YtohcehjpdmhjlaaDoorPick
import Derived.Deep.RegionHeld3
import Derived.Deep.QuietTactic
import Derived.BigQuiet
namespace Go.Proofs.YtohcehjpdmhjlaaDoor
open Go.RowKit
attribute [local go_sem ↓] run_atomEq run_termEq'

theorem light_ofU {a : Atm} (h : lightB a = true) : Light a := by
  simp only [lightB, Bool.and_eq_true, decide_eq_true_eq, List.all_eq_true] at h
  exact ⟨by omega, by omega, fun t ht => by have := h.2 t ht; omega⟩
theorem nat_mod (n : Int) : ∃ i : Nat, i < 100000000 ∧ n % 100000000 = (i : Int) := ⟨(n % 100000000).toNat, by omega, by omega⟩
theorem var_short {a : Atm} (ka : checkA a = 0) : ∀ l ∈ namesA a true, l ≠ [] ∧ l.length ≤ 255 := by
  intro l hl
  obtain ⟨L, hL, ea, _, _, ht⟩ := valid_pad ka
  rw [ea, namesA_pad hL.1, namesF_mem] at hl
  rcases hl with hl | hl
  · cases hl
  · exact named_term (ht _ hl)
theorem names_cnt (a : Atm) : (namesA a true).length ≤ 4 := by
  have := names_len a
  have := countA_le a
  omega
set_option maxHeartbeats 8000000 in
set_option maxRecDepth 100000 in
theorem marks_main (a_s a_p : List UInt8) (a_n : Int) (a_v0 a_v1 a_v2 a_v3 : Bool) (a_l0 a_l1 a_l2 a_l3 : List UInt8) (b_s b_p : List UInt8) (b_n : Int) (b_v0 b_v1 b_v2 b_v3 : Bool) (b_l0 b_l1 b_l2 b_l3 : List UInt8) (i0 k0 : Int) (bi : -9223372036854775808 ≤ i0 ∧ i0 ≤ 9223372036854775807) (bk : -9223372036854775808 ≤ k0 ∧ k0 ≤ 9223372036854775807) (w : World) (hE : EnvP w) (fa : FitsA ((a_s, a_p, a_n, (a_v0, a_l0), (a_v1, a_l1), (a_v2, a_l2), (a_v3, a_l3)) : Atm)) (fb : FitsA ((b_s, b_p, b_n, (b_v0, b_l0), (b_v1, b_l1), (b_v2, b_l2), (b_v3, b_l3)) : Atm)) (la : lightB ((a_s, a_p, a_n, (a_v0, a_l0), (a_v1, a_l1), (a_v2, a_l2), (a_v3, a_l3)) : Atm) = true) (lb : lightB ((b_s, b_p, b_n, (b_v0, b_l0), (b_v1, b_l1), (b_v2, b_l2), (b_v3, b_l3)) : Atm) = true) (ka : checkA ((a_s, a_p, a_n, (a_v0, a_l0), (a_v1, a_l1), (a_v2, a_l2), (a_v3, a_l3)) : Atm) = 0) (kb : checkA ((b_s, b_p, b_n, (b_v0, b_l0), (b_v1, b_l1), (b_v2, b_l2), (b_v3, b_l3)) : Atm) = 0) :
    Calls Tryd.prog 4 #[.agg #[.string ⟨a_s.toArray⟩, .string ⟨a_p.toArray⟩, .int .i64 a_n, .bool a_v0, .string ⟨a_l0.toArray⟩, .bool a_v1, .string ⟨a_l1.toArray⟩, .bool a_v2, .string ⟨a_l2.toArray⟩, .bool a_v3, .string ⟨a_l3.toArray⟩], .agg #[.string ⟨b_s.toArray⟩, .string ⟨b_p.toArray⟩, .int .i64 b_n, .bool b_v0, .string ⟨b_l0.toArray⟩, .bool b_v1, .string ⟨b_l1.toArray⟩, .bool b_v2, .string ⟨b_l2.toArray⟩, .bool b_v3, .string ⟨b_l3.toArray⟩], .int .i64 i0, .int .i64 k0] w fun e w' => e = .returned (.bool true) ∧ Since w w' := by
  obtain ⟨i, hi, ei⟩ := nat_mod i0
  obtain ⟨k, hk, ek⟩ := nat_mod k0
  have HPI : Hid (∀ W, Calls Tryd.prog 13 #[.int .i64 i0, .int .i64 100000000] W fun e w' => e = .returned (.int .i64 (i : Int)) ∧ Since W w') := by
    intro W; have h := pick_any i0 100000000 W bi.1 bi.2 (by decide) (by decide); rw [ei] at h; exact h.mono fun e w' ⟨h1, h2⟩ => ⟨h1, by rw [h2]; exact Since.refl _⟩
  have HPK : Hid (∀ W, Calls Tryd.prog 13 #[.int .i64 k0, .int .i64 100000000] W fun e w' => e = .returned (.int .i64 (k : Int)) ∧ Since W w') := by
    intro W; have h := pick_any k0 100000000 W bk.1 bk.2 (by decide) (by decide); rw [ek] at h; exact h.mono fun e w' ⟨h1, h2⟩ => ⟨h1, by rw [h2]; exact Since.refl _⟩
  obtain ⟨x, hx⟩ : ∃ x, markA (35 :: Lib.decDigits i) ((a_s, a_p, a_n, (a_v0, a_l0), (a_v1, a_l1), (a_v2, a_l2), (a_v3, a_l3)) : Atm) = x := ⟨_, rfl⟩
  obtain ⟨y, hy⟩ : ∃ y, markA (35 :: Lib.decDigits k) ((b_s, b_p, b_n, (b_v0, b_l0), (b_v1, b_l1), (b_v2, b_l2), (b_v3, b_l3)) : Atm) = y := ⟨_, rfl⟩
  obtain ⟨z, hz⟩ : ∃ z, markA (35 :: Lib.decDigits (i + 1)) ((a_s, a_p, a_n, (a_v0, a_l0), (a_v1, a_l1), (a_v2, a_l2), (a_v3, a_l3)) : Atm) = z := ⟨_, rfl⟩
  have vx := names_mark ka (35 :: Lib.decDigits i)
  have vy := names_mark kb (35 :: Lib.decDigits k)
  have hu := uni_marks ka (Lib.decDigits i) (Lib.decDigits (i + 1))
  have nax : NamA x (countA ((a_s, a_p, a_n, (a_v0, a_l0), (a_v1, a_l1), (a_v2, a_l2), (a_v3, a_l3)) : Atm)) := by rw [← hx]; exact (meet_facts (a := ((a_s, a_p, a_n, (a_v0, a_l0), (a_v1, a_l1), (a_v2, a_l2), (a_v3, a_l3)) : Atm)) ka ka (by have := digits_len (u := i) (by omega); simp only [List.length_cons]; omega) List.mem_cons_self).1
  have naz : NamA z (countA ((a_s, a_p, a_n, (a_v0, a_l0), (a_v1, a_l1), (a_v2, a_l2), (a_v3, a_l3)) : Atm)) := by rw [← hz]; exact (meet_facts (a := ((a_s, a_p, a_n, (a_v0, a_l0), (a_v1, a_l1), (a_v2, a_l2), (a_v3, a_l3)) : Atm)) ka ka (by have := digits_len (u := i + 1) (by omega); simp only [List.length_cons]; omega) List.mem_cons_self).1
  rw [hx] at vx hu
  rw [hy] at vy
  rw [hz] at hu
  obtain ⟨mu, hmu⟩ := hu
  obtain ⟨x_s, x_p, x_n, ⟨x_v0, x_l0⟩, ⟨x_v1, x_l1⟩, ⟨x_v2, x_l2⟩, ⟨x_v3, x_l3⟩⟩ := x
  obtain ⟨y_s, y_p, y_n, ⟨y_v0, y_l0⟩, ⟨y_v1, y_l1⟩, ⟨y_v2, y_l2⟩, ⟨y_v3, y_l3⟩⟩ := y
  obtain ⟨z_s, z_p, z_n, ⟨z_v0, z_l0⟩, ⟨z_v1, z_l1⟩, ⟨z_v2, z_l2⟩, ⟨z_v3, z_l3⟩⟩ := z
  have HRX : Hid (∀ W, Since w W → Calls Tryd.prog 10 #[.agg #[.string ⟨a_s.toArray⟩, .string ⟨a_p.toArray⟩, .int .i64 a_n, .bool a_v0, .string ⟨a_l0.toArray⟩, .bool a_v1, .string ⟨a_l1.toArray⟩, .bool a_v2, .string ⟨a_l2.toArray⟩, .bool a_v3, .string ⟨a_l3.toArray⟩], .int .i64 (i : Int)] W fun e w' => e = .returned (.agg #[.string ⟨x_s.toArray⟩, .string ⟨x_p.toArray⟩, .int .i64 x_n, .bool x_v0, .string ⟨x_l0.toArray⟩, .bool x_v1, .string ⟨x_l1.toArray⟩, .bool x_v2, .string ⟨x_l2.toArray⟩, .bool x_v3, .string ⟨x_l3.toArray⟩]) ∧ Since W w') := by
    intro W hW; have h := rename_nat a_s a_p a_n a_v0 a_v1 a_v2 a_v3 a_l0 a_l1 a_l2 a_l3 ka la i (by omega) W (hE.next hW); rw [hx] at h; exact h
  have HRY : Hid (∀ W, Since w W → Calls Tryd.prog 10 #[.agg #[.string ⟨b_s.toArray⟩, .string ⟨b_p.toArray⟩, .int .i64 b_n, .bool b_v0, .string ⟨b_l0.toArray⟩, .bool b_v1, .string ⟨b_l1.toArray⟩, .bool b_v2, .string ⟨b_l2.toArray⟩, .bool b_v3, .string ⟨b_l3.toArray⟩], .int .i64 (k : Int)] W fun e w' => e = .returned (.agg #[.string ⟨y_s.toArray⟩, .string ⟨y_p.toArray⟩, .int .i64 y_n, .bool y_v0, .string ⟨y_l0.toArray⟩, .bool y_v1, .string ⟨y_l1.toArray⟩, .bool y_v2, .string ⟨y_l2.toArray⟩, .bool y_v3, .string ⟨y_l3.toArray⟩]) ∧ Since W w') := by
    intro W hW; have h := rename_nat b_s b_p b_n b_v0 b_v1 b_v2 b_v3 b_l0 b_l1 b_l2 b_l3 kb lb k (by omega) W (hE.next hW); rw [hy] at h; exact h
  have HRZ : Hid (∀ W, Since w W → Calls Tryd.prog 10 #[.agg #[.string ⟨a_s.toArray⟩, .string ⟨a_p.toArray⟩, .int .i64 a_n, .bool a_v0, .string ⟨a_l0.toArray⟩, .bool a_v1, .string ⟨a_l1.toArray⟩, .bool a_v2, .string ⟨a_l2.toArray⟩, .bool a_v3, .string ⟨a_l3.toArray⟩], .int .i64 (IntKind.i64.wrap ((i : Int) + 1))] W fun e w' => e = .returned (.agg #[.string ⟨z_s.toArray⟩, .string ⟨z_p.toArray⟩, .int .i64 z_n, .bool z_v0, .string ⟨z_l0.toArray⟩, .bool z_v1, .string ⟨z_l1.toArray⟩, .bool z_v2, .string ⟨z_l2.toArray⟩, .bool z_v3, .string ⟨z_l3.toArray⟩]) ∧ Since W w') := by
    intro W hW; have h := rename_nat a_s a_p a_n a_v0 a_v1 a_v2 a_v3 a_l0 a_l1 a_l2 a_l3 ka la (i + 1) (by omega) W (hE.next hW); rw [hz] at h; rw [IntWalk.i64_in _ (by omega)]; exact h
  have HUN := Lib.hid (fun W => unify_nam x_s x_p x_n x_v0 x_v1 x_v2 x_v3 x_l0 x_l1 x_l2 x_l3 z_s z_p z_n z_v0 z_v1 z_v2 z_v3 z_l0 z_l1 z_l2 z_l3 nax naz hmu W)
  have HIT : Hid (∀ W, Since w W → Calls Tryd.prog 26 #[.int .i64 (i : Int)] W fun e w' => e = .returned (.string ⟨(Lib.decDigits i).toArray⟩) ∧ Since W w') := fun W hW => itoa_any i (by omega) W (hE.next hW)
  obtain ⟨V, hV⟩ : ∃ V, namesA ((a_s, a_p, a_n, (a_v0, a_l0), (a_v1, a_l1), (a_v2, a_l2), (a_v3, a_l3)) : Atm) true = V := ⟨_, rfl⟩
  obtain ⟨U, hU⟩ : ∃ U, namesA ((b_s, b_p, b_n, (b_v0, b_l0), (b_v1, b_l1), (b_v2, b_l2), (b_v3, b_l3)) : Atm) true = U := ⟨_, rfl⟩
  have HVX : Hid (∀ W, Calls Tryd.prog 14 #[.agg #[.string ⟨x_s.toArray⟩, .string ⟨x_p.toArray⟩, .int .i64 x_n, .bool x_v0, .string ⟨x_l0.toArray⟩, .bool x_v1, .string ⟨x_l1.toArray⟩, .bool x_v2, .string ⟨x_l2.toArray⟩, .bool x_v3, .string ⟨x_l3.toArray⟩]] W (Strs W (V.map (· ++ 35 :: Lib.decDigits i)))) := by
    intro W; have h := rvars_any x_s x_p x_n x_v0 x_v1 x_v2 x_v3 x_l0 x_l1 x_l2 x_l3 W; rw [vx, hV] at h; exact h
  have HVY : Hid (∀ W, Calls Tryd.prog 14 #[.agg #[.string ⟨y_s.toArray⟩, .string ⟨y_p.toArray⟩, .int .i64 y_n, .bool y_v0, .string ⟨y_l0.toArray⟩, .bool y_v1, .string ⟨y_l1.toArray⟩, .bool y_v2, .string ⟨y_l2.toArray⟩, .bool y_v3, .string ⟨y_l3.toArray⟩]] W (Strs W (U.map (· ++ 35 :: Lib.decDigits k)))) := by
    intro W; have h := rvars_any y_s y_p y_n y_v0 y_v1 y_v2 y_v3 y_l0 y_l1 y_l2 y_l3 W; rw [vy, hU] at h; exact h
  have HVA : Hid (∀ W, Calls Tryd.prog 14 #[.agg #[.string ⟨a_s.toArray⟩, .string ⟨a_p.toArray⟩, .int .i64 a_n, .bool a_v0, .string ⟨a_l0.toArray⟩, .bool a_v1, .string ⟨a_l1.toArray⟩, .bool a_v2, .string ⟨a_l2.toArray⟩, .bool a_v3, .string ⟨a_l3.toArray⟩]] W (Strs W V)) := by
    intro W; have h := rvars_any a_s a_p a_n a_v0 a_v1 a_v2 a_v3 a_l0 a_l1 a_l2 a_l3 W; rw [hV] at h; exact h
  have HSH : Hid (∀ l ∈ V, l ≠ [] ∧ l.length ≤ 255) := by rw [← hV]; exact var_short ka
  have hV4 : V.length ≤ 4 := by rw [← hV]; exact names_cnt _
  have hU4 : U.length ≤ 4 := by rw [← hU]; exact names_cnt _
  have HTX := Lib.hid (fun W => rtext_any a_s a_p a_n a_v0 a_v1 a_v2 a_v3 a_l0 a_l1 a_l2 a_l3 W (light_ofU la))
  obtain ⟨TX, hTX⟩ : ∃ TX, Hid (TX = textA ((a_s, a_p, a_n, (a_v0, a_l0), (a_v1, a_l1), (a_v2, a_l2), (a_v3, a_l3)) : Atm)) := ⟨_, rfl⟩
  rw [← hTX.out] at HTX
  have HRN := Lib.hid (fun W => rename_neg a_s a_p a_n a_v0 a_v1 a_v2 a_v3 a_l0 a_l1 a_l2 a_l3 W)
  have HAP : Hid (¬ i = k → ∀ p ∈ V, ∀ q ∈ U, ((p ++ 35 :: Lib.decDigits i) == (q ++ 35 :: Lib.decDigits k)) = false) := by
    intro hik p _ q _
    rw [beq_eq_false_iff_ne]
    intro e
    exact hik (mark_inj (marked_inj (digits_no_mark _) (digits_no_mark _) e).2)
  clear hx hy hz vx vy hV hU hmu nax naz ei ek bi bk hTX
  have hS : Since w ((w.alloc (.cells #[.string ⟨a_s.toArray⟩, .string ⟨a_p.toArray⟩, .int .i64 a_n, .bool a_v0, .string ⟨a_l0.toArray⟩, .bool a_v1, .string ⟨a_l1.toArray⟩, .bool a_v2, .string ⟨a_l2.toArray⟩, .bool a_v3, .string ⟨a_l3.toArray⟩] 26)).alloc (.cells #[.string ⟨b_s.toArray⟩, .string ⟨b_p.toArray⟩, .int .i64 b_n, .bool b_v0, .string ⟨b_l0.toArray⟩, .bool b_v1, .string ⟨b_l1.toArray⟩, .bool b_v2, .string ⟨b_l2.toArray⟩, .bool b_v3, .string ⟨b_l3.toArray⟩] 26)) := ((Since.refl _).alloc _).alloc _
  have a_B : Box ((w.alloc (.cells #[.string ⟨a_s.toArray⟩, .string ⟨a_p.toArray⟩, .int .i64 a_n, .bool a_v0, .string ⟨a_l0.toArray⟩, .bool a_v1, .string ⟨a_l1.toArray⟩, .bool a_v2, .string ⟨a_l2.toArray⟩, .bool a_v3, .string ⟨a_l3.toArray⟩] 26)).alloc (.cells #[.string ⟨b_s.toArray⟩, .string ⟨b_p.toArray⟩, .int .i64 b_n, .bool b_v0, .string ⟨b_l0.toArray⟩, .bool b_v1, .string ⟨b_l1.toArray⟩, .bool b_v2, .string ⟨b_l2.toArray⟩, .bool b_v3, .string ⟨b_l3.toArray⟩] 26)) w.heap.size ((a_s, a_p, a_n, (a_v0, a_l0), (a_v1, a_l1), (a_v2, a_l2), (a_v3, a_l3)) : Atm) := (box_new w ((a_s, a_p, a_n, (a_v0, a_l0), (a_v1, a_l1), (a_v2, a_l2), (a_v3, a_l3)) : Atm) _).next ((Since.refl _).alloc _)
  have b_B : Box ((w.alloc (.cells #[.string ⟨a_s.toArray⟩, .string ⟨a_p.toArray⟩, .int .i64 a_n, .bool a_v0, .string ⟨a_l0.toArray⟩, .bool a_v1, .string ⟨a_l1.toArray⟩, .bool a_v2, .string ⟨a_l2.toArray⟩, .bool a_v3, .string ⟨a_l3.toArray⟩] 26)).alloc (.cells #[.string ⟨b_s.toArray⟩, .string ⟨b_p.toArray⟩, .int .i64 b_n, .bool b_v0, .string ⟨b_l0.toArray⟩, .bool b_v1, .string ⟨b_l1.toArray⟩, .bool b_v2, .string ⟨b_l2.toArray⟩, .bool b_v3, .string ⟨b_l3.toArray⟩] 26)) (w.heap.size + 1) ((b_s, b_p, b_n, (b_v0, b_l0), (b_v1, b_l1), (b_v2, b_l2), (b_v3, b_l3)) : Atm) := by
    have := box_new (w.alloc (.cells #[.string ⟨a_s.toArray⟩, .string ⟨a_p.toArray⟩, .int .i64 a_n, .bool a_v0, .string ⟨a_l0.toArray⟩, .bool a_v1, .string ⟨a_l1.toArray⟩, .bool a_v2, .string ⟨a_l2.toArray⟩, .bool a_v3, .string ⟨a_l3.toArray⟩] 26)) ((b_s, b_p, b_n, (b_v0, b_l0), (b_v1, b_l1), (b_v2, b_l2), (b_v3, b_l3)) : Atm) 26
    rwa [World.size_alloc] at this
  obtain ⟨a_c0, a_c1, a_c2, a_c3, a_c4, a_c5, a_c6, a_c7, a_c8, a_c9, a_c10⟩ := a_B.all
  obtain ⟨b_c0, b_c1, b_c2, b_c3, b_c4, b_c5, b_c6, b_c7, b_c8, b_c9, b_c10⟩ := b_B.all
  have HFA := Lib.hid fa
  have HFB := Lib.hid fb
  clear fa fb
  go_enter Tryd.func4, Tryd.ntmps4
  go_wp2_with (first
      | (go_at_call 6; refine (lives06_any _).mono ?_; rintro e w1 ⟨rfl, hb⟩; replace hS := hS.trans hb; replace a_B := a_B.next hb; replace a_c0 := hb.cell a_c0; replace a_c1 := hb.cell a_c1; replace a_c2 := hb.cell a_c2; replace a_c3 := hb.cell a_c3; replace a_c4 := hb.cell a_c4; replace a_c5 := hb.cell a_c5; replace a_c6 := hb.cell a_c6; replace a_c7 := hb.cell a_c7; replace a_c8 := hb.cell a_c8; replace a_c9 := hb.cell a_c9; replace a_c10 := hb.cell a_c10; replace b_B := b_B.next hb; replace b_c0 := hb.cell b_c0; replace b_c1 := hb.cell b_c1; replace b_c2 := hb.cell b_c2; replace b_c3 := hb.cell b_c3; replace b_c4 := hb.cell b_c4; replace b_c5 := hb.cell b_c5; replace b_c6 := hb.cell b_c6; replace b_c7 := hb.cell b_c7; replace b_c8 := hb.cell b_c8; replace b_c9 := hb.cell b_c9; replace b_c10 := hb.cell b_c10)
      | (go_at_call 7; first | ((with_reducible refine (light_any a_s a_p a_n a_v0 a_v1 a_v2 a_v3 a_l0 a_l1 a_l2 a_l3 _).mono ?_); rintro e w1 ⟨rfl, hb⟩; rw [la]; replace hS := hS.trans hb; replace a_B := a_B.next hb; replace a_c0 := hb.cell a_c0; replace a_c1 := hb.cell a_c1; replace a_c2 := hb.cell a_c2; replace a_c3 := hb.cell a_c3; replace a_c4 := hb.cell a_c4; replace a_c5 := hb.cell a_c5; replace a_c6 := hb.cell a_c6; replace a_c7 := hb.cell a_c7; replace a_c8 := hb.cell a_c8; replace a_c9 := hb.cell a_c9; replace a_c10 := hb.cell a_c10; replace b_B := b_B.next hb; replace b_c0 := hb.cell b_c0; replace b_c1 := hb.cell b_c1; replace b_c2 := hb.cell b_c2; replace b_c3 := hb.cell b_c3; replace b_c4 := hb.cell b_c4; replace b_c5 := hb.cell b_c5; replace b_c6 := hb.cell b_c6; replace b_c7 := hb.cell b_c7; replace b_c8 := hb.cell b_c8; replace b_c9 := hb.cell b_c9; replace b_c10 := hb.cell b_c10) | ((with_reducible refine (light_any b_s b_p b_n b_v0 b_v1 b_v2 b_v3 b_l0 b_l1 b_l2 b_l3 _).mono ?_); rintro e w1 ⟨rfl, hb⟩; rw [lb]; replace hS := hS.trans hb; replace a_B := a_B.next hb; replace a_c0 := hb.cell a_c0; replace a_c1 := hb.cell a_c1; replace a_c2 := hb.cell a_c2; replace a_c3 := hb.cell a_c3; replace a_c4 := hb.cell a_c4; replace a_c5 := hb.cell a_c5; replace a_c6 := hb.cell a_c6; replace a_c7 := hb.cell a_c7; replace a_c8 := hb.cell a_c8; replace a_c9 := hb.cell a_c9; replace a_c10 := hb.cell a_c10; replace b_B := b_B.next hb; replace b_c0 := hb.cell b_c0; replace b_c1 := hb.cell b_c1; replace b_c2 := hb.cell b_c2; replace b_c3 := hb.cell b_c3; replace b_c4 := hb.cell b_c4; replace b_c5 := hb.cell b_c5; replace b_c6 := hb.cell b_c6; replace b_c7 := hb.cell b_c7; replace b_c8 := hb.cell b_c8; replace b_c9 := hb.cell b_c9; replace b_c10 := hb.cell b_c10))
      | (go_at_call 8; first | ((with_reducible refine (rcheck_any a_s a_p a_n a_v0 a_v1 a_v2 a_v3 a_l0 a_l1 a_l2 a_l3 _ HFA.out).mono ?_); rintro e w1 ⟨rfl, hb⟩; (try rw [ka]); replace hS := hS.trans hb; replace a_B := a_B.next hb; replace a_c0 := hb.cell a_c0; replace a_c1 := hb.cell a_c1; replace a_c2 := hb.cell a_c2; replace a_c3 := hb.cell a_c3; replace a_c4 := hb.cell a_c4; replace a_c5 := hb.cell a_c5; replace a_c6 := hb.cell a_c6; replace a_c7 := hb.cell a_c7; replace a_c8 := hb.cell a_c8; replace a_c9 := hb.cell a_c9; replace a_c10 := hb.cell a_c10; replace b_B := b_B.next hb; replace b_c0 := hb.cell b_c0; replace b_c1 := hb.cell b_c1; replace b_c2 := hb.cell b_c2; replace b_c3 := hb.cell b_c3; replace b_c4 := hb.cell b_c4; replace b_c5 := hb.cell b_c5; replace b_c6 := hb.cell b_c6; replace b_c7 := hb.cell b_c7; replace b_c8 := hb.cell b_c8; replace b_c9 := hb.cell b_c9; replace b_c10 := hb.cell b_c10) | ((with_reducible refine (rcheck_any b_s b_p b_n b_v0 b_v1 b_v2 b_v3 b_l0 b_l1 b_l2 b_l3 _ HFB.out).mono ?_); rintro e w1 ⟨rfl, hb⟩; (try rw [kb]); replace hS := hS.trans hb; replace a_B := a_B.next hb; replace a_c0 := hb.cell a_c0; replace a_c1 := hb.cell a_c1; replace a_c2 := hb.cell a_c2; replace a_c3 := hb.cell a_c3; replace a_c4 := hb.cell a_c4; replace a_c5 := hb.cell a_c5; replace a_c6 := hb.cell a_c6; replace a_c7 := hb.cell a_c7; replace a_c8 := hb.cell a_c8; replace a_c9 := hb.cell a_c9; replace a_c10 := hb.cell a_c10; replace b_B := b_B.next hb; replace b_c0 := hb.cell b_c0; replace b_c1 := hb.cell b_c1; replace b_c2 := hb.cell b_c2; replace b_c3 := hb.cell b_c3; replace b_c4 := hb.cell b_c4; replace b_c5 := hb.cell b_c5; replace b_c6 := hb.cell b_c6; replace b_c7 := hb.cell b_c7; replace b_c8 := hb.cell b_c8; replace b_c9 := hb.cell b_c9; replace b_c10 := hb.cell b_c10)))
  refine (HPI.out _).mono ?_
  rintro e w3 ⟨rfl, hb⟩
  replace hS := hS.trans hb; replace a_B := a_B.next hb; replace b_B := b_B.next hb
  clear hb a_c0 a_c1 a_c2 a_c3 a_c4 a_c5 a_c6 a_c7 a_c8 a_c9 a_c10 b_c0 b_c1 b_c2 b_c3 b_c4 b_c5 b_c6 b_c7 b_c8 b_c9 b_c10
  go_wp2_with fail
  refine (HPK.out _).mono ?_
  rintro e w4 ⟨rfl, hb⟩
  have hSo := hS.trans hb; replace a_B := a_B.next hb; replace b_B := b_B.next hb
  clear hb HPI HPK hS
  go_wp2_with fail
  refine wp_region_invX (X := Value × Value × Value × Value × Value × Value × Value × Value × Nat × Nat) (fun a0 x => match x with | (x44, x45, x46, x47, x48, x49, x9, x10, g9, g10) => Act.put (Act.put (Act.put (Act.put (Act.put (Act.put (Act.put (Act.put (a0) (some 44) x44) (some 45) x45) (some 46) x46) (some 47) x47) (some 48) x48) (some 49) x49) (some 9) x9) (some 10) x10) (fun x L W => match x with | (x44, x45, x46, x47, x48, x49, x9, x10, g9, g10) => Since (w4) W ∧ (L.getD 0 false = true → x44 = .agg #[.string ⟨a_s.toArray⟩, .string ⟨a_p.toArray⟩, .int .i64 a_n, .bool a_v0, .string ⟨a_l0.toArray⟩, .bool a_v1, .string ⟨a_l1.toArray⟩, .bool a_v2, .string ⟨a_l2.toArray⟩, .bool a_v3, .string ⟨a_l3.toArray⟩]) ∧ (L.getD 1 false = true → x45 = .int .i64 (i : Int)) ∧ (L.getD 2 false = true → x46 = .agg #[.string ⟨x_s.toArray⟩, .string ⟨x_p.toArray⟩, .int .i64 x_n, .bool x_v0, .string ⟨x_l0.toArray⟩, .bool x_v1, .string ⟨x_l1.toArray⟩, .bool x_v2, .string ⟨x_l2.toArray⟩, .bool x_v3, .string ⟨x_l3.toArray⟩]) ∧ (L.getD 3 false = true → x47 = .agg #[.string ⟨b_s.toArray⟩, .string ⟨b_p.toArray⟩, .int .i64 b_n, .bool b_v0, .string ⟨b_l0.toArray⟩, .bool b_v1, .string ⟨b_l1.toArray⟩, .bool b_v2, .string ⟨b_l2.toArray⟩, .bool b_v3, .string ⟨b_l3.toArray⟩]) ∧ (L.getD 4 false = true → x48 = .int .i64 (k : Int)) ∧ (L.getD 5 false = true → x49 = .agg #[.string ⟨y_s.toArray⟩, .string ⟨y_p.toArray⟩, .int .i64 y_n, .bool y_v0, .string ⟨y_l0.toArray⟩, .bool y_v1, .string ⟨y_l1.toArray⟩, .bool y_v2, .string ⟨y_l2.toArray⟩, .bool y_v3, .string ⟨y_l3.toArray⟩]) ∧ (L.getD 6 false = true → x9 = .pointer (some ⟨g9, 0, none⟩) ∧ (w4).heap.size ≤ g9 ∧ g9 < W.heap.size) ∧ (L.getD 8 false = true → L.getD 6 false = true) ∧ (L.getD 6 false = true → L.getD 8 false = false → Cel W g9 #[.string ⟨#[]⟩, .string ⟨#[]⟩, .int .i64 0, .bool false, .string ⟨#[]⟩, .bool false, .string ⟨#[]⟩, .bool false, .string ⟨#[]⟩, .bool false, .string ⟨#[]⟩] 26) ∧ (L.getD 8 false = true → Cel W g9 #[.string ⟨x_s.toArray⟩, .string ⟨x_p.toArray⟩, .int .i64 x_n, .bool x_v0, .string ⟨x_l0.toArray⟩, .bool x_v1, .string ⟨x_l1.toArray⟩, .bool x_v2, .string ⟨x_l2.toArray⟩, .bool x_v3, .string ⟨x_l3.toArray⟩] 26) ∧ (L.getD 7 false = true → x10 = .pointer (some ⟨g10, 0, none⟩) ∧ (w4).heap.size ≤ g10 ∧ g10 < W.heap.size) ∧ (L.getD 9 false = true → L.getD 7 false = true) ∧ (L.getD 7 false = true → L.getD 9 false = false → Cel W g10 #[.string ⟨#[]⟩, .string ⟨#[]⟩, .int .i64 0, .bool false, .string ⟨#[]⟩, .bool false, .string ⟨#[]⟩, .bool false, .string ⟨#[]⟩, .bool false, .string ⟨#[]⟩] 26) ∧ (L.getD 9 false = true → Cel W g10 #[.string ⟨y_s.toArray⟩, .string ⟨y_p.toArray⟩, .int .i64 y_n, .bool y_v0, .string ⟨y_l0.toArray⟩, .bool y_v1, .string ⟨y_l1.toArray⟩, .bool y_v2, .string ⟨y_l2.toArray⟩, .bool y_v3, .string ⟨y_l3.toArray⟩] 26) ∧ (L.getD 6 false = true → L.getD 7 false = true → g9 ≠ g10)) (by kernel_rfl) (by kernel_rfl) ?start ?steps ?stop
  case start => exact fun b v hv => ⟨(v 44, v 45, v 46, v 47, v 48, v 49, v 9, v 10, 0, 0), (by simp only [hv]), (Since.refl _).drew, fun h => none_yet h, fun h => none_yet h, fun h => none_yet h, fun h => none_yet h, fun h => none_yet h, fun h => none_yet h, fun h => none_yet h, fun h => none_yet h, fun h => none_yet h, fun h => none_yet h, fun h => none_yet h, fun h => none_yet h, fun h => none_yet h, fun h => none_yet h, fun h => none_yet h⟩
  case steps =>
    refine ⟨⟨rfl, ?_⟩, ⟨rfl, ?_⟩, ⟨rfl, ?_⟩, ⟨rfl, ?_⟩, ⟨rfl, ?_⟩, ⟨rfl, ?_⟩, ⟨rfl, ?_⟩, ⟨rfl, ?_⟩, ⟨rfl, ?_⟩, ⟨rfl, ?_⟩, trivial⟩
    · intro L x W hJ hlt hk hd K' hK
      obtain ⟨x44, x45, x46, x47, x48, x49, x9, x10, g9, g10⟩ := x
      obtain ⟨hS, f0, f1, f2, f3, f4, f5, p6, q6, z6, c6, p7, q7, z7, c7, n6_7⟩ := hJ
      obtain ⟨a_c0, a_c1, a_c2, a_c3, a_c4, a_c5, a_c6, a_c7, a_c8, a_c9, a_c10⟩ := (a_B.next hS).all
      refine ⟨?_⟩
      simp only [Act.put, List.setIfInBounds_toArray, List.set_cons_zero, List.set_cons_succ]
      go_simp
      refine kput (hK ((.agg #[.string ⟨a_s.toArray⟩, .string ⟨a_p.toArray⟩, .int .i64 a_n, .bool a_v0, .string ⟨a_l0.toArray⟩, .bool a_v1, .string ⟨a_l1.toArray⟩, .bool a_v2, .string ⟨a_l2.toArray⟩, .bool a_v3, .string ⟨a_l3.toArray⟩]), x45, x46, x47, x48, x49, x9, x10, g9, g10) _ ⟨hS, fun _ => rfl, fun h => f1 (not_k h (by decide)), fun h => f2 (not_k h (by decide)), fun h => f3 (not_k h (by decide)), fun h => f4 (not_k h (by decide)), fun h => f5 (not_k h (by decide)), fun h => p6 (not_k h (by decide)), fun h => getD_set_true (q6 (not_k h (by decide))), fun h h2 => z6 (not_k h (by decide)) (not_k' h2 (by decide)), fun h => c6 (not_k h (by decide)), fun h => p7 (not_k h (by decide)), fun h => getD_set_true (q7 (not_k h (by decide))), fun h h2 => z7 (not_k h (by decide)) (not_k' h2 (by decide)), fun h => c7 (not_k h (by decide)), fun h h2 => n6_7 (not_k h (by decide)) (not_k h2 (by decide))⟩) ?_
      simp only [Act.put, List.setIfInBounds_toArray, List.set_cons_zero, List.set_cons_succ]
    · intro L x W hJ hlt hk hd K' hK
      obtain ⟨x44, x45, x46, x47, x48, x49, x9, x10, g9, g10⟩ := x
      obtain ⟨hS, f0, f1, f2, f3, f4, f5, p6, q6, z6, c6, p7, q7, z7, c7, n6_7⟩ := hJ
      refine ⟨?_⟩
      simp only [Act.put, List.setIfInBounds_toArray, List.set_cons_zero, List.set_cons_succ]
      go_simp
      refine kput (hK (x44, (.int .i64 (i : Int)), x46, x47, x48, x49, x9, x10, g9, g10) _ ⟨hS, fun h => f0 (not_k h (by decide)), fun _ => rfl, fun h => f2 (not_k h (by decide)), fun h => f3 (not_k h (by decide)), fun h => f4 (not_k h (by decide)), fun h => f5 (not_k h (by decide)), fun h => p6 (not_k h (by decide)), fun h => getD_set_true (q6 (not_k h (by decide))), fun h h2 => z6 (not_k h (by decide)) (not_k' h2 (by decide)), fun h => c6 (not_k h (by decide)), fun h => p7 (not_k h (by decide)), fun h => getD_set_true (q7 (not_k h (by decide))), fun h h2 => z7 (not_k h (by decide)) (not_k' h2 (by decide)), fun h => c7 (not_k h (by decide)), fun h h2 => n6_7 (not_k h (by decide)) (not_k h2 (by decide))⟩) ?_
      simp only [Act.put, List.setIfInBounds_toArray, List.set_cons_zero, List.set_cons_succ]
    · intro L x W hJ hlt hk hd K' hK
      obtain ⟨x44, x45, x46, x47, x48, x49, x9, x10, g9, g10⟩ := x
      obtain ⟨hS, f0, f1, f2, f3, f4, f5, p6, q6, z6, c6, p7, q7, z7, c7, n6_7⟩ := hJ
      have d0 : L.getD 0 false = true := dep_of hd 0 (by rfl)
      obtain rfl := (f0 d0).symm
      have d1 : L.getD 1 false = true := dep_of hd 1 (by rfl)
      obtain rfl := (f1 d1).symm
      refine ⟨?_⟩
      simp only [Act.put, List.setIfInBounds_toArray, List.set_cons_zero, List.set_cons_succ]
      (go_simp; go_at_call 10; refine (HRX.out _ (hSo.trans hS)).mono ?_; rintro e w2 ⟨rfl, hb⟩; (try go_simp))
      refine kput (hK ((.agg #[.string ⟨a_s.toArray⟩, .string ⟨a_p.toArray⟩, .int .i64 a_n, .bool a_v0, .string ⟨a_l0.toArray⟩, .bool a_v1, .string ⟨a_l1.toArray⟩, .bool a_v2, .string ⟨a_l2.toArray⟩, .bool a_v3, .string ⟨a_l3.toArray⟩]), (.int .i64 (i : Int)), (.agg #[.string ⟨x_s.toArray⟩, .string ⟨x_p.toArray⟩, .int .i64 x_n, .bool x_v0, .string ⟨x_l0.toArray⟩, .bool x_v1, .string ⟨x_l1.toArray⟩, .bool x_v2, .string ⟨x_l2.toArray⟩, .bool x_v3, .string ⟨x_l3.toArray⟩]), x47, x48, x49, x9, x10, g9, g10) _ ⟨hS.trans hb, fun h => f0 (not_k h (by decide)), fun h => f1 (not_k h (by decide)), fun _ => rfl, fun h => f3 (not_k h (by decide)), fun h => f4 (not_k h (by decide)), fun h => f5 (not_k h (by decide)), fun h => ⟨(p6 (not_k h (by decide))).1, (p6 (not_k h (by decide))).2.1, Nat.lt_of_lt_of_le (p6 (not_k h (by decide))).2.2 hb.size⟩, fun h => getD_set_true (q6 (not_k h (by decide))), fun h h2 => (z6 (not_k h (by decide)) (not_k' h2 (by decide))).next hb, fun h => (c6 (not_k h (by decide))).next hb, fun h => ⟨(p7 (not_k h (by decide))).1, (p7 (not_k h (by decide))).2.1, Nat.lt_of_lt_of_le (p7 (not_k h (by decide))).2.2 hb.size⟩, fun h => getD_set_true (q7 (not_k h (by decide))), fun h h2 => (z7 (not_k h (by decide)) (not_k' h2 (by decide))).next hb, fun h => (c7 (not_k h (by decide))).next hb, fun h h2 => n6_7 (not_k h (by decide)) (not_k h2 (by decide))⟩) ?_
      simp only [Act.put, List.setIfInBounds_toArray, List.set_cons_zero, List.set_cons_succ]
    · intro L x W hJ hlt hk hd K' hK
      obtain ⟨x44, x45, x46, x47, x48, x49, x9, x10, g9, g10⟩ := x
      obtain ⟨hS, f0, f1, f2, f3, f4, f5, p6, q6, z6, c6, p7, q7, z7, c7, n6_7⟩ := hJ
      obtain ⟨b_c0, b_c1, b_c2, b_c3, b_c4, b_c5, b_c6, b_c7, b_c8, b_c9, b_c10⟩ := (b_B.next hS).all
      refine ⟨?_⟩
      simp only [Act.put, List.setIfInBounds_toArray, List.set_cons_zero, List.set_cons_succ]
      go_simp
      refine kput (hK (x44, x45, x46, (.agg #[.string ⟨b_s.toArray⟩, .string ⟨b_p.toArray⟩, .int .i64 b_n, .bool b_v0, .string ⟨b_l0.toArray⟩, .bool b_v1, .string ⟨b_l1.toArray⟩, .bool b_v2, .string ⟨b_l2.toArray⟩, .bool b_v3, .string ⟨b_l3.toArray⟩]), x48, x49, x9, x10, g9, g10) _ ⟨hS, fun h => f0 (not_k h (by decide)), fun h => f1 (not_k h (by decide)), fun h => f2 (not_k h (by decide)), fun _ => rfl, fun h => f4 (not_k h (by decide)), fun h => f5 (not_k h (by decide)), fun h => p6 (not_k h (by decide)), fun h => getD_set_true (q6 (not_k h (by decide))), fun h h2 => z6 (not_k h (by decide)) (not_k' h2 (by decide)), fun h => c6 (not_k h (by decide)), fun h => p7 (not_k h (by decide)), fun h => getD_set_true (q7 (not_k h (by decide))), fun h h2 => z7 (not_k h (by decide)) (not_k' h2 (by decide)), fun h => c7 (not_k h (by decide)), fun h h2 => n6_7 (not_k h (by decide)) (not_k h2 (by decide))⟩) ?_
      simp only [Act.put, List.setIfInBounds_toArray, List.set_cons_zero, List.set_cons_succ]
    · intro L x W hJ hlt hk hd K' hK
      obtain ⟨x44, x45, x46, x47, x48, x49, x9, x10, g9, g10⟩ := x
      obtain ⟨hS, f0, f1, f2, f3, f4, f5, p6, q6, z6, c6, p7, q7, z7, c7, n6_7⟩ := hJ
      refine ⟨?_⟩
      simp only [Act.put, List.setIfInBounds_toArray, List.set_cons_zero, List.set_cons_succ]
      go_simp
      refine kput (hK (x44, x45, x46, x47, (.int .i64 (k : Int)), x49, x9, x10, g9, g10) _ ⟨hS, fun h => f0 (not_k h (by decide)), fun h => f1 (not_k h (by decide)), fun h => f2 (not_k h (by decide)), fun h => f3 (not_k h (by decide)), fun _ => rfl, fun h => f5 (not_k h (by decide)), fun h => p6 (not_k h (by decide)), fun h => getD_set_true (q6 (not_k h (by decide))), fun h h2 => z6 (not_k h (by decide)) (not_k' h2 (by decide)), fun h => c6 (not_k h (by decide)), fun h => p7 (not_k h (by decide)), fun h => getD_set_true (q7 (not_k h (by decide))), fun h h2 => z7 (not_k h (by decide)) (not_k' h2 (by decide)), fun h => c7 (not_k h (by decide)), fun h h2 => n6_7 (not_k h (by decide)) (not_k h2 (by decide))⟩) ?_
      simp only [Act.put, List.setIfInBounds_toArray, List.set_cons_zero, List.set_cons_succ]
    · intro L x W hJ hlt hk hd K' hK
      obtain ⟨x44, x45, x46, x47, x48, x49, x9, x10, g9, g10⟩ := x
      obtain ⟨hS, f0, f1, f2, f3, f4, f5, p6, q6, z6, c6, p7, q7, z7, c7, n6_7⟩ := hJ
      have d3 : L.getD 3 false = true := dep_of hd 3 (by rfl)
      obtain rfl := (f3 d3).symm
      have d4 : L.getD 4 false = true := dep_of hd 4 (by rfl)
      obtain rfl := (f4 d4).symm
      refine ⟨?_⟩
      simp only [Act.put, List.setIfInBounds_toArray, List.set_cons_zero, List.set_cons_succ]
      (go_simp; go_at_call 10; refine (HRY.out _ (hSo.trans hS)).mono ?_; rintro e w2 ⟨rfl, hb⟩; (try go_simp))
      refine kput (hK (x44, x45, x46, (.agg #[.string ⟨b_s.toArray⟩, .string ⟨b_p.toArray⟩, .int .i64 b_n, .bool b_v0, .string ⟨b_l0.toArray⟩, .bool b_v1, .string ⟨b_l1.toArray⟩, .bool b_v2, .string ⟨b_l2.toArray⟩, .bool b_v3, .string ⟨b_l3.toArray⟩]), (.int .i64 (k : Int)), (.agg #[.string ⟨y_s.toArray⟩, .string ⟨y_p.toArray⟩, .int .i64 y_n, .bool y_v0, .string ⟨y_l0.toArray⟩, .bool y_v1, .string ⟨y_l1.toArray⟩, .bool y_v2, .string ⟨y_l2.toArray⟩, .bool y_v3, .string ⟨y_l3.toArray⟩]), x9, x10, g9, g10) _ ⟨hS.trans hb, fun h => f0 (not_k h (by decide)), fun h => f1 (not_k h (by decide)), fun h => f2 (not_k h (by decide)), fun h => f3 (not_k h (by decide)), fun h => f4 (not_k h (by decide)), fun _ => rfl, fun h => ⟨(p6 (not_k h (by decide))).1, (p6 (not_k h (by decide))).2.1, Nat.lt_of_lt_of_le (p6 (not_k h (by decide))).2.2 hb.size⟩, fun h => getD_set_true (q6 (not_k h (by decide))), fun h h2 => (z6 (not_k h (by decide)) (not_k' h2 (by decide))).next hb, fun h => (c6 (not_k h (by decide))).next hb, fun h => ⟨(p7 (not_k h (by decide))).1, (p7 (not_k h (by decide))).2.1, Nat.lt_of_lt_of_le (p7 (not_k h (by decide))).2.2 hb.size⟩, fun h => getD_set_true (q7 (not_k h (by decide))), fun h h2 => (z7 (not_k h (by decide)) (not_k' h2 (by decide))).next hb, fun h => (c7 (not_k h (by decide))).next hb, fun h h2 => n6_7 (not_k h (by decide)) (not_k h2 (by decide))⟩) ?_
      simp only [Act.put, List.setIfInBounds_toArray, List.set_cons_zero, List.set_cons_succ]
    · intro L x W hJ hlt hk hd K' hK
      obtain ⟨x44, x45, x46, x47, x48, x49, x9, x10, g9, g10⟩ := x
      obtain ⟨hS, f0, f1, f2, f3, f4, f5, p6, q6, z6, c6, p7, q7, z7, c7, n6_7⟩ := hJ
      refine ⟨?_⟩
      simp only [Act.put, List.setIfInBounds_toArray, List.set_cons_zero, List.set_cons_succ]
      go_simp
      have hb : Since W (W.alloc (.cells #[.string ⟨#[]⟩, .string ⟨#[]⟩, .int .i64 0, .bool false, .string ⟨#[]⟩, .bool false, .string ⟨#[]⟩, .bool false, .string ⟨#[]⟩, .bool false, .string ⟨#[]⟩] 26)) := (Since.refl _).alloc _
      refine kput (hK (x44, x45, x46, x47, x48, x49, (.pointer (some ⟨W.heap.size, 0, none⟩)), x10, W.heap.size, g10) _ ⟨hS.trans hb, fun h => f0 (not_k h (by decide)), fun h => f1 (not_k h (by decide)), fun h => f2 (not_k h (by decide)), fun h => f3 (not_k h (by decide)), fun h => f4 (not_k h (by decide)), fun h => f5 (not_k h (by decide)), fun _ => ⟨rfl, hS.size, by simp⟩, fun h => getD_set_true (q6 (not_k h (by decide))), fun _ _ => heap_alloc_new W _, fun h => absurd (q6 (not_k h (by decide))) (by rw [hk]; decide), fun h => ⟨(p7 (not_k h (by decide))).1, (p7 (not_k h (by decide))).2.1, Nat.lt_of_lt_of_le (p7 (not_k h (by decide))).2.2 hb.size⟩, fun h => getD_set_true (q7 (not_k h (by decide))), fun h h2 => (z7 (not_k h (by decide)) (not_k' h2 (by decide))).next hb, fun h => (c7 (not_k h (by decide))).next hb, fun _ h => Nat.ne_of_gt (p7 (not_k h (by decide))).2.2⟩) ?_
      simp only [Act.put, List.setIfInBounds_toArray, List.set_cons_zero, List.set_cons_succ]
    · intro L x W hJ hlt hk hd K' hK
      obtain ⟨x44, x45, x46, x47, x48, x49, x9, x10, g9, g10⟩ := x
      obtain ⟨hS, f0, f1, f2, f3, f4, f5, p6, q6, z6, c6, p7, q7, z7, c7, n6_7⟩ := hJ
      refine ⟨?_⟩
      simp only [Act.put, List.setIfInBounds_toArray, List.set_cons_zero, List.set_cons_succ]
      go_simp
      have hb : Since W (W.alloc (.cells #[.string ⟨#[]⟩, .string ⟨#[]⟩, .int .i64 0, .bool false, .string ⟨#[]⟩, .bool false, .string ⟨#[]⟩, .bool false, .string ⟨#[]⟩, .bool false, .string ⟨#[]⟩] 26)) := (Since.refl _).alloc _
      refine kput (hK (x44, x45, x46, x47, x48, x49, x9, (.pointer (some ⟨W.heap.size, 0, none⟩)), g9, W.heap.size) _ ⟨hS.trans hb, fun h => f0 (not_k h (by decide)), fun h => f1 (not_k h (by decide)), fun h => f2 (not_k h (by decide)), fun h => f3 (not_k h (by decide)), fun h => f4 (not_k h (by decide)), fun h => f5 (not_k h (by decide)), fun h => ⟨(p6 (not_k h (by decide))).1, (p6 (not_k h (by decide))).2.1, Nat.lt_of_lt_of_le (p6 (not_k h (by decide))).2.2 hb.size⟩, fun h => getD_set_true (q6 (not_k h (by decide))), fun h h2 => (z6 (not_k h (by decide)) (not_k' h2 (by decide))).next hb, fun h => (c6 (not_k h (by decide))).next hb, fun _ => ⟨rfl, hS.size, by simp⟩, fun h => getD_set_true (q7 (not_k h (by decide))), fun _ _ => heap_alloc_new W _, fun h => absurd (q7 (not_k h (by decide))) (by rw [hk]; decide), fun h _ => Nat.ne_of_lt (p6 (not_k h (by decide))).2.2⟩) ?_
      simp only [Act.put, List.setIfInBounds_toArray, List.set_cons_zero, List.set_cons_succ]
    · intro L x W hJ hlt hk hd K' hK
      obtain ⟨x44, x45, x46, x47, x48, x49, x9, x10, g9, g10⟩ := x
      obtain ⟨hS, f0, f1, f2, f3, f4, f5, p6, q6, z6, c6, p7, q7, z7, c7, n6_7⟩ := hJ
      have d6 : L.getD 6 false = true := dep_of hd 6 (by rfl)
      obtain ⟨rfl, pl6, pg6⟩ := p6 d6
      have d2 : L.getD 2 false = true := dep_of hd 2 (by rfl)
      obtain rfl := (f2 d2).symm
      refine ⟨?_⟩
      simp only [Act.put, List.setIfInBounds_toArray, List.set_cons_zero, List.set_cons_succ]
      refine wp_store_row 26 (.tmp 9) (.tmp 46) rfl g9 #[.string ⟨x_s.toArray⟩, .string ⟨x_p.toArray⟩, .int .i64 x_n, .bool x_v0, .string ⟨x_l0.toArray⟩, .bool x_v1, .string ⟨x_l1.toArray⟩, .bool x_v2, .string ⟨x_l2.toArray⟩, .bool x_v3, .string ⟨x_l3.toArray⟩] rfl rfl 26 #[.string ⟨#[]⟩, .string ⟨#[]⟩, .int .i64 0, .bool false, .string ⟨#[]⟩, .bool false, .string ⟨#[]⟩, .bool false, .string ⟨#[]⟩, .bool false, .string ⟨#[]⟩] (z6 d6 hk) ainfoA rfl (by simp [Value.oneCell']) ?_
      refine kput (hK (x44, x45, (.agg #[.string ⟨x_s.toArray⟩, .string ⟨x_p.toArray⟩, .int .i64 x_n, .bool x_v0, .string ⟨x_l0.toArray⟩, .bool x_v1, .string ⟨x_l1.toArray⟩, .bool x_v2, .string ⟨x_l2.toArray⟩, .bool x_v3, .string ⟨x_l3.toArray⟩]), x47, x48, x49, (.pointer (some ⟨g9, 0, none⟩)), x10, g9, g10) _ ⟨since_setRow hS pl6 _, fun h => f0 (not_k h (by decide)), fun h => f1 (not_k h (by decide)), fun h => f2 (not_k h (by decide)), fun h => f3 (not_k h (by decide)), fun h => f4 (not_k h (by decide)), fun h => f5 (not_k h (by decide)), fun h => ⟨(p6 (not_k h (by decide))).1, (p6 (not_k h (by decide))).2.1, Nat.lt_of_lt_of_eq (p6 (not_k h (by decide))).2.2 (by simp)⟩, fun _ => getD_set_true d6, fun _ h2 => absurd ((set_now hlt).symm.trans h2) (by decide), fun _ => Cel.row (z6 d6 hk) _, fun h => ⟨(p7 (not_k h (by decide))).1, (p7 (not_k h (by decide))).2.1, Nat.lt_of_lt_of_eq (p7 (not_k h (by decide))).2.2 (by simp)⟩, fun h => getD_set_true (q7 (not_k h (by decide))), fun h h2 => (z7 (not_k h (by decide)) (not_k' h2 (by decide))).farRow (fun e => n6_7 d6 (not_k h (by decide)) e.symm) _, fun h => (c7 (not_k h (by decide))).farRow (fun e => n6_7 d6 (q7 (not_k h (by decide))) e.symm) _, fun h h2 => n6_7 (not_k h (by decide)) (not_k h2 (by decide))⟩) ?_
      simp only [Act.put, List.setIfInBounds_toArray, List.set_cons_zero, List.set_cons_succ]
    · intro L x W hJ hlt hk hd K' hK
      obtain ⟨x44, x45, x46, x47, x48, x49, x9, x10, g9, g10⟩ := x
      obtain ⟨hS, f0, f1, f2, f3, f4, f5, p6, q6, z6, c6, p7, q7, z7, c7, n6_7⟩ := hJ
      have d7 : L.getD 7 false = true := dep_of hd 7 (by rfl)
      obtain ⟨rfl, pl7, pg7⟩ := p7 d7
      have d5 : L.getD 5 false = true := dep_of hd 5 (by rfl)
      obtain rfl := (f5 d5).symm
      refine ⟨?_⟩
      simp only [Act.put, List.setIfInBounds_toArray, List.set_cons_zero, List.set_cons_succ]
      refine wp_store_row 26 (.tmp 10) (.tmp 49) rfl g10 #[.string ⟨y_s.toArray⟩, .string ⟨y_p.toArray⟩, .int .i64 y_n, .bool y_v0, .string ⟨y_l0.toArray⟩, .bool y_v1, .string ⟨y_l1.toArray⟩, .bool y_v2, .string ⟨y_l2.toArray⟩, .bool y_v3, .string ⟨y_l3.toArray⟩] rfl rfl 26 #[.string ⟨#[]⟩, .string ⟨#[]⟩, .int .i64 0, .bool false, .string ⟨#[]⟩, .bool false, .string ⟨#[]⟩, .bool false, .string ⟨#[]⟩, .bool false, .string ⟨#[]⟩] (z7 d7 hk) ainfoA rfl (by simp [Value.oneCell']) ?_
      refine kput (hK (x44, x45, x46, x47, x48, (.agg #[.string ⟨y_s.toArray⟩, .string ⟨y_p.toArray⟩, .int .i64 y_n, .bool y_v0, .string ⟨y_l0.toArray⟩, .bool y_v1, .string ⟨y_l1.toArray⟩, .bool y_v2, .string ⟨y_l2.toArray⟩, .bool y_v3, .string ⟨y_l3.toArray⟩]), x9, (.pointer (some ⟨g10, 0, none⟩)), g9, g10) _ ⟨since_setRow hS pl7 _, fun h => f0 (not_k h (by decide)), fun h => f1 (not_k h (by decide)), fun h => f2 (not_k h (by decide)), fun h => f3 (not_k h (by decide)), fun h => f4 (not_k h (by decide)), fun h => f5 (not_k h (by decide)), fun h => ⟨(p6 (not_k h (by decide))).1, (p6 (not_k h (by decide))).2.1, Nat.lt_of_lt_of_eq (p6 (not_k h (by decide))).2.2 (by simp)⟩, fun h => getD_set_true (q6 (not_k h (by decide))), fun h h2 => (z6 (not_k h (by decide)) (not_k' h2 (by decide))).farRow (fun e => n6_7 (not_k h (by decide)) d7 e) _, fun h => (c6 (not_k h (by decide))).farRow (fun e => n6_7 (q6 (not_k h (by decide))) d7 e) _, fun h => ⟨(p7 (not_k h (by decide))).1, (p7 (not_k h (by decide))).2.1, Nat.lt_of_lt_of_eq (p7 (not_k h (by decide))).2.2 (by simp)⟩, fun _ => getD_set_true d7, fun _ h2 => absurd ((set_now hlt).symm.trans h2) (by decide), fun _ => Cel.row (z7 d7 hk) _, fun h h2 => n6_7 (not_k h (by decide)) (not_k h2 (by decide))⟩) ?_
      simp only [Act.put, List.setIfInBounds_toArray, List.set_cons_zero, List.set_cons_succ]
  case stop =>
    intro L x W hJ hall
    obtain ⟨x44, x45, x46, x47, x48, x49, x9, x10, g9, g10⟩ := x
    obtain ⟨hS, f0, f1, f2, f3, f4, f5, p6, q6, z6, c6, p7, q7, z7, c7, n6_7⟩ := hJ
    obtain rfl := (f0 (hall 0 (Nat.le_of_ble_eq_true rfl))).symm
    obtain rfl := (f1 (hall 1 (Nat.le_of_ble_eq_true rfl))).symm
    obtain rfl := (f2 (hall 2 (Nat.le_of_ble_eq_true rfl))).symm
    obtain rfl := (f3 (hall 3 (Nat.le_of_ble_eq_true rfl))).symm
    obtain rfl := (f4 (hall 4 (Nat.le_of_ble_eq_true rfl))).symm
    obtain rfl := (f5 (hall 5 (Nat.le_of_ble_eq_true rfl))).symm
    obtain ⟨rfl, pl6, pg6⟩ := p6 (hall 6 (Nat.le_of_ble_eq_true rfl))
    have cc6 := c6 (hall 8 (Nat.le_of_ble_eq_true rfl))
    obtain ⟨rfl, pl7, pg7⟩ := p7 (hall 7 (Nat.le_of_ble_eq_true rfl))
    have cc7 := c7 (hall 9 (Nat.le_of_ble_eq_true rfl))
    have nn6_7 := n6_7 (hall 6 (Nat.le_of_ble_eq_true rfl)) (hall 7 (Nat.le_of_ble_eq_true rfl))
    clear f0 f1 f2 f3 f4 f5 p6 q6 z6 c6 p7 q7 z7 c7 n6_7 hall
    simp only [Act.put, List.setIfInBounds_toArray, List.set_cons_zero, List.set_cons_succ]
    have HG1 := Lib.hid cc6
    have HG2 := Lib.hid cc7
    have hS4 := hSo.trans hS
    replace a_B := a_B.next hS
    replace b_B := b_B.next hS
    obtain ⟨x_c0, x_c1, x_c2, x_c3, x_c4, x_c5, x_c6, x_c7, x_c8, x_c9, x_c10⟩ := (Cel.box (a := ((x_s, x_p, x_n, (x_v0, x_l0), (x_v1, x_l1), (x_v2, x_l2), (x_v3, x_l3)) : Atm)) HG1.out).all
    obtain ⟨y_c0, y_c1, y_c2, y_c3, y_c4, y_c5, y_c6, y_c7, y_c8, y_c9, y_c10⟩ := (Cel.box (a := ((y_s, y_p, y_n, (y_v0, y_l0), (y_v1, y_l1), (y_v2, y_l2), (y_v3, y_l3)) : Atm)) HG2.out).all
    clear HRX HRY hSo hS HG2 b_B
    go_wp2_with fail
    have HS : Hid (∀ W', Since W W' → W'.cell? ⟨g9, 0, none⟩ = some (.string ⟨x_s.toArray⟩) ∧ W'.cell? ⟨g9, 0 + 1, none⟩ = some (.string ⟨x_p.toArray⟩) ∧ W'.cell? ⟨g9, 0 + 2, none⟩ = some (.int .i64 x_n) ∧ W'.cell? ⟨g9, 0 + 3, none⟩ = some (.bool x_v0) ∧ W'.cell? ⟨g9, 0 + 4, none⟩ = some (.string ⟨x_l0.toArray⟩) ∧ W'.cell? ⟨g9, 0 + 5, none⟩ = some (.bool x_v1) ∧ W'.cell? ⟨g9, 0 + 6, none⟩ = some (.string ⟨x_l1.toArray⟩) ∧ W'.cell? ⟨g9, 0 + 7, none⟩ = some (.bool x_v2) ∧ W'.cell? ⟨g9, 0 + 8, none⟩ = some (.string ⟨x_l2.toArray⟩) ∧ W'.cell? ⟨g9, 0 + 9, none⟩ = some (.bool x_v3) ∧ W'.cell? ⟨g9, 0 + 10, none⟩ = some (.string ⟨x_l3.toArray⟩) ∧ W'.cell? ⟨g10, 0, none⟩ = some (.string ⟨y_s.toArray⟩) ∧ W'.cell? ⟨g10, 0 + 1, none⟩ = some (.string ⟨y_p.toArray⟩) ∧ W'.cell? ⟨g10, 0 + 2, none⟩ = some (.int .i64 y_n) ∧ W'.cell? ⟨g10, 0 + 3, none⟩ = some (.bool y_v0) ∧ W'.cell? ⟨g10, 0 + 4, none⟩ = some (.string ⟨y_l0.toArray⟩) ∧ W'.cell? ⟨g10, 0 + 5, none⟩ = some (.bool y_v1) ∧ W'.cell? ⟨g10, 0 + 6, none⟩ = some (.string ⟨y_l1.toArray⟩) ∧ W'.cell? ⟨g10, 0 + 7, none⟩ = some (.bool y_v2) ∧ W'.cell? ⟨g10, 0 + 8, none⟩ = some (.string ⟨y_l2.toArray⟩) ∧ W'.cell? ⟨g10, 0 + 9, none⟩ = some (.bool y_v3) ∧ W'.cell? ⟨g10, 0 + 10, none⟩ = some (.string ⟨y_l3.toArray⟩)) := fun W h => ⟨h.cell x_c0, h.cell x_c1, h.cell x_c2, h.cell x_c3, h.cell x_c4, h.cell x_c5, h.cell x_c6, h.cell x_c7, h.cell x_c8, h.cell x_c9, h.cell x_c10, h.cell y_c0, h.cell y_c1, h.cell y_c2, h.cell y_c3, h.cell y_c4, h.cell y_c5, h.cell y_c6, h.cell y_c7, h.cell y_c8, h.cell y_c9, h.cell y_c10⟩
    go_region_held3 (fun w' => w'.cell? ⟨g9, 0, none⟩ = some (.string ⟨x_s.toArray⟩) ∧ w'.cell? ⟨g9, 0 + 1, none⟩ = some (.string ⟨x_p.toArray⟩) ∧ w'.cell? ⟨g9, 0 + 2, none⟩ = some (.int .i64 x_n) ∧ w'.cell? ⟨g9, 0 + 3, none⟩ = some (.bool x_v0) ∧ w'.cell? ⟨g9, 0 + 4, none⟩ = some (.string ⟨x_l0.toArray⟩) ∧ w'.cell? ⟨g9, 0 + 5, none⟩ = some (.bool x_v1) ∧ w'.cell? ⟨g9, 0 + 6, none⟩ = some (.string ⟨x_l1.toArray⟩) ∧ w'.cell? ⟨g9, 0 + 7, none⟩ = some (.bool x_v2) ∧ w'.cell? ⟨g9, 0 + 8, none⟩ = some (.string ⟨x_l2.toArray⟩) ∧ w'.cell? ⟨g9, 0 + 9, none⟩ = some (.bool x_v3) ∧ w'.cell? ⟨g9, 0 + 10, none⟩ = some (.string ⟨x_l3.toArray⟩) ∧ w'.cell? ⟨g10, 0, none⟩ = some (.string ⟨y_s.toArray⟩) ∧ w'.cell? ⟨g10, 0 + 1, none⟩ = some (.string ⟨y_p.toArray⟩) ∧ w'.cell? ⟨g10, 0 + 2, none⟩ = some (.int .i64 y_n) ∧ w'.cell? ⟨g10, 0 + 3, none⟩ = some (.bool y_v0) ∧ w'.cell? ⟨g10, 0 + 4, none⟩ = some (.string ⟨y_l0.toArray⟩) ∧ w'.cell? ⟨g10, 0 + 5, none⟩ = some (.bool y_v1) ∧ w'.cell? ⟨g10, 0 + 6, none⟩ = some (.string ⟨y_l1.toArray⟩) ∧ w'.cell? ⟨g10, 0 + 7, none⟩ = some (.bool y_v2) ∧ w'.cell? ⟨g10, 0 + 8, none⟩ = some (.string ⟨y_l2.toArray⟩) ∧ w'.cell? ⟨g10, 0 + 9, none⟩ = some (.bool y_v3) ∧ w'.cell? ⟨g10, 0 + 10, none⟩ = some (.string ⟨y_l3.toArray⟩)) (first | (refine HS.out _ ?_; (repeat (first | exact Since.refl _ | assumption | refine Since.drew ?_ | refine Since.alloc ?_ _))))
      (first
        | (go_simp; go_at_call 14; (with_reducible refine Calls.mono (HVX.out _) ?_); rintro e w6 ⟨v1, rfl, hown1, hb6⟩; have hS6 : Since W w6 := (by refine Since.trans ?_ hb6; (repeat (first | exact Since.refl _ | assumption | refine Since.drew ?_ | refine Since.alloc ?_ _))))
        | (go_simp; go_at_call 14; (with_reducible refine Calls.mono (HVY.out _) ?_); rintro e w7 ⟨v2, rfl, hown2, hb7⟩; have hS7 : Since W w7 := (by refine Since.trans ?_ hb7; (repeat (first | exact Since.refl _ | assumption | refine Since.drew ?_ | refine Since.alloc ?_ _)))))
    have hR1 := (row_of_own hown1).next hb7
    have hR2 := row_of_own hown2
    clear hown1 hown2 HS x_c0 x_c1 x_c2 x_c3 x_c4 x_c5 x_c6 x_c7 x_c8 x_c9 x_c10 y_c0 y_c1 y_c2 y_c3 y_c4 y_c5 y_c6 y_c7 y_c8 y_c9 y_c10 HVX HVY
    have hS7o := hS4.trans hS7
    replace a_B := a_B.next hS7
    replace HG1 := Lib.hid (HG1.out.next hS7)
    clear hS4 hS6 hb6 hb7 hS7
    obtain ⟨a1, c1, rfl⟩ := hR1.len
    obtain ⟨a2, c2, rfl⟩ := hR2.len
    have hR1b : Row w7 (.slice a1 V.length c1) V.length ((V.map (· ++ 35 :: Lib.decDigits i)).map strV) := by
      have h := hR1
      rw [List.length_map] at h; exact h
    have hR2b : Row w7 (.slice a2 U.length c2) U.length ((U.map (· ++ 35 :: Lib.decDigits k)).map strV) := by
      have h := hR2
      rw [List.length_map] at h; exact h
    clear hR1 hR2
    go_wp2_with fail
    go_loopw [13] (fun n wr => ∃ q : Nat, q ≤ V.length ∧ n = .int .i64 (q : Int) ∧ Since w7 wr) (fun n _ => V.length - (intOf n).toNat)
    case atStart => exact ⟨0, by omega, rfl, Since.refl _⟩
    case round =>
      obtain ⟨q, hq, rfl, hSr⟩ := hrel
      by_cases hlt : q < V.length
      · have hlt2 : (q : Int) < (V.length : Int) := by omega
        have hlt0 : (0 : Int) ≤ (q : Int) := by omega
        obtain ⟨b1, o1, c1', he, -, hat⟩ := (hR1b.next hSr).some (by omega)
        cases he
        have d1 := hat q (by simpa using hlt)
        simp only [List.getElem_map, strV] at d1
        have hsh := HSH.out _ (List.getElem_mem hlt)
        have hap := fun h => HAP.out h _ (List.getElem_mem hlt)
        obtain ⟨l, hl⟩ : ∃ l, Hid (l = V[q]) := ⟨V[q], rfl⟩
        rw [← hl.out] at d1 hsh hap
        have MK := Lib.hid (fun W' (h : Since w7 W') => marked_ok l hsh.1 (by omega) i (by omega) W' (fun W'' h2 => HIT.out W'' ((hS7o.trans h).trans h2)))
        obtain ⟨xs, hxs⟩ : ∃ xs, Hid (xs = l ++ 35 :: Lib.decDigits i) := ⟨l ++ 35 :: Lib.decDigits i, rfl⟩
        rw [← hxs.out] at d1 MK hap
        have HAPQ := Lib.hid hap
        clear hat hsh hap hxs
        go_wp2_with fail
        refine (MK.out _ hSr).mono ?_
        rintro e w8 ⟨rfl, hb⟩
        have hS8 := hSr.trans hb
        obtain ⟨a_c0, a_c1, a_c2, a_c3, a_c4, a_c5, a_c6, a_c7, a_c8, a_c9, a_c10⟩ := (a_B.next hS8).all
        replace d1 := hb.cell d1
        clear hb MK
        go_wp2_with fail
        refine (HVA.out _).mono ?_
        rintro e w9 ⟨v3, rfl, hown3, hb⟩
        obtain ⟨b3, o3, c3, he3, -, hat3⟩ := (row_of_own hown3).some (by omega)
        subst he3
        have d3 := hat3 q (by simpa using hlt)
        simp only [List.getElem_map, strV] at d3
        rw [← hl.out] at d3
        have hS9 := hS8.trans hb
        replace d1 := hb.cell d1
        clear hat3 hown3 hb a_c0 a_c1 a_c2 a_c3 a_c4 a_c5 a_c6 a_c7 a_c8 a_c9 a_c10
        go_wp2_with fail
        go_loopw [17] (fun n wq => ∃ j : Nat, j ≤ U.length ∧ n = .int .i64 (j : Int) ∧ Since w9 wq) (fun n _ => U.length - (intOf n).toNat)
        case atStart => exact ⟨0, by omega, rfl, Since.refl _⟩
        case round =>
          obtain ⟨j, hj, rfl, hSq⟩ := hrel
          have d4 := hSq.cell d1
          by_cases hjl : j < U.length
          · have hjl2 : (j : Int) < (U.length : Int) := by omega
            have hjl0 : (0 : Int) ≤ (j : Int) := by omega
            obtain ⟨b2, o2, c2', he2, -, hat2⟩ := ((hR2b.next hS9).next hSq).some (by omega)
            cases he2
            have d5 := hat2 j (by simpa using hjl)
            simp only [List.getElem_map, strV] at d5
            have hne := fun h => HAPQ.out h _ (List.getElem_mem hjl)
            obtain ⟨ys, hys⟩ : ∃ ys, Hid (ys = U[j] ++ 35 :: Lib.decDigits k) := ⟨U[j] ++ 35 :: Lib.decDigits k, rfl⟩
            rw [← hys.out] at d5 hne
            clear hat2 hys
            by_cases hik : i = k
            · have hik2 : (i : Int) = (k : Int) := by omega
              clear hne
              go_wp2_with fail
              go_quiet (fail)
              go_wp2_with fail
              go_roundw
              case rel => exact ⟨j + 1, by omega, by go_num, hSq.drewN _⟩
              case measure => simp [intOf]; omega
            · have hik2 : ¬ (i : Int) = (k : Int) := by omega
              have hq2 := hne hik
              clear hne
              go_wp2_with fail
              go_quiet (fail)
              go_wp2_with fail
              go_roundw
              case rel => exact ⟨j + 1, by omega, by go_num, hSq.drewN _⟩
              case measure => simp [intOf]; omega
          · have hjl2 : ¬ (j : Int) < (U.length : Int) := by omega
            go_wp2_with fail
            go_roundw
            case rel => exact ⟨q + 1, by omega, by go_num, hS9.trans hSq⟩
            case measure => simp [intOf]; omega
      · have hlt2 : ¬ (q : Int) < (V.length : Int) := by omega
        have hq : q = V.length := by omega
        have hSf := hS7o.trans hSr
        replace a_B := a_B.next hSr
        obtain ⟨a_c0, a_c1, a_c2, a_c3, a_c4, a_c5, a_c6, a_c7, a_c8, a_c9, a_c10⟩ := a_B.all
        obtain ⟨x_c0, x_c1, x_c2, x_c3, x_c4, x_c5, x_c6, x_c7, x_c8, x_c9, x_c10⟩ := (Cel.box (a := ((x_s, x_p, x_n, (x_v0, x_l0), (x_v1, x_l1), (x_v2, x_l2), (x_v3, x_l3)) : Atm)) (HG1.out.next hSr)).all
        clear HG1 hR1b hR2b
        go_wp2_with fail
        have HS : Hid (∀ W', Since wr W' → W'.cell? ⟨g9, 0, none⟩ = some (.string ⟨x_s.toArray⟩) ∧ W'.cell? ⟨g9, 0 + 1, none⟩ = some (.string ⟨x_p.toArray⟩) ∧ W'.cell? ⟨g9, 0 + 2, none⟩ = some (.int .i64 x_n) ∧ W'.cell? ⟨g9, 0 + 3, none⟩ = some (.bool x_v0) ∧ W'.cell? ⟨g9, 0 + 4, none⟩ = some (.string ⟨x_l0.toArray⟩) ∧ W'.cell? ⟨g9, 0 + 5, none⟩ = some (.bool x_v1) ∧ W'.cell? ⟨g9, 0 + 6, none⟩ = some (.string ⟨x_l1.toArray⟩) ∧ W'.cell? ⟨g9, 0 + 7, none⟩ = some (.bool x_v2) ∧ W'.cell? ⟨g9, 0 + 8, none⟩ = some (.string ⟨x_l2.toArray⟩) ∧ W'.cell? ⟨g9, 0 + 9, none⟩ = some (.bool x_v3) ∧ W'.cell? ⟨g9, 0 + 10, none⟩ = some (.string ⟨x_l3.toArray⟩) ∧ W'.cell? ⟨w.heap.size, 0, none⟩ = some (.string ⟨a_s.toArray⟩) ∧ W'.cell? ⟨w.heap.size, 1, none⟩ = some (.string ⟨a_p.toArray⟩) ∧ W'.cell? ⟨w.heap.size, 2, none⟩ = some (.int .i64 a_n) ∧ W'.cell? ⟨w.heap.size, 3, none⟩ = some (.bool a_v0) ∧ W'.cell? ⟨w.heap.size, 4, none⟩ = some (.string ⟨a_l0.toArray⟩) ∧ W'.cell? ⟨w.heap.size, 5, none⟩ = some (.bool a_v1) ∧ W'.cell? ⟨w.heap.size, 6, none⟩ = some (.string ⟨a_l1.toArray⟩) ∧ W'.cell? ⟨w.heap.size, 7, none⟩ = some (.bool a_v2) ∧ W'.cell? ⟨w.heap.size, 8, none⟩ = some (.string ⟨a_l2.toArray⟩) ∧ W'.cell? ⟨w.heap.size, 9, none⟩ = some (.bool a_v3) ∧ W'.cell? ⟨w.heap.size, 10, none⟩ = some (.string ⟨a_l3.toArray⟩)) := fun W h => ⟨h.cell x_c0, h.cell x_c1, h.cell x_c2, h.cell x_c3, h.cell x_c4, h.cell x_c5, h.cell x_c6, h.cell x_c7, h.cell x_c8, h.cell x_c9, h.cell x_c10, h.cell a_c0, h.cell a_c1, h.cell a_c2, h.cell a_c3, h.cell a_c4, h.cell a_c5, h.cell a_c6, h.cell a_c7, h.cell a_c8, h.cell a_c9, h.cell a_c10⟩
        go_region_held3 (fun w' => w'.cell? ⟨g9, 0, none⟩ = some (.string ⟨x_s.toArray⟩) ∧ w'.cell? ⟨g9, 0 + 1, none⟩ = some (.string ⟨x_p.toArray⟩) ∧ w'.cell? ⟨g9, 0 + 2, none⟩ = some (.int .i64 x_n) ∧ w'.cell? ⟨g9, 0 + 3, none⟩ = some (.bool x_v0) ∧ w'.cell? ⟨g9, 0 + 4, none⟩ = some (.string ⟨x_l0.toArray⟩) ∧ w'.cell? ⟨g9, 0 + 5, none⟩ = some (.bool x_v1) ∧ w'.cell? ⟨g9, 0 + 6, none⟩ = some (.string ⟨x_l1.toArray⟩) ∧ w'.cell? ⟨g9, 0 + 7, none⟩ = some (.bool x_v2) ∧ w'.cell? ⟨g9, 0 + 8, none⟩ = some (.string ⟨x_l2.toArray⟩) ∧ w'.cell? ⟨g9, 0 + 9, none⟩ = some (.bool x_v3) ∧ w'.cell? ⟨g9, 0 + 10, none⟩ = some (.string ⟨x_l3.toArray⟩) ∧ w'.cell? ⟨w.heap.size, 0, none⟩ = some (.string ⟨a_s.toArray⟩) ∧ w'.cell? ⟨w.heap.size, 1, none⟩ = some (.string ⟨a_p.toArray⟩) ∧ w'.cell? ⟨w.heap.size, 2, none⟩ = some (.int .i64 a_n) ∧ w'.cell? ⟨w.heap.size, 3, none⟩ = some (.bool a_v0) ∧ w'.cell? ⟨w.heap.size, 4, none⟩ = some (.string ⟨a_l0.toArray⟩) ∧ w'.cell? ⟨w.heap.size, 5, none⟩ = some (.bool a_v1) ∧ w'.cell? ⟨w.heap.size, 6, none⟩ = some (.string ⟨a_l1.toArray⟩) ∧ w'.cell? ⟨w.heap.size, 7, none⟩ = some (.bool a_v2) ∧ w'.cell? ⟨w.heap.size, 8, none⟩ = some (.string ⟨a_l2.toArray⟩) ∧ w'.cell? ⟨w.heap.size, 9, none⟩ = some (.bool a_v3) ∧ w'.cell? ⟨w.heap.size, 10, none⟩ = some (.string ⟨a_l3.toArray⟩)) (first | (refine HS.out _ ?_; (repeat (first | exact Since.refl _ | assumption | refine Since.drew ?_ | refine Since.alloc ?_ _))))
          (first
            | (go_simp; go_at_call 10; (with_reducible refine Calls.mono (HRZ.out _ ?_) ?_); (refine Since.trans hSf ?_; (repeat (first | exact Since.refl _ | assumption | refine Since.drew ?_ | refine Since.alloc ?_ _))); rintro e w11 ⟨rfl, hb11⟩; have hS11 : Since wr w11 := (by refine Since.trans ?_ hb11; (repeat (first | exact Since.refl _ | assumption | refine Since.drew ?_ | refine Since.alloc ?_ _))))
            | (go_simp; go_at_call 16; (with_reducible refine Calls.mono (HUN.out _) ?_); rintro e w12 ⟨v5, r5, rfl, hb12, rfl, hv5⟩; have hS12 : Since wr w12 := (by refine Since.trans ?_ hb12; (repeat (first | exact Since.refl _ | assumption | refine Since.drew ?_ | refine Since.alloc ?_ _)))))
        have hS12w := hSf.trans hS12
        replace a_B := a_B.next hS12
        obtain ⟨a_c0, a_c1, a_c2, a_c3, a_c4, a_c5, a_c6, a_c7, a_c8, a_c9, a_c10⟩ := a_B.all
        clear HS x_c0 x_c1 x_c2 x_c3 x_c4 x_c5 x_c6 x_c7 x_c8 x_c9 x_c10
        go_wp2_with fail
        have HS : Hid (∀ W', Since w12 W' → W'.cell? ⟨w.heap.size, 0, none⟩ = some (.string ⟨a_s.toArray⟩) ∧ W'.cell? ⟨w.heap.size, 1, none⟩ = some (.string ⟨a_p.toArray⟩) ∧ W'.cell? ⟨w.heap.size, 2, none⟩ = some (.int .i64 a_n) ∧ W'.cell? ⟨w.heap.size, 3, none⟩ = some (.bool a_v0) ∧ W'.cell? ⟨w.heap.size, 4, none⟩ = some (.string ⟨a_l0.toArray⟩) ∧ W'.cell? ⟨w.heap.size, 5, none⟩ = some (.bool a_v1) ∧ W'.cell? ⟨w.heap.size, 6, none⟩ = some (.string ⟨a_l1.toArray⟩) ∧ W'.cell? ⟨w.heap.size, 7, none⟩ = some (.bool a_v2) ∧ W'.cell? ⟨w.heap.size, 8, none⟩ = some (.string ⟨a_l2.toArray⟩) ∧ W'.cell? ⟨w.heap.size, 9, none⟩ = some (.bool a_v3) ∧ W'.cell? ⟨w.heap.size, 10, none⟩ = some (.string ⟨a_l3.toArray⟩)) := fun W h => ⟨h.cell a_c0, h.cell a_c1, h.cell a_c2, h.cell a_c3, h.cell a_c4, h.cell a_c5, h.cell a_c6, h.cell a_c7, h.cell a_c8, h.cell a_c9, h.cell a_c10⟩
        go_region_held3 (fun w' => w'.cell? ⟨w.heap.size, 0, none⟩ = some (.string ⟨a_s.toArray⟩) ∧ w'.cell? ⟨w.heap.size, 1, none⟩ = some (.string ⟨a_p.toArray⟩) ∧ w'.cell? ⟨w.heap.size, 2, none⟩ = some (.int .i64 a_n) ∧ w'.cell? ⟨w.heap.size, 3, none⟩ = some (.bool a_v0) ∧ w'.cell? ⟨w.heap.size, 4, none⟩ = some (.string ⟨a_l0.toArray⟩) ∧ w'.cell? ⟨w.heap.size, 5, none⟩ = some (.bool a_v1) ∧ w'.cell? ⟨w.heap.size, 6, none⟩ = some (.string ⟨a_l1.toArray⟩) ∧ w'.cell? ⟨w.heap.size, 7, none⟩ = some (.bool a_v2) ∧ w'.cell? ⟨w.heap.size, 8, none⟩ = some (.string ⟨a_l2.toArray⟩) ∧ w'.cell? ⟨w.heap.size, 9, none⟩ = some (.bool a_v3) ∧ w'.cell? ⟨w.heap.size, 10, none⟩ = some (.string ⟨a_l3.toArray⟩)) (first | (refine HS.out _ ?_; (repeat (first | exact Since.refl _ | assumption | refine Since.drew ?_ | refine Since.alloc ?_ _))))
          (first
            | (go_simp; go_at_call 10; (with_reducible refine Calls.mono (HRN.out _) ?_); rintro e w13 ⟨rfl, hb13⟩; have hS13 : Since w12 w13 := (by refine Since.trans ?_ hb13; (repeat (first | exact Since.refl _ | assumption | refine Since.drew ?_ | refine Since.alloc ?_ _))))
            | (go_simp; go_at_call 17; (with_reducible refine Calls.mono (HTX.out _) ?_); rintro e w14 ⟨rfl, hb14⟩; have hS14 : Since w12 w14 := (by refine Since.trans ?_ hb14; (repeat (first | exact Since.refl _ | assumption | refine Since.drew ?_ | refine Since.alloc ?_ _))))
            | (go_simp; go_at_call 14; (with_reducible refine Calls.mono (HVA.out _) ?_); rintro e w16 ⟨v6, rfl, hown6, hb16⟩; have hS16 : Since w12 w16 := (by refine Since.trans ?_ hb16; (repeat (first | exact Since.refl _ | assumption | refine Since.drew ?_ | refine Since.alloc ?_ _))); obtain ⟨b6, c6, rfl⟩ := (row_of_own hown6).len))
        go_wp2_with fail
        go_ret
        exact ⟨ret_bool (by simp), hS12w.trans hS16⟩
end Go.Proofs.YtohcehjpdmhjlaaDoor
