/- UnifyMost returns true at every two atoms and all bindings. -/
import Derived.Test.YtohcehjpdmhjlaaUniLv
import Derived.Test.YtohcehjpdmhjlaaUniK
import Derived.Deep.RegionHeld3
import Derived.Deep.QuietTactic
import Derived.BigQuiet
namespace Go.Proofs.Ytohcehjpdmhjlaa
open Go.RowKit
attribute [local go_sem ↓] run_atomEq run_termEq'
attribute [local go_sem] eqA_self

theorem uni_facts {a b : Atm} (ka : checkA a = 0) (kb : checkA b = 0) : uniA b a = uniA a b ∧ (∀ m, uniA a b = some m → InvB m ∧ m.length ≤ 4 ∧ applyA m a = applyA m b) ∧
    (∀ l, applyA l a = applyA l b → ∃ m, uniA a b = some m ∧ applyA l (applyA m a) = applyA l a) := by
  obtain ⟨L, hL, ea, _⟩ := valid_pad ka
  obtain ⟨M, hM, eb, _⟩ := valid_pad kb
  rw [ea, eb]
  exact ⟨uniA_swap hL.1 hM.1, fun m hm => uniA_sound hL hM hm, fun l hl => uniA_most hL hM hl⟩

set_option maxHeartbeats 4000000 in
set_option maxRecDepth 100000 in
theorem most_none (a_s a_p : List UInt8) (a_n : Int) (a_v0 a_v1 a_v2 a_v3 : Bool) (a_l0 a_l1 a_l2 a_l3 : List UInt8) (b_s b_p : List UInt8) (b_n : Int) (b_v0 b_v1 b_v2 b_v3 : Bool) (b_l0 b_l1 b_l2 b_l3 : List UInt8) (v : Value) (L : List Bnd) (w : World) (hv : RowOf 3 bndC w v L) (hlen : ∀ b ∈ L, b.1.length ≤ maxLen ∧ b.2.2.length ≤ maxLen) (fa : FitsA ((a_s, a_p, a_n, (a_v0, a_l0), (a_v1, a_l1), (a_v2, a_l2), (a_v3, a_l3)) : Atm)) (fb : FitsA ((b_s, b_p, b_n, (b_v0, b_l0), (b_v1, b_l1), (b_v2, b_l2), (b_v3, b_l3)) : Atm)) (la : lightB ((a_s, a_p, a_n, (a_v0, a_l0), (a_v1, a_l1), (a_v2, a_l2), (a_v3, a_l3)) : Atm) = true) (lb : lightB ((b_s, b_p, b_n, (b_v0, b_l0), (b_v1, b_l1), (b_v2, b_l2), (b_v3, b_l3)) : Atm) = true) (lL : lightBs L = true) (ka : checkA ((a_s, a_p, a_n, (a_v0, a_l0), (a_v1, a_l1), (a_v2, a_l2), (a_v3, a_l3)) : Atm) = 0) (kb : checkA ((b_s, b_p, b_n, (b_v0, b_l0), (b_v1, b_l1), (b_v2, b_l2), (b_v3, b_l3)) : Atm) = 0)
    (hm : uniA ((a_s, a_p, a_n, (a_v0, a_l0), (a_v1, a_l1), (a_v2, a_l2), (a_v3, a_l3)) : Atm) ((b_s, b_p, b_n, (b_v0, b_l0), (b_v1, b_l1), (b_v2, b_l2), (b_v3, b_l3)) : Atm) = none) :
    Calls Try.prog 3 #[.agg #[.string ⟨a_s.toArray⟩, .string ⟨a_p.toArray⟩, .int .i64 a_n, .bool a_v0, .string ⟨a_l0.toArray⟩, .bool a_v1, .string ⟨a_l1.toArray⟩, .bool a_v2, .string ⟨a_l2.toArray⟩, .bool a_v3, .string ⟨a_l3.toArray⟩], .agg #[.string ⟨b_s.toArray⟩, .string ⟨b_p.toArray⟩, .int .i64 b_n, .bool b_v0, .string ⟨b_l0.toArray⟩, .bool b_v1, .string ⟨b_l1.toArray⟩, .bool b_v2, .string ⟨b_l2.toArray⟩, .bool b_v3, .string ⟨b_l3.toArray⟩], v] w fun e w' => e = .returned (.bool true) ∧ Since w w' := by
  have hf := uni_facts ka kb
  have hne : eqA (applyA L ((a_s, a_p, a_n, (a_v0, a_l0), (a_v1, a_l1), (a_v2, a_l2), (a_v3, a_l3)) : Atm)) (applyA L ((b_s, b_p, b_n, (b_v0, b_l0), (b_v1, b_l1), (b_v2, b_l2), (b_v3, b_l3)) : Atm)) = false := eqA_ne fun e => by
    obtain ⟨m, h1, _⟩ := hf.2.2 L e
    rw [hm] at h1; cases h1
  have HU1 := Lib.hid (fun W => unify_none a_s a_p a_n a_v0 a_v1 a_v2 a_v3 a_l0 a_l1 a_l2 a_l3 b_s b_p b_n b_v0 b_v1 b_v2 b_v3 b_l0 b_l1 b_l2 b_l3 ka kb hm W)
  have HU2 := Lib.hid (fun W => unify_none b_s b_p b_n b_v0 b_v1 b_v2 b_v3 b_l0 b_l1 b_l2 b_l3 a_s a_p a_n a_v0 a_v1 a_v2 a_v3 a_l0 a_l1 a_l2 a_l3 kb ka (hf.1.trans hm) W)
  obtain ⟨x, hx⟩ : ∃ x, applyA L ((a_s, a_p, a_n, (a_v0, a_l0), (a_v1, a_l1), (a_v2, a_l2), (a_v3, a_l3)) : Atm) = x := ⟨_, rfl⟩
  obtain ⟨y, hy⟩ : ∃ y, applyA L ((b_s, b_p, b_n, (b_v0, b_l0), (b_v1, b_l1), (b_v2, b_l2), (b_v3, b_l3)) : Atm) = y := ⟨_, rfl⟩
  obtain ⟨x_s, x_p, x_n, ⟨x_v0, x_l0⟩, ⟨x_v1, x_l1⟩, ⟨x_v2, x_l2⟩, ⟨x_v3, x_l3⟩⟩ := x
  obtain ⟨y_s, y_p, y_n, ⟨y_v0, y_l0⟩, ⟨y_v1, y_l1⟩, ⟨y_v2, y_l2⟩, ⟨y_v3, y_l3⟩⟩ := y
  have hl20 := lightBs_len lL
  have HX : Hid (∀ W, RowOf 3 bndC W v L → Calls Try.prog 12 #[v, .agg #[.string ⟨a_s.toArray⟩, .string ⟨a_p.toArray⟩, .int .i64 a_n, .bool a_v0, .string ⟨a_l0.toArray⟩, .bool a_v1, .string ⟨a_l1.toArray⟩, .bool a_v2, .string ⟨a_l2.toArray⟩, .bool a_v3, .string ⟨a_l3.toArray⟩]] W fun e w' => e = .returned (.agg #[.string ⟨x_s.toArray⟩, .string ⟨x_p.toArray⟩, .int .i64 x_n, .bool x_v0, .string ⟨x_l0.toArray⟩, .bool x_v1, .string ⟨x_l1.toArray⟩, .bool x_v2, .string ⟨x_l2.toArray⟩, .bool x_v3, .string ⟨x_l3.toArray⟩]) ∧ Since W w') := by
    intro W h
    have := rapplyb_any v L a_s a_p a_n a_v0 a_v1 a_v2 a_v3 a_l0 a_l1 a_l2 a_l3 W h (by omega)
    rw [hx] at this; exact this
  have HY : Hid (∀ W, RowOf 3 bndC W v L → Calls Try.prog 12 #[v, .agg #[.string ⟨b_s.toArray⟩, .string ⟨b_p.toArray⟩, .int .i64 b_n, .bool b_v0, .string ⟨b_l0.toArray⟩, .bool b_v1, .string ⟨b_l1.toArray⟩, .bool b_v2, .string ⟨b_l2.toArray⟩, .bool b_v3, .string ⟨b_l3.toArray⟩]] W fun e w' => e = .returned (.agg #[.string ⟨y_s.toArray⟩, .string ⟨y_p.toArray⟩, .int .i64 y_n, .bool y_v0, .string ⟨y_l0.toArray⟩, .bool y_v1, .string ⟨y_l1.toArray⟩, .bool y_v2, .string ⟨y_l2.toArray⟩, .bool y_v3, .string ⟨y_l3.toArray⟩]) ∧ Since W w') := by
    intro W h
    have := rapplyb_any v L b_s b_p b_n b_v0 b_v1 b_v2 b_v3 b_l0 b_l1 b_l2 b_l3 W h (by omega)
    rw [hy] at this; exact this
  rw [hx, hy] at hne
  clear hf hm hx hy
  have hS : Since w ((w.alloc (.cells #[.string ⟨a_s.toArray⟩, .string ⟨a_p.toArray⟩, .int .i64 a_n, .bool a_v0, .string ⟨a_l0.toArray⟩, .bool a_v1, .string ⟨a_l1.toArray⟩, .bool a_v2, .string ⟨a_l2.toArray⟩, .bool a_v3, .string ⟨a_l3.toArray⟩] 26)).alloc (.cells #[.string ⟨b_s.toArray⟩, .string ⟨b_p.toArray⟩, .int .i64 b_n, .bool b_v0, .string ⟨b_l0.toArray⟩, .bool b_v1, .string ⟨b_l1.toArray⟩, .bool b_v2, .string ⟨b_l2.toArray⟩, .bool b_v3, .string ⟨b_l3.toArray⟩] 26)) := ((Since.refl _).alloc _).alloc _
  have a_B : Box ((w.alloc (.cells #[.string ⟨a_s.toArray⟩, .string ⟨a_p.toArray⟩, .int .i64 a_n, .bool a_v0, .string ⟨a_l0.toArray⟩, .bool a_v1, .string ⟨a_l1.toArray⟩, .bool a_v2, .string ⟨a_l2.toArray⟩, .bool a_v3, .string ⟨a_l3.toArray⟩] 26)).alloc (.cells #[.string ⟨b_s.toArray⟩, .string ⟨b_p.toArray⟩, .int .i64 b_n, .bool b_v0, .string ⟨b_l0.toArray⟩, .bool b_v1, .string ⟨b_l1.toArray⟩, .bool b_v2, .string ⟨b_l2.toArray⟩, .bool b_v3, .string ⟨b_l3.toArray⟩] 26)) w.heap.size ((a_s, a_p, a_n, (a_v0, a_l0), (a_v1, a_l1), (a_v2, a_l2), (a_v3, a_l3)) : Atm) := (box_new w ((a_s, a_p, a_n, (a_v0, a_l0), (a_v1, a_l1), (a_v2, a_l2), (a_v3, a_l3)) : Atm) _).next ((Since.refl _).alloc _)
  have b_B : Box ((w.alloc (.cells #[.string ⟨a_s.toArray⟩, .string ⟨a_p.toArray⟩, .int .i64 a_n, .bool a_v0, .string ⟨a_l0.toArray⟩, .bool a_v1, .string ⟨a_l1.toArray⟩, .bool a_v2, .string ⟨a_l2.toArray⟩, .bool a_v3, .string ⟨a_l3.toArray⟩] 26)).alloc (.cells #[.string ⟨b_s.toArray⟩, .string ⟨b_p.toArray⟩, .int .i64 b_n, .bool b_v0, .string ⟨b_l0.toArray⟩, .bool b_v1, .string ⟨b_l1.toArray⟩, .bool b_v2, .string ⟨b_l2.toArray⟩, .bool b_v3, .string ⟨b_l3.toArray⟩] 26)) (w.heap.size + 1) ((b_s, b_p, b_n, (b_v0, b_l0), (b_v1, b_l1), (b_v2, b_l2), (b_v3, b_l3)) : Atm) := by
    have := box_new (w.alloc (.cells #[.string ⟨a_s.toArray⟩, .string ⟨a_p.toArray⟩, .int .i64 a_n, .bool a_v0, .string ⟨a_l0.toArray⟩, .bool a_v1, .string ⟨a_l1.toArray⟩, .bool a_v2, .string ⟨a_l2.toArray⟩, .bool a_v3, .string ⟨a_l3.toArray⟩] 26)) ((b_s, b_p, b_n, (b_v0, b_l0), (b_v1, b_l1), (b_v2, b_l2), (b_v3, b_l3)) : Atm) 26
    rwa [World.size_alloc] at this
  obtain ⟨a_c0, a_c1, a_c2, a_c3, a_c4, a_c5, a_c6, a_c7, a_c8, a_c9, a_c10⟩ := a_B.all
  obtain ⟨b_c0, b_c1, b_c2, b_c3, b_c4, b_c5, b_c6, b_c7, b_c8, b_c9, b_c10⟩ := b_B.all
  have HV := Lib.hid hv
  have HLB := Lib.hid (fun W (h : RowOf 3 bndC W v L) => lightBs_any v L W h hlen)
  have HFA := Lib.hid fa
  have HFB := Lib.hid fb
  clear hv hlen fa fb
  go_enter Try.func3, Try.ntmps3
  go_wp2_with (first
      | (go_at_call 5; refine (lives06_any _).mono ?_; rintro e w1 ⟨rfl, hb⟩; replace hS := hS.trans hb; replace a_B := a_B.next hb; replace a_c0 := hb.cell a_c0; replace a_c1 := hb.cell a_c1; replace a_c2 := hb.cell a_c2; replace a_c3 := hb.cell a_c3; replace a_c4 := hb.cell a_c4; replace a_c5 := hb.cell a_c5; replace a_c6 := hb.cell a_c6; replace a_c7 := hb.cell a_c7; replace a_c8 := hb.cell a_c8; replace a_c9 := hb.cell a_c9; replace a_c10 := hb.cell a_c10; replace b_B := b_B.next hb; replace b_c0 := hb.cell b_c0; replace b_c1 := hb.cell b_c1; replace b_c2 := hb.cell b_c2; replace b_c3 := hb.cell b_c3; replace b_c4 := hb.cell b_c4; replace b_c5 := hb.cell b_c5; replace b_c6 := hb.cell b_c6; replace b_c7 := hb.cell b_c7; replace b_c8 := hb.cell b_c8; replace b_c9 := hb.cell b_c9; replace b_c10 := hb.cell b_c10)
      | (go_at_call 6; first | ((with_reducible refine (light_any a_s a_p a_n a_v0 a_v1 a_v2 a_v3 a_l0 a_l1 a_l2 a_l3 _).mono ?_); rintro e w1 ⟨rfl, hb⟩; rw [la]; replace hS := hS.trans hb; replace a_B := a_B.next hb; replace a_c0 := hb.cell a_c0; replace a_c1 := hb.cell a_c1; replace a_c2 := hb.cell a_c2; replace a_c3 := hb.cell a_c3; replace a_c4 := hb.cell a_c4; replace a_c5 := hb.cell a_c5; replace a_c6 := hb.cell a_c6; replace a_c7 := hb.cell a_c7; replace a_c8 := hb.cell a_c8; replace a_c9 := hb.cell a_c9; replace a_c10 := hb.cell a_c10; replace b_B := b_B.next hb; replace b_c0 := hb.cell b_c0; replace b_c1 := hb.cell b_c1; replace b_c2 := hb.cell b_c2; replace b_c3 := hb.cell b_c3; replace b_c4 := hb.cell b_c4; replace b_c5 := hb.cell b_c5; replace b_c6 := hb.cell b_c6; replace b_c7 := hb.cell b_c7; replace b_c8 := hb.cell b_c8; replace b_c9 := hb.cell b_c9; replace b_c10 := hb.cell b_c10) | ((with_reducible refine (light_any b_s b_p b_n b_v0 b_v1 b_v2 b_v3 b_l0 b_l1 b_l2 b_l3 _).mono ?_); rintro e w1 ⟨rfl, hb⟩; rw [lb]; replace hS := hS.trans hb; replace a_B := a_B.next hb; replace a_c0 := hb.cell a_c0; replace a_c1 := hb.cell a_c1; replace a_c2 := hb.cell a_c2; replace a_c3 := hb.cell a_c3; replace a_c4 := hb.cell a_c4; replace a_c5 := hb.cell a_c5; replace a_c6 := hb.cell a_c6; replace a_c7 := hb.cell a_c7; replace a_c8 := hb.cell a_c8; replace a_c9 := hb.cell a_c9; replace a_c10 := hb.cell a_c10; replace b_B := b_B.next hb; replace b_c0 := hb.cell b_c0; replace b_c1 := hb.cell b_c1; replace b_c2 := hb.cell b_c2; replace b_c3 := hb.cell b_c3; replace b_c4 := hb.cell b_c4; replace b_c5 := hb.cell b_c5; replace b_c6 := hb.cell b_c6; replace b_c7 := hb.cell b_c7; replace b_c8 := hb.cell b_c8; replace b_c9 := hb.cell b_c9; replace b_c10 := hb.cell b_c10))
      | (go_at_call 7; refine (HLB.out _ (HV.out.next hS)).mono ?_; rintro e w1 ⟨rfl, hb⟩; rw [lL]; replace hS := hS.trans hb; replace a_B := a_B.next hb; replace a_c0 := hb.cell a_c0; replace a_c1 := hb.cell a_c1; replace a_c2 := hb.cell a_c2; replace a_c3 := hb.cell a_c3; replace a_c4 := hb.cell a_c4; replace a_c5 := hb.cell a_c5; replace a_c6 := hb.cell a_c6; replace a_c7 := hb.cell a_c7; replace a_c8 := hb.cell a_c8; replace a_c9 := hb.cell a_c9; replace a_c10 := hb.cell a_c10; replace b_B := b_B.next hb; replace b_c0 := hb.cell b_c0; replace b_c1 := hb.cell b_c1; replace b_c2 := hb.cell b_c2; replace b_c3 := hb.cell b_c3; replace b_c4 := hb.cell b_c4; replace b_c5 := hb.cell b_c5; replace b_c6 := hb.cell b_c6; replace b_c7 := hb.cell b_c7; replace b_c8 := hb.cell b_c8; replace b_c9 := hb.cell b_c9; replace b_c10 := hb.cell b_c10)
      | (go_at_call 8; first | ((with_reducible refine (rcheck_any a_s a_p a_n a_v0 a_v1 a_v2 a_v3 a_l0 a_l1 a_l2 a_l3 _ HFA.out).mono ?_); rintro e w1 ⟨rfl, hb⟩; rw [ka]; replace hS := hS.trans hb; replace a_B := a_B.next hb; replace a_c0 := hb.cell a_c0; replace a_c1 := hb.cell a_c1; replace a_c2 := hb.cell a_c2; replace a_c3 := hb.cell a_c3; replace a_c4 := hb.cell a_c4; replace a_c5 := hb.cell a_c5; replace a_c6 := hb.cell a_c6; replace a_c7 := hb.cell a_c7; replace a_c8 := hb.cell a_c8; replace a_c9 := hb.cell a_c9; replace a_c10 := hb.cell a_c10; replace b_B := b_B.next hb; replace b_c0 := hb.cell b_c0; replace b_c1 := hb.cell b_c1; replace b_c2 := hb.cell b_c2; replace b_c3 := hb.cell b_c3; replace b_c4 := hb.cell b_c4; replace b_c5 := hb.cell b_c5; replace b_c6 := hb.cell b_c6; replace b_c7 := hb.cell b_c7; replace b_c8 := hb.cell b_c8; replace b_c9 := hb.cell b_c9; replace b_c10 := hb.cell b_c10) | ((with_reducible refine (rcheck_any b_s b_p b_n b_v0 b_v1 b_v2 b_v3 b_l0 b_l1 b_l2 b_l3 _ HFB.out).mono ?_); rintro e w1 ⟨rfl, hb⟩; rw [kb]; replace hS := hS.trans hb; replace a_B := a_B.next hb; replace a_c0 := hb.cell a_c0; replace a_c1 := hb.cell a_c1; replace a_c2 := hb.cell a_c2; replace a_c3 := hb.cell a_c3; replace a_c4 := hb.cell a_c4; replace a_c5 := hb.cell a_c5; replace a_c6 := hb.cell a_c6; replace a_c7 := hb.cell a_c7; replace a_c8 := hb.cell a_c8; replace a_c9 := hb.cell a_c9; replace a_c10 := hb.cell a_c10; replace b_B := b_B.next hb; replace b_c0 := hb.cell b_c0; replace b_c1 := hb.cell b_c1; replace b_c2 := hb.cell b_c2; replace b_c3 := hb.cell b_c3; replace b_c4 := hb.cell b_c4; replace b_c5 := hb.cell b_c5; replace b_c6 := hb.cell b_c6; replace b_c7 := hb.cell b_c7; replace b_c8 := hb.cell b_c8; replace b_c9 := hb.cell b_c9; replace b_c10 := hb.cell b_c10)))
  refine (HU1.out _).mono ?_
  rintro e w3 ⟨rfl, hb⟩
  replace hS := hS.trans hb
  replace a_B := a_B.next hb; replace a_c0 := hb.cell a_c0; replace a_c1 := hb.cell a_c1; replace a_c2 := hb.cell a_c2; replace a_c3 := hb.cell a_c3; replace a_c4 := hb.cell a_c4; replace a_c5 := hb.cell a_c5; replace a_c6 := hb.cell a_c6; replace a_c7 := hb.cell a_c7; replace a_c8 := hb.cell a_c8; replace a_c9 := hb.cell a_c9; replace a_c10 := hb.cell a_c10; replace b_B := b_B.next hb; replace b_c0 := hb.cell b_c0; replace b_c1 := hb.cell b_c1; replace b_c2 := hb.cell b_c2; replace b_c3 := hb.cell b_c3; replace b_c4 := hb.cell b_c4; replace b_c5 := hb.cell b_c5; replace b_c6 := hb.cell b_c6; replace b_c7 := hb.cell b_c7; replace b_c8 := hb.cell b_c8; replace b_c9 := hb.cell b_c9; replace b_c10 := hb.cell b_c10
  go_wp2_with fail
  refine (HU2.out _).mono ?_
  rintro e w4 ⟨rfl, hb⟩
  replace hS := hS.trans hb
  replace a_B := a_B.next hb; replace a_c0 := hb.cell a_c0; replace a_c1 := hb.cell a_c1; replace a_c2 := hb.cell a_c2; replace a_c3 := hb.cell a_c3; replace a_c4 := hb.cell a_c4; replace a_c5 := hb.cell a_c5; replace a_c6 := hb.cell a_c6; replace a_c7 := hb.cell a_c7; replace a_c8 := hb.cell a_c8; replace a_c9 := hb.cell a_c9; replace a_c10 := hb.cell a_c10; replace b_B := b_B.next hb; replace b_c0 := hb.cell b_c0; replace b_c1 := hb.cell b_c1; replace b_c2 := hb.cell b_c2; replace b_c3 := hb.cell b_c3; replace b_c4 := hb.cell b_c4; replace b_c5 := hb.cell b_c5; replace b_c6 := hb.cell b_c6; replace b_c7 := hb.cell b_c7; replace b_c8 := hb.cell b_c8; replace b_c9 := hb.cell b_c9; replace b_c10 := hb.cell b_c10
  go_wp2_with fail
  refine (same_bnd (.slice none 0 0) (.slice none 0 0) [] _ RowOf.nil RowOf.nil (by simp)).mono ?_
  rintro e w5 ⟨rfl, hb⟩
  replace hS := hS.trans hb
  replace a_B := a_B.next hb; replace a_c0 := hb.cell a_c0; replace a_c1 := hb.cell a_c1; replace a_c2 := hb.cell a_c2; replace a_c3 := hb.cell a_c3; replace a_c4 := hb.cell a_c4; replace a_c5 := hb.cell a_c5; replace a_c6 := hb.cell a_c6; replace a_c7 := hb.cell a_c7; replace a_c8 := hb.cell a_c8; replace a_c9 := hb.cell a_c9; replace a_c10 := hb.cell a_c10; replace b_B := b_B.next hb; replace b_c0 := hb.cell b_c0; replace b_c1 := hb.cell b_c1; replace b_c2 := hb.cell b_c2; replace b_c3 := hb.cell b_c3; replace b_c4 := hb.cell b_c4; replace b_c5 := hb.cell b_c5; replace b_c6 := hb.cell b_c6; replace b_c7 := hb.cell b_c7; replace b_c8 := hb.cell b_c8; replace b_c9 := hb.cell b_c9; replace b_c10 := hb.cell b_c10
  clear hb
  go_wp2_with fail
  go_quiet (fail)
  have hSo : Since w (w5.drewN nq) := hS.drewN nq
  replace a_B : Box (w5.drewN nq) w.heap.size ((a_s, a_p, a_n, (a_v0, a_l0), (a_v1, a_l1), (a_v2, a_l2), (a_v3, a_l3)) : Atm) := a_B
  replace b_B : Box (w5.drewN nq) (w.heap.size + 1) ((b_s, b_p, b_n, (b_v0, b_l0), (b_v1, b_l1), (b_v2, b_l2), (b_v3, b_l3)) : Atm) := b_B
  clear a_c0 a_c1 a_c2 a_c3 a_c4 a_c5 a_c6 a_c7 a_c8 a_c9 a_c10 b_c0 b_c1 b_c2 b_c3 b_c4 b_c5 b_c6 b_c7 b_c8 b_c9 b_c10 HU1 HU2
  go_wp2_with fail
  generalize w5.drewN nq = w6 at *
  refine wp_region_invX (X := Value × Value × Value × Value × Value × Value × Value × Value × Nat × Nat) (fun a0 x => match x with | (x74, x75, x76, x77, x78, x79, x11, x12, g11, g12) => Act.put (Act.put (Act.put (Act.put (Act.put (Act.put (Act.put (Act.put (a0) (some 74) x74) (some 75) x75) (some 76) x76) (some 77) x77) (some 78) x78) (some 79) x79) (some 11) x11) (some 12) x12) (fun x L W => match x with | (x74, x75, x76, x77, x78, x79, x11, x12, g11, g12) => Since (w6) W ∧ (L.getD 0 false = true → x74 = v) ∧ (L.getD 1 false = true → x75 = .agg #[.string ⟨a_s.toArray⟩, .string ⟨a_p.toArray⟩, .int .i64 a_n, .bool a_v0, .string ⟨a_l0.toArray⟩, .bool a_v1, .string ⟨a_l1.toArray⟩, .bool a_v2, .string ⟨a_l2.toArray⟩, .bool a_v3, .string ⟨a_l3.toArray⟩]) ∧ (L.getD 2 false = true → x76 = .agg #[.string ⟨x_s.toArray⟩, .string ⟨x_p.toArray⟩, .int .i64 x_n, .bool x_v0, .string ⟨x_l0.toArray⟩, .bool x_v1, .string ⟨x_l1.toArray⟩, .bool x_v2, .string ⟨x_l2.toArray⟩, .bool x_v3, .string ⟨x_l3.toArray⟩]) ∧ (L.getD 3 false = true → x77 = v) ∧ (L.getD 4 false = true → x78 = .agg #[.string ⟨b_s.toArray⟩, .string ⟨b_p.toArray⟩, .int .i64 b_n, .bool b_v0, .string ⟨b_l0.toArray⟩, .bool b_v1, .string ⟨b_l1.toArray⟩, .bool b_v2, .string ⟨b_l2.toArray⟩, .bool b_v3, .string ⟨b_l3.toArray⟩]) ∧ (L.getD 5 false = true → x79 = .agg #[.string ⟨y_s.toArray⟩, .string ⟨y_p.toArray⟩, .int .i64 y_n, .bool y_v0, .string ⟨y_l0.toArray⟩, .bool y_v1, .string ⟨y_l1.toArray⟩, .bool y_v2, .string ⟨y_l2.toArray⟩, .bool y_v3, .string ⟨y_l3.toArray⟩]) ∧ (L.getD 6 false = true → x11 = .pointer (some ⟨g11, 0, none⟩) ∧ (w6).heap.size ≤ g11 ∧ g11 < W.heap.size) ∧ (L.getD 8 false = true → L.getD 6 false = true) ∧ (L.getD 6 false = true → L.getD 8 false = false → Cel W g11 #[.string ⟨#[]⟩, .string ⟨#[]⟩, .int .i64 0, .bool false, .string ⟨#[]⟩, .bool false, .string ⟨#[]⟩, .bool false, .string ⟨#[]⟩, .bool false, .string ⟨#[]⟩] 26) ∧ (L.getD 8 false = true → Cel W g11 #[.string ⟨x_s.toArray⟩, .string ⟨x_p.toArray⟩, .int .i64 x_n, .bool x_v0, .string ⟨x_l0.toArray⟩, .bool x_v1, .string ⟨x_l1.toArray⟩, .bool x_v2, .string ⟨x_l2.toArray⟩, .bool x_v3, .string ⟨x_l3.toArray⟩] 26) ∧ (L.getD 7 false = true → x12 = .pointer (some ⟨g12, 0, none⟩) ∧ (w6).heap.size ≤ g12 ∧ g12 < W.heap.size) ∧ (L.getD 9 false = true → L.getD 7 false = true) ∧ (L.getD 7 false = true → L.getD 9 false = false → Cel W g12 #[.string ⟨#[]⟩, .string ⟨#[]⟩, .int .i64 0, .bool false, .string ⟨#[]⟩, .bool false, .string ⟨#[]⟩, .bool false, .string ⟨#[]⟩, .bool false, .string ⟨#[]⟩] 26) ∧ (L.getD 9 false = true → Cel W g12 #[.string ⟨y_s.toArray⟩, .string ⟨y_p.toArray⟩, .int .i64 y_n, .bool y_v0, .string ⟨y_l0.toArray⟩, .bool y_v1, .string ⟨y_l1.toArray⟩, .bool y_v2, .string ⟨y_l2.toArray⟩, .bool y_v3, .string ⟨y_l3.toArray⟩] 26) ∧ (L.getD 6 false = true → L.getD 7 false = true → g11 ≠ g12)) (by kernel_rfl) (by kernel_rfl) ?start ?steps ?stop
  case start => exact fun b v hv => ⟨(v 74, v 75, v 76, v 77, v 78, v 79, v 11, v 12, 0, 0), (by simp only [hv]), (Since.refl _).drew, fun h => none_yet h, fun h => none_yet h, fun h => none_yet h, fun h => none_yet h, fun h => none_yet h, fun h => none_yet h, fun h => none_yet h, fun h => none_yet h, fun h => none_yet h, fun h => none_yet h, fun h => none_yet h, fun h => none_yet h, fun h => none_yet h, fun h => none_yet h, fun h => none_yet h⟩
  case steps =>
    refine ⟨⟨rfl, ?_⟩, ⟨rfl, ?_⟩, ⟨rfl, ?_⟩, ⟨rfl, ?_⟩, ⟨rfl, ?_⟩, ⟨rfl, ?_⟩, ⟨rfl, ?_⟩, ⟨rfl, ?_⟩, ⟨rfl, ?_⟩, ⟨rfl, ?_⟩, trivial⟩
    · intro L x W hJ hlt hk hd K' hK
      obtain ⟨x74, x75, x76, x77, x78, x79, x11, x12, g11, g12⟩ := x
      obtain ⟨hS, f0, f1, f2, f3, f4, f5, p6, q6, z6, c6, p7, q7, z7, c7, n6_7⟩ := hJ
      refine ⟨?_⟩
      simp only [Act.put, List.setIfInBounds_toArray, List.set_cons_zero, List.set_cons_succ]
      go_simp
      refine kput (hK ((v), x75, x76, x77, x78, x79, x11, x12, g11, g12) _ ⟨hS, fun _ => rfl, fun h => f1 (not_k h (by decide)), fun h => f2 (not_k h (by decide)), fun h => f3 (not_k h (by decide)), fun h => f4 (not_k h (by decide)), fun h => f5 (not_k h (by decide)), fun h => p6 (not_k h (by decide)), fun h => getD_set_true (q6 (not_k h (by decide))), fun h h2 => z6 (not_k h (by decide)) (not_k' h2 (by decide)), fun h => c6 (not_k h (by decide)), fun h => p7 (not_k h (by decide)), fun h => getD_set_true (q7 (not_k h (by decide))), fun h h2 => z7 (not_k h (by decide)) (not_k' h2 (by decide)), fun h => c7 (not_k h (by decide)), fun h h2 => n6_7 (not_k h (by decide)) (not_k h2 (by decide))⟩) ?_
      simp only [Act.put, List.setIfInBounds_toArray, List.set_cons_zero, List.set_cons_succ]
    · intro L x W hJ hlt hk hd K' hK
      obtain ⟨x74, x75, x76, x77, x78, x79, x11, x12, g11, g12⟩ := x
      obtain ⟨hS, f0, f1, f2, f3, f4, f5, p6, q6, z6, c6, p7, q7, z7, c7, n6_7⟩ := hJ
      obtain ⟨a_c0, a_c1, a_c2, a_c3, a_c4, a_c5, a_c6, a_c7, a_c8, a_c9, a_c10⟩ := (a_B.next hS).all
      refine ⟨?_⟩
      simp only [Act.put, List.setIfInBounds_toArray, List.set_cons_zero, List.set_cons_succ]
      go_simp
      refine kput (hK (x74, (.agg #[.string ⟨a_s.toArray⟩, .string ⟨a_p.toArray⟩, .int .i64 a_n, .bool a_v0, .string ⟨a_l0.toArray⟩, .bool a_v1, .string ⟨a_l1.toArray⟩, .bool a_v2, .string ⟨a_l2.toArray⟩, .bool a_v3, .string ⟨a_l3.toArray⟩]), x76, x77, x78, x79, x11, x12, g11, g12) _ ⟨hS, fun h => f0 (not_k h (by decide)), fun _ => rfl, fun h => f2 (not_k h (by decide)), fun h => f3 (not_k h (by decide)), fun h => f4 (not_k h (by decide)), fun h => f5 (not_k h (by decide)), fun h => p6 (not_k h (by decide)), fun h => getD_set_true (q6 (not_k h (by decide))), fun h h2 => z6 (not_k h (by decide)) (not_k' h2 (by decide)), fun h => c6 (not_k h (by decide)), fun h => p7 (not_k h (by decide)), fun h => getD_set_true (q7 (not_k h (by decide))), fun h h2 => z7 (not_k h (by decide)) (not_k' h2 (by decide)), fun h => c7 (not_k h (by decide)), fun h h2 => n6_7 (not_k h (by decide)) (not_k h2 (by decide))⟩) ?_
      simp only [Act.put, List.setIfInBounds_toArray, List.set_cons_zero, List.set_cons_succ]
    · intro L x W hJ hlt hk hd K' hK
      obtain ⟨x74, x75, x76, x77, x78, x79, x11, x12, g11, g12⟩ := x
      obtain ⟨hS, f0, f1, f2, f3, f4, f5, p6, q6, z6, c6, p7, q7, z7, c7, n6_7⟩ := hJ
      have d0 : L.getD 0 false = true := dep_of hd 0 (by rfl)
      obtain rfl := (f0 d0).symm
      have d1 : L.getD 1 false = true := dep_of hd 1 (by rfl)
      obtain rfl := (f1 d1).symm
      refine ⟨?_⟩
      simp only [Act.put, List.setIfInBounds_toArray, List.set_cons_zero, List.set_cons_succ]
      (go_simp; go_at_call 12; refine (HX.out _ (HV.out.next (hSo.trans hS))).mono ?_; rintro e w2 ⟨rfl, hb⟩; (try go_simp))
      refine kput (hK ((v), (.agg #[.string ⟨a_s.toArray⟩, .string ⟨a_p.toArray⟩, .int .i64 a_n, .bool a_v0, .string ⟨a_l0.toArray⟩, .bool a_v1, .string ⟨a_l1.toArray⟩, .bool a_v2, .string ⟨a_l2.toArray⟩, .bool a_v3, .string ⟨a_l3.toArray⟩]), (.agg #[.string ⟨x_s.toArray⟩, .string ⟨x_p.toArray⟩, .int .i64 x_n, .bool x_v0, .string ⟨x_l0.toArray⟩, .bool x_v1, .string ⟨x_l1.toArray⟩, .bool x_v2, .string ⟨x_l2.toArray⟩, .bool x_v3, .string ⟨x_l3.toArray⟩]), x77, x78, x79, x11, x12, g11, g12) _ ⟨hS.trans hb, fun h => f0 (not_k h (by decide)), fun h => f1 (not_k h (by decide)), fun _ => rfl, fun h => f3 (not_k h (by decide)), fun h => f4 (not_k h (by decide)), fun h => f5 (not_k h (by decide)), fun h => ⟨(p6 (not_k h (by decide))).1, (p6 (not_k h (by decide))).2.1, Nat.lt_of_lt_of_le (p6 (not_k h (by decide))).2.2 hb.size⟩, fun h => getD_set_true (q6 (not_k h (by decide))), fun h h2 => (z6 (not_k h (by decide)) (not_k' h2 (by decide))).next hb, fun h => (c6 (not_k h (by decide))).next hb, fun h => ⟨(p7 (not_k h (by decide))).1, (p7 (not_k h (by decide))).2.1, Nat.lt_of_lt_of_le (p7 (not_k h (by decide))).2.2 hb.size⟩, fun h => getD_set_true (q7 (not_k h (by decide))), fun h h2 => (z7 (not_k h (by decide)) (not_k' h2 (by decide))).next hb, fun h => (c7 (not_k h (by decide))).next hb, fun h h2 => n6_7 (not_k h (by decide)) (not_k h2 (by decide))⟩) ?_
      simp only [Act.put, List.setIfInBounds_toArray, List.set_cons_zero, List.set_cons_succ]
    · intro L x W hJ hlt hk hd K' hK
      obtain ⟨x74, x75, x76, x77, x78, x79, x11, x12, g11, g12⟩ := x
      obtain ⟨hS, f0, f1, f2, f3, f4, f5, p6, q6, z6, c6, p7, q7, z7, c7, n6_7⟩ := hJ
      refine ⟨?_⟩
      simp only [Act.put, List.setIfInBounds_toArray, List.set_cons_zero, List.set_cons_succ]
      go_simp
      refine kput (hK (x74, x75, x76, (v), x78, x79, x11, x12, g11, g12) _ ⟨hS, fun h => f0 (not_k h (by decide)), fun h => f1 (not_k h (by decide)), fun h => f2 (not_k h (by decide)), fun _ => rfl, fun h => f4 (not_k h (by decide)), fun h => f5 (not_k h (by decide)), fun h => p6 (not_k h (by decide)), fun h => getD_set_true (q6 (not_k h (by decide))), fun h h2 => z6 (not_k h (by decide)) (not_k' h2 (by decide)), fun h => c6 (not_k h (by decide)), fun h => p7 (not_k h (by decide)), fun h => getD_set_true (q7 (not_k h (by decide))), fun h h2 => z7 (not_k h (by decide)) (not_k' h2 (by decide)), fun h => c7 (not_k h (by decide)), fun h h2 => n6_7 (not_k h (by decide)) (not_k h2 (by decide))⟩) ?_
      simp only [Act.put, List.setIfInBounds_toArray, List.set_cons_zero, List.set_cons_succ]
    · intro L x W hJ hlt hk hd K' hK
      obtain ⟨x74, x75, x76, x77, x78, x79, x11, x12, g11, g12⟩ := x
      obtain ⟨hS, f0, f1, f2, f3, f4, f5, p6, q6, z6, c6, p7, q7, z7, c7, n6_7⟩ := hJ
      obtain ⟨b_c0, b_c1, b_c2, b_c3, b_c4, b_c5, b_c6, b_c7, b_c8, b_c9, b_c10⟩ := (b_B.next hS).all
      refine ⟨?_⟩
      simp only [Act.put, List.setIfInBounds_toArray, List.set_cons_zero, List.set_cons_succ]
      go_simp
      refine kput (hK (x74, x75, x76, x77, (.agg #[.string ⟨b_s.toArray⟩, .string ⟨b_p.toArray⟩, .int .i64 b_n, .bool b_v0, .string ⟨b_l0.toArray⟩, .bool b_v1, .string ⟨b_l1.toArray⟩, .bool b_v2, .string ⟨b_l2.toArray⟩, .bool b_v3, .string ⟨b_l3.toArray⟩]), x79, x11, x12, g11, g12) _ ⟨hS, fun h => f0 (not_k h (by decide)), fun h => f1 (not_k h (by decide)), fun h => f2 (not_k h (by decide)), fun h => f3 (not_k h (by decide)), fun _ => rfl, fun h => f5 (not_k h (by decide)), fun h => p6 (not_k h (by decide)), fun h => getD_set_true (q6 (not_k h (by decide))), fun h h2 => z6 (not_k h (by decide)) (not_k' h2 (by decide)), fun h => c6 (not_k h (by decide)), fun h => p7 (not_k h (by decide)), fun h => getD_set_true (q7 (not_k h (by decide))), fun h h2 => z7 (not_k h (by decide)) (not_k' h2 (by decide)), fun h => c7 (not_k h (by decide)), fun h h2 => n6_7 (not_k h (by decide)) (not_k h2 (by decide))⟩) ?_
      simp only [Act.put, List.setIfInBounds_toArray, List.set_cons_zero, List.set_cons_succ]
    · intro L x W hJ hlt hk hd K' hK
      obtain ⟨x74, x75, x76, x77, x78, x79, x11, x12, g11, g12⟩ := x
      obtain ⟨hS, f0, f1, f2, f3, f4, f5, p6, q6, z6, c6, p7, q7, z7, c7, n6_7⟩ := hJ
      have d3 : L.getD 3 false = true := dep_of hd 3 (by rfl)
      obtain rfl := (f3 d3).symm
      have d4 : L.getD 4 false = true := dep_of hd 4 (by rfl)
      obtain rfl := (f4 d4).symm
      refine ⟨?_⟩
      simp only [Act.put, List.setIfInBounds_toArray, List.set_cons_zero, List.set_cons_succ]
      (go_simp; go_at_call 12; refine (HY.out _ (HV.out.next (hSo.trans hS))).mono ?_; rintro e w2 ⟨rfl, hb⟩; (try go_simp))
      refine kput (hK (x74, x75, x76, (v), (.agg #[.string ⟨b_s.toArray⟩, .string ⟨b_p.toArray⟩, .int .i64 b_n, .bool b_v0, .string ⟨b_l0.toArray⟩, .bool b_v1, .string ⟨b_l1.toArray⟩, .bool b_v2, .string ⟨b_l2.toArray⟩, .bool b_v3, .string ⟨b_l3.toArray⟩]), (.agg #[.string ⟨y_s.toArray⟩, .string ⟨y_p.toArray⟩, .int .i64 y_n, .bool y_v0, .string ⟨y_l0.toArray⟩, .bool y_v1, .string ⟨y_l1.toArray⟩, .bool y_v2, .string ⟨y_l2.toArray⟩, .bool y_v3, .string ⟨y_l3.toArray⟩]), x11, x12, g11, g12) _ ⟨hS.trans hb, fun h => f0 (not_k h (by decide)), fun h => f1 (not_k h (by decide)), fun h => f2 (not_k h (by decide)), fun h => f3 (not_k h (by decide)), fun h => f4 (not_k h (by decide)), fun _ => rfl, fun h => ⟨(p6 (not_k h (by decide))).1, (p6 (not_k h (by decide))).2.1, Nat.lt_of_lt_of_le (p6 (not_k h (by decide))).2.2 hb.size⟩, fun h => getD_set_true (q6 (not_k h (by decide))), fun h h2 => (z6 (not_k h (by decide)) (not_k' h2 (by decide))).next hb, fun h => (c6 (not_k h (by decide))).next hb, fun h => ⟨(p7 (not_k h (by decide))).1, (p7 (not_k h (by decide))).2.1, Nat.lt_of_lt_of_le (p7 (not_k h (by decide))).2.2 hb.size⟩, fun h => getD_set_true (q7 (not_k h (by decide))), fun h h2 => (z7 (not_k h (by decide)) (not_k' h2 (by decide))).next hb, fun h => (c7 (not_k h (by decide))).next hb, fun h h2 => n6_7 (not_k h (by decide)) (not_k h2 (by decide))⟩) ?_
      simp only [Act.put, List.setIfInBounds_toArray, List.set_cons_zero, List.set_cons_succ]
    · intro L x W hJ hlt hk hd K' hK
      obtain ⟨x74, x75, x76, x77, x78, x79, x11, x12, g11, g12⟩ := x
      obtain ⟨hS, f0, f1, f2, f3, f4, f5, p6, q6, z6, c6, p7, q7, z7, c7, n6_7⟩ := hJ
      refine ⟨?_⟩
      simp only [Act.put, List.setIfInBounds_toArray, List.set_cons_zero, List.set_cons_succ]
      go_simp
      have hb : Since W (W.alloc (.cells #[.string ⟨#[]⟩, .string ⟨#[]⟩, .int .i64 0, .bool false, .string ⟨#[]⟩, .bool false, .string ⟨#[]⟩, .bool false, .string ⟨#[]⟩, .bool false, .string ⟨#[]⟩] 26)) := (Since.refl _).alloc _
      refine kput (hK (x74, x75, x76, x77, x78, x79, (.pointer (some ⟨W.heap.size, 0, none⟩)), x12, W.heap.size, g12) _ ⟨hS.trans hb, fun h => f0 (not_k h (by decide)), fun h => f1 (not_k h (by decide)), fun h => f2 (not_k h (by decide)), fun h => f3 (not_k h (by decide)), fun h => f4 (not_k h (by decide)), fun h => f5 (not_k h (by decide)), fun _ => ⟨rfl, hS.size, by simp⟩, fun h => getD_set_true (q6 (not_k h (by decide))), fun _ _ => heap_alloc_new W _, fun h => absurd (q6 (not_k h (by decide))) (by rw [hk]; decide), fun h => ⟨(p7 (not_k h (by decide))).1, (p7 (not_k h (by decide))).2.1, Nat.lt_of_lt_of_le (p7 (not_k h (by decide))).2.2 hb.size⟩, fun h => getD_set_true (q7 (not_k h (by decide))), fun h h2 => (z7 (not_k h (by decide)) (not_k' h2 (by decide))).next hb, fun h => (c7 (not_k h (by decide))).next hb, fun _ h => Nat.ne_of_gt (p7 (not_k h (by decide))).2.2⟩) ?_
      simp only [Act.put, List.setIfInBounds_toArray, List.set_cons_zero, List.set_cons_succ]
    · intro L x W hJ hlt hk hd K' hK
      obtain ⟨x74, x75, x76, x77, x78, x79, x11, x12, g11, g12⟩ := x
      obtain ⟨hS, f0, f1, f2, f3, f4, f5, p6, q6, z6, c6, p7, q7, z7, c7, n6_7⟩ := hJ
      refine ⟨?_⟩
      simp only [Act.put, List.setIfInBounds_toArray, List.set_cons_zero, List.set_cons_succ]
      go_simp
      have hb : Since W (W.alloc (.cells #[.string ⟨#[]⟩, .string ⟨#[]⟩, .int .i64 0, .bool false, .string ⟨#[]⟩, .bool false, .string ⟨#[]⟩, .bool false, .string ⟨#[]⟩, .bool false, .string ⟨#[]⟩] 26)) := (Since.refl _).alloc _
      refine kput (hK (x74, x75, x76, x77, x78, x79, x11, (.pointer (some ⟨W.heap.size, 0, none⟩)), g11, W.heap.size) _ ⟨hS.trans hb, fun h => f0 (not_k h (by decide)), fun h => f1 (not_k h (by decide)), fun h => f2 (not_k h (by decide)), fun h => f3 (not_k h (by decide)), fun h => f4 (not_k h (by decide)), fun h => f5 (not_k h (by decide)), fun h => ⟨(p6 (not_k h (by decide))).1, (p6 (not_k h (by decide))).2.1, Nat.lt_of_lt_of_le (p6 (not_k h (by decide))).2.2 hb.size⟩, fun h => getD_set_true (q6 (not_k h (by decide))), fun h h2 => (z6 (not_k h (by decide)) (not_k' h2 (by decide))).next hb, fun h => (c6 (not_k h (by decide))).next hb, fun _ => ⟨rfl, hS.size, by simp⟩, fun h => getD_set_true (q7 (not_k h (by decide))), fun _ _ => heap_alloc_new W _, fun h => absurd (q7 (not_k h (by decide))) (by rw [hk]; decide), fun h _ => Nat.ne_of_lt (p6 (not_k h (by decide))).2.2⟩) ?_
      simp only [Act.put, List.setIfInBounds_toArray, List.set_cons_zero, List.set_cons_succ]
    · intro L x W hJ hlt hk hd K' hK
      obtain ⟨x74, x75, x76, x77, x78, x79, x11, x12, g11, g12⟩ := x
      obtain ⟨hS, f0, f1, f2, f3, f4, f5, p6, q6, z6, c6, p7, q7, z7, c7, n6_7⟩ := hJ
      have d6 : L.getD 6 false = true := dep_of hd 6 (by rfl)
      obtain ⟨rfl, pl6, pg6⟩ := p6 d6
      have d2 : L.getD 2 false = true := dep_of hd 2 (by rfl)
      obtain rfl := (f2 d2).symm
      refine ⟨?_⟩
      simp only [Act.put, List.setIfInBounds_toArray, List.set_cons_zero, List.set_cons_succ]
      refine wp_store_row 26 (.tmp 11) (.tmp 76) rfl g11 #[.string ⟨x_s.toArray⟩, .string ⟨x_p.toArray⟩, .int .i64 x_n, .bool x_v0, .string ⟨x_l0.toArray⟩, .bool x_v1, .string ⟨x_l1.toArray⟩, .bool x_v2, .string ⟨x_l2.toArray⟩, .bool x_v3, .string ⟨x_l3.toArray⟩] rfl rfl 26 #[.string ⟨#[]⟩, .string ⟨#[]⟩, .int .i64 0, .bool false, .string ⟨#[]⟩, .bool false, .string ⟨#[]⟩, .bool false, .string ⟨#[]⟩, .bool false, .string ⟨#[]⟩] (z6 d6 hk) ainfoA rfl (by simp [Value.oneCell']) ?_
      refine kput (hK (x74, x75, (.agg #[.string ⟨x_s.toArray⟩, .string ⟨x_p.toArray⟩, .int .i64 x_n, .bool x_v0, .string ⟨x_l0.toArray⟩, .bool x_v1, .string ⟨x_l1.toArray⟩, .bool x_v2, .string ⟨x_l2.toArray⟩, .bool x_v3, .string ⟨x_l3.toArray⟩]), x77, x78, x79, (.pointer (some ⟨g11, 0, none⟩)), x12, g11, g12) _ ⟨since_setRow hS pl6 _, fun h => f0 (not_k h (by decide)), fun h => f1 (not_k h (by decide)), fun h => f2 (not_k h (by decide)), fun h => f3 (not_k h (by decide)), fun h => f4 (not_k h (by decide)), fun h => f5 (not_k h (by decide)), fun h => ⟨(p6 (not_k h (by decide))).1, (p6 (not_k h (by decide))).2.1, Nat.lt_of_lt_of_eq (p6 (not_k h (by decide))).2.2 (by simp)⟩, fun _ => getD_set_true d6, fun _ h2 => absurd ((set_now hlt).symm.trans h2) (by decide), fun _ => Cel.row (z6 d6 hk) _, fun h => ⟨(p7 (not_k h (by decide))).1, (p7 (not_k h (by decide))).2.1, Nat.lt_of_lt_of_eq (p7 (not_k h (by decide))).2.2 (by simp)⟩, fun h => getD_set_true (q7 (not_k h (by decide))), fun h h2 => (z7 (not_k h (by decide)) (not_k' h2 (by decide))).farRow (fun e => n6_7 d6 (not_k h (by decide)) e.symm) _, fun h => (c7 (not_k h (by decide))).farRow (fun e => n6_7 d6 (q7 (not_k h (by decide))) e.symm) _, fun h h2 => n6_7 (not_k h (by decide)) (not_k h2 (by decide))⟩) ?_
      simp only [Act.put, List.setIfInBounds_toArray, List.set_cons_zero, List.set_cons_succ]
    · intro L x W hJ hlt hk hd K' hK
      obtain ⟨x74, x75, x76, x77, x78, x79, x11, x12, g11, g12⟩ := x
      obtain ⟨hS, f0, f1, f2, f3, f4, f5, p6, q6, z6, c6, p7, q7, z7, c7, n6_7⟩ := hJ
      have d7 : L.getD 7 false = true := dep_of hd 7 (by rfl)
      obtain ⟨rfl, pl7, pg7⟩ := p7 d7
      have d5 : L.getD 5 false = true := dep_of hd 5 (by rfl)
      obtain rfl := (f5 d5).symm
      refine ⟨?_⟩
      simp only [Act.put, List.setIfInBounds_toArray, List.set_cons_zero, List.set_cons_succ]
      refine wp_store_row 26 (.tmp 12) (.tmp 79) rfl g12 #[.string ⟨y_s.toArray⟩, .string ⟨y_p.toArray⟩, .int .i64 y_n, .bool y_v0, .string ⟨y_l0.toArray⟩, .bool y_v1, .string ⟨y_l1.toArray⟩, .bool y_v2, .string ⟨y_l2.toArray⟩, .bool y_v3, .string ⟨y_l3.toArray⟩] rfl rfl 26 #[.string ⟨#[]⟩, .string ⟨#[]⟩, .int .i64 0, .bool false, .string ⟨#[]⟩, .bool false, .string ⟨#[]⟩, .bool false, .string ⟨#[]⟩, .bool false, .string ⟨#[]⟩] (z7 d7 hk) ainfoA rfl (by simp [Value.oneCell']) ?_
      refine kput (hK (x74, x75, x76, x77, x78, (.agg #[.string ⟨y_s.toArray⟩, .string ⟨y_p.toArray⟩, .int .i64 y_n, .bool y_v0, .string ⟨y_l0.toArray⟩, .bool y_v1, .string ⟨y_l1.toArray⟩, .bool y_v2, .string ⟨y_l2.toArray⟩, .bool y_v3, .string ⟨y_l3.toArray⟩]), x11, (.pointer (some ⟨g12, 0, none⟩)), g11, g12) _ ⟨since_setRow hS pl7 _, fun h => f0 (not_k h (by decide)), fun h => f1 (not_k h (by decide)), fun h => f2 (not_k h (by decide)), fun h => f3 (not_k h (by decide)), fun h => f4 (not_k h (by decide)), fun h => f5 (not_k h (by decide)), fun h => ⟨(p6 (not_k h (by decide))).1, (p6 (not_k h (by decide))).2.1, Nat.lt_of_lt_of_eq (p6 (not_k h (by decide))).2.2 (by simp)⟩, fun h => getD_set_true (q6 (not_k h (by decide))), fun h h2 => (z6 (not_k h (by decide)) (not_k' h2 (by decide))).farRow (fun e => n6_7 (not_k h (by decide)) d7 e) _, fun h => (c6 (not_k h (by decide))).farRow (fun e => n6_7 (q6 (not_k h (by decide))) d7 e) _, fun h => ⟨(p7 (not_k h (by decide))).1, (p7 (not_k h (by decide))).2.1, Nat.lt_of_lt_of_eq (p7 (not_k h (by decide))).2.2 (by simp)⟩, fun _ => getD_set_true d7, fun _ h2 => absurd ((set_now hlt).symm.trans h2) (by decide), fun _ => Cel.row (z7 d7 hk) _, fun h h2 => n6_7 (not_k h (by decide)) (not_k h2 (by decide))⟩) ?_
      simp only [Act.put, List.setIfInBounds_toArray, List.set_cons_zero, List.set_cons_succ]
  case stop =>
    intro L x W hJ hall
    obtain ⟨x74, x75, x76, x77, x78, x79, x11, x12, g11, g12⟩ := x
    obtain ⟨hS, f0, f1, f2, f3, f4, f5, p6, q6, z6, c6, p7, q7, z7, c7, n6_7⟩ := hJ
    obtain rfl := (f0 (hall 0 (Nat.le_of_ble_eq_true rfl))).symm
    obtain rfl := (f1 (hall 1 (Nat.le_of_ble_eq_true rfl))).symm
    obtain rfl := (f2 (hall 2 (Nat.le_of_ble_eq_true rfl))).symm
    obtain rfl := (f3 (hall 3 (Nat.le_of_ble_eq_true rfl))).symm
    obtain rfl := (f4 (hall 4 (Nat.le_of_ble_eq_true rfl))).symm
    obtain rfl := (f5 (hall 5 (Nat.le_of_ble_eq_true rfl))).symm
    obtain ⟨rfl, pl6, pg6⟩ := p6 (hall 6 (Nat.le_of_ble_eq_true rfl))
    have cc6 := c6 (hall 8 (Nat.le_of_ble_eq_true rfl))
    obtain ⟨rfl, pl7, pg7⟩ := p7 (hall 7 (Nat.le_of_ble_eq_true rfl))
    have cc7 := c7 (hall 9 (Nat.le_of_ble_eq_true rfl))
    have nn6_7 := n6_7 (hall 6 (Nat.le_of_ble_eq_true rfl)) (hall 7 (Nat.le_of_ble_eq_true rfl))
    clear f0 f1 f2 f3 f4 f5 p6 q6 z6 c6 p7 q7 z7 c7 n6_7 hall
    simp only [Act.put, List.setIfInBounds_toArray, List.set_cons_zero, List.set_cons_succ]
    have HG1 := Lib.hid cc6
    have HG2 := Lib.hid cc7
    obtain ⟨x_c0, x_c1, x_c2, x_c3, x_c4, x_c5, x_c6, x_c7, x_c8, x_c9, x_c10⟩ := (Cel.box (a := ((x_s, x_p, x_n, (x_v0, x_l0), (x_v1, x_l1), (x_v2, x_l2), (x_v3, x_l3)) : Atm)) HG1.out).all
    obtain ⟨y_c0, y_c1, y_c2, y_c3, y_c4, y_c5, y_c6, y_c7, y_c8, y_c9, y_c10⟩ := (Cel.box (a := ((y_s, y_p, y_n, (y_v0, y_l0), (y_v1, y_l1), (y_v2, y_l2), (y_v3, y_l3)) : Atm)) HG2.out).all
    go_wp2_with fail
    go_ret
    exact ⟨rfl, hSo.trans hS⟩
set_option maxHeartbeats 8000000 in
set_option maxRecDepth 100000 in
theorem most_some (a_s a_p : List UInt8) (a_n : Int) (a_v0 a_v1 a_v2 a_v3 : Bool) (a_l0 a_l1 a_l2 a_l3 : List UInt8) (b_s b_p : List UInt8) (b_n : Int) (b_v0 b_v1 b_v2 b_v3 : Bool) (b_l0 b_l1 b_l2 b_l3 : List UInt8) (v : Value) (L : List Bnd) (w : World) (hv : RowOf 3 bndC w v L) (hlen : ∀ b ∈ L, b.1.length ≤ maxLen ∧ b.2.2.length ≤ maxLen) (fa : FitsA ((a_s, a_p, a_n, (a_v0, a_l0), (a_v1, a_l1), (a_v2, a_l2), (a_v3, a_l3)) : Atm)) (fb : FitsA ((b_s, b_p, b_n, (b_v0, b_l0), (b_v1, b_l1), (b_v2, b_l2), (b_v3, b_l3)) : Atm)) (la : lightB ((a_s, a_p, a_n, (a_v0, a_l0), (a_v1, a_l1), (a_v2, a_l2), (a_v3, a_l3)) : Atm) = true) (lb : lightB ((b_s, b_p, b_n, (b_v0, b_l0), (b_v1, b_l1), (b_v2, b_l2), (b_v3, b_l3)) : Atm) = true) (lL : lightBs L = true) (ka : checkA ((a_s, a_p, a_n, (a_v0, a_l0), (a_v1, a_l1), (a_v2, a_l2), (a_v3, a_l3)) : Atm) = 0) (kb : checkA ((b_s, b_p, b_n, (b_v0, b_l0), (b_v1, b_l1), (b_v2, b_l2), (b_v3, b_l3)) : Atm) = 0) {m : List Bnd}
    (hm : uniA ((a_s, a_p, a_n, (a_v0, a_l0), (a_v1, a_l1), (a_v2, a_l2), (a_v3, a_l3)) : Atm) ((b_s, b_p, b_n, (b_v0, b_l0), (b_v1, b_l1), (b_v2, b_l2), (b_v3, b_l3)) : Atm) = some m) :
    Calls Try.prog 3 #[.agg #[.string ⟨a_s.toArray⟩, .string ⟨a_p.toArray⟩, .int .i64 a_n, .bool a_v0, .string ⟨a_l0.toArray⟩, .bool a_v1, .string ⟨a_l1.toArray⟩, .bool a_v2, .string ⟨a_l2.toArray⟩, .bool a_v3, .string ⟨a_l3.toArray⟩], .agg #[.string ⟨b_s.toArray⟩, .string ⟨b_p.toArray⟩, .int .i64 b_n, .bool b_v0, .string ⟨b_l0.toArray⟩, .bool b_v1, .string ⟨b_l1.toArray⟩, .bool b_v2, .string ⟨b_l2.toArray⟩, .bool b_v3, .string ⟨b_l3.toArray⟩], v] w fun e w' => e = .returned (.bool true) ∧ Since w w' := by
  have hf := uni_facts ka kb
  have HU1 := Lib.hid (fun W => unify_some a_s a_p a_n a_v0 a_v1 a_v2 a_v3 a_l0 a_l1 a_l2 a_l3 b_s b_p b_n b_v0 b_v1 b_v2 b_v3 b_l0 b_l1 b_l2 b_l3 ka kb hm W)
  have HU2 := Lib.hid (fun W => unify_some b_s b_p b_n b_v0 b_v1 b_v2 b_v3 b_l0 b_l1 b_l2 b_l3 a_s a_p a_n a_v0 a_v1 a_v2 a_v3 a_l0 a_l1 a_l2 a_l3 kb ka (hf.1.trans hm) W)
  obtain ⟨hinv, hlen4, hsame⟩ := hf.2.1 m hm
  obtain ⟨x, hx⟩ : ∃ x, applyA L ((a_s, a_p, a_n, (a_v0, a_l0), (a_v1, a_l1), (a_v2, a_l2), (a_v3, a_l3)) : Atm) = x := ⟨_, rfl⟩
  obtain ⟨y, hy⟩ : ∃ y, applyA L ((b_s, b_p, b_n, (b_v0, b_l0), (b_v1, b_l1), (b_v2, b_l2), (b_v3, b_l3)) : Atm) = y := ⟨_, rfl⟩
  obtain ⟨x_s, x_p, x_n, ⟨x_v0, x_l0⟩, ⟨x_v1, x_l1⟩, ⟨x_v2, x_l2⟩, ⟨x_v3, x_l3⟩⟩ := x
  obtain ⟨y_s, y_p, y_n, ⟨y_v0, y_l0⟩, ⟨y_v1, y_l1⟩, ⟨y_v2, y_l2⟩, ⟨y_v3, y_l3⟩⟩ := y
  have hl20 := lightBs_len lL
  have HX : Hid (∀ W, RowOf 3 bndC W v L → Calls Try.prog 12 #[v, .agg #[.string ⟨a_s.toArray⟩, .string ⟨a_p.toArray⟩, .int .i64 a_n, .bool a_v0, .string ⟨a_l0.toArray⟩, .bool a_v1, .string ⟨a_l1.toArray⟩, .bool a_v2, .string ⟨a_l2.toArray⟩, .bool a_v3, .string ⟨a_l3.toArray⟩]] W fun e w' => e = .returned (.agg #[.string ⟨x_s.toArray⟩, .string ⟨x_p.toArray⟩, .int .i64 x_n, .bool x_v0, .string ⟨x_l0.toArray⟩, .bool x_v1, .string ⟨x_l1.toArray⟩, .bool x_v2, .string ⟨x_l2.toArray⟩, .bool x_v3, .string ⟨x_l3.toArray⟩]) ∧ Since W w') := by
    intro W h
    have := rapplyb_any v L a_s a_p a_n a_v0 a_v1 a_v2 a_v3 a_l0 a_l1 a_l2 a_l3 W h (by omega)
    rw [hx] at this; exact this
  have HY : Hid (∀ W, RowOf 3 bndC W v L → Calls Try.prog 12 #[v, .agg #[.string ⟨b_s.toArray⟩, .string ⟨b_p.toArray⟩, .int .i64 b_n, .bool b_v0, .string ⟨b_l0.toArray⟩, .bool b_v1, .string ⟨b_l1.toArray⟩, .bool b_v2, .string ⟨b_l2.toArray⟩, .bool b_v3, .string ⟨b_l3.toArray⟩]] W fun e w' => e = .returned (.agg #[.string ⟨y_s.toArray⟩, .string ⟨y_p.toArray⟩, .int .i64 y_n, .bool y_v0, .string ⟨y_l0.toArray⟩, .bool y_v1, .string ⟨y_l1.toArray⟩, .bool y_v2, .string ⟨y_l2.toArray⟩, .bool y_v3, .string ⟨y_l3.toArray⟩]) ∧ Since W w') := by
    intro W h
    have := rapplyb_any v L b_s b_p b_n b_v0 b_v1 b_v2 b_v3 b_l0 b_l1 b_l2 b_l3 W h (by omega)
    rw [hy] at this; exact this
  obtain ⟨z, hz⟩ : ∃ z, applyA m ((a_s, a_p, a_n, (a_v0, a_l0), (a_v1, a_l1), (a_v2, a_l2), (a_v3, a_l3)) : Atm) = z := ⟨_, rfl⟩
  obtain ⟨z_s, z_p, z_n, ⟨z_v0, z_l0⟩, ⟨z_v1, z_l1⟩, ⟨z_v2, z_l2⟩, ⟨z_v3, z_l3⟩⟩ := z
  have HW : Hid (eqA ((x_s, x_p, x_n, (x_v0, x_l0), (x_v1, x_l1), (x_v2, x_l2), (x_v3, x_l3)) : Atm) ((y_s, y_p, y_n, (y_v0, y_l0), (y_v1, y_l1), (y_v2, y_l2), (y_v3, y_l3)) : Atm) = true → ∀ W, RowOf 3 bndC W v L → Calls Try.prog 12 #[v, .agg #[.string ⟨z_s.toArray⟩, .string ⟨z_p.toArray⟩, .int .i64 z_n, .bool z_v0, .string ⟨z_l0.toArray⟩, .bool z_v1, .string ⟨z_l1.toArray⟩, .bool z_v2, .string ⟨z_l2.toArray⟩, .bool z_v3, .string ⟨z_l3.toArray⟩]] W fun e w' => e = .returned (.agg #[.string ⟨x_s.toArray⟩, .string ⟨x_p.toArray⟩, .int .i64 x_n, .bool x_v0, .string ⟨x_l0.toArray⟩, .bool x_v1, .string ⟨x_l1.toArray⟩, .bool x_v2, .string ⟨x_l2.toArray⟩, .bool x_v3, .string ⟨x_l3.toArray⟩]) ∧ Since W w') := by
    intro he W h
    obtain ⟨m', h1, h2⟩ := hf.2.2 L (by rw [hx, hy]; exact eqA_iff.1 he)
    rw [hm] at h1
    obtain rfl := Option.some.inj h1
    have := rapplyb_any v L z_s z_p z_n z_v0 z_v1 z_v2 z_v3 z_l0 z_l1 z_l2 z_l3 W h (by omega)
    rw [← hz, h2, hx] at this; exact this
  have HCK := Lib.hid (fun v1 W (h : RowOf 3 bndC W v1 m) => rcheckb_any v1 m W h hinv (by omega))
  have HZA : Hid (∀ v1 W, RowOf 3 bndC W v1 m → Calls Try.prog 12 #[v1, .agg #[.string ⟨a_s.toArray⟩, .string ⟨a_p.toArray⟩, .int .i64 a_n, .bool a_v0, .string ⟨a_l0.toArray⟩, .bool a_v1, .string ⟨a_l1.toArray⟩, .bool a_v2, .string ⟨a_l2.toArray⟩, .bool a_v3, .string ⟨a_l3.toArray⟩]] W fun e w' => e = .returned (.agg #[.string ⟨z_s.toArray⟩, .string ⟨z_p.toArray⟩, .int .i64 z_n, .bool z_v0, .string ⟨z_l0.toArray⟩, .bool z_v1, .string ⟨z_l1.toArray⟩, .bool z_v2, .string ⟨z_l2.toArray⟩, .bool z_v3, .string ⟨z_l3.toArray⟩]) ∧ Since W w') := by
    intro v1 W h
    have := rapplyb_any v1 m a_s a_p a_n a_v0 a_v1 a_v2 a_v3 a_l0 a_l1 a_l2 a_l3 W h (by omega)
    rw [hz] at this; exact this
  have HZB : Hid (∀ v1 W, RowOf 3 bndC W v1 m → Calls Try.prog 12 #[v1, .agg #[.string ⟨b_s.toArray⟩, .string ⟨b_p.toArray⟩, .int .i64 b_n, .bool b_v0, .string ⟨b_l0.toArray⟩, .bool b_v1, .string ⟨b_l1.toArray⟩, .bool b_v2, .string ⟨b_l2.toArray⟩, .bool b_v3, .string ⟨b_l3.toArray⟩]] W fun e w' => e = .returned (.agg #[.string ⟨z_s.toArray⟩, .string ⟨z_p.toArray⟩, .int .i64 z_n, .bool z_v0, .string ⟨z_l0.toArray⟩, .bool z_v1, .string ⟨z_l1.toArray⟩, .bool z_v2, .string ⟨z_l2.toArray⟩, .bool z_v3, .string ⟨z_l3.toArray⟩]) ∧ Since W w') := by
    intro v1 W h
    have := rapplyb_any v1 m b_s b_p b_n b_v0 b_v1 b_v2 b_v3 b_l0 b_l1 b_l2 b_l3 W h (by omega)
    rw [← hsame, hz] at this; exact this
  have hm1 : m.length ≤ 1000000 := by omega
  clear hf hm hx hy hz hinv hsame
  have hS : Since w ((w.alloc (.cells #[.string ⟨a_s.toArray⟩, .string ⟨a_p.toArray⟩, .int .i64 a_n, .bool a_v0, .string ⟨a_l0.toArray⟩, .bool a_v1, .string ⟨a_l1.toArray⟩, .bool a_v2, .string ⟨a_l2.toArray⟩, .bool a_v3, .string ⟨a_l3.toArray⟩] 26)).alloc (.cells #[.string ⟨b_s.toArray⟩, .string ⟨b_p.toArray⟩, .int .i64 b_n, .bool b_v0, .string ⟨b_l0.toArray⟩, .bool b_v1, .string ⟨b_l1.toArray⟩, .bool b_v2, .string ⟨b_l2.toArray⟩, .bool b_v3, .string ⟨b_l3.toArray⟩] 26)) := ((Since.refl _).alloc _).alloc _
  have a_B : Box ((w.alloc (.cells #[.string ⟨a_s.toArray⟩, .string ⟨a_p.toArray⟩, .int .i64 a_n, .bool a_v0, .string ⟨a_l0.toArray⟩, .bool a_v1, .string ⟨a_l1.toArray⟩, .bool a_v2, .string ⟨a_l2.toArray⟩, .bool a_v3, .string ⟨a_l3.toArray⟩] 26)).alloc (.cells #[.string ⟨b_s.toArray⟩, .string ⟨b_p.toArray⟩, .int .i64 b_n, .bool b_v0, .string ⟨b_l0.toArray⟩, .bool b_v1, .string ⟨b_l1.toArray⟩, .bool b_v2, .string ⟨b_l2.toArray⟩, .bool b_v3, .string ⟨b_l3.toArray⟩] 26)) w.heap.size ((a_s, a_p, a_n, (a_v0, a_l0), (a_v1, a_l1), (a_v2, a_l2), (a_v3, a_l3)) : Atm) := (box_new w ((a_s, a_p, a_n, (a_v0, a_l0), (a_v1, a_l1), (a_v2, a_l2), (a_v3, a_l3)) : Atm) _).next ((Since.refl _).alloc _)
  have b_B : Box ((w.alloc (.cells #[.string ⟨a_s.toArray⟩, .string ⟨a_p.toArray⟩, .int .i64 a_n, .bool a_v0, .string ⟨a_l0.toArray⟩, .bool a_v1, .string ⟨a_l1.toArray⟩, .bool a_v2, .string ⟨a_l2.toArray⟩, .bool a_v3, .string ⟨a_l3.toArray⟩] 26)).alloc (.cells #[.string ⟨b_s.toArray⟩, .string ⟨b_p.toArray⟩, .int .i64 b_n, .bool b_v0, .string ⟨b_l0.toArray⟩, .bool b_v1, .string ⟨b_l1.toArray⟩, .bool b_v2, .string ⟨b_l2.toArray⟩, .bool b_v3, .string ⟨b_l3.toArray⟩] 26)) (w.heap.size + 1) ((b_s, b_p, b_n, (b_v0, b_l0), (b_v1, b_l1), (b_v2, b_l2), (b_v3, b_l3)) : Atm) := by
    have := box_new (w.alloc (.cells #[.string ⟨a_s.toArray⟩, .string ⟨a_p.toArray⟩, .int .i64 a_n, .bool a_v0, .string ⟨a_l0.toArray⟩, .bool a_v1, .string ⟨a_l1.toArray⟩, .bool a_v2, .string ⟨a_l2.toArray⟩, .bool a_v3, .string ⟨a_l3.toArray⟩] 26)) ((b_s, b_p, b_n, (b_v0, b_l0), (b_v1, b_l1), (b_v2, b_l2), (b_v3, b_l3)) : Atm) 26
    rwa [World.size_alloc] at this
  obtain ⟨a_c0, a_c1, a_c2, a_c3, a_c4, a_c5, a_c6, a_c7, a_c8, a_c9, a_c10⟩ := a_B.all
  obtain ⟨b_c0, b_c1, b_c2, b_c3, b_c4, b_c5, b_c6, b_c7, b_c8, b_c9, b_c10⟩ := b_B.all
  have HV := Lib.hid hv
  have HLB := Lib.hid (fun W (h : RowOf 3 bndC W v L) => lightBs_any v L W h hlen)
  have HFA := Lib.hid fa
  have HFB := Lib.hid fb
  clear hv hlen fa fb
  go_enter Try.func3, Try.ntmps3
  go_wp2_with (first
      | (go_at_call 5; refine (lives06_any _).mono ?_; rintro e w1 ⟨rfl, hb⟩; replace hS := hS.trans hb; replace a_B := a_B.next hb; replace a_c0 := hb.cell a_c0; replace a_c1 := hb.cell a_c1; replace a_c2 := hb.cell a_c2; replace a_c3 := hb.cell a_c3; replace a_c4 := hb.cell a_c4; replace a_c5 := hb.cell a_c5; replace a_c6 := hb.cell a_c6; replace a_c7 := hb.cell a_c7; replace a_c8 := hb.cell a_c8; replace a_c9 := hb.cell a_c9; replace a_c10 := hb.cell a_c10; replace b_B := b_B.next hb; replace b_c0 := hb.cell b_c0; replace b_c1 := hb.cell b_c1; replace b_c2 := hb.cell b_c2; replace b_c3 := hb.cell b_c3; replace b_c4 := hb.cell b_c4; replace b_c5 := hb.cell b_c5; replace b_c6 := hb.cell b_c6; replace b_c7 := hb.cell b_c7; replace b_c8 := hb.cell b_c8; replace b_c9 := hb.cell b_c9; replace b_c10 := hb.cell b_c10)
      | (go_at_call 6; first | ((with_reducible refine (light_any a_s a_p a_n a_v0 a_v1 a_v2 a_v3 a_l0 a_l1 a_l2 a_l3 _).mono ?_); rintro e w1 ⟨rfl, hb⟩; rw [la]; replace hS := hS.trans hb; replace a_B := a_B.next hb; replace a_c0 := hb.cell a_c0; replace a_c1 := hb.cell a_c1; replace a_c2 := hb.cell a_c2; replace a_c3 := hb.cell a_c3; replace a_c4 := hb.cell a_c4; replace a_c5 := hb.cell a_c5; replace a_c6 := hb.cell a_c6; replace a_c7 := hb.cell a_c7; replace a_c8 := hb.cell a_c8; replace a_c9 := hb.cell a_c9; replace a_c10 := hb.cell a_c10; replace b_B := b_B.next hb; replace b_c0 := hb.cell b_c0; replace b_c1 := hb.cell b_c1; replace b_c2 := hb.cell b_c2; replace b_c3 := hb.cell b_c3; replace b_c4 := hb.cell b_c4; replace b_c5 := hb.cell b_c5; replace b_c6 := hb.cell b_c6; replace b_c7 := hb.cell b_c7; replace b_c8 := hb.cell b_c8; replace b_c9 := hb.cell b_c9; replace b_c10 := hb.cell b_c10) | ((with_reducible refine (light_any b_s b_p b_n b_v0 b_v1 b_v2 b_v3 b_l0 b_l1 b_l2 b_l3 _).mono ?_); rintro e w1 ⟨rfl, hb⟩; rw [lb]; replace hS := hS.trans hb; replace a_B := a_B.next hb; replace a_c0 := hb.cell a_c0; replace a_c1 := hb.cell a_c1; replace a_c2 := hb.cell a_c2; replace a_c3 := hb.cell a_c3; replace a_c4 := hb.cell a_c4; replace a_c5 := hb.cell a_c5; replace a_c6 := hb.cell a_c6; replace a_c7 := hb.cell a_c7; replace a_c8 := hb.cell a_c8; replace a_c9 := hb.cell a_c9; replace a_c10 := hb.cell a_c10; replace b_B := b_B.next hb; replace b_c0 := hb.cell b_c0; replace b_c1 := hb.cell b_c1; replace b_c2 := hb.cell b_c2; replace b_c3 := hb.cell b_c3; replace b_c4 := hb.cell b_c4; replace b_c5 := hb.cell b_c5; replace b_c6 := hb.cell b_c6; replace b_c7 := hb.cell b_c7; replace b_c8 := hb.cell b_c8; replace b_c9 := hb.cell b_c9; replace b_c10 := hb.cell b_c10))
      | (go_at_call 7; refine (HLB.out _ (HV.out.next hS)).mono ?_; rintro e w1 ⟨rfl, hb⟩; rw [lL]; replace hS := hS.trans hb; replace a_B := a_B.next hb; replace a_c0 := hb.cell a_c0; replace a_c1 := hb.cell a_c1; replace a_c2 := hb.cell a_c2; replace a_c3 := hb.cell a_c3; replace a_c4 := hb.cell a_c4; replace a_c5 := hb.cell a_c5; replace a_c6 := hb.cell a_c6; replace a_c7 := hb.cell a_c7; replace a_c8 := hb.cell a_c8; replace a_c9 := hb.cell a_c9; replace a_c10 := hb.cell a_c10; replace b_B := b_B.next hb; replace b_c0 := hb.cell b_c0; replace b_c1 := hb.cell b_c1; replace b_c2 := hb.cell b_c2; replace b_c3 := hb.cell b_c3; replace b_c4 := hb.cell b_c4; replace b_c5 := hb.cell b_c5; replace b_c6 := hb.cell b_c6; replace b_c7 := hb.cell b_c7; replace b_c8 := hb.cell b_c8; replace b_c9 := hb.cell b_c9; replace b_c10 := hb.cell b_c10)
      | (go_at_call 8; first | ((with_reducible refine (rcheck_any a_s a_p a_n a_v0 a_v1 a_v2 a_v3 a_l0 a_l1 a_l2 a_l3 _ HFA.out).mono ?_); rintro e w1 ⟨rfl, hb⟩; rw [ka]; replace hS := hS.trans hb; replace a_B := a_B.next hb; replace a_c0 := hb.cell a_c0; replace a_c1 := hb.cell a_c1; replace a_c2 := hb.cell a_c2; replace a_c3 := hb.cell a_c3; replace a_c4 := hb.cell a_c4; replace a_c5 := hb.cell a_c5; replace a_c6 := hb.cell a_c6; replace a_c7 := hb.cell a_c7; replace a_c8 := hb.cell a_c8; replace a_c9 := hb.cell a_c9; replace a_c10 := hb.cell a_c10; replace b_B := b_B.next hb; replace b_c0 := hb.cell b_c0; replace b_c1 := hb.cell b_c1; replace b_c2 := hb.cell b_c2; replace b_c3 := hb.cell b_c3; replace b_c4 := hb.cell b_c4; replace b_c5 := hb.cell b_c5; replace b_c6 := hb.cell b_c6; replace b_c7 := hb.cell b_c7; replace b_c8 := hb.cell b_c8; replace b_c9 := hb.cell b_c9; replace b_c10 := hb.cell b_c10) | ((with_reducible refine (rcheck_any b_s b_p b_n b_v0 b_v1 b_v2 b_v3 b_l0 b_l1 b_l2 b_l3 _ HFB.out).mono ?_); rintro e w1 ⟨rfl, hb⟩; rw [kb]; replace hS := hS.trans hb; replace a_B := a_B.next hb; replace a_c0 := hb.cell a_c0; replace a_c1 := hb.cell a_c1; replace a_c2 := hb.cell a_c2; replace a_c3 := hb.cell a_c3; replace a_c4 := hb.cell a_c4; replace a_c5 := hb.cell a_c5; replace a_c6 := hb.cell a_c6; replace a_c7 := hb.cell a_c7; replace a_c8 := hb.cell a_c8; replace a_c9 := hb.cell a_c9; replace a_c10 := hb.cell a_c10; replace b_B := b_B.next hb; replace b_c0 := hb.cell b_c0; replace b_c1 := hb.cell b_c1; replace b_c2 := hb.cell b_c2; replace b_c3 := hb.cell b_c3; replace b_c4 := hb.cell b_c4; replace b_c5 := hb.cell b_c5; replace b_c6 := hb.cell b_c6; replace b_c7 := hb.cell b_c7; replace b_c8 := hb.cell b_c8; replace b_c9 := hb.cell b_c9; replace b_c10 := hb.cell b_c10)))
  refine (HU1.out _).mono ?_
  rintro e w3 ⟨v1, rfl, hv1, hb⟩
  replace hS := hS.trans hb
  have V1 := Lib.hid hv1.1
  clear hv1
  replace a_B := a_B.next hb; replace a_c0 := hb.cell a_c0; replace a_c1 := hb.cell a_c1; replace a_c2 := hb.cell a_c2; replace a_c3 := hb.cell a_c3; replace a_c4 := hb.cell a_c4; replace a_c5 := hb.cell a_c5; replace a_c6 := hb.cell a_c6; replace a_c7 := hb.cell a_c7; replace a_c8 := hb.cell a_c8; replace a_c9 := hb.cell a_c9; replace a_c10 := hb.cell a_c10; replace b_B := b_B.next hb; replace b_c0 := hb.cell b_c0; replace b_c1 := hb.cell b_c1; replace b_c2 := hb.cell b_c2; replace b_c3 := hb.cell b_c3; replace b_c4 := hb.cell b_c4; replace b_c5 := hb.cell b_c5; replace b_c6 := hb.cell b_c6; replace b_c7 := hb.cell b_c7; replace b_c8 := hb.cell b_c8; replace b_c9 := hb.cell b_c9; replace b_c10 := hb.cell b_c10
  go_wp2_with fail
  refine (HU2.out _).mono ?_
  rintro e w4 ⟨v2, rfl, hv2, hb⟩
  replace hS := hS.trans hb
  replace V1 := Lib.hid (V1.out.next hb)
  replace a_B := a_B.next hb; replace a_c0 := hb.cell a_c0; replace a_c1 := hb.cell a_c1; replace a_c2 := hb.cell a_c2; replace a_c3 := hb.cell a_c3; replace a_c4 := hb.cell a_c4; replace a_c5 := hb.cell a_c5; replace a_c6 := hb.cell a_c6; replace a_c7 := hb.cell a_c7; replace a_c8 := hb.cell a_c8; replace a_c9 := hb.cell a_c9; replace a_c10 := hb.cell a_c10; replace b_B := b_B.next hb; replace b_c0 := hb.cell b_c0; replace b_c1 := hb.cell b_c1; replace b_c2 := hb.cell b_c2; replace b_c3 := hb.cell b_c3; replace b_c4 := hb.cell b_c4; replace b_c5 := hb.cell b_c5; replace b_c6 := hb.cell b_c6; replace b_c7 := hb.cell b_c7; replace b_c8 := hb.cell b_c8; replace b_c9 := hb.cell b_c9; replace b_c10 := hb.cell b_c10
  go_wp2_with fail
  refine (same_bnd v1 v2 m _ V1.out hv2.1 hm1).mono ?_
  rintro e w5 ⟨rfl, hb⟩
  replace hS := hS.trans hb
  replace V1 := Lib.hid (V1.out.next hb)
  replace a_B := a_B.next hb; replace a_c0 := hb.cell a_c0; replace a_c1 := hb.cell a_c1; replace a_c2 := hb.cell a_c2; replace a_c3 := hb.cell a_c3; replace a_c4 := hb.cell a_c4; replace a_c5 := hb.cell a_c5; replace a_c6 := hb.cell a_c6; replace a_c7 := hb.cell a_c7; replace a_c8 := hb.cell a_c8; replace a_c9 := hb.cell a_c9; replace a_c10 := hb.cell a_c10; replace b_B := b_B.next hb; replace b_c0 := hb.cell b_c0; replace b_c1 := hb.cell b_c1; replace b_c2 := hb.cell b_c2; replace b_c3 := hb.cell b_c3; replace b_c4 := hb.cell b_c4; replace b_c5 := hb.cell b_c5; replace b_c6 := hb.cell b_c6; replace b_c7 := hb.cell b_c7; replace b_c8 := hb.cell b_c8; replace b_c9 := hb.cell b_c9; replace b_c10 := hb.cell b_c10
  clear hb HU1 HU2 hv2
  have HK1 := Lib.hid (fun W => HCK.out v1 W)
  have HK2 := Lib.hid (fun W => HZA.out v1 W)
  have HK3 := Lib.hid (fun W => HZB.out v1 W)
  clear HCK HZA HZB
  go_wp2_with fail
  have HS : Hid (∀ W, Since w5 W → W.cell? ⟨w.heap.size, 0, none⟩ = some (.string ⟨a_s.toArray⟩) ∧ W.cell? ⟨w.heap.size, 1, none⟩ = some (.string ⟨a_p.toArray⟩) ∧ W.cell? ⟨w.heap.size, 2, none⟩ = some (.int .i64 a_n) ∧ W.cell? ⟨w.heap.size, 3, none⟩ = some (.bool a_v0) ∧ W.cell? ⟨w.heap.size, 4, none⟩ = some (.string ⟨a_l0.toArray⟩) ∧ W.cell? ⟨w.heap.size, 5, none⟩ = some (.bool a_v1) ∧ W.cell? ⟨w.heap.size, 6, none⟩ = some (.string ⟨a_l1.toArray⟩) ∧ W.cell? ⟨w.heap.size, 7, none⟩ = some (.bool a_v2) ∧ W.cell? ⟨w.heap.size, 8, none⟩ = some (.string ⟨a_l2.toArray⟩) ∧ W.cell? ⟨w.heap.size, 9, none⟩ = some (.bool a_v3) ∧ W.cell? ⟨w.heap.size, 10, none⟩ = some (.string ⟨a_l3.toArray⟩) ∧ W.cell? ⟨w.heap.size + 1, 0, none⟩ = some (.string ⟨b_s.toArray⟩) ∧ W.cell? ⟨w.heap.size + 1, 1, none⟩ = some (.string ⟨b_p.toArray⟩) ∧ W.cell? ⟨w.heap.size + 1, 2, none⟩ = some (.int .i64 b_n) ∧ W.cell? ⟨w.heap.size + 1, 3, none⟩ = some (.bool b_v0) ∧ W.cell? ⟨w.heap.size + 1, 4, none⟩ = some (.string ⟨b_l0.toArray⟩) ∧ W.cell? ⟨w.heap.size + 1, 5, none⟩ = some (.bool b_v1) ∧ W.cell? ⟨w.heap.size + 1, 6, none⟩ = some (.string ⟨b_l1.toArray⟩) ∧ W.cell? ⟨w.heap.size + 1, 7, none⟩ = some (.bool b_v2) ∧ W.cell? ⟨w.heap.size + 1, 8, none⟩ = some (.string ⟨b_l2.toArray⟩) ∧ W.cell? ⟨w.heap.size + 1, 9, none⟩ = some (.bool b_v3) ∧ W.cell? ⟨w.heap.size + 1, 10, none⟩ = some (.string ⟨b_l3.toArray⟩)) := fun W h => ⟨h.cell a_c0, h.cell a_c1, h.cell a_c2, h.cell a_c3, h.cell a_c4, h.cell a_c5, h.cell a_c6, h.cell a_c7, h.cell a_c8, h.cell a_c9, h.cell a_c10, h.cell b_c0, h.cell b_c1, h.cell b_c2, h.cell b_c3, h.cell b_c4, h.cell b_c5, h.cell b_c6, h.cell b_c7, h.cell b_c8, h.cell b_c9, h.cell b_c10⟩
  go_region_held3 (fun w' => w'.cell? ⟨w.heap.size, 0, none⟩ = some (.string ⟨a_s.toArray⟩) ∧ w'.cell? ⟨w.heap.size, 1, none⟩ = some (.string ⟨a_p.toArray⟩) ∧ w'.cell? ⟨w.heap.size, 2, none⟩ = some (.int .i64 a_n) ∧ w'.cell? ⟨w.heap.size, 3, none⟩ = some (.bool a_v0) ∧ w'.cell? ⟨w.heap.size, 4, none⟩ = some (.string ⟨a_l0.toArray⟩) ∧ w'.cell? ⟨w.heap.size, 5, none⟩ = some (.bool a_v1) ∧ w'.cell? ⟨w.heap.size, 6, none⟩ = some (.string ⟨a_l1.toArray⟩) ∧ w'.cell? ⟨w.heap.size, 7, none⟩ = some (.bool a_v2) ∧ w'.cell? ⟨w.heap.size, 8, none⟩ = some (.string ⟨a_l2.toArray⟩) ∧ w'.cell? ⟨w.heap.size, 9, none⟩ = some (.bool a_v3) ∧ w'.cell? ⟨w.heap.size, 10, none⟩ = some (.string ⟨a_l3.toArray⟩) ∧ w'.cell? ⟨w.heap.size + 1, 0, none⟩ = some (.string ⟨b_s.toArray⟩) ∧ w'.cell? ⟨w.heap.size + 1, 1, none⟩ = some (.string ⟨b_p.toArray⟩) ∧ w'.cell? ⟨w.heap.size + 1, 2, none⟩ = some (.int .i64 b_n) ∧ w'.cell? ⟨w.heap.size + 1, 3, none⟩ = some (.bool b_v0) ∧ w'.cell? ⟨w.heap.size + 1, 4, none⟩ = some (.string ⟨b_l0.toArray⟩) ∧ w'.cell? ⟨w.heap.size + 1, 5, none⟩ = some (.bool b_v1) ∧ w'.cell? ⟨w.heap.size + 1, 6, none⟩ = some (.string ⟨b_l1.toArray⟩) ∧ w'.cell? ⟨w.heap.size + 1, 7, none⟩ = some (.bool b_v2) ∧ w'.cell? ⟨w.heap.size + 1, 8, none⟩ = some (.string ⟨b_l2.toArray⟩) ∧ w'.cell? ⟨w.heap.size + 1, 9, none⟩ = some (.bool b_v3) ∧ w'.cell? ⟨w.heap.size + 1, 10, none⟩ = some (.string ⟨b_l3.toArray⟩)) (first | (refine HS.out _ ?_; (repeat (first | exact Since.refl _ | assumption | refine Since.drew ?_ | refine Since.alloc ?_ _))))
    (first
      | (go_simp; go_at_call 11; (with_reducible refine Calls.mono (HK1.out _ ?_) ?_); (refine RowOf.next V1.out ?_; (repeat (first | exact Since.refl _ | assumption | refine Since.drew ?_ | refine Since.alloc ?_ _))); rintro e w6 ⟨rfl, hb6⟩; have hS6 : Since w5 w6 := (by refine Since.trans ?_ hb6; (repeat (first | exact Since.refl _ | assumption | refine Since.drew ?_ | refine Since.alloc ?_ _))))
      | (go_simp; go_at_call 12; (with_reducible refine Calls.mono (HK2.out _ ?_) ?_); (refine RowOf.next V1.out ?_; (repeat (first | exact Since.refl _ | assumption | refine Since.drew ?_ | refine Since.alloc ?_ _))); rintro e w7 ⟨rfl, hb7⟩; have hS7 : Since w5 w7 := (by refine Since.trans ?_ hb7; (repeat (first | exact Since.refl _ | assumption | refine Since.drew ?_ | refine Since.alloc ?_ _))))
      | (go_simp; go_at_call 12; (with_reducible refine Calls.mono (HK3.out _ ?_) ?_); (refine RowOf.next V1.out ?_; (repeat (first | exact Since.refl _ | assumption | refine Since.drew ?_ | refine Since.alloc ?_ _))); rintro e w8 ⟨rfl, hb8⟩; have hS8 : Since w5 w8 := (by refine Since.trans ?_ hb8; (repeat (first | exact Since.refl _ | assumption | refine Since.drew ?_ | refine Since.alloc ?_ _)))))
  have hSo := hS.trans hS8
  replace a_B := a_B.next hS8
  replace b_B := b_B.next hS8
  replace V1 := Lib.hid (V1.out.next hS8)
  clear a_c0 a_c1 a_c2 a_c3 a_c4 a_c5 a_c6 a_c7 a_c8 a_c9 a_c10 b_c0 b_c1 b_c2 b_c3 b_c4 b_c5 b_c6 b_c7 b_c8 b_c9 b_c10 HS hS6 hS7 hS8 hb6 hb7 hb8 hS
  go_wp2_with fail
  refine wp_region_invX (X := Value × Value × Value × Value × Value × Value × Value × Value × Nat × Nat) (fun a0 x => match x with | (x74, x75, x76, x77, x78, x79, x11, x12, g11, g12) => Act.put (Act.put (Act.put (Act.put (Act.put (Act.put (Act.put (Act.put (a0) (some 74) x74) (some 75) x75) (some 76) x76) (some 77) x77) (some 78) x78) (some 79) x79) (some 11) x11) (some 12) x12) (fun x L W => match x with | (x74, x75, x76, x77, x78, x79, x11, x12, g11, g12) => Since (w8) W ∧ (L.getD 0 false = true → x74 = v) ∧ (L.getD 1 false = true → x75 = .agg #[.string ⟨a_s.toArray⟩, .string ⟨a_p.toArray⟩, .int .i64 a_n, .bool a_v0, .string ⟨a_l0.toArray⟩, .bool a_v1, .string ⟨a_l1.toArray⟩, .bool a_v2, .string ⟨a_l2.toArray⟩, .bool a_v3, .string ⟨a_l3.toArray⟩]) ∧ (L.getD 2 false = true → x76 = .agg #[.string ⟨x_s.toArray⟩, .string ⟨x_p.toArray⟩, .int .i64 x_n, .bool x_v0, .string ⟨x_l0.toArray⟩, .bool x_v1, .string ⟨x_l1.toArray⟩, .bool x_v2, .string ⟨x_l2.toArray⟩, .bool x_v3, .string ⟨x_l3.toArray⟩]) ∧ (L.getD 3 false = true → x77 = v) ∧ (L.getD 4 false = true → x78 = .agg #[.string ⟨b_s.toArray⟩, .string ⟨b_p.toArray⟩, .int .i64 b_n, .bool b_v0, .string ⟨b_l0.toArray⟩, .bool b_v1, .string ⟨b_l1.toArray⟩, .bool b_v2, .string ⟨b_l2.toArray⟩, .bool b_v3, .string ⟨b_l3.toArray⟩]) ∧ (L.getD 5 false = true → x79 = .agg #[.string ⟨y_s.toArray⟩, .string ⟨y_p.toArray⟩, .int .i64 y_n, .bool y_v0, .string ⟨y_l0.toArray⟩, .bool y_v1, .string ⟨y_l1.toArray⟩, .bool y_v2, .string ⟨y_l2.toArray⟩, .bool y_v3, .string ⟨y_l3.toArray⟩]) ∧ (L.getD 6 false = true → x11 = .pointer (some ⟨g11, 0, none⟩) ∧ (w8).heap.size ≤ g11 ∧ g11 < W.heap.size) ∧ (L.getD 8 false = true → L.getD 6 false = true) ∧ (L.getD 6 false = true → L.getD 8 false = false → Cel W g11 #[.string ⟨#[]⟩, .string ⟨#[]⟩, .int .i64 0, .bool false, .string ⟨#[]⟩, .bool false, .string ⟨#[]⟩, .bool false, .string ⟨#[]⟩, .bool false, .string ⟨#[]⟩] 26) ∧ (L.getD 8 false = true → Cel W g11 #[.string ⟨x_s.toArray⟩, .string ⟨x_p.toArray⟩, .int .i64 x_n, .bool x_v0, .string ⟨x_l0.toArray⟩, .bool x_v1, .string ⟨x_l1.toArray⟩, .bool x_v2, .string ⟨x_l2.toArray⟩, .bool x_v3, .string ⟨x_l3.toArray⟩] 26) ∧ (L.getD 7 false = true → x12 = .pointer (some ⟨g12, 0, none⟩) ∧ (w8).heap.size ≤ g12 ∧ g12 < W.heap.size) ∧ (L.getD 9 false = true → L.getD 7 false = true) ∧ (L.getD 7 false = true → L.getD 9 false = false → Cel W g12 #[.string ⟨#[]⟩, .string ⟨#[]⟩, .int .i64 0, .bool false, .string ⟨#[]⟩, .bool false, .string ⟨#[]⟩, .bool false, .string ⟨#[]⟩, .bool false, .string ⟨#[]⟩] 26) ∧ (L.getD 9 false = true → Cel W g12 #[.string ⟨y_s.toArray⟩, .string ⟨y_p.toArray⟩, .int .i64 y_n, .bool y_v0, .string ⟨y_l0.toArray⟩, .bool y_v1, .string ⟨y_l1.toArray⟩, .bool y_v2, .string ⟨y_l2.toArray⟩, .bool y_v3, .string ⟨y_l3.toArray⟩] 26) ∧ (L.getD 6 false = true → L.getD 7 false = true → g11 ≠ g12)) (by kernel_rfl) (by kernel_rfl) ?start ?steps ?stop
  case start => exact fun b v hv => ⟨(v 74, v 75, v 76, v 77, v 78, v 79, v 11, v 12, 0, 0), (by simp only [hv]), (Since.refl _).drew, fun h => none_yet h, fun h => none_yet h, fun h => none_yet h, fun h => none_yet h, fun h => none_yet h, fun h => none_yet h, fun h => none_yet h, fun h => none_yet h, fun h => none_yet h, fun h => none_yet h, fun h => none_yet h, fun h => none_yet h, fun h => none_yet h, fun h => none_yet h, fun h => none_yet h⟩
  case steps =>
    refine ⟨⟨rfl, ?_⟩, ⟨rfl, ?_⟩, ⟨rfl, ?_⟩, ⟨rfl, ?_⟩, ⟨rfl, ?_⟩, ⟨rfl, ?_⟩, ⟨rfl, ?_⟩, ⟨rfl, ?_⟩, ⟨rfl, ?_⟩, ⟨rfl, ?_⟩, trivial⟩
    · intro L x W hJ hlt hk hd K' hK
      obtain ⟨x74, x75, x76, x77, x78, x79, x11, x12, g11, g12⟩ := x
      obtain ⟨hS, f0, f1, f2, f3, f4, f5, p6, q6, z6, c6, p7, q7, z7, c7, n6_7⟩ := hJ
      refine ⟨?_⟩
      simp only [Act.put, List.setIfInBounds_toArray, List.set_cons_zero, List.set_cons_succ]
      go_simp
      refine kput (hK ((v), x75, x76, x77, x78, x79, x11, x12, g11, g12) _ ⟨hS, fun _ => rfl, fun h => f1 (not_k h (by decide)), fun h => f2 (not_k h (by decide)), fun h => f3 (not_k h (by decide)), fun h => f4 (not_k h (by decide)), fun h => f5 (not_k h (by decide)), fun h => p6 (not_k h (by decide)), fun h => getD_set_true (q6 (not_k h (by decide))), fun h h2 => z6 (not_k h (by decide)) (not_k' h2 (by decide)), fun h => c6 (not_k h (by decide)), fun h => p7 (not_k h (by decide)), fun h => getD_set_true (q7 (not_k h (by decide))), fun h h2 => z7 (not_k h (by decide)) (not_k' h2 (by decide)), fun h => c7 (not_k h (by decide)), fun h h2 => n6_7 (not_k h (by decide)) (not_k h2 (by decide))⟩) ?_
      simp only [Act.put, List.setIfInBounds_toArray, List.set_cons_zero, List.set_cons_succ]
    · intro L x W hJ hlt hk hd K' hK
      obtain ⟨x74, x75, x76, x77, x78, x79, x11, x12, g11, g12⟩ := x
      obtain ⟨hS, f0, f1, f2, f3, f4, f5, p6, q6, z6, c6, p7, q7, z7, c7, n6_7⟩ := hJ
      obtain ⟨a_c0, a_c1, a_c2, a_c3, a_c4, a_c5, a_c6, a_c7, a_c8, a_c9, a_c10⟩ := (a_B.next hS).all
      refine ⟨?_⟩
      simp only [Act.put, List.setIfInBounds_toArray, List.set_cons_zero, List.set_cons_succ]
      go_simp
      refine kput (hK (x74, (.agg #[.string ⟨a_s.toArray⟩, .string ⟨a_p.toArray⟩, .int .i64 a_n, .bool a_v0, .string ⟨a_l0.toArray⟩, .bool a_v1, .string ⟨a_l1.toArray⟩, .bool a_v2, .string ⟨a_l2.toArray⟩, .bool a_v3, .string ⟨a_l3.toArray⟩]), x76, x77, x78, x79, x11, x12, g11, g12) _ ⟨hS, fun h => f0 (not_k h (by decide)), fun _ => rfl, fun h => f2 (not_k h (by decide)), fun h => f3 (not_k h (by decide)), fun h => f4 (not_k h (by decide)), fun h => f5 (not_k h (by decide)), fun h => p6 (not_k h (by decide)), fun h => getD_set_true (q6 (not_k h (by decide))), fun h h2 => z6 (not_k h (by decide)) (not_k' h2 (by decide)), fun h => c6 (not_k h (by decide)), fun h => p7 (not_k h (by decide)), fun h => getD_set_true (q7 (not_k h (by decide))), fun h h2 => z7 (not_k h (by decide)) (not_k' h2 (by decide)), fun h => c7 (not_k h (by decide)), fun h h2 => n6_7 (not_k h (by decide)) (not_k h2 (by decide))⟩) ?_
      simp only [Act.put, List.setIfInBounds_toArray, List.set_cons_zero, List.set_cons_succ]
    · intro L x W hJ hlt hk hd K' hK
      obtain ⟨x74, x75, x76, x77, x78, x79, x11, x12, g11, g12⟩ := x
      obtain ⟨hS, f0, f1, f2, f3, f4, f5, p6, q6, z6, c6, p7, q7, z7, c7, n6_7⟩ := hJ
      have d0 : L.getD 0 false = true := dep_of hd 0 (by rfl)
      obtain rfl := (f0 d0).symm
      have d1 : L.getD 1 false = true := dep_of hd 1 (by rfl)
      obtain rfl := (f1 d1).symm
      refine ⟨?_⟩
      simp only [Act.put, List.setIfInBounds_toArray, List.set_cons_zero, List.set_cons_succ]
      (go_simp; go_at_call 12; refine (HX.out _ (HV.out.next (hSo.trans hS))).mono ?_; rintro e w2 ⟨rfl, hb⟩; (try go_simp))
      refine kput (hK ((v), (.agg #[.string ⟨a_s.toArray⟩, .string ⟨a_p.toArray⟩, .int .i64 a_n, .bool a_v0, .string ⟨a_l0.toArray⟩, .bool a_v1, .string ⟨a_l1.toArray⟩, .bool a_v2, .string ⟨a_l2.toArray⟩, .bool a_v3, .string ⟨a_l3.toArray⟩]), (.agg #[.string ⟨x_s.toArray⟩, .string ⟨x_p.toArray⟩, .int .i64 x_n, .bool x_v0, .string ⟨x_l0.toArray⟩, .bool x_v1, .string ⟨x_l1.toArray⟩, .bool x_v2, .string ⟨x_l2.toArray⟩, .bool x_v3, .string ⟨x_l3.toArray⟩]), x77, x78, x79, x11, x12, g11, g12) _ ⟨hS.trans hb, fun h => f0 (not_k h (by decide)), fun h => f1 (not_k h (by decide)), fun _ => rfl, fun h => f3 (not_k h (by decide)), fun h => f4 (not_k h (by decide)), fun h => f5 (not_k h (by decide)), fun h => ⟨(p6 (not_k h (by decide))).1, (p6 (not_k h (by decide))).2.1, Nat.lt_of_lt_of_le (p6 (not_k h (by decide))).2.2 hb.size⟩, fun h => getD_set_true (q6 (not_k h (by decide))), fun h h2 => (z6 (not_k h (by decide)) (not_k' h2 (by decide))).next hb, fun h => (c6 (not_k h (by decide))).next hb, fun h => ⟨(p7 (not_k h (by decide))).1, (p7 (not_k h (by decide))).2.1, Nat.lt_of_lt_of_le (p7 (not_k h (by decide))).2.2 hb.size⟩, fun h => getD_set_true (q7 (not_k h (by decide))), fun h h2 => (z7 (not_k h (by decide)) (not_k' h2 (by decide))).next hb, fun h => (c7 (not_k h (by decide))).next hb, fun h h2 => n6_7 (not_k h (by decide)) (not_k h2 (by decide))⟩) ?_
      simp only [Act.put, List.setIfInBounds_toArray, List.set_cons_zero, List.set_cons_succ]
    · intro L x W hJ hlt hk hd K' hK
      obtain ⟨x74, x75, x76, x77, x78, x79, x11, x12, g11, g12⟩ := x
      obtain ⟨hS, f0, f1, f2, f3, f4, f5, p6, q6, z6, c6, p7, q7, z7, c7, n6_7⟩ := hJ
      refine ⟨?_⟩
      simp only [Act.put, List.setIfInBounds_toArray, List.set_cons_zero, List.set_cons_succ]
      go_simp
      refine kput (hK (x74, x75, x76, (v), x78, x79, x11, x12, g11, g12) _ ⟨hS, fun h => f0 (not_k h (by decide)), fun h => f1 (not_k h (by decide)), fun h => f2 (not_k h (by decide)), fun _ => rfl, fun h => f4 (not_k h (by decide)), fun h => f5 (not_k h (by decide)), fun h => p6 (not_k h (by decide)), fun h => getD_set_true (q6 (not_k h (by decide))), fun h h2 => z6 (not_k h (by decide)) (not_k' h2 (by decide)), fun h => c6 (not_k h (by decide)), fun h => p7 (not_k h (by decide)), fun h => getD_set_true (q7 (not_k h (by decide))), fun h h2 => z7 (not_k h (by decide)) (not_k' h2 (by decide)), fun h => c7 (not_k h (by decide)), fun h h2 => n6_7 (not_k h (by decide)) (not_k h2 (by decide))⟩) ?_
      simp only [Act.put, List.setIfInBounds_toArray, List.set_cons_zero, List.set_cons_succ]
    · intro L x W hJ hlt hk hd K' hK
      obtain ⟨x74, x75, x76, x77, x78, x79, x11, x12, g11, g12⟩ := x
      obtain ⟨hS, f0, f1, f2, f3, f4, f5, p6, q6, z6, c6, p7, q7, z7, c7, n6_7⟩ := hJ
      obtain ⟨b_c0, b_c1, b_c2, b_c3, b_c4, b_c5, b_c6, b_c7, b_c8, b_c9, b_c10⟩ := (b_B.next hS).all
      refine ⟨?_⟩
      simp only [Act.put, List.setIfInBounds_toArray, List.set_cons_zero, List.set_cons_succ]
      go_simp
      refine kput (hK (x74, x75, x76, x77, (.agg #[.string ⟨b_s.toArray⟩, .string ⟨b_p.toArray⟩, .int .i64 b_n, .bool b_v0, .string ⟨b_l0.toArray⟩, .bool b_v1, .string ⟨b_l1.toArray⟩, .bool b_v2, .string ⟨b_l2.toArray⟩, .bool b_v3, .string ⟨b_l3.toArray⟩]), x79, x11, x12, g11, g12) _ ⟨hS, fun h => f0 (not_k h (by decide)), fun h => f1 (not_k h (by decide)), fun h => f2 (not_k h (by decide)), fun h => f3 (not_k h (by decide)), fun _ => rfl, fun h => f5 (not_k h (by decide)), fun h => p6 (not_k h (by decide)), fun h => getD_set_true (q6 (not_k h (by decide))), fun h h2 => z6 (not_k h (by decide)) (not_k' h2 (by decide)), fun h => c6 (not_k h (by decide)), fun h => p7 (not_k h (by decide)), fun h => getD_set_true (q7 (not_k h (by decide))), fun h h2 => z7 (not_k h (by decide)) (not_k' h2 (by decide)), fun h => c7 (not_k h (by decide)), fun h h2 => n6_7 (not_k h (by decide)) (not_k h2 (by decide))⟩) ?_
      simp only [Act.put, List.setIfInBounds_toArray, List.set_cons_zero, List.set_cons_succ]
    · intro L x W hJ hlt hk hd K' hK
      obtain ⟨x74, x75, x76, x77, x78, x79, x11, x12, g11, g12⟩ := x
      obtain ⟨hS, f0, f1, f2, f3, f4, f5, p6, q6, z6, c6, p7, q7, z7, c7, n6_7⟩ := hJ
      have d3 : L.getD 3 false = true := dep_of hd 3 (by rfl)
      obtain rfl := (f3 d3).symm
      have d4 : L.getD 4 false = true := dep_of hd 4 (by rfl)
      obtain rfl := (f4 d4).symm
      refine ⟨?_⟩
      simp only [Act.put, List.setIfInBounds_toArray, List.set_cons_zero, List.set_cons_succ]
      (go_simp; go_at_call 12; refine (HY.out _ (HV.out.next (hSo.trans hS))).mono ?_; rintro e w2 ⟨rfl, hb⟩; (try go_simp))
      refine kput (hK (x74, x75, x76, (v), (.agg #[.string ⟨b_s.toArray⟩, .string ⟨b_p.toArray⟩, .int .i64 b_n, .bool b_v0, .string ⟨b_l0.toArray⟩, .bool b_v1, .string ⟨b_l1.toArray⟩, .bool b_v2, .string ⟨b_l2.toArray⟩, .bool b_v3, .string ⟨b_l3.toArray⟩]), (.agg #[.string ⟨y_s.toArray⟩, .string ⟨y_p.toArray⟩, .int .i64 y_n, .bool y_v0, .string ⟨y_l0.toArray⟩, .bool y_v1, .string ⟨y_l1.toArray⟩, .bool y_v2, .string ⟨y_l2.toArray⟩, .bool y_v3, .string ⟨y_l3.toArray⟩]), x11, x12, g11, g12) _ ⟨hS.trans hb, fun h => f0 (not_k h (by decide)), fun h => f1 (not_k h (by decide)), fun h => f2 (not_k h (by decide)), fun h => f3 (not_k h (by decide)), fun h => f4 (not_k h (by decide)), fun _ => rfl, fun h => ⟨(p6 (not_k h (by decide))).1, (p6 (not_k h (by decide))).2.1, Nat.lt_of_lt_of_le (p6 (not_k h (by decide))).2.2 hb.size⟩, fun h => getD_set_true (q6 (not_k h (by decide))), fun h h2 => (z6 (not_k h (by decide)) (not_k' h2 (by decide))).next hb, fun h => (c6 (not_k h (by decide))).next hb, fun h => ⟨(p7 (not_k h (by decide))).1, (p7 (not_k h (by decide))).2.1, Nat.lt_of_lt_of_le (p7 (not_k h (by decide))).2.2 hb.size⟩, fun h => getD_set_true (q7 (not_k h (by decide))), fun h h2 => (z7 (not_k h (by decide)) (not_k' h2 (by decide))).next hb, fun h => (c7 (not_k h (by decide))).next hb, fun h h2 => n6_7 (not_k h (by decide)) (not_k h2 (by decide))⟩) ?_
      simp only [Act.put, List.setIfInBounds_toArray, List.set_cons_zero, List.set_cons_succ]
    · intro L x W hJ hlt hk hd K' hK
      obtain ⟨x74, x75, x76, x77, x78, x79, x11, x12, g11, g12⟩ := x
      obtain ⟨hS, f0, f1, f2, f3, f4, f5, p6, q6, z6, c6, p7, q7, z7, c7, n6_7⟩ := hJ
      refine ⟨?_⟩
      simp only [Act.put, List.setIfInBounds_toArray, List.set_cons_zero, List.set_cons_succ]
      go_simp
      have hb : Since W (W.alloc (.cells #[.string ⟨#[]⟩, .string ⟨#[]⟩, .int .i64 0, .bool false, .string ⟨#[]⟩, .bool false, .string ⟨#[]⟩, .bool false, .string ⟨#[]⟩, .bool false, .string ⟨#[]⟩] 26)) := (Since.refl _).alloc _
      refine kput (hK (x74, x75, x76, x77, x78, x79, (.pointer (some ⟨W.heap.size, 0, none⟩)), x12, W.heap.size, g12) _ ⟨hS.trans hb, fun h => f0 (not_k h (by decide)), fun h => f1 (not_k h (by decide)), fun h => f2 (not_k h (by decide)), fun h => f3 (not_k h (by decide)), fun h => f4 (not_k h (by decide)), fun h => f5 (not_k h (by decide)), fun _ => ⟨rfl, hS.size, by simp⟩, fun h => getD_set_true (q6 (not_k h (by decide))), fun _ _ => heap_alloc_new W _, fun h => absurd (q6 (not_k h (by decide))) (by rw [hk]; decide), fun h => ⟨(p7 (not_k h (by decide))).1, (p7 (not_k h (by decide))).2.1, Nat.lt_of_lt_of_le (p7 (not_k h (by decide))).2.2 hb.size⟩, fun h => getD_set_true (q7 (not_k h (by decide))), fun h h2 => (z7 (not_k h (by decide)) (not_k' h2 (by decide))).next hb, fun h => (c7 (not_k h (by decide))).next hb, fun _ h => Nat.ne_of_gt (p7 (not_k h (by decide))).2.2⟩) ?_
      simp only [Act.put, List.setIfInBounds_toArray, List.set_cons_zero, List.set_cons_succ]
    · intro L x W hJ hlt hk hd K' hK
      obtain ⟨x74, x75, x76, x77, x78, x79, x11, x12, g11, g12⟩ := x
      obtain ⟨hS, f0, f1, f2, f3, f4, f5, p6, q6, z6, c6, p7, q7, z7, c7, n6_7⟩ := hJ
      refine ⟨?_⟩
      simp only [Act.put, List.setIfInBounds_toArray, List.set_cons_zero, List.set_cons_succ]
      go_simp
      have hb : Since W (W.alloc (.cells #[.string ⟨#[]⟩, .string ⟨#[]⟩, .int .i64 0, .bool false, .string ⟨#[]⟩, .bool false, .string ⟨#[]⟩, .bool false, .string ⟨#[]⟩, .bool false, .string ⟨#[]⟩] 26)) := (Since.refl _).alloc _
      refine kput (hK (x74, x75, x76, x77, x78, x79, x11, (.pointer (some ⟨W.heap.size, 0, none⟩)), g11, W.heap.size) _ ⟨hS.trans hb, fun h => f0 (not_k h (by decide)), fun h => f1 (not_k h (by decide)), fun h => f2 (not_k h (by decide)), fun h => f3 (not_k h (by decide)), fun h => f4 (not_k h (by decide)), fun h => f5 (not_k h (by decide)), fun h => ⟨(p6 (not_k h (by decide))).1, (p6 (not_k h (by decide))).2.1, Nat.lt_of_lt_of_le (p6 (not_k h (by decide))).2.2 hb.size⟩, fun h => getD_set_true (q6 (not_k h (by decide))), fun h h2 => (z6 (not_k h (by decide)) (not_k' h2 (by decide))).next hb, fun h => (c6 (not_k h (by decide))).next hb, fun _ => ⟨rfl, hS.size, by simp⟩, fun h => getD_set_true (q7 (not_k h (by decide))), fun _ _ => heap_alloc_new W _, fun h => absurd (q7 (not_k h (by decide))) (by rw [hk]; decide), fun h _ => Nat.ne_of_lt (p6 (not_k h (by decide))).2.2⟩) ?_
      simp only [Act.put, List.setIfInBounds_toArray, List.set_cons_zero, List.set_cons_succ]
    · intro L x W hJ hlt hk hd K' hK
      obtain ⟨x74, x75, x76, x77, x78, x79, x11, x12, g11, g12⟩ := x
      obtain ⟨hS, f0, f1, f2, f3, f4, f5, p6, q6, z6, c6, p7, q7, z7, c7, n6_7⟩ := hJ
      have d6 : L.getD 6 false = true := dep_of hd 6 (by rfl)
      obtain ⟨rfl, pl6, pg6⟩ := p6 d6
      have d2 : L.getD 2 false = true := dep_of hd 2 (by rfl)
      obtain rfl := (f2 d2).symm
      refine ⟨?_⟩
      simp only [Act.put, List.setIfInBounds_toArray, List.set_cons_zero, List.set_cons_succ]
      refine wp_store_row 26 (.tmp 11) (.tmp 76) rfl g11 #[.string ⟨x_s.toArray⟩, .string ⟨x_p.toArray⟩, .int .i64 x_n, .bool x_v0, .string ⟨x_l0.toArray⟩, .bool x_v1, .string ⟨x_l1.toArray⟩, .bool x_v2, .string ⟨x_l2.toArray⟩, .bool x_v3, .string ⟨x_l3.toArray⟩] rfl rfl 26 #[.string ⟨#[]⟩, .string ⟨#[]⟩, .int .i64 0, .bool false, .string ⟨#[]⟩, .bool false, .string ⟨#[]⟩, .bool false, .string ⟨#[]⟩, .bool false, .string ⟨#[]⟩] (z6 d6 hk) ainfoA rfl (by simp [Value.oneCell']) ?_
      refine kput (hK (x74, x75, (.agg #[.string ⟨x_s.toArray⟩, .string ⟨x_p.toArray⟩, .int .i64 x_n, .bool x_v0, .string ⟨x_l0.toArray⟩, .bool x_v1, .string ⟨x_l1.toArray⟩, .bool x_v2, .string ⟨x_l2.toArray⟩, .bool x_v3, .string ⟨x_l3.toArray⟩]), x77, x78, x79, (.pointer (some ⟨g11, 0, none⟩)), x12, g11, g12) _ ⟨since_setRow hS pl6 _, fun h => f0 (not_k h (by decide)), fun h => f1 (not_k h (by decide)), fun h => f2 (not_k h (by decide)), fun h => f3 (not_k h (by decide)), fun h => f4 (not_k h (by decide)), fun h => f5 (not_k h (by decide)), fun h => ⟨(p6 (not_k h (by decide))).1, (p6 (not_k h (by decide))).2.1, Nat.lt_of_lt_of_eq (p6 (not_k h (by decide))).2.2 (by simp)⟩, fun _ => getD_set_true d6, fun _ h2 => absurd ((set_now hlt).symm.trans h2) (by decide), fun _ => Cel.row (z6 d6 hk) _, fun h => ⟨(p7 (not_k h (by decide))).1, (p7 (not_k h (by decide))).2.1, Nat.lt_of_lt_of_eq (p7 (not_k h (by decide))).2.2 (by simp)⟩, fun h => getD_set_true (q7 (not_k h (by decide))), fun h h2 => (z7 (not_k h (by decide)) (not_k' h2 (by decide))).farRow (fun e => n6_7 d6 (not_k h (by decide)) e.symm) _, fun h => (c7 (not_k h (by decide))).farRow (fun e => n6_7 d6 (q7 (not_k h (by decide))) e.symm) _, fun h h2 => n6_7 (not_k h (by decide)) (not_k h2 (by decide))⟩) ?_
      simp only [Act.put, List.setIfInBounds_toArray, List.set_cons_zero, List.set_cons_succ]
    · intro L x W hJ hlt hk hd K' hK
      obtain ⟨x74, x75, x76, x77, x78, x79, x11, x12, g11, g12⟩ := x
      obtain ⟨hS, f0, f1, f2, f3, f4, f5, p6, q6, z6, c6, p7, q7, z7, c7, n6_7⟩ := hJ
      have d7 : L.getD 7 false = true := dep_of hd 7 (by rfl)
      obtain ⟨rfl, pl7, pg7⟩ := p7 d7
      have d5 : L.getD 5 false = true := dep_of hd 5 (by rfl)
      obtain rfl := (f5 d5).symm
      refine ⟨?_⟩
      simp only [Act.put, List.setIfInBounds_toArray, List.set_cons_zero, List.set_cons_succ]
      refine wp_store_row 26 (.tmp 12) (.tmp 79) rfl g12 #[.string ⟨y_s.toArray⟩, .string ⟨y_p.toArray⟩, .int .i64 y_n, .bool y_v0, .string ⟨y_l0.toArray⟩, .bool y_v1, .string ⟨y_l1.toArray⟩, .bool y_v2, .string ⟨y_l2.toArray⟩, .bool y_v3, .string ⟨y_l3.toArray⟩] rfl rfl 26 #[.string ⟨#[]⟩, .string ⟨#[]⟩, .int .i64 0, .bool false, .string ⟨#[]⟩, .bool false, .string ⟨#[]⟩, .bool false, .string ⟨#[]⟩, .bool false, .string ⟨#[]⟩] (z7 d7 hk) ainfoA rfl (by simp [Value.oneCell']) ?_
      refine kput (hK (x74, x75, x76, x77, x78, (.agg #[.string ⟨y_s.toArray⟩, .string ⟨y_p.toArray⟩, .int .i64 y_n, .bool y_v0, .string ⟨y_l0.toArray⟩, .bool y_v1, .string ⟨y_l1.toArray⟩, .bool y_v2, .string ⟨y_l2.toArray⟩, .bool y_v3, .string ⟨y_l3.toArray⟩]), x11, (.pointer (some ⟨g12, 0, none⟩)), g11, g12) _ ⟨since_setRow hS pl7 _, fun h => f0 (not_k h (by decide)), fun h => f1 (not_k h (by decide)), fun h => f2 (not_k h (by decide)), fun h => f3 (not_k h (by decide)), fun h => f4 (not_k h (by decide)), fun h => f5 (not_k h (by decide)), fun h => ⟨(p6 (not_k h (by decide))).1, (p6 (not_k h (by decide))).2.1, Nat.lt_of_lt_of_eq (p6 (not_k h (by decide))).2.2 (by simp)⟩, fun h => getD_set_true (q6 (not_k h (by decide))), fun h h2 => (z6 (not_k h (by decide)) (not_k' h2 (by decide))).farRow (fun e => n6_7 (not_k h (by decide)) d7 e) _, fun h => (c6 (not_k h (by decide))).farRow (fun e => n6_7 (q6 (not_k h (by decide))) d7 e) _, fun h => ⟨(p7 (not_k h (by decide))).1, (p7 (not_k h (by decide))).2.1, Nat.lt_of_lt_of_eq (p7 (not_k h (by decide))).2.2 (by simp)⟩, fun _ => getD_set_true d7, fun _ h2 => absurd ((set_now hlt).symm.trans h2) (by decide), fun _ => Cel.row (z7 d7 hk) _, fun h h2 => n6_7 (not_k h (by decide)) (not_k h2 (by decide))⟩) ?_
      simp only [Act.put, List.setIfInBounds_toArray, List.set_cons_zero, List.set_cons_succ]
  case stop =>
    intro L x W hJ hall
    obtain ⟨x74, x75, x76, x77, x78, x79, x11, x12, g11, g12⟩ := x
    obtain ⟨hS, f0, f1, f2, f3, f4, f5, p6, q6, z6, c6, p7, q7, z7, c7, n6_7⟩ := hJ
    obtain rfl := (f0 (hall 0 (Nat.le_of_ble_eq_true rfl))).symm
    obtain rfl := (f1 (hall 1 (Nat.le_of_ble_eq_true rfl))).symm
    obtain rfl := (f2 (hall 2 (Nat.le_of_ble_eq_true rfl))).symm
    obtain rfl := (f3 (hall 3 (Nat.le_of_ble_eq_true rfl))).symm
    obtain rfl := (f4 (hall 4 (Nat.le_of_ble_eq_true rfl))).symm
    obtain rfl := (f5 (hall 5 (Nat.le_of_ble_eq_true rfl))).symm
    obtain ⟨rfl, pl6, pg6⟩ := p6 (hall 6 (Nat.le_of_ble_eq_true rfl))
    have cc6 := c6 (hall 8 (Nat.le_of_ble_eq_true rfl))
    obtain ⟨rfl, pl7, pg7⟩ := p7 (hall 7 (Nat.le_of_ble_eq_true rfl))
    have cc7 := c7 (hall 9 (Nat.le_of_ble_eq_true rfl))
    have nn6_7 := n6_7 (hall 6 (Nat.le_of_ble_eq_true rfl)) (hall 7 (Nat.le_of_ble_eq_true rfl))
    clear f0 f1 f2 f3 f4 f5 p6 q6 z6 c6 p7 q7 z7 c7 n6_7 hall
    simp only [Act.put, List.setIfInBounds_toArray, List.set_cons_zero, List.set_cons_succ]
    have HG1 := Lib.hid cc6
    have HG2 := Lib.hid cc7
    obtain ⟨x_c0, x_c1, x_c2, x_c3, x_c4, x_c5, x_c6, x_c7, x_c8, x_c9, x_c10⟩ := (Cel.box (a := ((x_s, x_p, x_n, (x_v0, x_l0), (x_v1, x_l1), (x_v2, x_l2), (x_v3, x_l3)) : Atm)) HG1.out).all
    obtain ⟨y_c0, y_c1, y_c2, y_c3, y_c4, y_c5, y_c6, y_c7, y_c8, y_c9, y_c10⟩ := (Cel.box (a := ((y_s, y_p, y_n, (y_v0, y_l0), (y_v1, y_l1), (y_v2, y_l2), (y_v3, y_l3)) : Atm)) HG2.out).all
    have hSW := hSo.trans hS
    cases hxy : eqA ((x_s, x_p, x_n, (x_v0, x_l0), (x_v1, x_l1), (x_v2, x_l2), (x_v3, x_l3)) : Atm) ((y_s, y_p, y_n, (y_v0, y_l0), (y_v1, y_l1), (y_v2, y_l2), (y_v3, y_l3)) : Atm)
    · go_wp2_with fail
      go_ret
      exact ⟨rfl, hSW⟩
    · have HW2 := Lib.hid (HW.out hxy)
      replace V1 := Lib.hid (V1.out.next hS)
      replace HV := Lib.hid (HV.out.next hSW)
      obtain ⟨a_c0, a_c1, a_c2, a_c3, a_c4, a_c5, a_c6, a_c7, a_c8, a_c9, a_c10⟩ := (a_B.next hS).all
      clear HW HX HY
      go_wp2_with fail
      have HS : Hid (∀ W', Since W W' → W'.cell? ⟨w.heap.size, 0, none⟩ = some (.string ⟨a_s.toArray⟩) ∧ W'.cell? ⟨w.heap.size, 1, none⟩ = some (.string ⟨a_p.toArray⟩) ∧ W'.cell? ⟨w.heap.size, 2, none⟩ = some (.int .i64 a_n) ∧ W'.cell? ⟨w.heap.size, 3, none⟩ = some (.bool a_v0) ∧ W'.cell? ⟨w.heap.size, 4, none⟩ = some (.string ⟨a_l0.toArray⟩) ∧ W'.cell? ⟨w.heap.size, 5, none⟩ = some (.bool a_v1) ∧ W'.cell? ⟨w.heap.size, 6, none⟩ = some (.string ⟨a_l1.toArray⟩) ∧ W'.cell? ⟨w.heap.size, 7, none⟩ = some (.bool a_v2) ∧ W'.cell? ⟨w.heap.size, 8, none⟩ = some (.string ⟨a_l2.toArray⟩) ∧ W'.cell? ⟨w.heap.size, 9, none⟩ = some (.bool a_v3) ∧ W'.cell? ⟨w.heap.size, 10, none⟩ = some (.string ⟨a_l3.toArray⟩) ∧ W'.cell? ⟨g11, 0, none⟩ = some (.string ⟨x_s.toArray⟩) ∧ W'.cell? ⟨g11, 0 + 1, none⟩ = some (.string ⟨x_p.toArray⟩) ∧ W'.cell? ⟨g11, 0 + 2, none⟩ = some (.int .i64 x_n) ∧ W'.cell? ⟨g11, 0 + 3, none⟩ = some (.bool x_v0) ∧ W'.cell? ⟨g11, 0 + 4, none⟩ = some (.string ⟨x_l0.toArray⟩) ∧ W'.cell? ⟨g11, 0 + 5, none⟩ = some (.bool x_v1) ∧ W'.cell? ⟨g11, 0 + 6, none⟩ = some (.string ⟨x_l1.toArray⟩) ∧ W'.cell? ⟨g11, 0 + 7, none⟩ = some (.bool x_v2) ∧ W'.cell? ⟨g11, 0 + 8, none⟩ = some (.string ⟨x_l2.toArray⟩) ∧ W'.cell? ⟨g11, 0 + 9, none⟩ = some (.bool x_v3) ∧ W'.cell? ⟨g11, 0 + 10, none⟩ = some (.string ⟨x_l3.toArray⟩)) := fun W h => ⟨h.cell a_c0, h.cell a_c1, h.cell a_c2, h.cell a_c3, h.cell a_c4, h.cell a_c5, h.cell a_c6, h.cell a_c7, h.cell a_c8, h.cell a_c9, h.cell a_c10, h.cell x_c0, h.cell x_c1, h.cell x_c2, h.cell x_c3, h.cell x_c4, h.cell x_c5, h.cell x_c6, h.cell x_c7, h.cell x_c8, h.cell x_c9, h.cell x_c10⟩
      go_region_held3 (fun w' => w'.cell? ⟨w.heap.size, 0, none⟩ = some (.string ⟨a_s.toArray⟩) ∧ w'.cell? ⟨w.heap.size, 1, none⟩ = some (.string ⟨a_p.toArray⟩) ∧ w'.cell? ⟨w.heap.size, 2, none⟩ = some (.int .i64 a_n) ∧ w'.cell? ⟨w.heap.size, 3, none⟩ = some (.bool a_v0) ∧ w'.cell? ⟨w.heap.size, 4, none⟩ = some (.string ⟨a_l0.toArray⟩) ∧ w'.cell? ⟨w.heap.size, 5, none⟩ = some (.bool a_v1) ∧ w'.cell? ⟨w.heap.size, 6, none⟩ = some (.string ⟨a_l1.toArray⟩) ∧ w'.cell? ⟨w.heap.size, 7, none⟩ = some (.bool a_v2) ∧ w'.cell? ⟨w.heap.size, 8, none⟩ = some (.string ⟨a_l2.toArray⟩) ∧ w'.cell? ⟨w.heap.size, 9, none⟩ = some (.bool a_v3) ∧ w'.cell? ⟨w.heap.size, 10, none⟩ = some (.string ⟨a_l3.toArray⟩) ∧ w'.cell? ⟨g11, 0, none⟩ = some (.string ⟨x_s.toArray⟩) ∧ w'.cell? ⟨g11, 0 + 1, none⟩ = some (.string ⟨x_p.toArray⟩) ∧ w'.cell? ⟨g11, 0 + 2, none⟩ = some (.int .i64 x_n) ∧ w'.cell? ⟨g11, 0 + 3, none⟩ = some (.bool x_v0) ∧ w'.cell? ⟨g11, 0 + 4, none⟩ = some (.string ⟨x_l0.toArray⟩) ∧ w'.cell? ⟨g11, 0 + 5, none⟩ = some (.bool x_v1) ∧ w'.cell? ⟨g11, 0 + 6, none⟩ = some (.string ⟨x_l1.toArray⟩) ∧ w'.cell? ⟨g11, 0 + 7, none⟩ = some (.bool x_v2) ∧ w'.cell? ⟨g11, 0 + 8, none⟩ = some (.string ⟨x_l2.toArray⟩) ∧ w'.cell? ⟨g11, 0 + 9, none⟩ = some (.bool x_v3) ∧ w'.cell? ⟨g11, 0 + 10, none⟩ = some (.string ⟨x_l3.toArray⟩)) (first | (refine HS.out _ ?_; (repeat (first | exact Since.refl _ | assumption | refine Since.drew ?_ | refine Since.alloc ?_ _))))
        (first
          | (go_simp; go_at_call 12; (with_reducible refine Calls.mono (HK2.out _ ?_) ?_); (refine RowOf.next V1.out ?_; (repeat (first | exact Since.refl _ | assumption | refine Since.drew ?_ | refine Since.alloc ?_ _))); rintro e w9 ⟨rfl, hb9⟩; have hS9 : Since W w9 := (by refine Since.trans ?_ hb9; (repeat (first | exact Since.refl _ | assumption | refine Since.drew ?_ | refine Since.alloc ?_ _))))
          | (go_simp; go_at_call 12; (with_reducible refine Calls.mono (HW2.out _ ?_) ?_); (refine RowOf.next HV.out ?_; (repeat (first | exact Since.refl _ | assumption | refine Since.drew ?_ | refine Since.alloc ?_ _))); rintro e w10 ⟨rfl, hb10⟩; have hS10 : Since W w10 := (by refine Since.trans ?_ hb10; (repeat (first | exact Since.refl _ | assumption | refine Since.drew ?_ | refine Since.alloc ?_ _)))))
      go_wp2_with fail
      go_ret
      exact ⟨rfl, hSW.trans hS10⟩
end Go.Proofs.Ytohcehjpdmhjlaa
