/- The reference: alike, and being under an atom. -/
import Derived.Test.YtohcehjpdmhjlaaDoorUniM
import Derived.Deep.QuietTactic
import Derived.BigQuiet
namespace Go.Proofs.YtohcehjpdmhjlaaDoor
open Go.RowKit
attribute [local go_sem ↓] run_termEq'
attribute [local go_sem] eqT_self

set_option maxHeartbeats 2000000 in
set_option maxRecDepth 100000 in
theorem alike_yes (s p : List UInt8) (n : Nat) (a_v0 a_v1 a_v2 a_v3 : Bool) (a_l0 a_l1 a_l2 a_l3 : List UInt8) (b_v0 b_v1 b_v2 b_v3 : Bool) (b_l0 b_l1 b_l2 b_l3 : List UInt8) (hn : n ≤ 4) (w : World) :
    Calls Tryd.prog 27 #[.agg #[.string ⟨s.toArray⟩, .string ⟨p.toArray⟩, .int .i64 (n : Int), .bool a_v0, .string ⟨a_l0.toArray⟩, .bool a_v1, .string ⟨a_l1.toArray⟩, .bool a_v2, .string ⟨a_l2.toArray⟩, .bool a_v3, .string ⟨a_l3.toArray⟩], .agg #[.string ⟨s.toArray⟩, .string ⟨p.toArray⟩, .int .i64 (n : Int), .bool b_v0, .string ⟨b_l0.toArray⟩, .bool b_v1, .string ⟨b_l1.toArray⟩, .bool b_v2, .string ⟨b_l2.toArray⟩, .bool b_v3, .string ⟨b_l3.toArray⟩]] w fun e w' => e = .returned (.bool true) ∧ Since w w' := by
  have hS : Since w ((w.alloc (.cells #[.string ⟨s.toArray⟩, .string ⟨p.toArray⟩, .int .i64 (n : Int), .bool a_v0, .string ⟨a_l0.toArray⟩, .bool a_v1, .string ⟨a_l1.toArray⟩, .bool a_v2, .string ⟨a_l2.toArray⟩, .bool a_v3, .string ⟨a_l3.toArray⟩] 26)).alloc (.cells #[.string ⟨s.toArray⟩, .string ⟨p.toArray⟩, .int .i64 (n : Int), .bool b_v0, .string ⟨b_l0.toArray⟩, .bool b_v1, .string ⟨b_l1.toArray⟩, .bool b_v2, .string ⟨b_l2.toArray⟩, .bool b_v3, .string ⟨b_l3.toArray⟩] 26)) := ((Since.refl _).alloc _).alloc _
  have a_B : Box ((w.alloc (.cells #[.string ⟨s.toArray⟩, .string ⟨p.toArray⟩, .int .i64 (n : Int), .bool a_v0, .string ⟨a_l0.toArray⟩, .bool a_v1, .string ⟨a_l1.toArray⟩, .bool a_v2, .string ⟨a_l2.toArray⟩, .bool a_v3, .string ⟨a_l3.toArray⟩] 26)).alloc (.cells #[.string ⟨s.toArray⟩, .string ⟨p.toArray⟩, .int .i64 (n : Int), .bool b_v0, .string ⟨b_l0.toArray⟩, .bool b_v1, .string ⟨b_l1.toArray⟩, .bool b_v2, .string ⟨b_l2.toArray⟩, .bool b_v3, .string ⟨b_l3.toArray⟩] 26)) w.heap.size ((s, p, (n : Int), (a_v0, a_l0), (a_v1, a_l1), (a_v2, a_l2), (a_v3, a_l3)) : Atm) := (box_new w ((s, p, (n : Int), (a_v0, a_l0), (a_v1, a_l1), (a_v2, a_l2), (a_v3, a_l3)) : Atm) _).next ((Since.refl _).alloc _)
  have b_B : Box ((w.alloc (.cells #[.string ⟨s.toArray⟩, .string ⟨p.toArray⟩, .int .i64 (n : Int), .bool a_v0, .string ⟨a_l0.toArray⟩, .bool a_v1, .string ⟨a_l1.toArray⟩, .bool a_v2, .string ⟨a_l2.toArray⟩, .bool a_v3, .string ⟨a_l3.toArray⟩] 26)).alloc (.cells #[.string ⟨s.toArray⟩, .string ⟨p.toArray⟩, .int .i64 (n : Int), .bool b_v0, .string ⟨b_l0.toArray⟩, .bool b_v1, .string ⟨b_l1.toArray⟩, .bool b_v2, .string ⟨b_l2.toArray⟩, .bool b_v3, .string ⟨b_l3.toArray⟩] 26)) (w.heap.size + 1) ((s, p, (n : Int), (b_v0, b_l0), (b_v1, b_l1), (b_v2, b_l2), (b_v3, b_l3)) : Atm) := by
    have := box_new (w.alloc (.cells #[.string ⟨s.toArray⟩, .string ⟨p.toArray⟩, .int .i64 (n : Int), .bool a_v0, .string ⟨a_l0.toArray⟩, .bool a_v1, .string ⟨a_l1.toArray⟩, .bool a_v2, .string ⟨a_l2.toArray⟩, .bool a_v3, .string ⟨a_l3.toArray⟩] 26)) ((s, p, (n : Int), (b_v0, b_l0), (b_v1, b_l1), (b_v2, b_l2), (b_v3, b_l3)) : Atm) 26
    rwa [World.size_alloc] at this
  have a0 := a_B.s
  have a1 := a_B.p
  have a2 := a_B.n
  have b0 := b_B.s
  have b1 := b_B.p
  have b2 := b_B.n
  have hi0 : (0 : Int) ≤ (n : Int) := by omega
  have hi4 : (n : Int) ≤ 4 := by omega
  clear a_B b_B
  go_enter Tryd.func27, Tryd.ntmps27
  go_wp2_with fail
  go_ret
  exact ⟨rfl, hS⟩
set_option maxHeartbeats 2000000 in
set_option maxRecDepth 100000 in
theorem alike_no (a_s a_p : List UInt8) (a_n : Int) (a_v0 a_v1 a_v2 a_v3 : Bool) (a_l0 a_l1 a_l2 a_l3 : List UInt8) (b_s b_p : List UInt8) (b_n : Int) (b_v0 b_v1 b_v2 b_v3 : Bool) (b_l0 b_l1 b_l2 b_l3 : List UInt8) (h : ¬ (a_s = b_s ∧ a_p = b_p ∧ a_n = b_n)) (w : World) :
    Calls Tryd.prog 27 #[.agg #[.string ⟨a_s.toArray⟩, .string ⟨a_p.toArray⟩, .int .i64 a_n, .bool a_v0, .string ⟨a_l0.toArray⟩, .bool a_v1, .string ⟨a_l1.toArray⟩, .bool a_v2, .string ⟨a_l2.toArray⟩, .bool a_v3, .string ⟨a_l3.toArray⟩], .agg #[.string ⟨b_s.toArray⟩, .string ⟨b_p.toArray⟩, .int .i64 b_n, .bool b_v0, .string ⟨b_l0.toArray⟩, .bool b_v1, .string ⟨b_l1.toArray⟩, .bool b_v2, .string ⟨b_l2.toArray⟩, .bool b_v3, .string ⟨b_l3.toArray⟩]] w fun e w' => e = .returned (.bool false) ∧ Since w w' := by
  have hS : Since w ((w.alloc (.cells #[.string ⟨a_s.toArray⟩, .string ⟨a_p.toArray⟩, .int .i64 a_n, .bool a_v0, .string ⟨a_l0.toArray⟩, .bool a_v1, .string ⟨a_l1.toArray⟩, .bool a_v2, .string ⟨a_l2.toArray⟩, .bool a_v3, .string ⟨a_l3.toArray⟩] 26)).alloc (.cells #[.string ⟨b_s.toArray⟩, .string ⟨b_p.toArray⟩, .int .i64 b_n, .bool b_v0, .string ⟨b_l0.toArray⟩, .bool b_v1, .string ⟨b_l1.toArray⟩, .bool b_v2, .string ⟨b_l2.toArray⟩, .bool b_v3, .string ⟨b_l3.toArray⟩] 26)) := ((Since.refl _).alloc _).alloc _
  have a_B : Box ((w.alloc (.cells #[.string ⟨a_s.toArray⟩, .string ⟨a_p.toArray⟩, .int .i64 a_n, .bool a_v0, .string ⟨a_l0.toArray⟩, .bool a_v1, .string ⟨a_l1.toArray⟩, .bool a_v2, .string ⟨a_l2.toArray⟩, .bool a_v3, .string ⟨a_l3.toArray⟩] 26)).alloc (.cells #[.string ⟨b_s.toArray⟩, .string ⟨b_p.toArray⟩, .int .i64 b_n, .bool b_v0, .string ⟨b_l0.toArray⟩, .bool b_v1, .string ⟨b_l1.toArray⟩, .bool b_v2, .string ⟨b_l2.toArray⟩, .bool b_v3, .string ⟨b_l3.toArray⟩] 26)) w.heap.size ((a_s, a_p, a_n, (a_v0, a_l0), (a_v1, a_l1), (a_v2, a_l2), (a_v3, a_l3)) : Atm) := (box_new w ((a_s, a_p, a_n, (a_v0, a_l0), (a_v1, a_l1), (a_v2, a_l2), (a_v3, a_l3)) : Atm) _).next ((Since.refl _).alloc _)
  have b_B : Box ((w.alloc (.cells #[.string ⟨a_s.toArray⟩, .string ⟨a_p.toArray⟩, .int .i64 a_n, .bool a_v0, .string ⟨a_l0.toArray⟩, .bool a_v1, .string ⟨a_l1.toArray⟩, .bool a_v2, .string ⟨a_l2.toArray⟩, .bool a_v3, .string ⟨a_l3.toArray⟩] 26)).alloc (.cells #[.string ⟨b_s.toArray⟩, .string ⟨b_p.toArray⟩, .int .i64 b_n, .bool b_v0, .string ⟨b_l0.toArray⟩, .bool b_v1, .string ⟨b_l1.toArray⟩, .bool b_v2, .string ⟨b_l2.toArray⟩, .bool b_v3, .string ⟨b_l3.toArray⟩] 26)) (w.heap.size + 1) ((b_s, b_p, b_n, (b_v0, b_l0), (b_v1, b_l1), (b_v2, b_l2), (b_v3, b_l3)) : Atm) := by
    have := box_new (w.alloc (.cells #[.string ⟨a_s.toArray⟩, .string ⟨a_p.toArray⟩, .int .i64 a_n, .bool a_v0, .string ⟨a_l0.toArray⟩, .bool a_v1, .string ⟨a_l1.toArray⟩, .bool a_v2, .string ⟨a_l2.toArray⟩, .bool a_v3, .string ⟨a_l3.toArray⟩] 26)) ((b_s, b_p, b_n, (b_v0, b_l0), (b_v1, b_l1), (b_v2, b_l2), (b_v3, b_l3)) : Atm) 26
    rwa [World.size_alloc] at this
  have a0 := a_B.s
  have a1 := a_B.p
  have a2 := a_B.n
  have b0 := b_B.s
  have b1 := b_B.p
  have b2 := b_B.n
  clear a_B b_B
  go_enter Tryd.func27, Tryd.ntmps27
  by_cases h1 : a_s = b_s
  · subst h1
    by_cases h2 : a_p = b_p
    · subst h2
      have h3 : ¬ a_n = b_n := fun e => h ⟨rfl, rfl, e⟩
      clear h
      go_wp2_with fail
      go_ret
      exact ⟨rfl, hS⟩
    · clear h
      go_wp2_with fail
      go_ret
      exact ⟨rfl, hS⟩
  · clear h
    go_wp2_with fail
    go_ret
    exact ⟨rfl, hS⟩
/-- An atom's term at a place. -/
def tmAt (a : Atm) (k : Nat) : Tm := (argsL a).getD k (false, [])
theorem tmAt_get {a : Atm} {k : Nat} (h : k < (argsL a).length) : (argsL a)[k] = tmAt a k := by simp [tmAt, List.getD, h]
/-- What being under asks at one place. -/
def CondAt (a p : Atm) (i : Nat) : Prop := ((tmAt p i).1 = false → tmAt p i = tmAt a i) ∧ ∀ k, k < i → (tmAt p i).1 = true → tmAt p i = tmAt p k → tmAt a i = tmAt a k
theorem box_at {W : World} {B : Nat} {a : Atm} (h : Box W B a) {k : Nat} (hk : k < 4) : W.cell? ⟨B, 3 + k * 2, none⟩ = some (.bool (tmAt a k).1) ∧ W.cell? ⟨B, 3 + k * 2 + 1, none⟩ = some (.string ⟨(tmAt a k).2.toArray⟩) := by
  have hl : k < (argsL a).length := by rw [argsL_len]; exact hk
  have := h.args.2 k hl
  rw [tmAt_get hl] at this
  exact this
set_option maxHeartbeats 4000000 in
set_option maxRecDepth 100000 in
theorem under_main (s p : List UInt8) (n : Nat) (a_v0 a_v1 a_v2 a_v3 : Bool) (a_l0 a_l1 a_l2 a_l3 : List UInt8) (b_v0 b_v1 b_v2 b_v3 : Bool) (b_l0 b_l1 b_l2 b_l3 : List UInt8) (hn : n ≤ 4) (R : Bool) (hR : R = true ↔ ∀ i, i < n → CondAt ((s, p, (n : Int), (a_v0, a_l0), (a_v1, a_l1), (a_v2, a_l2), (a_v3, a_l3)) : Atm) ((s, p, (n : Int), (b_v0, b_l0), (b_v1, b_l1), (b_v2, b_l2), (b_v3, b_l3)) : Atm) i) (w : World) :
    Calls Tryd.prog 11 #[.agg #[.string ⟨s.toArray⟩, .string ⟨p.toArray⟩, .int .i64 (n : Int), .bool a_v0, .string ⟨a_l0.toArray⟩, .bool a_v1, .string ⟨a_l1.toArray⟩, .bool a_v2, .string ⟨a_l2.toArray⟩, .bool a_v3, .string ⟨a_l3.toArray⟩], .agg #[.string ⟨s.toArray⟩, .string ⟨p.toArray⟩, .int .i64 (n : Int), .bool b_v0, .string ⟨b_l0.toArray⟩, .bool b_v1, .string ⟨b_l1.toArray⟩, .bool b_v2, .string ⟨b_l2.toArray⟩, .bool b_v3, .string ⟨b_l3.toArray⟩]] w fun e w' => e = .returned (.bool R) ∧ Since w w' := by
  have hS : Since w ((w.alloc (.cells #[.string ⟨s.toArray⟩, .string ⟨p.toArray⟩, .int .i64 (n : Int), .bool a_v0, .string ⟨a_l0.toArray⟩, .bool a_v1, .string ⟨a_l1.toArray⟩, .bool a_v2, .string ⟨a_l2.toArray⟩, .bool a_v3, .string ⟨a_l3.toArray⟩] 26)).alloc (.cells #[.string ⟨s.toArray⟩, .string ⟨p.toArray⟩, .int .i64 (n : Int), .bool b_v0, .string ⟨b_l0.toArray⟩, .bool b_v1, .string ⟨b_l1.toArray⟩, .bool b_v2, .string ⟨b_l2.toArray⟩, .bool b_v3, .string ⟨b_l3.toArray⟩] 26)) := ((Since.refl _).alloc _).alloc _
  have a_B : Box ((w.alloc (.cells #[.string ⟨s.toArray⟩, .string ⟨p.toArray⟩, .int .i64 (n : Int), .bool a_v0, .string ⟨a_l0.toArray⟩, .bool a_v1, .string ⟨a_l1.toArray⟩, .bool a_v2, .string ⟨a_l2.toArray⟩, .bool a_v3, .string ⟨a_l3.toArray⟩] 26)).alloc (.cells #[.string ⟨s.toArray⟩, .string ⟨p.toArray⟩, .int .i64 (n : Int), .bool b_v0, .string ⟨b_l0.toArray⟩, .bool b_v1, .string ⟨b_l1.toArray⟩, .bool b_v2, .string ⟨b_l2.toArray⟩, .bool b_v3, .string ⟨b_l3.toArray⟩] 26)) w.heap.size ((s, p, (n : Int), (a_v0, a_l0), (a_v1, a_l1), (a_v2, a_l2), (a_v3, a_l3)) : Atm) := (box_new w ((s, p, (n : Int), (a_v0, a_l0), (a_v1, a_l1), (a_v2, a_l2), (a_v3, a_l3)) : Atm) _).next ((Since.refl _).alloc _)
  have b_B : Box ((w.alloc (.cells #[.string ⟨s.toArray⟩, .string ⟨p.toArray⟩, .int .i64 (n : Int), .bool a_v0, .string ⟨a_l0.toArray⟩, .bool a_v1, .string ⟨a_l1.toArray⟩, .bool a_v2, .string ⟨a_l2.toArray⟩, .bool a_v3, .string ⟨a_l3.toArray⟩] 26)).alloc (.cells #[.string ⟨s.toArray⟩, .string ⟨p.toArray⟩, .int .i64 (n : Int), .bool b_v0, .string ⟨b_l0.toArray⟩, .bool b_v1, .string ⟨b_l1.toArray⟩, .bool b_v2, .string ⟨b_l2.toArray⟩, .bool b_v3, .string ⟨b_l3.toArray⟩] 26)) (w.heap.size + 1) ((s, p, (n : Int), (b_v0, b_l0), (b_v1, b_l1), (b_v2, b_l2), (b_v3, b_l3)) : Atm) := by
    have := box_new (w.alloc (.cells #[.string ⟨s.toArray⟩, .string ⟨p.toArray⟩, .int .i64 (n : Int), .bool a_v0, .string ⟨a_l0.toArray⟩, .bool a_v1, .string ⟨a_l1.toArray⟩, .bool a_v2, .string ⟨a_l2.toArray⟩, .bool a_v3, .string ⟨a_l3.toArray⟩] 26)) ((s, p, (n : Int), (b_v0, b_l0), (b_v1, b_l1), (b_v2, b_l2), (b_v3, b_l3)) : Atm) 26
    rwa [World.size_alloc] at this
  obtain ⟨a_c0, a_c1, a_c2, a_c3, a_c4, a_c5, a_c6, a_c7, a_c8, a_c9, a_c10⟩ := a_B.all
  obtain ⟨b_c0, b_c1, b_c2, b_c3, b_c4, b_c5, b_c6, b_c7, b_c8, b_c9, b_c10⟩ := b_B.all
  have HAL := Lib.hid (fun W => alike_yes s p n a_v0 a_v1 a_v2 a_v3 a_l0 a_l1 a_l2 a_l3 b_v0 b_v1 b_v2 b_v3 b_l0 b_l1 b_l2 b_l3 hn W)
  have HRR := Lib.hid hR
  clear hR
  go_enter Tryd.func11, Tryd.ntmps11
  go_wp2_with fail
  refine (HAL.out _).mono ?_
  rintro e w1 ⟨rfl, hb⟩
  replace hS := hS.trans hb
  have HA := Lib.hid (a_B.next hb)
  have HB := Lib.hid (b_B.next hb)
  clear hb a_B b_B a_c0 a_c1 a_c2 a_c3 a_c4 a_c5 a_c6 a_c7 a_c8 a_c9 a_c10 b_c0 b_c1 b_c2 b_c3 b_c4 b_c5 b_c6 b_c7 b_c8 b_c9 b_c10 HAL
  go_wp2_with fail
  have HNN := Lib.hid (show ((s, p, (n : Int), (a_v0, a_l0), (a_v1, a_l1), (a_v2, a_l2), (a_v3, a_l3)) : Atm).2.2.1 = (n : Int) from rfl)
  generalize ((s, p, (n : Int), (a_v0, a_l0), (a_v1, a_l1), (a_v2, a_l2), (a_v3, a_l3)) : Atm) = X at *
  generalize ((s, p, (n : Int), (b_v0, b_l0), (b_v1, b_l1), (b_v2, b_l2), (b_v3, b_l3)) : Atm) = Y at *
  go_loopw [5] (fun i wr => ∃ k : Nat, k ≤ n ∧ i = .int .i64 (k : Int) ∧ Since w1 wr ∧ Hid (∀ j, j < k → CondAt X Y j)) (fun i _ => n - (intOf i).toNat)
  case atStart => exact ⟨0, by omega, rfl, Since.refl _, fun j hj => absurd hj (Nat.not_lt_zero _)⟩
  case round =>
    obtain ⟨i, hi, rfl, hSr, hC⟩ := hrel
    have a2 := (HA.out.next hSr).n
    rw [HNN.out] at a2
    by_cases hlt : i < n
    · have hi4 : i < 4 := by omega
      have hi4i : (i : Int) < 4 := by omega
      have hlt2 : (i : Int) < (n : Int) := by omega
      obtain ⟨d0, d1⟩ := box_at (HA.out.next hSr) hi4
      obtain ⟨e0, e1⟩ := box_at (HB.out.next hSr) hi4
      obtain ⟨t, ht⟩ : ∃ t, Hid (t = tmAt X i) := ⟨_, rfl⟩
      obtain ⟨u, hu⟩ : ∃ u, Hid (u = tmAt Y i) := ⟨_, rfl⟩
      rw [← ht.out] at d0 d1
      rw [← hu.out] at e0 e1
      obtain ⟨tv, tl⟩ := t
      obtain ⟨uv, ul⟩ := u
      simp only at d0 d1 e0 e1
      have HF : Hid ((¬ CondAt X Y i) → R = false) := by
        intro h
        cases hRv : R
        · rfl
        · exact absurd (HRR.out.1 hRv i hlt) h
      cases uv
      · by_cases he : ((false, ul) : Tm) = (tv, tl)
        · obtain ⟨rfl, rfl⟩ : false = tv ∧ ul = tl := by injection he with h1 h2; exact ⟨h1, h2⟩
          have hC2 : Hid (∀ j, j < i + 1 → CondAt X Y j) := by
            intro j hj
            by_cases hji : j = i
            · subst hji
              exact ⟨fun _ => by rw [← ht.out, ← hu.out], fun k _ hv => by rw [← hu.out] at hv; cases hv⟩
            · exact hC.out j (by omega)
          clear he hC ht hu HF
          go_wp2_with fail
          go_quiet (fail)
          go_wp2_with fail
          go_loopw [6] (fun q wq => ∃ k : Nat, k ≤ i ∧ q = .int .i64 (k : Int) ∧ Since wr wq) (fun q _ => i - (intOf q).toNat)
          case atStart => exact ⟨0, by omega, rfl, (Since.refl _).drewN _⟩
          case round =>
            obtain ⟨k, hk, rfl, hSq⟩ := hrel
            have f0 := hSq.cell e0
            have f1 := hSq.cell e1
            by_cases hki : k < i
            · have hki2 : (k : Int) < (i : Int) := by omega
              go_wp2_with fail
              go_quiet (fail)
              go_wp2_with fail
              go_roundw
              case rel => exact ⟨k + 1, by omega, by go_num, hSq.drewN _⟩
              case measure => simp [intOf]; omega
            · have hki2 : ¬ (k : Int) < (i : Int) := by omega
              go_wp2_with fail
              go_roundw
              case rel => exact ⟨i + 1, by omega, by go_num, hSr.trans hSq, hC2.out⟩
              case measure => simp [intOf]; omega
        · have hq := eqT_ne he
          have hfin := HF.out (fun h => he (by have := h.1 (by rw [← hu.out]); rw [← hu.out, ← ht.out] at this; exact this))
          have HFIN := Lib.hid hfin
          clear he hC ht hu HF hfin
          go_wp2_with fail
          go_quiet (fail)
          go_wp2_with fail
          go_ret
          exact ⟨by rw [HFIN.out]; rfl, hS.trans (hSr.drewN _)⟩
      · have hX1 : Hid (∀ k, k < i → ∀ x y : Tm, x = tmAt X k → y = tmAt Y k → ((true, ul) : Tm) = y → ¬ ((tv, tl) : Tm) = x → R = false) := by
          intro k hk x y hx hy h1 h2
          exact HF.out (fun h => h2 (by
            have := h.2 k hk (by rw [← hu.out]) (by rw [← hu.out, ← hy]; exact h1)
            rw [← ht.out, ← hx] at this; exact this))
        have hC2 : Hid ((∀ q, q < i → ((true, ul) : Tm) = tmAt Y q → ((tv, tl) : Tm) = tmAt X q) → ∀ j, j < i + 1 → CondAt X Y j) := by
          intro h j hj
          by_cases hji : j = i
          · subst hji
            exact ⟨fun hv => (by rw [← hu.out] at hv; cases hv), fun k hk _ he => by rw [← ht.out]; exact h k hk (by rw [hu.out]; exact he)⟩
          · exact hC.out j (by omega)
        clear hC ht hu HF
        go_wp2_with fail
        go_quiet (fail)
        go_wp2_with fail
        go_loopw [6] (fun q wq => ∃ k : Nat, k ≤ i ∧ q = .int .i64 (k : Int) ∧ Since wr wq ∧ Hid (∀ q, q < k → ((true, ul) : Tm) = tmAt Y q → ((tv, tl) : Tm) = tmAt X q)) (fun q _ => i - (intOf q).toNat)
        case atStart => exact ⟨0, by omega, rfl, (Since.refl _).drewN _, fun q hq => absurd hq (Nat.not_lt_zero _)⟩
        case round =>
          obtain ⟨k, hk, rfl, hSq, hI⟩ := hrel
          have f0 := hSq.cell e0
          have f1 := hSq.cell e1
          have g0 := hSq.cell d0
          have g1 := hSq.cell d1
          by_cases hki : k < i
          · have hki2 : (k : Int) < (i : Int) := by omega
            have hk4 : k < 4 := by omega
            have hk4i : (k : Int) < 4 := by omega
            obtain ⟨m0, m1⟩ := box_at (HA.out.next (hSr.trans hSq)) hk4
            obtain ⟨n0, n1⟩ := box_at (HB.out.next (hSr.trans hSq)) hk4
            obtain ⟨x, hx⟩ : ∃ x, Hid (x = tmAt X k) := ⟨_, rfl⟩
            obtain ⟨y, hy⟩ : ∃ y, Hid (y = tmAt Y k) := ⟨_, rfl⟩
            rw [← hx.out] at m0 m1
            rw [← hy.out] at n0 n1
            obtain ⟨xv, xl⟩ := x
            obtain ⟨yv, yl⟩ := y
            simp only at m0 m1 n0 n1
            have hI2 : Hid ((((true, ul) : Tm) = (yv, yl) → ((tv, tl) : Tm) = (xv, xl)) → ∀ q, q < k + 1 → ((true, ul) : Tm) = tmAt Y q → ((tv, tl) : Tm) = tmAt X q) := by
              intro h q hq he
              by_cases hqk : q = k
              · subst hqk
                rw [← hx.out]
                exact h (by rw [hy.out]; exact he)
              · exact hI.out q (by omega) he
            have hX2 := Lib.hid (hX1.out k hki (xv, xl) (yv, yl) hx.out hy.out)
            clear hI hx hy
            by_cases h1 : ((true, ul) : Tm) = (yv, yl)
            · obtain ⟨rfl, rfl⟩ : true = yv ∧ ul = yl := by injection h1 with h1 h2; exact ⟨h1, h2⟩
              by_cases h2 : ((tv, tl) : Tm) = (xv, xl)
              · have hI3 := Lib.hid (hI2.out (fun _ => h2))
                obtain ⟨rfl, rfl⟩ : tv = xv ∧ tl = xl := by injection h2 with h1 h2; exact ⟨h1, h2⟩
                clear hI2 hX2 h1 h2
                go_wp2_with fail
                go_quiet (fail)
                go_wp2_with fail
                go_roundw
                case rel => exact ⟨k + 1, by omega, by go_num, hSq.drewN _, hI3.out⟩
                case measure => simp [intOf]; omega
              · have hq := eqT_ne h2
                have HFIN := Lib.hid (hX2.out rfl h2)
                clear hI2 hX2 h1 h2
                go_wp2_with fail
                go_quiet (fail)
                go_wp2_with fail
                go_ret
                exact ⟨by rw [HFIN.out]; rfl, hS.trans (hSr.trans (hSq.drewN _))⟩
            · have hq := eqT_ne h1
              have hI3 := Lib.hid (hI2.out (fun h => absurd h h1))
              clear hI2 hX2 h1
              go_wp2_with fail
              go_quiet (fail)
              go_wp2_with fail
              go_roundw
              case rel => exact ⟨k + 1, by omega, by go_num, hSq.drewN _, hI3.out⟩
              case measure => simp [intOf]; omega
          · have hki2 : ¬ (k : Int) < (i : Int) := by omega
            obtain rfl : k = i := by omega
            have hC3 := Lib.hid (hC2.out hI.out)
            clear hI hC2 hX1
            go_wp2_with fail
            go_roundw
            case rel => exact ⟨k + 1, by omega, by go_num, hSr.trans hSq, hC3.out⟩
            case measure => simp [intOf]; omega
    · have hlt2 : ¬ (i : Int) < (n : Int) := by omega
      obtain rfl : i = n := by omega
      have HFIN := Lib.hid (HRR.out.2 hC.out)
      clear hC
      go_wp2_with fail
      go_ret
      exact ⟨by rw [HFIN.out]; rfl, hS.trans hSr⟩
end Go.Proofs.YtohcehjpdmhjlaaDoor
