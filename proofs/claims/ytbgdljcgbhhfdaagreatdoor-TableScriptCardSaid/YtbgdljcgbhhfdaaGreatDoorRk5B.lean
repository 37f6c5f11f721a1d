/- The reference: alike, Extend from nothing, Match, at a valid pattern and any atom. -/
import Derived.Test.YtbgdljcgbhhfdaaGreatDoorUniU
import Derived.Test.YtbgdljcgbhhfdaaGreatDoorMaB
import Derived.Test.YtbgdljcgbhhfdaaGreatDoorInv
import Derived.Deep.DeepCutAuto
namespace Go.Proofs.YtbgdljcgbhhfdaaGreatDoor
open Go.RowKit
attribute [local go_sem ↓] run_termEq'
attribute [local go_sem] eqT_self

theorem tinfo2 : (Tryz.prog.info? 30).map (·.size) = some 2 := by kernel_rfl
set_option maxHeartbeats 4000000 in
set_option maxRecDepth 100000 in
theorem rbind_noname (v : Value) (L : List Bnd) (s : List UInt8) (w : World) (hv : RowOf 3 bndC w v L) (hi : InvB L) (hm : L.length ≤ 1000) :
    Calls Tryz.prog 80 #[v, .string ⟨s.toArray⟩, .agg #[.bool false, .string ⟨#[]⟩]] w fun e w' => e = .returned (.tuple #[.slice none 0 0, .int .i64 2]) ∧ Since w w' := by
  obtain ⟨a, c, rfl⟩ := hv.form
  have HV := Lib.hid hv
  have HCK := Lib.hid (fun W (h : RowOf 3 bndC W (.slice a L.length c) L) => rcheckb_any (.slice a L.length c) L W h hi (by omega))
  have hS1 : Since w (w.alloc (.cells #[.bool false, .string ⟨#[]⟩] 30)) := (Since.refl _).alloc _
  have K1 : Hid (Cel (w.alloc (.cells #[.bool false, .string ⟨#[]⟩] 30)) w.heap.size #[.bool false, .string ⟨#[]⟩] 30) := heap_alloc_new w _
  obtain ⟨k0, k1⟩ := K1.out.two
  clear hv hi
  cases hs0 : s.isEmpty
  all_goals
    go_enter Tryz.func80, Tryz.ntmps80
    go_wp2_with fail
    refine (HCK.out _ (HV.out.next hS1)).mono ?_
    rintro e w1 ⟨rfl, hb⟩
    have hS := hS1.trans hb
    have K1b := K1.out.next hb
    obtain ⟨k2, k3⟩ := K1b.two
    clear k0 k1 K1b
    go_wp2_with fail
    go_ret2
    exact ⟨rfl, hS⟩
set_option maxHeartbeats 2000000 in
set_option maxRecDepth 100000 in
theorem alike_yes (s p : List UInt8) (n : Nat) (a_v0 a_v1 a_v2 a_v3 : Bool) (a_l0 a_l1 a_l2 a_l3 : List UInt8) (b_v0 b_v1 b_v2 b_v3 : Bool) (b_l0 b_l1 b_l2 b_l3 : List UInt8) (hn : n ≤ 4) (w : World) :
    Calls Tryz.prog 78 #[.agg #[.string ⟨s.toArray⟩, .string ⟨p.toArray⟩, .int .i64 (n : Int), .bool a_v0, .string ⟨a_l0.toArray⟩, .bool a_v1, .string ⟨a_l1.toArray⟩, .bool a_v2, .string ⟨a_l2.toArray⟩, .bool a_v3, .string ⟨a_l3.toArray⟩], .agg #[.string ⟨s.toArray⟩, .string ⟨p.toArray⟩, .int .i64 (n : Int), .bool b_v0, .string ⟨b_l0.toArray⟩, .bool b_v1, .string ⟨b_l1.toArray⟩, .bool b_v2, .string ⟨b_l2.toArray⟩, .bool b_v3, .string ⟨b_l3.toArray⟩]] w fun e w' => e = .returned (.bool true) ∧ Since w w' := by
  have hS : Since w ((w.alloc (.cells #[.string ⟨s.toArray⟩, .string ⟨p.toArray⟩, .int .i64 (n : Int), .bool a_v0, .string ⟨a_l0.toArray⟩, .bool a_v1, .string ⟨a_l1.toArray⟩, .bool a_v2, .string ⟨a_l2.toArray⟩, .bool a_v3, .string ⟨a_l3.toArray⟩] 33)).alloc (.cells #[.string ⟨s.toArray⟩, .string ⟨p.toArray⟩, .int .i64 (n : Int), .bool b_v0, .string ⟨b_l0.toArray⟩, .bool b_v1, .string ⟨b_l1.toArray⟩, .bool b_v2, .string ⟨b_l2.toArray⟩, .bool b_v3, .string ⟨b_l3.toArray⟩] 33)) := ((Since.refl _).alloc _).alloc _
  have a_B : Box ((w.alloc (.cells #[.string ⟨s.toArray⟩, .string ⟨p.toArray⟩, .int .i64 (n : Int), .bool a_v0, .string ⟨a_l0.toArray⟩, .bool a_v1, .string ⟨a_l1.toArray⟩, .bool a_v2, .string ⟨a_l2.toArray⟩, .bool a_v3, .string ⟨a_l3.toArray⟩] 33)).alloc (.cells #[.string ⟨s.toArray⟩, .string ⟨p.toArray⟩, .int .i64 (n : Int), .bool b_v0, .string ⟨b_l0.toArray⟩, .bool b_v1, .string ⟨b_l1.toArray⟩, .bool b_v2, .string ⟨b_l2.toArray⟩, .bool b_v3, .string ⟨b_l3.toArray⟩] 33)) w.heap.size ((s, p, (n : Int), (a_v0, a_l0), (a_v1, a_l1), (a_v2, a_l2), (a_v3, a_l3)) : Atm) := (box_new w ((s, p, (n : Int), (a_v0, a_l0), (a_v1, a_l1), (a_v2, a_l2), (a_v3, a_l3)) : Atm) _).next ((Since.refl _).alloc _)
  have b_B : Box ((w.alloc (.cells #[.string ⟨s.toArray⟩, .string ⟨p.toArray⟩, .int .i64 (n : Int), .bool a_v0, .string ⟨a_l0.toArray⟩, .bool a_v1, .string ⟨a_l1.toArray⟩, .bool a_v2, .string ⟨a_l2.toArray⟩, .bool a_v3, .string ⟨a_l3.toArray⟩] 33)).alloc (.cells #[.string ⟨s.toArray⟩, .string ⟨p.toArray⟩, .int .i64 (n : Int), .bool b_v0, .string ⟨b_l0.toArray⟩, .bool b_v1, .string ⟨b_l1.toArray⟩, .bool b_v2, .string ⟨b_l2.toArray⟩, .bool b_v3, .string ⟨b_l3.toArray⟩] 33)) (w.heap.size + 1) ((s, p, (n : Int), (b_v0, b_l0), (b_v1, b_l1), (b_v2, b_l2), (b_v3, b_l3)) : Atm) := by
    have := box_new (w.alloc (.cells #[.string ⟨s.toArray⟩, .string ⟨p.toArray⟩, .int .i64 (n : Int), .bool a_v0, .string ⟨a_l0.toArray⟩, .bool a_v1, .string ⟨a_l1.toArray⟩, .bool a_v2, .string ⟨a_l2.toArray⟩, .bool a_v3, .string ⟨a_l3.toArray⟩] 33)) ((s, p, (n : Int), (b_v0, b_l0), (b_v1, b_l1), (b_v2, b_l2), (b_v3, b_l3)) : Atm) 33
    rwa [World.size_alloc] at this
  have a0 := a_B.s
  have a1 := a_B.p
  have a2 := a_B.n
  have b0 := b_B.s
  have b1 := b_B.p
  have b2 := b_B.n
  have hi0 : (0 : Int) ≤ (n : Int) := by omega
  have hi4 : (n : Int) ≤ 4 := by omega
  clear a_B b_B
  go_enter Tryz.func78, Tryz.ntmps78
  go_wp2_with fail
  go_ret
  exact ⟨rfl, hS⟩
set_option maxHeartbeats 2000000 in
set_option maxRecDepth 100000 in
theorem alike_no (a_s a_p : List UInt8) (a_n : Int) (a_v0 a_v1 a_v2 a_v3 : Bool) (a_l0 a_l1 a_l2 a_l3 : List UInt8) (b_s b_p : List UInt8) (b_n : Int) (b_v0 b_v1 b_v2 b_v3 : Bool) (b_l0 b_l1 b_l2 b_l3 : List UInt8) (h : ¬ (a_s = b_s ∧ a_p = b_p ∧ a_n = b_n)) (w : World) :
    Calls Tryz.prog 78 #[.agg #[.string ⟨a_s.toArray⟩, .string ⟨a_p.toArray⟩, .int .i64 a_n, .bool a_v0, .string ⟨a_l0.toArray⟩, .bool a_v1, .string ⟨a_l1.toArray⟩, .bool a_v2, .string ⟨a_l2.toArray⟩, .bool a_v3, .string ⟨a_l3.toArray⟩], .agg #[.string ⟨b_s.toArray⟩, .string ⟨b_p.toArray⟩, .int .i64 b_n, .bool b_v0, .string ⟨b_l0.toArray⟩, .bool b_v1, .string ⟨b_l1.toArray⟩, .bool b_v2, .string ⟨b_l2.toArray⟩, .bool b_v3, .string ⟨b_l3.toArray⟩]] w fun e w' => e = .returned (.bool false) ∧ Since w w' := by
  have hS : Since w ((w.alloc (.cells #[.string ⟨a_s.toArray⟩, .string ⟨a_p.toArray⟩, .int .i64 a_n, .bool a_v0, .string ⟨a_l0.toArray⟩, .bool a_v1, .string ⟨a_l1.toArray⟩, .bool a_v2, .string ⟨a_l2.toArray⟩, .bool a_v3, .string ⟨a_l3.toArray⟩] 33)).alloc (.cells #[.string ⟨b_s.toArray⟩, .string ⟨b_p.toArray⟩, .int .i64 b_n, .bool b_v0, .string ⟨b_l0.toArray⟩, .bool b_v1, .string ⟨b_l1.toArray⟩, .bool b_v2, .string ⟨b_l2.toArray⟩, .bool b_v3, .string ⟨b_l3.toArray⟩] 33)) := ((Since.refl _).alloc _).alloc _
  have a_B : Box ((w.alloc (.cells #[.string ⟨a_s.toArray⟩, .string ⟨a_p.toArray⟩, .int .i64 a_n, .bool a_v0, .string ⟨a_l0.toArray⟩, .bool a_v1, .string ⟨a_l1.toArray⟩, .bool a_v2, .string ⟨a_l2.toArray⟩, .bool a_v3, .string ⟨a_l3.toArray⟩] 33)).alloc (.cells #[.string ⟨b_s.toArray⟩, .string ⟨b_p.toArray⟩, .int .i64 b_n, .bool b_v0, .string ⟨b_l0.toArray⟩, .bool b_v1, .string ⟨b_l1.toArray⟩, .bool b_v2, .string ⟨b_l2.toArray⟩, .bool b_v3, .string ⟨b_l3.toArray⟩] 33)) w.heap.size ((a_s, a_p, a_n, (a_v0, a_l0), (a_v1, a_l1), (a_v2, a_l2), (a_v3, a_l3)) : Atm) := (box_new w ((a_s, a_p, a_n, (a_v0, a_l0), (a_v1, a_l1), (a_v2, a_l2), (a_v3, a_l3)) : Atm) _).next ((Since.refl _).alloc _)
  have b_B : Box ((w.alloc (.cells #[.string ⟨a_s.toArray⟩, .string ⟨a_p.toArray⟩, .int .i64 a_n, .bool a_v0, .string ⟨a_l0.toArray⟩, .bool a_v1, .string ⟨a_l1.toArray⟩, .bool a_v2, .string ⟨a_l2.toArray⟩, .bool a_v3, .string ⟨a_l3.toArray⟩] 33)).alloc (.cells #[.string ⟨b_s.toArray⟩, .string ⟨b_p.toArray⟩, .int .i64 b_n, .bool b_v0, .string ⟨b_l0.toArray⟩, .bool b_v1, .string ⟨b_l1.toArray⟩, .bool b_v2, .string ⟨b_l2.toArray⟩, .bool b_v3, .string ⟨b_l3.toArray⟩] 33)) (w.heap.size + 1) ((b_s, b_p, b_n, (b_v0, b_l0), (b_v1, b_l1), (b_v2, b_l2), (b_v3, b_l3)) : Atm) := by
    have := box_new (w.alloc (.cells #[.string ⟨a_s.toArray⟩, .string ⟨a_p.toArray⟩, .int .i64 a_n, .bool a_v0, .string ⟨a_l0.toArray⟩, .bool a_v1, .string ⟨a_l1.toArray⟩, .bool a_v2, .string ⟨a_l2.toArray⟩, .bool a_v3, .string ⟨a_l3.toArray⟩] 33)) ((b_s, b_p, b_n, (b_v0, b_l0), (b_v1, b_l1), (b_v2, b_l2), (b_v3, b_l3)) : Atm) 33
    rwa [World.size_alloc] at this
  have a0 := a_B.s
  have a1 := a_B.p
  have a2 := a_B.n
  have b0 := b_B.s
  have b1 := b_B.p
  have b2 := b_B.n
  clear a_B b_B
  go_enter Tryz.func78, Tryz.ntmps78
  by_cases h1 : a_s = b_s
  · subst h1
    by_cases h2 : a_p = b_p
    · subst h2
      have h3 : ¬ a_n = b_n := fun e => h ⟨rfl, rfl, e⟩
      clear h
      go_wp2_with fail
      go_ret
      exact ⟨rfl, hS⟩
    · clear h
      go_wp2_with fail
      go_ret
      exact ⟨rfl, hS⟩
  · clear h
    go_wp2_with fail
    go_ret
    exact ⟨rfl, hS⟩
set_option maxHeartbeats 8000000 in
set_option maxRecDepth 100000 in
theorem rextend_main (s p : List UInt8) (n : Nat) (a_v0 a_v1 a_v2 a_v3 : Bool) (a_l0 a_l1 a_l2 a_l3 : List UInt8) (b_v0 b_v1 b_v2 b_v3 : Bool) (b_l0 b_l1 b_l2 b_l3 : List UInt8) (hn : n ≤ 4) (w : World)
    (hP : ∀ q ∈ (((argsL ((s, p, (n : Int), (a_v0, a_l0), (a_v1, a_l1), (a_v2, a_l2), (a_v3, a_l3)) : Atm)).zip (argsL ((s, p, (n : Int), (b_v0, b_l0), (b_v1, b_l1), (b_v2, b_l2), (b_v3, b_l3)) : Atm))).take n), q.1.2 ≠ []) (hG : ∀ q ∈ (((argsL ((s, p, (n : Int), (a_v0, a_l0), (a_v1, a_l1), (a_v2, a_l2), (a_v3, a_l3)) : Atm)).zip (argsL ((s, p, (n : Int), (b_v0, b_l0), (b_v1, b_l1), (b_v2, b_l2), (b_v3, b_l3)) : Atm))).take n), q.2.1 = false) (hgr : groundA ((s, p, (n : Int), (b_v0, b_l0), (b_v1, b_l1), (b_v2, b_l2), (b_v3, b_l3)) : Atm) = true) :
    Calls Tryz.prog 57 #[.slice none 0 0, .agg #[.string ⟨s.toArray⟩, .string ⟨p.toArray⟩, .int .i64 (n : Int), .bool a_v0, .string ⟨a_l0.toArray⟩, .bool a_v1, .string ⟨a_l1.toArray⟩, .bool a_v2, .string ⟨a_l2.toArray⟩, .bool a_v3, .string ⟨a_l3.toArray⟩], .agg #[.string ⟨s.toArray⟩, .string ⟨p.toArray⟩, .int .i64 (n : Int), .bool b_v0, .string ⟨b_l0.toArray⟩, .bool b_v1, .string ⟨b_l1.toArray⟩, .bool b_v2, .string ⟨b_l2.toArray⟩, .bool b_v3, .string ⟨b_l3.toArray⟩]] w (MatchP (matchG (((argsL ((s, p, (n : Int), (a_v0, a_l0), (a_v1, a_l1), (a_v2, a_l2), (a_v3, a_l3)) : Atm)).zip (argsL ((s, p, (n : Int), (b_v0, b_l0), (b_v1, b_l1), (b_v2, b_l2), (b_v3, b_l3)) : Atm))).take n) []) w) := by
  have hat := fun k (hk : k < n) => uni_pairs (a := ((s, p, (n : Int), (a_v0, a_l0), (a_v1, a_l1), (a_v2, a_l2), (a_v3, a_l3)) : Atm)) (b := ((s, p, (n : Int), (b_v0, b_l0), (b_v1, b_l1), (b_v2, b_l2), (b_v3, b_l3)) : Atm)) hn hk
  have hPl := pairs_len ((s, p, (n : Int), (a_v0, a_l0), (a_v1, a_l1), (a_v2, a_l2), (a_v3, a_l3)) : Atm) ((s, p, (n : Int), (b_v0, b_l0), (b_v1, b_l1), (b_v2, b_l2), (b_v3, b_l3)) : Atm) hn
  obtain ⟨P, hP0⟩ : ∃ P, Hid (P = (((argsL ((s, p, (n : Int), (a_v0, a_l0), (a_v1, a_l1), (a_v2, a_l2), (a_v3, a_l3)) : Atm)).zip (argsL ((s, p, (n : Int), (b_v0, b_l0), (b_v1, b_l1), (b_v2, b_l2), (b_v3, b_l3)) : Atm))).take n)) := ⟨_, rfl⟩
  rw [← hP0.out] at hP hPl hG ⊢
  rw [← hP0.out] at hat
  have HNP := Lib.hid hP
  have HGP := Lib.hid hG
  have HGR := Lib.hid (fun W => rground_any s p (n : Int) b_v0 b_v1 b_v2 b_v3 b_l0 b_l1 b_l2 b_l3 W)
  rw [hgr] at HGR
  have HAL := Lib.hid (fun W => alike_yes s p n a_v0 a_v1 a_v2 a_v3 a_l0 a_l1 a_l2 a_l3 b_v0 b_v1 b_v2 b_v3 b_l0 b_l1 b_l2 b_l3 hn W)
  obtain ⟨R, hR⟩ : ∃ R, Hid (R = matchG P []) := ⟨_, rfl⟩
  have hR0 : Hid (R = matchG (P.drop 0) []) := hR
  rw [← hR.out]
  obtain ⟨i0, hi0, hz0, hz1, hz2⟩ := info_parts bndInfo
  have HI := Lib.hid (And.intro hi0 (And.intro hz0 (And.intro hz1 hz2)))
  have hS2 : Since w ((w.alloc (.cells #[.string ⟨s.toArray⟩, .string ⟨p.toArray⟩, .int .i64 (n : Int), .bool a_v0, .string ⟨a_l0.toArray⟩, .bool a_v1, .string ⟨a_l1.toArray⟩, .bool a_v2, .string ⟨a_l2.toArray⟩, .bool a_v3, .string ⟨a_l3.toArray⟩] 33)).alloc (.cells #[.string ⟨s.toArray⟩, .string ⟨p.toArray⟩, .int .i64 (n : Int), .bool b_v0, .string ⟨b_l0.toArray⟩, .bool b_v1, .string ⟨b_l1.toArray⟩, .bool b_v2, .string ⟨b_l2.toArray⟩, .bool b_v3, .string ⟨b_l3.toArray⟩] 33)) := ((Since.refl _).alloc _).alloc _
  have a_B : Box ((w.alloc (.cells #[.string ⟨s.toArray⟩, .string ⟨p.toArray⟩, .int .i64 (n : Int), .bool a_v0, .string ⟨a_l0.toArray⟩, .bool a_v1, .string ⟨a_l1.toArray⟩, .bool a_v2, .string ⟨a_l2.toArray⟩, .bool a_v3, .string ⟨a_l3.toArray⟩] 33)).alloc (.cells #[.string ⟨s.toArray⟩, .string ⟨p.toArray⟩, .int .i64 (n : Int), .bool b_v0, .string ⟨b_l0.toArray⟩, .bool b_v1, .string ⟨b_l1.toArray⟩, .bool b_v2, .string ⟨b_l2.toArray⟩, .bool b_v3, .string ⟨b_l3.toArray⟩] 33)) w.heap.size ((s, p, (n : Int), (a_v0, a_l0), (a_v1, a_l1), (a_v2, a_l2), (a_v3, a_l3)) : Atm) := (box_new w ((s, p, (n : Int), (a_v0, a_l0), (a_v1, a_l1), (a_v2, a_l2), (a_v3, a_l3)) : Atm) _).next ((Since.refl _).alloc _)
  have b_B : Box ((w.alloc (.cells #[.string ⟨s.toArray⟩, .string ⟨p.toArray⟩, .int .i64 (n : Int), .bool a_v0, .string ⟨a_l0.toArray⟩, .bool a_v1, .string ⟨a_l1.toArray⟩, .bool a_v2, .string ⟨a_l2.toArray⟩, .bool a_v3, .string ⟨a_l3.toArray⟩] 33)).alloc (.cells #[.string ⟨s.toArray⟩, .string ⟨p.toArray⟩, .int .i64 (n : Int), .bool b_v0, .string ⟨b_l0.toArray⟩, .bool b_v1, .string ⟨b_l1.toArray⟩, .bool b_v2, .string ⟨b_l2.toArray⟩, .bool b_v3, .string ⟨b_l3.toArray⟩] 33)) (w.heap.size + 1) ((s, p, (n : Int), (b_v0, b_l0), (b_v1, b_l1), (b_v2, b_l2), (b_v3, b_l3)) : Atm) := by
    have := box_new (w.alloc (.cells #[.string ⟨s.toArray⟩, .string ⟨p.toArray⟩, .int .i64 (n : Int), .bool a_v0, .string ⟨a_l0.toArray⟩, .bool a_v1, .string ⟨a_l1.toArray⟩, .bool a_v2, .string ⟨a_l2.toArray⟩, .bool a_v3, .string ⟨a_l3.toArray⟩] 33)) ((s, p, (n : Int), (b_v0, b_l0), (b_v1, b_l1), (b_v2, b_l2), (b_v3, b_l3)) : Atm) 33
    rwa [World.size_alloc] at this
  clear hP hG hR hP0 hi0 hz0 hz1 hz2 hgr
  go_enter Tryz.func57, Tryz.ntmps57
  go_wp2_with fail
  refine (rcheckb_any (.slice none 0 0) [] _ RowOf.nil InvB.nil (by simp)).mono ?_
  rintro e w1 ⟨rfl, hb⟩
  have hS := hS2.trans hb
  replace a_B := a_B.next hb
  replace b_B := b_B.next hb
  clear hb hS2
  obtain ⟨a_c0, a_c1, a_c2, a_c3, a_c4, a_c5, a_c6, a_c7, a_c8, a_c9, a_c10⟩ := a_B.all
  obtain ⟨b_c0, b_c1, b_c2, b_c3, b_c4, b_c5, b_c6, b_c7, b_c8, b_c9, b_c10⟩ := b_B.all
  go_wp2_with fail
  refine (HAL.out _).mono ?_
  rintro e w3 ⟨rfl, hb⟩
  replace hS := hS.trans hb
  replace a_B := a_B.next hb
  replace b_B := b_B.next hb
  clear hb HAL a_c0 a_c1 a_c2 a_c3 a_c4 a_c5 a_c6 a_c7 a_c8 a_c9 a_c10 b_c0 b_c1 b_c2 b_c3 b_c4 b_c5 b_c6 b_c7 b_c8 b_c9 b_c10
  obtain ⟨b_c0, b_c1, b_c2, b_c3, b_c4, b_c5, b_c6, b_c7, b_c8, b_c9, b_c10⟩ := b_B.all
  go_wp2_with fail
  refine (HGR.out _).mono ?_
  rintro e w4 ⟨rfl, hb⟩
  replace hS := hS.trans hb
  replace a_B := a_B.next hb
  replace b_B := b_B.next hb
  clear hb HGR b_c0 b_c1 b_c2 b_c3 b_c4 b_c5 b_c6 b_c7 b_c8 b_c9 b_c10
  have HA := Lib.hid a_B
  have HB := Lib.hid b_B
  clear a_B b_B
  go_wp2_with fail
  go_loopw [8] (fun i wr => ∃ k : Nat, k ≤ n ∧ i = .int .i64 (k : Int) ∧ Since w4 wr) (fun i _ => n - (intOf i).toNat)
  case atStart => exact ⟨0, by omega, rfl, Since.refl _⟩
  case round =>
    obtain ⟨k, hk, rfl, hSr⟩ := hrel
    have a2 := (HA.out.next hSr).n
    by_cases hlt : k < n
    · obtain ⟨q0, q1, q2, q3⟩ := hat k hlt
      obtain ⟨d0, d1⟩ := (HA.out.next hSr).args.2 k q1
      have hnm := HNP.out _ (List.getElem_mem q0)
      rw [q3] at hnm
      have hk4i : (k : Int) < 4 := by omega
      have hk4 : k < 4 := by omega
      have hlt2 : (k : Int) < (n : Int) := by omega
      clear hat HNP HGP
      generalize (argsL ((s, p, (n : Int), (a_v0, a_l0), (a_v1, a_l1), (a_v2, a_l2), (a_v3, a_l3)) : Atm))[k]'q1 = t1 at *
      obtain ⟨v1, m1⟩ := t1
      simp only at d0 d1 hnm
      have hem : m1.isEmpty = false := by rw [List.isEmpty_eq_false_iff]; exact hnm
      clear q3 hnm
      have KX : Hid (Cel (wr.alloc (.cells #[.bool v1, .string ⟨m1.toArray⟩] 30)) wr.heap.size #[.bool v1, .string ⟨m1.toArray⟩] 30) := heap_alloc_new wr _
      obtain ⟨x0, x1⟩ := KX.out.two
      go_wp2_with fail
      refine (rget_any (.slice none 0 0) [] m1 _ RowOf.nil (by simp)).mono ?_
      rintro e w5 ⟨rfl, hb⟩
      have hb2 := hb.alloc (.cells #[.bool false, .string ⟨#[]⟩] 30)
      obtain ⟨y0, y1⟩ := (KX.out.next hb2).two
      have hSn := (hSr.alloc (.cells #[.bool v1, .string ⟨m1.toArray⟩] 30)).trans hb2
      clear x0 x1 hb
      simp only [getB, gtV]
      cases v1
      · go_wp2_with fail
        go_roundw
        case rel => exact ⟨k + 1, by omega, by go_num, hSn⟩
        case measure => simp [intOf]; omega
      · go_wp2_with fail
        go_roundw
        case rel => exact ⟨k + 1, by omega, by go_num, hSn⟩
        case measure => simp [intOf]; omega
    · have hlt2 : ¬ (k : Int) < (n : Int) := by omega
      have hSw := hS.trans hSr
      replace HA := Lib.hid (HA.out.next hSr)
      replace HB := Lib.hid (HB.out.next hSr)
      clear hS hSr
      have HRC := Lib.hid (Reads.none_ (w := wr.alloc (.cells #[] 102)) (B := (wr.alloc (.cells #[] 102)).heap.size) (size := 3) (A := none))
      go_wp2_with (at_builtin; refine wpList_append_any _ rfl (.tmp 65) (.tmp 66) 72 rfl wr.heap.size 102 i0 (.agg #[.string ⟨#[]⟩, .bool false, .string ⟨#[]⟩]) 3 40 Tryz.underlying72 HI.out.1 HI.out.2.1 HI.out.2.2.1 HI.out.2.2.2 rfl (by decide) _ 0 [] rfl (own_emptyB wr) _ none 0 0 [] rfl HRC.out ?c1 ?c2 ?c3 ?c4 ?_)
      intro v9 w9 hown9 hg9 _
      have hB9 : Since wr w9 := Below.grown ((Since.refl wr).alloc _) hg9 (by simp) (own_ge (own_emptyB wr))
      have hR9 : RowS w9 v9 [] := rowS_of_own (L := []) hown9 rfl
      replace hSw := hSw.trans hB9
      replace HA := Lib.hid (HA.out.next hB9)
      replace HB := Lib.hid (HB.out.next hB9)
      clear hB9 hown9 hg9 HRC a2 hlt hlt2 hk
      go_wp2_with fail
      go_loopw [12, 13] (fun r i wr => ∃ (k : Nat) (l : List Bnd), k ≤ n ∧ i = .int .i64 (k : Int) ∧ Since w9 wr ∧ Hid (RowS wr r l) ∧ Hid (InvB l) ∧ Hid (l.length ≤ k) ∧ Hid (R = matchG (P.drop k) l)) (fun _ i _ => n - (intOf i).toNat)
      case atStart => exact ⟨0, [], by omega, rfl, Since.refl _, hR9, InvB.nil, Nat.le_refl _, hR0.out⟩
      case round =>
        clear hR9 hR0
        obtain ⟨k, l, hk, rfl, hSo, hV, hI, hL, hres⟩ := hrel
        have a2 := (HA.out.next hSo).n
        by_cases hlt : k < n
        · have hlt2 : (k : Int) < (n : Int) := by omega
          obtain ⟨q0, q1, q2, q3⟩ := hat k hlt
          obtain ⟨d0, d1⟩ := (HA.out.next hSo).args.2 k q1
          obtain ⟨e0, e1⟩ := (HB.out.next hSo).args.2 k q2
          have hnm := HNP.out _ (List.getElem_mem q0)
          have hgp := HGP.out _ (List.getElem_mem q0)
          have hdr := List.drop_eq_getElem_cons q0
          rw [q3] at hnm hdr hgp
          have hk4 : k < 4 := by omega
          have hk4i : (k : Int) < 4 := by omega
          clear hat HNP HGP
          generalize (argsL ((s, p, (n : Int), (a_v0, a_l0), (a_v1, a_l1), (a_v2, a_l2), (a_v3, a_l3)) : Atm))[k]'q1 = t1 at *
          generalize (argsL ((s, p, (n : Int), (b_v0, b_l0), (b_v1, b_l1), (b_v2, b_l2), (b_v3, b_l3)) : Atm))[k]'q2 = t2 at *
          rw [hdr, matchG] at hres
          clear q3 hdr
          obtain ⟨v1, m1⟩ := t1
          obtain ⟨v2, m2⟩ := t2
          simp only at d0 d1 e0 e1 hnm hres hgp
          subst hgp
          go_wp2_with fail
          refine wp_region_invX (X := Value × Value × Value × Value × Value × Value × Value × Value × Value × Value × Nat × Nat) (fun a0 x => match x with | (x74, x75, x76, x77, x78, x79, x80, x81, x14, x15, g14, g15) => Act.put (Act.put (Act.put (Act.put (Act.put (Act.put (Act.put (Act.put (Act.put (Act.put (a0) (some 74) x74) (some 75) x75) (some 76) x76) (some 77) x77) (some 78) x78) (some 79) x79) (some 80) x80) (some 81) x81) (some 14) x14) (some 15) x15) (fun x L W => match x with | (x74, x75, x76, x77, x78, x79, x80, x81, x14, x15, g14, g15) => Since (wr) W ∧ (L.getD 0 false = true → x74 = .int .i64 (k : Int)) ∧ (L.getD 1 false = true → x75 = .pointer (some ⟨w.heap.size, 3, none⟩)) ∧ (L.getD 2 false = true → x76 = .pointer (some ⟨w.heap.size, 3 + k * 2, none⟩)) ∧ (L.getD 3 false = true → x77 = .agg #[.bool v1, .string ⟨m1.toArray⟩]) ∧ (L.getD 4 false = true → x78 = .int .i64 (k : Int)) ∧ (L.getD 5 false = true → x79 = .pointer (some ⟨w.heap.size + 1, 3, none⟩)) ∧ (L.getD 6 false = true → x80 = .pointer (some ⟨w.heap.size + 1, 3 + k * 2, none⟩)) ∧ (L.getD 7 false = true → x81 = .agg #[.bool false, .string ⟨m2.toArray⟩]) ∧ (L.getD 8 false = true → x14 = .pointer (some ⟨g14, 0, none⟩) ∧ (wr).heap.size ≤ g14 ∧ g14 < W.heap.size) ∧ (L.getD 10 false = true → L.getD 8 false = true) ∧ (L.getD 8 false = true → L.getD 10 false = false → Cel W g14 #[.bool false, .string ⟨#[]⟩] 30) ∧ (L.getD 10 false = true → Cel W g14 #[.bool v1, .string ⟨m1.toArray⟩] 30) ∧ (L.getD 9 false = true → x15 = .pointer (some ⟨g15, 0, none⟩) ∧ (wr).heap.size ≤ g15 ∧ g15 < W.heap.size) ∧ (L.getD 11 false = true → L.getD 9 false = true) ∧ (L.getD 9 false = true → L.getD 11 false = false → Cel W g15 #[.bool false, .string ⟨#[]⟩] 30) ∧ (L.getD 11 false = true → Cel W g15 #[.bool false, .string ⟨m2.toArray⟩] 30) ∧ (L.getD 8 false = true → L.getD 9 false = true → g14 ≠ g15)) (by kernel_rfl) (by kernel_rfl) ?start ?steps ?stop
          case start => exact fun b v hv => ⟨(v 74, v 75, v 76, v 77, v 78, v 79, v 80, v 81, v 14, v 15, 0, 0), (by simp only [hv]), (Since.refl _).drew, fun h => none_yet h, fun h => none_yet h, fun h => none_yet h, fun h => none_yet h, fun h => none_yet h, fun h => none_yet h, fun h => none_yet h, fun h => none_yet h, fun h => none_yet h, fun h => none_yet h, fun h => none_yet h, fun h => none_yet h, fun h => none_yet h, fun h => none_yet h, fun h => none_yet h, fun h => none_yet h, fun h => none_yet h⟩
          case steps =>
            refine ⟨⟨rfl, ?_⟩, ⟨rfl, ?_⟩, ⟨rfl, ?_⟩, ⟨rfl, ?_⟩, ⟨rfl, ?_⟩, ⟨rfl, ?_⟩, ⟨rfl, ?_⟩, ⟨rfl, ?_⟩, ⟨rfl, ?_⟩, ⟨rfl, ?_⟩, ⟨rfl, ?_⟩, ⟨rfl, ?_⟩, trivial⟩
            · intro L x W hJ hlt hk hd K' hK
              obtain ⟨x74, x75, x76, x77, x78, x79, x80, x81, x14, x15, g14, g15⟩ := x
              obtain ⟨hS, f0, f1, f2, f3, f4, f5, f6, f7, p8, q8, z8, c8, p9, q9, z9, c9, n8_9⟩ := hJ
              refine ⟨?_⟩
              simp only [Act.put, List.setIfInBounds_toArray, List.set_cons_zero, List.set_cons_succ]
              go_simp
              refine kput (hK ((.int .i64 (k : Int)), x75, x76, x77, x78, x79, x80, x81, x14, x15, g14, g15) _ ⟨hS, fun _ => rfl, fun h => f1 (not_k h (by decide)), fun h => f2 (not_k h (by decide)), fun h => f3 (not_k h (by decide)), fun h => f4 (not_k h (by decide)), fun h => f5 (not_k h (by decide)), fun h => f6 (not_k h (by decide)), fun h => f7 (not_k h (by decide)), fun h => p8 (not_k h (by decide)), fun h => getD_set_true (q8 (not_k h (by decide))), fun h h2 => z8 (not_k h (by decide)) (not_k' h2 (by decide)), fun h => c8 (not_k h (by decide)), fun h => p9 (not_k h (by decide)), fun h => getD_set_true (q9 (not_k h (by decide))), fun h h2 => z9 (not_k h (by decide)) (not_k' h2 (by decide)), fun h => c9 (not_k h (by decide)), fun h h2 => n8_9 (not_k h (by decide)) (not_k h2 (by decide))⟩) ?_
              simp only [Act.put, List.setIfInBounds_toArray, List.set_cons_zero, List.set_cons_succ]
            · intro L x W hJ hlt hk hd K' hK
              obtain ⟨x74, x75, x76, x77, x78, x79, x80, x81, x14, x15, g14, g15⟩ := x
              obtain ⟨hS, f0, f1, f2, f3, f4, f5, f6, f7, p8, q8, z8, c8, p9, q9, z9, c9, n8_9⟩ := hJ
              refine ⟨?_⟩
              simp only [Act.put, List.setIfInBounds_toArray, List.set_cons_zero, List.set_cons_succ]
              go_simp
              refine kput (hK (x74, (.pointer (some ⟨w.heap.size, 3, none⟩)), x76, x77, x78, x79, x80, x81, x14, x15, g14, g15) _ ⟨hS, fun h => f0 (not_k h (by decide)), fun _ => rfl, fun h => f2 (not_k h (by decide)), fun h => f3 (not_k h (by decide)), fun h => f4 (not_k h (by decide)), fun h => f5 (not_k h (by decide)), fun h => f6 (not_k h (by decide)), fun h => f7 (not_k h (by decide)), fun h => p8 (not_k h (by decide)), fun h => getD_set_true (q8 (not_k h (by decide))), fun h h2 => z8 (not_k h (by decide)) (not_k' h2 (by decide)), fun h => c8 (not_k h (by decide)), fun h => p9 (not_k h (by decide)), fun h => getD_set_true (q9 (not_k h (by decide))), fun h h2 => z9 (not_k h (by decide)) (not_k' h2 (by decide)), fun h => c9 (not_k h (by decide)), fun h h2 => n8_9 (not_k h (by decide)) (not_k h2 (by decide))⟩) ?_
              simp only [Act.put, List.setIfInBounds_toArray, List.set_cons_zero, List.set_cons_succ]
            · intro L x W hJ hlt hk hd K' hK
              obtain ⟨x74, x75, x76, x77, x78, x79, x80, x81, x14, x15, g14, g15⟩ := x
              obtain ⟨hS, f0, f1, f2, f3, f4, f5, f6, f7, p8, q8, z8, c8, p9, q9, z9, c9, n8_9⟩ := hJ
              have d1 : L.getD 1 false = true := dep_of hd 1 (by rfl)
              obtain rfl := (f1 d1).symm
              have d0 : L.getD 0 false = true := dep_of hd 0 (by rfl)
              obtain rfl := (f0 d0).symm
              refine ⟨?_⟩
              simp only [Act.put, List.setIfInBounds_toArray, List.set_cons_zero, List.set_cons_succ]
              go_simp
              refine kput (hK ((.int .i64 (k : Int)), (.pointer (some ⟨w.heap.size, 3, none⟩)), (.pointer (some ⟨w.heap.size, 3 + k * 2, none⟩)), x77, x78, x79, x80, x81, x14, x15, g14, g15) _ ⟨hS, fun h => f0 (not_k h (by decide)), fun h => f1 (not_k h (by decide)), fun _ => rfl, fun h => f3 (not_k h (by decide)), fun h => f4 (not_k h (by decide)), fun h => f5 (not_k h (by decide)), fun h => f6 (not_k h (by decide)), fun h => f7 (not_k h (by decide)), fun h => p8 (not_k h (by decide)), fun h => getD_set_true (q8 (not_k h (by decide))), fun h h2 => z8 (not_k h (by decide)) (not_k' h2 (by decide)), fun h => c8 (not_k h (by decide)), fun h => p9 (not_k h (by decide)), fun h => getD_set_true (q9 (not_k h (by decide))), fun h h2 => z9 (not_k h (by decide)) (not_k' h2 (by decide)), fun h => c9 (not_k h (by decide)), fun h h2 => n8_9 (not_k h (by decide)) (not_k h2 (by decide))⟩) ?_
              simp only [Act.put, List.setIfInBounds_toArray, List.set_cons_zero, List.set_cons_succ]
            · intro L x W hJ hlt hk hd K' hK
              obtain ⟨x74, x75, x76, x77, x78, x79, x80, x81, x14, x15, g14, g15⟩ := x
              obtain ⟨hS, f0, f1, f2, f3, f4, f5, f6, f7, p8, q8, z8, c8, p9, q9, z9, c9, n8_9⟩ := hJ
              have d2 : L.getD 2 false = true := dep_of hd 2 (by rfl)
              obtain rfl := (f2 d2).symm
              have h0 := hS.cell d0
              have h1 := hS.cell d1
              refine ⟨?_⟩
              simp only [Act.put, List.setIfInBounds_toArray, List.set_cons_zero, List.set_cons_succ]
              go_simp
              refine kput (hK (x74, x75, (.pointer (some ⟨w.heap.size, 3 + k * 2, none⟩)), (.agg #[.bool v1, .string ⟨m1.toArray⟩]), x78, x79, x80, x81, x14, x15, g14, g15) _ ⟨hS, fun h => f0 (not_k h (by decide)), fun h => f1 (not_k h (by decide)), fun h => f2 (not_k h (by decide)), fun _ => rfl, fun h => f4 (not_k h (by decide)), fun h => f5 (not_k h (by decide)), fun h => f6 (not_k h (by decide)), fun h => f7 (not_k h (by decide)), fun h => p8 (not_k h (by decide)), fun h => getD_set_true (q8 (not_k h (by decide))), fun h h2 => z8 (not_k h (by decide)) (not_k' h2 (by decide)), fun h => c8 (not_k h (by decide)), fun h => p9 (not_k h (by decide)), fun h => getD_set_true (q9 (not_k h (by decide))), fun h h2 => z9 (not_k h (by decide)) (not_k' h2 (by decide)), fun h => c9 (not_k h (by decide)), fun h h2 => n8_9 (not_k h (by decide)) (not_k h2 (by decide))⟩) ?_
              simp only [Act.put, List.setIfInBounds_toArray, List.set_cons_zero, List.set_cons_succ]
            · intro L x W hJ hlt hk hd K' hK
              obtain ⟨x74, x75, x76, x77, x78, x79, x80, x81, x14, x15, g14, g15⟩ := x
              obtain ⟨hS, f0, f1, f2, f3, f4, f5, f6, f7, p8, q8, z8, c8, p9, q9, z9, c9, n8_9⟩ := hJ
              refine ⟨?_⟩
              simp only [Act.put, List.setIfInBounds_toArray, List.set_cons_zero, List.set_cons_succ]
              go_simp
              refine kput (hK (x74, x75, x76, x77, (.int .i64 (k : Int)), x79, x80, x81, x14, x15, g14, g15) _ ⟨hS, fun h => f0 (not_k h (by decide)), fun h => f1 (not_k h (by decide)), fun h => f2 (not_k h (by decide)), fun h => f3 (not_k h (by decide)), fun _ => rfl, fun h => f5 (not_k h (by decide)), fun h => f6 (not_k h (by decide)), fun h => f7 (not_k h (by decide)), fun h => p8 (not_k h (by decide)), fun h => getD_set_true (q8 (not_k h (by decide))), fun h h2 => z8 (not_k h (by decide)) (not_k' h2 (by decide)), fun h => c8 (not_k h (by decide)), fun h => p9 (not_k h (by decide)), fun h => getD_set_true (q9 (not_k h (by decide))), fun h h2 => z9 (not_k h (by decide)) (not_k' h2 (by decide)), fun h => c9 (not_k h (by decide)), fun h h2 => n8_9 (not_k h (by decide)) (not_k h2 (by decide))⟩) ?_
              simp only [Act.put, List.setIfInBounds_toArray, List.set_cons_zero, List.set_cons_succ]
            · intro L x W hJ hlt hk hd K' hK
              obtain ⟨x74, x75, x76, x77, x78, x79, x80, x81, x14, x15, g14, g15⟩ := x
              obtain ⟨hS, f0, f1, f2, f3, f4, f5, f6, f7, p8, q8, z8, c8, p9, q9, z9, c9, n8_9⟩ := hJ
              refine ⟨?_⟩
              simp only [Act.put, List.setIfInBounds_toArray, List.set_cons_zero, List.set_cons_succ]
              go_simp
              refine kput (hK (x74, x75, x76, x77, x78, (.pointer (some ⟨w.heap.size + 1, 3, none⟩)), x80, x81, x14, x15, g14, g15) _ ⟨hS, fun h => f0 (not_k h (by decide)), fun h => f1 (not_k h (by decide)), fun h => f2 (not_k h (by decide)), fun h => f3 (not_k h (by decide)), fun h => f4 (not_k h (by decide)), fun _ => rfl, fun h => f6 (not_k h (by decide)), fun h => f7 (not_k h (by decide)), fun h => p8 (not_k h (by decide)), fun h => getD_set_true (q8 (not_k h (by decide))), fun h h2 => z8 (not_k h (by decide)) (not_k' h2 (by decide)), fun h => c8 (not_k h (by decide)), fun h => p9 (not_k h (by decide)), fun h => getD_set_true (q9 (not_k h (by decide))), fun h h2 => z9 (not_k h (by decide)) (not_k' h2 (by decide)), fun h => c9 (not_k h (by decide)), fun h h2 => n8_9 (not_k h (by decide)) (not_k h2 (by decide))⟩) ?_
              simp only [Act.put, List.setIfInBounds_toArray, List.set_cons_zero, List.set_cons_succ]
            · intro L x W hJ hlt hk hd K' hK
              obtain ⟨x74, x75, x76, x77, x78, x79, x80, x81, x14, x15, g14, g15⟩ := x
              obtain ⟨hS, f0, f1, f2, f3, f4, f5, f6, f7, p8, q8, z8, c8, p9, q9, z9, c9, n8_9⟩ := hJ
              have d5 : L.getD 5 false = true := dep_of hd 5 (by rfl)
              obtain rfl := (f5 d5).symm
              have d4 : L.getD 4 false = true := dep_of hd 4 (by rfl)
              obtain rfl := (f4 d4).symm
              refine ⟨?_⟩
              simp only [Act.put, List.setIfInBounds_toArray, List.set_cons_zero, List.set_cons_succ]
              go_simp
              refine kput (hK (x74, x75, x76, x77, (.int .i64 (k : Int)), (.pointer (some ⟨w.heap.size + 1, 3, none⟩)), (.pointer (some ⟨w.heap.size + 1, 3 + k * 2, none⟩)), x81, x14, x15, g14, g15) _ ⟨hS, fun h => f0 (not_k h (by decide)), fun h => f1 (not_k h (by decide)), fun h => f2 (not_k h (by decide)), fun h => f3 (not_k h (by decide)), fun h => f4 (not_k h (by decide)), fun h => f5 (not_k h (by decide)), fun _ => rfl, fun h => f7 (not_k h (by decide)), fun h => p8 (not_k h (by decide)), fun h => getD_set_true (q8 (not_k h (by decide))), fun h h2 => z8 (not_k h (by decide)) (not_k' h2 (by decide)), fun h => c8 (not_k h (by decide)), fun h => p9 (not_k h (by decide)), fun h => getD_set_true (q9 (not_k h (by decide))), fun h h2 => z9 (not_k h (by decide)) (not_k' h2 (by decide)), fun h => c9 (not_k h (by decide)), fun h h2 => n8_9 (not_k h (by decide)) (not_k h2 (by decide))⟩) ?_
              simp only [Act.put, List.setIfInBounds_toArray, List.set_cons_zero, List.set_cons_succ]
            · intro L x W hJ hlt hk hd K' hK
              obtain ⟨x74, x75, x76, x77, x78, x79, x80, x81, x14, x15, g14, g15⟩ := x
              obtain ⟨hS, f0, f1, f2, f3, f4, f5, f6, f7, p8, q8, z8, c8, p9, q9, z9, c9, n8_9⟩ := hJ
              have d6 : L.getD 6 false = true := dep_of hd 6 (by rfl)
              obtain rfl := (f6 d6).symm
              have h0 := hS.cell e0
              have h1 := hS.cell e1
              refine ⟨?_⟩
              simp only [Act.put, List.setIfInBounds_toArray, List.set_cons_zero, List.set_cons_succ]
              go_simp
              refine kput (hK (x74, x75, x76, x77, x78, x79, (.pointer (some ⟨w.heap.size + 1, 3 + k * 2, none⟩)), (.agg #[.bool false, .string ⟨m2.toArray⟩]), x14, x15, g14, g15) _ ⟨hS, fun h => f0 (not_k h (by decide)), fun h => f1 (not_k h (by decide)), fun h => f2 (not_k h (by decide)), fun h => f3 (not_k h (by decide)), fun h => f4 (not_k h (by decide)), fun h => f5 (not_k h (by decide)), fun h => f6 (not_k h (by decide)), fun _ => rfl, fun h => p8 (not_k h (by decide)), fun h => getD_set_true (q8 (not_k h (by decide))), fun h h2 => z8 (not_k h (by decide)) (not_k' h2 (by decide)), fun h => c8 (not_k h (by decide)), fun h => p9 (not_k h (by decide)), fun h => getD_set_true (q9 (not_k h (by decide))), fun h h2 => z9 (not_k h (by decide)) (not_k' h2 (by decide)), fun h => c9 (not_k h (by decide)), fun h h2 => n8_9 (not_k h (by decide)) (not_k h2 (by decide))⟩) ?_
              simp only [Act.put, List.setIfInBounds_toArray, List.set_cons_zero, List.set_cons_succ]
            · intro L x W hJ hlt hk hd K' hK
              obtain ⟨x74, x75, x76, x77, x78, x79, x80, x81, x14, x15, g14, g15⟩ := x
              obtain ⟨hS, f0, f1, f2, f3, f4, f5, f6, f7, p8, q8, z8, c8, p9, q9, z9, c9, n8_9⟩ := hJ
              refine ⟨?_⟩
              simp only [Act.put, List.setIfInBounds_toArray, List.set_cons_zero, List.set_cons_succ]
              go_simp
              have hb : Since W (W.alloc (.cells #[.bool false, .string ⟨#[]⟩] 30)) := (Since.refl _).alloc _
              refine kput (hK (x74, x75, x76, x77, x78, x79, x80, x81, (.pointer (some ⟨W.heap.size, 0, none⟩)), x15, W.heap.size, g15) _ ⟨hS.trans hb, fun h => f0 (not_k h (by decide)), fun h => f1 (not_k h (by decide)), fun h => f2 (not_k h (by decide)), fun h => f3 (not_k h (by decide)), fun h => f4 (not_k h (by decide)), fun h => f5 (not_k h (by decide)), fun h => f6 (not_k h (by decide)), fun h => f7 (not_k h (by decide)), fun _ => ⟨rfl, hS.size, by simp⟩, fun h => getD_set_true (q8 (not_k h (by decide))), fun _ _ => heap_alloc_new W _, fun h => absurd (q8 (not_k h (by decide))) (by rw [hk]; decide), fun h => ⟨(p9 (not_k h (by decide))).1, (p9 (not_k h (by decide))).2.1, Nat.lt_of_lt_of_le (p9 (not_k h (by decide))).2.2 hb.size⟩, fun h => getD_set_true (q9 (not_k h (by decide))), fun h h2 => (z9 (not_k h (by decide)) (not_k' h2 (by decide))).next hb, fun h => (c9 (not_k h (by decide))).next hb, fun _ h => Nat.ne_of_gt (p9 (not_k h (by decide))).2.2⟩) ?_
              simp only [Act.put, List.setIfInBounds_toArray, List.set_cons_zero, List.set_cons_succ]
            · intro L x W hJ hlt hk hd K' hK
              obtain ⟨x74, x75, x76, x77, x78, x79, x80, x81, x14, x15, g14, g15⟩ := x
              obtain ⟨hS, f0, f1, f2, f3, f4, f5, f6, f7, p8, q8, z8, c8, p9, q9, z9, c9, n8_9⟩ := hJ
              refine ⟨?_⟩
              simp only [Act.put, List.setIfInBounds_toArray, List.set_cons_zero, List.set_cons_succ]
              go_simp
              have hb : Since W (W.alloc (.cells #[.bool false, .string ⟨#[]⟩] 30)) := (Since.refl _).alloc _
              refine kput (hK (x74, x75, x76, x77, x78, x79, x80, x81, x14, (.pointer (some ⟨W.heap.size, 0, none⟩)), g14, W.heap.size) _ ⟨hS.trans hb, fun h => f0 (not_k h (by decide)), fun h => f1 (not_k h (by decide)), fun h => f2 (not_k h (by decide)), fun h => f3 (not_k h (by decide)), fun h => f4 (not_k h (by decide)), fun h => f5 (not_k h (by decide)), fun h => f6 (not_k h (by decide)), fun h => f7 (not_k h (by decide)), fun h => ⟨(p8 (not_k h (by decide))).1, (p8 (not_k h (by decide))).2.1, Nat.lt_of_lt_of_le (p8 (not_k h (by decide))).2.2 hb.size⟩, fun h => getD_set_true (q8 (not_k h (by decide))), fun h h2 => (z8 (not_k h (by decide)) (not_k' h2 (by decide))).next hb, fun h => (c8 (not_k h (by decide))).next hb, fun _ => ⟨rfl, hS.size, by simp⟩, fun h => getD_set_true (q9 (not_k h (by decide))), fun _ _ => heap_alloc_new W _, fun h => absurd (q9 (not_k h (by decide))) (by rw [hk]; decide), fun h _ => Nat.ne_of_lt (p8 (not_k h (by decide))).2.2⟩) ?_
              simp only [Act.put, List.setIfInBounds_toArray, List.set_cons_zero, List.set_cons_succ]
            · intro L x W hJ hlt hk hd K' hK
              obtain ⟨x74, x75, x76, x77, x78, x79, x80, x81, x14, x15, g14, g15⟩ := x
              obtain ⟨hS, f0, f1, f2, f3, f4, f5, f6, f7, p8, q8, z8, c8, p9, q9, z9, c9, n8_9⟩ := hJ
              have d8 : L.getD 8 false = true := dep_of hd 8 (by rfl)
              obtain ⟨rfl, pl8, pg8⟩ := p8 d8
              have d3 : L.getD 3 false = true := dep_of hd 3 (by rfl)
              obtain rfl := (f3 d3).symm
              refine ⟨?_⟩
              simp only [Act.put, List.setIfInBounds_toArray, List.set_cons_zero, List.set_cons_succ]
              refine wp_store_row 30 (.tmp 14) (.tmp 77) rfl g14 #[.bool v1, .string ⟨m1.toArray⟩] rfl rfl 30 #[.bool false, .string ⟨#[]⟩] (z8 d8 hk) tinfo2 rfl (by simp [Value.oneCell']) ?_
              refine kput (hK (x74, x75, x76, (.agg #[.bool v1, .string ⟨m1.toArray⟩]), x78, x79, x80, x81, (.pointer (some ⟨g14, 0, none⟩)), x15, g14, g15) _ ⟨since_setRow hS pl8 _, fun h => f0 (not_k h (by decide)), fun h => f1 (not_k h (by decide)), fun h => f2 (not_k h (by decide)), fun h => f3 (not_k h (by decide)), fun h => f4 (not_k h (by decide)), fun h => f5 (not_k h (by decide)), fun h => f6 (not_k h (by decide)), fun h => f7 (not_k h (by decide)), fun h => ⟨(p8 (not_k h (by decide))).1, (p8 (not_k h (by decide))).2.1, Nat.lt_of_lt_of_eq (p8 (not_k h (by decide))).2.2 (by simp)⟩, fun _ => getD_set_true d8, fun _ h2 => absurd ((set_now hlt).symm.trans h2) (by decide), fun _ => Cel.row (z8 d8 hk) _, fun h => ⟨(p9 (not_k h (by decide))).1, (p9 (not_k h (by decide))).2.1, Nat.lt_of_lt_of_eq (p9 (not_k h (by decide))).2.2 (by simp)⟩, fun h => getD_set_true (q9 (not_k h (by decide))), fun h h2 => (z9 (not_k h (by decide)) (not_k' h2 (by decide))).farRow (fun e => n8_9 d8 (not_k h (by decide)) e.symm) _, fun h => (c9 (not_k h (by decide))).farRow (fun e => n8_9 d8 (q9 (not_k h (by decide))) e.symm) _, fun h h2 => n8_9 (not_k h (by decide)) (not_k h2 (by decide))⟩) ?_
              simp only [Act.put, List.setIfInBounds_toArray, List.set_cons_zero, List.set_cons_succ]
            · intro L x W hJ hlt hk hd K' hK
              obtain ⟨x74, x75, x76, x77, x78, x79, x80, x81, x14, x15, g14, g15⟩ := x
              obtain ⟨hS, f0, f1, f2, f3, f4, f5, f6, f7, p8, q8, z8, c8, p9, q9, z9, c9, n8_9⟩ := hJ
              have d9 : L.getD 9 false = true := dep_of hd 9 (by rfl)
              obtain ⟨rfl, pl9, pg9⟩ := p9 d9
              have d7 : L.getD 7 false = true := dep_of hd 7 (by rfl)
              obtain rfl := (f7 d7).symm
              refine ⟨?_⟩
              simp only [Act.put, List.setIfInBounds_toArray, List.set_cons_zero, List.set_cons_succ]
              refine wp_store_row 30 (.tmp 15) (.tmp 81) rfl g15 #[.bool false, .string ⟨m2.toArray⟩] rfl rfl 30 #[.bool false, .string ⟨#[]⟩] (z9 d9 hk) tinfo2 rfl (by simp [Value.oneCell']) ?_
              refine kput (hK (x74, x75, x76, x77, x78, x79, x80, (.agg #[.bool false, .string ⟨m2.toArray⟩]), x14, (.pointer (some ⟨g15, 0, none⟩)), g14, g15) _ ⟨since_setRow hS pl9 _, fun h => f0 (not_k h (by decide)), fun h => f1 (not_k h (by decide)), fun h => f2 (not_k h (by decide)), fun h => f3 (not_k h (by decide)), fun h => f4 (not_k h (by decide)), fun h => f5 (not_k h (by decide)), fun h => f6 (not_k h (by decide)), fun h => f7 (not_k h (by decide)), fun h => ⟨(p8 (not_k h (by decide))).1, (p8 (not_k h (by decide))).2.1, Nat.lt_of_lt_of_eq (p8 (not_k h (by decide))).2.2 (by simp)⟩, fun h => getD_set_true (q8 (not_k h (by decide))), fun h h2 => (z8 (not_k h (by decide)) (not_k' h2 (by decide))).farRow (fun e => n8_9 (not_k h (by decide)) d9 e) _, fun h => (c8 (not_k h (by decide))).farRow (fun e => n8_9 (q8 (not_k h (by decide))) d9 e) _, fun h => ⟨(p9 (not_k h (by decide))).1, (p9 (not_k h (by decide))).2.1, Nat.lt_of_lt_of_eq (p9 (not_k h (by decide))).2.2 (by simp)⟩, fun _ => getD_set_true d9, fun _ h2 => absurd ((set_now hlt).symm.trans h2) (by decide), fun _ => Cel.row (z9 d9 hk) _, fun h h2 => n8_9 (not_k h (by decide)) (not_k h2 (by decide))⟩) ?_
              simp only [Act.put, List.setIfInBounds_toArray, List.set_cons_zero, List.set_cons_succ]
          case stop =>
            intro L x W hJ hall
            obtain ⟨x74, x75, x76, x77, x78, x79, x80, x81, x14, x15, g14, g15⟩ := x
            obtain ⟨hS, f0, f1, f2, f3, f4, f5, f6, f7, p8, q8, z8, c8, p9, q9, z9, c9, n8_9⟩ := hJ
            obtain rfl := (f0 (hall 0 (Nat.le_of_ble_eq_true rfl))).symm
            obtain rfl := (f1 (hall 1 (Nat.le_of_ble_eq_true rfl))).symm
            obtain rfl := (f2 (hall 2 (Nat.le_of_ble_eq_true rfl))).symm
            obtain rfl := (f3 (hall 3 (Nat.le_of_ble_eq_true rfl))).symm
            obtain rfl := (f4 (hall 4 (Nat.le_of_ble_eq_true rfl))).symm
            obtain rfl := (f5 (hall 5 (Nat.le_of_ble_eq_true rfl))).symm
            obtain rfl := (f6 (hall 6 (Nat.le_of_ble_eq_true rfl))).symm
            obtain rfl := (f7 (hall 7 (Nat.le_of_ble_eq_true rfl))).symm
            obtain ⟨rfl, pl8, pg8⟩ := p8 (hall 8 (Nat.le_of_ble_eq_true rfl))
            have cc8 := c8 (hall 10 (Nat.le_of_ble_eq_true rfl))
            obtain ⟨rfl, pl9, pg9⟩ := p9 (hall 9 (Nat.le_of_ble_eq_true rfl))
            have cc9 := c9 (hall 11 (Nat.le_of_ble_eq_true rfl))
            have nn8_9 := n8_9 (hall 8 (Nat.le_of_ble_eq_true rfl)) (hall 9 (Nat.le_of_ble_eq_true rfl))
            clear f0 f1 f2 f3 f4 f5 f6 f7 p8 q8 z8 c8 p9 q9 z9 c9 n8_9 hall
            simp only [Act.put, List.setIfInBounds_toArray, List.set_cons_zero, List.set_cons_succ]
            have hX := Lib.hid cc8
            have hY := Lib.hid cc9
            have hS9 := hS
            have HX2 := hX.out.two
            obtain ⟨x0, x1⟩ := HX2
            obtain ⟨y0, y1⟩ := hY.out.two
            have hSq := hSo.trans hS9
            have hV2 := Lib.hid (hV.out.next hS9)
            have hl6 : l.length ≤ 1000 := by have := hL.out; omega
            clear d0 d1 e0 e1 hV
            cases v1
            · simp only [Bool.false_eq_true, if_false] at hres
              by_cases he : ((false, m1) : Tm) = (false, m2)
              · obtain rfl : m1 = m2 := congrArg Prod.snd he
                rw [if_pos rfl] at hres
                go_wp2_with fail
                go_roundw
                case rel => exact ⟨k + 1, l, by omega, by go_num, hSq, hV2.out, hI.out, by show _ ≤ _; have := hL.out; omega, hres⟩
                case measure => simp [intOf]; omega
              · have hq := eqT_ne he
                have HR2 : Hid (R = none) := by
                  show _ = _
                  rw [hres.out, if_neg he]
                clear hres
                go_wp2_with fail
                go_ret2
                exact ⟨_, _, rfl, hSw.trans hSq, by rw [HR2.out]; exact ⟨rfl, rfl⟩⟩
            · simp only [if_true] at hres
              have HGT := Lib.hid (rget_any u12 l m1 W hV2.out.1 (by omega))
              cases hg : getB l m1 with
              | none =>
                rw [hg] at HGT hres
                simp only [gtV] at HGT
                simp only at hres
                by_cases hm2 : m2 = []
                · subst hm2
                  have HR2 : Hid (R = none) := by show _ = _; rw [hres.out]; exact if_pos rfl
                  have HBN := Lib.hid (fun W' (h : Since W W') => rbind_noname u12 l m1 W' (hV2.out.1.next h) hI.out hl6)
                  clear hres
                  go_wp2_with fail
                  refine HGT.out.mono ?_
                  rintro e w10 ⟨rfl, hb⟩
                  have hb2 := hb.alloc (.cells #[.bool false, .string ⟨#[]⟩] 30)
                  obtain ⟨x0, x1⟩ := (hX.out.next hb2).two
                  obtain ⟨y0, y1⟩ := (hY.out.next hb2).two
                  clear hb
                  go_wp2_with fail
                  refine (HBN.out _ hb2).mono ?_
                  rintro e w11 ⟨rfl, hb⟩
                  have hS11 := (hSq.trans hb2).trans hb
                  clear hb
                  go_wp2_with fail
                  go_ret2
                  exact ⟨_, _, rfl, hSw.trans hS11, by rw [HR2.out]; exact ⟨rfl, rfl⟩⟩
                · have hres2 : Hid (R = matchG (P.drop (k + 1)) (bindP l m1 (false, m2))) := by show _ = _; rw [hres.out, if_neg hm2]
                  have HBD := Lib.hid (fun W' (h : Since W W') => rbind_const u12 l m1 m2 W' (hV2.out.1.next h) hI.out hl6 hnm hm2 hg)
                  have hIB := Lib.hid (hI.out.bind (v := m1) (x := (false, m2)) ⟨hnm, hm2, hg, rfl, by simp⟩)
                  go_wp2_with fail
                  refine HGT.out.mono ?_
                  rintro e w10 ⟨rfl, hb⟩
                  have hb2 := hb.alloc (.cells #[.bool false, .string ⟨#[]⟩] 30)
                  obtain ⟨x0, x1⟩ := (hX.out.next hb2).two
                  obtain ⟨y0, y1⟩ := (hY.out.next hb2).two
                  clear hb
                  go_wp2_with fail
                  refine (HBD.out _ hb2).mono ?_
                  rintro e w11 ⟨v11, rfl, hv11, hb⟩
                  have hS11 := (hSq.trans hb2).trans hb
                  clear hb
                  go_wp2_with fail
                  go_roundw
                  case rel => exact ⟨k + 1, bindP l m1 (false, m2), by omega, by go_num, hS11, hv11, hIB.out, by show _ ≤ _; rw [bind_len]; have := hL.out; omega, hres2⟩
                  case measure => simp [intOf]; omega
              | some z =>
                rw [hg] at HGT hres
                obtain ⟨zv, zt⟩ := z
                simp only [gtV] at HGT
                simp only at hres
                go_wp2_with fail
                refine HGT.out.mono ?_
                rintro e w10 ⟨rfl, hb⟩
                have hb2 := hb.alloc (.cells #[.bool zv, .string ⟨zt.toArray⟩] 30)
                obtain ⟨x0, x1⟩ := (hX.out.next hb2).two
                obtain ⟨y0, y1⟩ := (hY.out.next hb2).two
                have KZ : Cel (w10.alloc (.cells #[.bool zv, .string ⟨zt.toArray⟩] 30)) w10.heap.size #[.bool zv, .string ⟨zt.toArray⟩] 30 := heap_alloc_new w10 _
                obtain ⟨z0, z1⟩ := KZ.two
                clear hb
                by_cases he : ((zv, zt) : Tm) = (false, m2)
                · obtain ⟨rfl, rfl⟩ : zv = false ∧ zt = m2 := by injection he with h1 h2; exact ⟨h1, h2⟩
                  rw [if_pos rfl] at hres
                  go_wp2_with fail
                  go_roundw
                  case rel => exact ⟨k + 1, l, by omega, by go_num, hSq.trans hb2, hV2.out.next hb2, hI.out, by show _ ≤ _; have := hL.out; omega, hres⟩
                  case measure => simp [intOf]; omega
                · have hq := eqT_ne he
                  have HR2 : Hid (R = none) := by
                    show _ = _
                    rw [hres.out, if_neg he]
                  clear hres
                  go_wp2_with fail
                  go_ret2
                  exact ⟨_, _, rfl, (hSw.trans hSq).trans hb2, by rw [HR2.out]; exact ⟨rfl, rfl⟩⟩
        · have hlt2 : ¬ (k : Int) < (n : Int) := by omega
          have HR2 : Hid (R = some l) := by
            show _ = _
            rw [hres.out, List.drop_eq_nil_of_le (by omega)]; rfl
          clear hres
          go_wp2_with fail
          go_ret2
          exact ⟨_, _, rfl, hSw.trans hSo, by rw [HR2.out]; exact ⟨rfl, hV.out⟩⟩
set_option maxHeartbeats 4000000 in
set_option maxRecDepth 100000 in
theorem rextend_no (a_s a_p : List UInt8) (a_n : Int) (a_v0 a_v1 a_v2 a_v3 : Bool) (a_l0 a_l1 a_l2 a_l3 : List UInt8) (b_s b_p : List UInt8) (b_n : Int) (b_v0 b_v1 b_v2 b_v3 : Bool) (b_l0 b_l1 b_l2 b_l3 : List UInt8) (h : ¬ (a_s = b_s ∧ a_p = b_p ∧ a_n = b_n)) (w : World) :
    Calls Tryz.prog 57 #[.slice none 0 0, .agg #[.string ⟨a_s.toArray⟩, .string ⟨a_p.toArray⟩, .int .i64 a_n, .bool a_v0, .string ⟨a_l0.toArray⟩, .bool a_v1, .string ⟨a_l1.toArray⟩, .bool a_v2, .string ⟨a_l2.toArray⟩, .bool a_v3, .string ⟨a_l3.toArray⟩], .agg #[.string ⟨b_s.toArray⟩, .string ⟨b_p.toArray⟩, .int .i64 b_n, .bool b_v0, .string ⟨b_l0.toArray⟩, .bool b_v1, .string ⟨b_l1.toArray⟩, .bool b_v2, .string ⟨b_l2.toArray⟩, .bool b_v3, .string ⟨b_l3.toArray⟩]] w (MatchP none w) := by
  have HAL := Lib.hid (fun W => alike_no a_s a_p a_n a_v0 a_v1 a_v2 a_v3 a_l0 a_l1 a_l2 a_l3 b_s b_p b_n b_v0 b_v1 b_v2 b_v3 b_l0 b_l1 b_l2 b_l3 h W)
  clear h
  have hS : Since w ((w.alloc (.cells #[.string ⟨a_s.toArray⟩, .string ⟨a_p.toArray⟩, .int .i64 a_n, .bool a_v0, .string ⟨a_l0.toArray⟩, .bool a_v1, .string ⟨a_l1.toArray⟩, .bool a_v2, .string ⟨a_l2.toArray⟩, .bool a_v3, .string ⟨a_l3.toArray⟩] 33)).alloc (.cells #[.string ⟨b_s.toArray⟩, .string ⟨b_p.toArray⟩, .int .i64 b_n, .bool b_v0, .string ⟨b_l0.toArray⟩, .bool b_v1, .string ⟨b_l1.toArray⟩, .bool b_v2, .string ⟨b_l2.toArray⟩, .bool b_v3, .string ⟨b_l3.toArray⟩] 33)) := ((Since.refl _).alloc _).alloc _
  have a_B : Box ((w.alloc (.cells #[.string ⟨a_s.toArray⟩, .string ⟨a_p.toArray⟩, .int .i64 a_n, .bool a_v0, .string ⟨a_l0.toArray⟩, .bool a_v1, .string ⟨a_l1.toArray⟩, .bool a_v2, .string ⟨a_l2.toArray⟩, .bool a_v3, .string ⟨a_l3.toArray⟩] 33)).alloc (.cells #[.string ⟨b_s.toArray⟩, .string ⟨b_p.toArray⟩, .int .i64 b_n, .bool b_v0, .string ⟨b_l0.toArray⟩, .bool b_v1, .string ⟨b_l1.toArray⟩, .bool b_v2, .string ⟨b_l2.toArray⟩, .bool b_v3, .string ⟨b_l3.toArray⟩] 33)) w.heap.size ((a_s, a_p, a_n, (a_v0, a_l0), (a_v1, a_l1), (a_v2, a_l2), (a_v3, a_l3)) : Atm) := (box_new w ((a_s, a_p, a_n, (a_v0, a_l0), (a_v1, a_l1), (a_v2, a_l2), (a_v3, a_l3)) : Atm) _).next ((Since.refl _).alloc _)
  have b_B : Box ((w.alloc (.cells #[.string ⟨a_s.toArray⟩, .string ⟨a_p.toArray⟩, .int .i64 a_n, .bool a_v0, .string ⟨a_l0.toArray⟩, .bool a_v1, .string ⟨a_l1.toArray⟩, .bool a_v2, .string ⟨a_l2.toArray⟩, .bool a_v3, .string ⟨a_l3.toArray⟩] 33)).alloc (.cells #[.string ⟨b_s.toArray⟩, .string ⟨b_p.toArray⟩, .int .i64 b_n, .bool b_v0, .string ⟨b_l0.toArray⟩, .bool b_v1, .string ⟨b_l1.toArray⟩, .bool b_v2, .string ⟨b_l2.toArray⟩, .bool b_v3, .string ⟨b_l3.toArray⟩] 33)) (w.heap.size + 1) ((b_s, b_p, b_n, (b_v0, b_l0), (b_v1, b_l1), (b_v2, b_l2), (b_v3, b_l3)) : Atm) := by
    have := box_new (w.alloc (.cells #[.string ⟨a_s.toArray⟩, .string ⟨a_p.toArray⟩, .int .i64 a_n, .bool a_v0, .string ⟨a_l0.toArray⟩, .bool a_v1, .string ⟨a_l1.toArray⟩, .bool a_v2, .string ⟨a_l2.toArray⟩, .bool a_v3, .string ⟨a_l3.toArray⟩] 33)) ((b_s, b_p, b_n, (b_v0, b_l0), (b_v1, b_l1), (b_v2, b_l2), (b_v3, b_l3)) : Atm) 33
    rwa [World.size_alloc] at this
  obtain ⟨a_c0, a_c1, a_c2, a_c3, a_c4, a_c5, a_c6, a_c7, a_c8, a_c9, a_c10⟩ := a_B.all
  obtain ⟨b_c0, b_c1, b_c2, b_c3, b_c4, b_c5, b_c6, b_c7, b_c8, b_c9, b_c10⟩ := b_B.all
  go_enter Tryz.func57, Tryz.ntmps57
  go_wp2_with fail
  refine (rcheckb_any (.slice none 0 0) [] _ RowOf.nil InvB.nil (by simp)).mono ?_
  rintro e w1 ⟨rfl, hb⟩
  replace hS := hS.trans hb
  replace a_B := a_B.next hb; replace a_c0 := hb.cell a_c0; replace a_c1 := hb.cell a_c1; replace a_c2 := hb.cell a_c2; replace a_c3 := hb.cell a_c3; replace a_c4 := hb.cell a_c4; replace a_c5 := hb.cell a_c5; replace a_c6 := hb.cell a_c6; replace a_c7 := hb.cell a_c7; replace a_c8 := hb.cell a_c8; replace a_c9 := hb.cell a_c9; replace a_c10 := hb.cell a_c10; replace b_B := b_B.next hb; replace b_c0 := hb.cell b_c0; replace b_c1 := hb.cell b_c1; replace b_c2 := hb.cell b_c2; replace b_c3 := hb.cell b_c3; replace b_c4 := hb.cell b_c4; replace b_c5 := hb.cell b_c5; replace b_c6 := hb.cell b_c6; replace b_c7 := hb.cell b_c7; replace b_c8 := hb.cell b_c8; replace b_c9 := hb.cell b_c9; replace b_c10 := hb.cell b_c10
  go_wp2_with fail
  refine (HAL.out _).mono ?_
  rintro e w3 ⟨rfl, hb⟩
  replace hS := hS.trans hb
  clear a_c0 a_c1 a_c2 a_c3 a_c4 a_c5 a_c6 a_c7 a_c8 a_c9 a_c10 b_c0 b_c1 b_c2 b_c3 b_c4 b_c5 b_c6 b_c7 b_c8 b_c9 b_c10 a_B b_B
  go_wp2_with fail
  go_ret2
  exact ⟨_, _, rfl, hS, rfl, rfl⟩
set_option maxHeartbeats 4000000 in
set_option maxRecDepth 100000 in
theorem rextend_ng (s p : List UInt8) (n : Nat) (a_v0 a_v1 a_v2 a_v3 : Bool) (a_l0 a_l1 a_l2 a_l3 : List UInt8) (b_v0 b_v1 b_v2 b_v3 : Bool) (b_l0 b_l1 b_l2 b_l3 : List UInt8) (hn : n ≤ 4) (w : World) (hgr : groundA ((s, p, (n : Int), (b_v0, b_l0), (b_v1, b_l1), (b_v2, b_l2), (b_v3, b_l3)) : Atm) = false) :
    Calls Tryz.prog 57 #[.slice none 0 0, .agg #[.string ⟨s.toArray⟩, .string ⟨p.toArray⟩, .int .i64 (n : Int), .bool a_v0, .string ⟨a_l0.toArray⟩, .bool a_v1, .string ⟨a_l1.toArray⟩, .bool a_v2, .string ⟨a_l2.toArray⟩, .bool a_v3, .string ⟨a_l3.toArray⟩], .agg #[.string ⟨s.toArray⟩, .string ⟨p.toArray⟩, .int .i64 (n : Int), .bool b_v0, .string ⟨b_l0.toArray⟩, .bool b_v1, .string ⟨b_l1.toArray⟩, .bool b_v2, .string ⟨b_l2.toArray⟩, .bool b_v3, .string ⟨b_l3.toArray⟩]] w (MatchP none w) := by
  have HAL := Lib.hid (fun W => alike_yes s p n a_v0 a_v1 a_v2 a_v3 a_l0 a_l1 a_l2 a_l3 b_v0 b_v1 b_v2 b_v3 b_l0 b_l1 b_l2 b_l3 hn W)
  have HGR := Lib.hid (fun W => rground_any s p (n : Int) b_v0 b_v1 b_v2 b_v3 b_l0 b_l1 b_l2 b_l3 W)
  rw [hgr] at HGR
  have hS2 : Since w ((w.alloc (.cells #[.string ⟨s.toArray⟩, .string ⟨p.toArray⟩, .int .i64 (n : Int), .bool a_v0, .string ⟨a_l0.toArray⟩, .bool a_v1, .string ⟨a_l1.toArray⟩, .bool a_v2, .string ⟨a_l2.toArray⟩, .bool a_v3, .string ⟨a_l3.toArray⟩] 33)).alloc (.cells #[.string ⟨s.toArray⟩, .string ⟨p.toArray⟩, .int .i64 (n : Int), .bool b_v0, .string ⟨b_l0.toArray⟩, .bool b_v1, .string ⟨b_l1.toArray⟩, .bool b_v2, .string ⟨b_l2.toArray⟩, .bool b_v3, .string ⟨b_l3.toArray⟩] 33)) := ((Since.refl _).alloc _).alloc _
  have a_B : Box ((w.alloc (.cells #[.string ⟨s.toArray⟩, .string ⟨p.toArray⟩, .int .i64 (n : Int), .bool a_v0, .string ⟨a_l0.toArray⟩, .bool a_v1, .string ⟨a_l1.toArray⟩, .bool a_v2, .string ⟨a_l2.toArray⟩, .bool a_v3, .string ⟨a_l3.toArray⟩] 33)).alloc (.cells #[.string ⟨s.toArray⟩, .string ⟨p.toArray⟩, .int .i64 (n : Int), .bool b_v0, .string ⟨b_l0.toArray⟩, .bool b_v1, .string ⟨b_l1.toArray⟩, .bool b_v2, .string ⟨b_l2.toArray⟩, .bool b_v3, .string ⟨b_l3.toArray⟩] 33)) w.heap.size ((s, p, (n : Int), (a_v0, a_l0), (a_v1, a_l1), (a_v2, a_l2), (a_v3, a_l3)) : Atm) := (box_new w ((s, p, (n : Int), (a_v0, a_l0), (a_v1, a_l1), (a_v2, a_l2), (a_v3, a_l3)) : Atm) _).next ((Since.refl _).alloc _)
  have b_B : Box ((w.alloc (.cells #[.string ⟨s.toArray⟩, .string ⟨p.toArray⟩, .int .i64 (n : Int), .bool a_v0, .string ⟨a_l0.toArray⟩, .bool a_v1, .string ⟨a_l1.toArray⟩, .bool a_v2, .string ⟨a_l2.toArray⟩, .bool a_v3, .string ⟨a_l3.toArray⟩] 33)).alloc (.cells #[.string ⟨s.toArray⟩, .string ⟨p.toArray⟩, .int .i64 (n : Int), .bool b_v0, .string ⟨b_l0.toArray⟩, .bool b_v1, .string ⟨b_l1.toArray⟩, .bool b_v2, .string ⟨b_l2.toArray⟩, .bool b_v3, .string ⟨b_l3.toArray⟩] 33)) (w.heap.size + 1) ((s, p, (n : Int), (b_v0, b_l0), (b_v1, b_l1), (b_v2, b_l2), (b_v3, b_l3)) : Atm) := by
    have := box_new (w.alloc (.cells #[.string ⟨s.toArray⟩, .string ⟨p.toArray⟩, .int .i64 (n : Int), .bool a_v0, .string ⟨a_l0.toArray⟩, .bool a_v1, .string ⟨a_l1.toArray⟩, .bool a_v2, .string ⟨a_l2.toArray⟩, .bool a_v3, .string ⟨a_l3.toArray⟩] 33)) ((s, p, (n : Int), (b_v0, b_l0), (b_v1, b_l1), (b_v2, b_l2), (b_v3, b_l3)) : Atm) 33
    rwa [World.size_alloc] at this
  clear hgr
  go_enter Tryz.func57, Tryz.ntmps57
  go_wp2_with fail
  refine (rcheckb_any (.slice none 0 0) [] _ RowOf.nil InvB.nil (by simp)).mono ?_
  rintro e w1 ⟨rfl, hb⟩
  have hS := hS2.trans hb
  replace a_B := a_B.next hb
  replace b_B := b_B.next hb
  clear hb hS2
  obtain ⟨a_c0, a_c1, a_c2, a_c3, a_c4, a_c5, a_c6, a_c7, a_c8, a_c9, a_c10⟩ := a_B.all
  obtain ⟨b_c0, b_c1, b_c2, b_c3, b_c4, b_c5, b_c6, b_c7, b_c8, b_c9, b_c10⟩ := b_B.all
  go_wp2_with fail
  refine (HAL.out _).mono ?_
  rintro e w3 ⟨rfl, hb⟩
  replace hS := hS.trans hb
  replace a_B := a_B.next hb
  replace b_B := b_B.next hb
  clear hb HAL a_c0 a_c1 a_c2 a_c3 a_c4 a_c5 a_c6 a_c7 a_c8 a_c9 a_c10 b_c0 b_c1 b_c2 b_c3 b_c4 b_c5 b_c6 b_c7 b_c8 b_c9 b_c10
  obtain ⟨b_c0, b_c1, b_c2, b_c3, b_c4, b_c5, b_c6, b_c7, b_c8, b_c9, b_c10⟩ := b_B.all
  go_wp2_with fail
  refine (HGR.out _).mono ?_
  rintro e w4 ⟨rfl, hb⟩
  replace hS := hS.trans hb
  clear hb HGR b_c0 b_c1 b_c2 b_c3 b_c4 b_c5 b_c6 b_c7 b_c8 b_c9 b_c10 a_B b_B
  go_wp2_with fail
  go_ret2
  exact ⟨_, _, rfl, hS, rfl, rfl⟩
theorem rextend_all (a_s a_p : List UInt8) (a_n : Int) (a_v0 a_v1 a_v2 a_v3 : Bool) (a_l0 a_l1 a_l2 a_l3 : List UInt8) (b_s b_p : List UInt8) (b_n : Int) (b_v0 b_v1 b_v2 b_v3 : Bool) (b_l0 b_l1 b_l2 b_l3 : List UInt8) (ka : checkA ((a_s, a_p, a_n, (a_v0, a_l0), (a_v1, a_l1), (a_v2, a_l2), (a_v3, a_l3)) : Atm) = 0) (w : World) :
    Calls Tryz.prog 57 #[.slice none 0 0, .agg #[.string ⟨a_s.toArray⟩, .string ⟨a_p.toArray⟩, .int .i64 a_n, .bool a_v0, .string ⟨a_l0.toArray⟩, .bool a_v1, .string ⟨a_l1.toArray⟩, .bool a_v2, .string ⟨a_l2.toArray⟩, .bool a_v3, .string ⟨a_l3.toArray⟩], .agg #[.string ⟨b_s.toArray⟩, .string ⟨b_p.toArray⟩, .int .i64 b_n, .bool b_v0, .string ⟨b_l0.toArray⟩, .bool b_v1, .string ⟨b_l1.toArray⟩, .bool b_v2, .string ⟨b_l2.toArray⟩, .bool b_v3, .string ⟨b_l3.toArray⟩]] w (MatchP (extH [] ((a_s, a_p, a_n, (a_v0, a_l0), (a_v1, a_l1), (a_v2, a_l2), (a_v3, a_l3)) : Atm) ((b_s, b_p, b_n, (b_v0, b_l0), (b_v1, b_l1), (b_v2, b_l2), (b_v3, b_l3)) : Atm)) w) := by
  obtain ⟨n, hn, e1, ca⟩ := valid_len ka
  by_cases he : a_s = b_s ∧ a_p = b_p ∧ a_n = b_n
  · have hnp := pat_names (b := ((b_s, b_p, b_n, (b_v0, b_l0), (b_v1, b_l1), (b_v2, b_l2), (b_v3, b_l3)) : Atm)) ka
    have hcc : countA ((a_s, a_p, a_n, (a_v0, a_l0), (a_v1, a_l1), (a_v2, a_l2), (a_v3, a_l3)) : Atm) = countA ((b_s, b_p, b_n, (b_v0, b_l0), (b_v1, b_l1), (b_v2, b_l2), (b_v3, b_l3)) : Atm) := by unfold countA; simp only; rw [he.2.2]
    cases hg : groundA ((b_s, b_p, b_n, (b_v0, b_l0), (b_v1, b_l1), (b_v2, b_l2), (b_v3, b_l3)) : Atm) with
    | true =>
      have hgp := ground_pairs (a := ((a_s, a_p, a_n, (a_v0, a_l0), (a_v1, a_l1), (a_v2, a_l2), (a_v3, a_l3)) : Atm)) hg hcc
      have hu : extH [] ((a_s, a_p, a_n, (a_v0, a_l0), (a_v1, a_l1), (a_v2, a_l2), (a_v3, a_l3)) : Atm) ((b_s, b_p, b_n, (b_v0, b_l0), (b_v1, b_l1), (b_v2, b_l2), (b_v3, b_l3)) : Atm) = matchG (pairsA ((a_s, a_p, a_n, (a_v0, a_l0), (a_v1, a_l1), (a_v2, a_l2), (a_v3, a_l3)) : Atm) ((b_s, b_p, b_n, (b_v0, b_l0), (b_v1, b_l1), (b_v2, b_l2), (b_v3, b_l3)) : Atm)) [] := by
        unfold extH
        rw [if_pos ⟨he, hg⟩]
      rw [hu]
      obtain ⟨h1, h2, h3⟩ := he
      simp only at e1
      subst h1 h2
      obtain rfl : a_n = (n : Int) := e1
      obtain rfl : b_n = (n : Int) := h3.symm
      unfold pairsA at hnp hgp ⊢
      rw [show countA ((a_s, a_p, (n : Int), (a_v0, a_l0), (a_v1, a_l1), (a_v2, a_l2), (a_v3, a_l3)) : Atm) = n from ca] at hnp hgp ⊢
      exact rextend_main a_s a_p n a_v0 a_v1 a_v2 a_v3 a_l0 a_l1 a_l2 a_l3 b_v0 b_v1 b_v2 b_v3 b_l0 b_l1 b_l2 b_l3 hn w hnp hgp hg
    | false =>
      have hu : extH [] ((a_s, a_p, a_n, (a_v0, a_l0), (a_v1, a_l1), (a_v2, a_l2), (a_v3, a_l3)) : Atm) ((b_s, b_p, b_n, (b_v0, b_l0), (b_v1, b_l1), (b_v2, b_l2), (b_v3, b_l3)) : Atm) = none := by
        unfold extH
        rw [if_neg (fun h => by rw [hg] at h; cases h.2)]
      rw [hu]
      obtain ⟨h1, h2, h3⟩ := he
      simp only at e1
      subst h1 h2
      obtain rfl : a_n = (n : Int) := e1
      obtain rfl : b_n = (n : Int) := h3.symm
      exact rextend_ng a_s a_p n a_v0 a_v1 a_v2 a_v3 a_l0 a_l1 a_l2 a_l3 b_v0 b_v1 b_v2 b_v3 b_l0 b_l1 b_l2 b_l3 hn w hg
  · have hu : extH [] ((a_s, a_p, a_n, (a_v0, a_l0), (a_v1, a_l1), (a_v2, a_l2), (a_v3, a_l3)) : Atm) ((b_s, b_p, b_n, (b_v0, b_l0), (b_v1, b_l1), (b_v2, b_l2), (b_v3, b_l3)) : Atm) = none := by
      unfold extH
      rw [if_neg (fun h => he h.1)]
    rw [hu]
    exact rextend_no a_s a_p a_n a_v0 a_v1 a_v2 a_v3 a_l0 a_l1 a_l2 a_l3 b_s b_p b_n b_v0 b_v1 b_v2 b_v3 b_l0 b_l1 b_l2 b_l3 he w
set_option maxHeartbeats 4000000 in
set_option maxRecDepth 100000 in
theorem rmatch_all (a_s a_p : List UInt8) (a_n : Int) (a_v0 a_v1 a_v2 a_v3 : Bool) (a_l0 a_l1 a_l2 a_l3 : List UInt8) (b_s b_p : List UInt8) (b_n : Int) (b_v0 b_v1 b_v2 b_v3 : Bool) (b_l0 b_l1 b_l2 b_l3 : List UInt8) (ka : checkA ((a_s, a_p, a_n, (a_v0, a_l0), (a_v1, a_l1), (a_v2, a_l2), (a_v3, a_l3)) : Atm) = 0) (w : World) :
    Calls Tryz.prog 39 #[.agg #[.string ⟨a_s.toArray⟩, .string ⟨a_p.toArray⟩, .int .i64 a_n, .bool a_v0, .string ⟨a_l0.toArray⟩, .bool a_v1, .string ⟨a_l1.toArray⟩, .bool a_v2, .string ⟨a_l2.toArray⟩, .bool a_v3, .string ⟨a_l3.toArray⟩], .agg #[.string ⟨b_s.toArray⟩, .string ⟨b_p.toArray⟩, .int .i64 b_n, .bool b_v0, .string ⟨b_l0.toArray⟩, .bool b_v1, .string ⟨b_l1.toArray⟩, .bool b_v2, .string ⟨b_l2.toArray⟩, .bool b_v3, .string ⟨b_l3.toArray⟩]] w (MatchP (extH [] ((a_s, a_p, a_n, (a_v0, a_l0), (a_v1, a_l1), (a_v2, a_l2), (a_v3, a_l3)) : Atm) ((b_s, b_p, b_n, (b_v0, b_l0), (b_v1, b_l1), (b_v2, b_l2), (b_v3, b_l3)) : Atm)) w) := by
  have HX := Lib.hid (fun W => rextend_all a_s a_p a_n a_v0 a_v1 a_v2 a_v3 a_l0 a_l1 a_l2 a_l3 b_s b_p b_n b_v0 b_v1 b_v2 b_v3 b_l0 b_l1 b_l2 b_l3 ka W)
  obtain ⟨R, hR⟩ : ∃ R, Hid (R = extH [] ((a_s, a_p, a_n, (a_v0, a_l0), (a_v1, a_l1), (a_v2, a_l2), (a_v3, a_l3)) : Atm) ((b_s, b_p, b_n, (b_v0, b_l0), (b_v1, b_l1), (b_v2, b_l2), (b_v3, b_l3)) : Atm)) := ⟨_, rfl⟩
  rw [← hR.out] at HX ⊢
  have hS : Since w ((w.alloc (.cells #[.string ⟨a_s.toArray⟩, .string ⟨a_p.toArray⟩, .int .i64 a_n, .bool a_v0, .string ⟨a_l0.toArray⟩, .bool a_v1, .string ⟨a_l1.toArray⟩, .bool a_v2, .string ⟨a_l2.toArray⟩, .bool a_v3, .string ⟨a_l3.toArray⟩] 33)).alloc (.cells #[.string ⟨b_s.toArray⟩, .string ⟨b_p.toArray⟩, .int .i64 b_n, .bool b_v0, .string ⟨b_l0.toArray⟩, .bool b_v1, .string ⟨b_l1.toArray⟩, .bool b_v2, .string ⟨b_l2.toArray⟩, .bool b_v3, .string ⟨b_l3.toArray⟩] 33)) := ((Since.refl _).alloc _).alloc _
  have a_B : Box ((w.alloc (.cells #[.string ⟨a_s.toArray⟩, .string ⟨a_p.toArray⟩, .int .i64 a_n, .bool a_v0, .string ⟨a_l0.toArray⟩, .bool a_v1, .string ⟨a_l1.toArray⟩, .bool a_v2, .string ⟨a_l2.toArray⟩, .bool a_v3, .string ⟨a_l3.toArray⟩] 33)).alloc (.cells #[.string ⟨b_s.toArray⟩, .string ⟨b_p.toArray⟩, .int .i64 b_n, .bool b_v0, .string ⟨b_l0.toArray⟩, .bool b_v1, .string ⟨b_l1.toArray⟩, .bool b_v2, .string ⟨b_l2.toArray⟩, .bool b_v3, .string ⟨b_l3.toArray⟩] 33)) w.heap.size ((a_s, a_p, a_n, (a_v0, a_l0), (a_v1, a_l1), (a_v2, a_l2), (a_v3, a_l3)) : Atm) := (box_new w ((a_s, a_p, a_n, (a_v0, a_l0), (a_v1, a_l1), (a_v2, a_l2), (a_v3, a_l3)) : Atm) _).next ((Since.refl _).alloc _)
  have b_B : Box ((w.alloc (.cells #[.string ⟨a_s.toArray⟩, .string ⟨a_p.toArray⟩, .int .i64 a_n, .bool a_v0, .string ⟨a_l0.toArray⟩, .bool a_v1, .string ⟨a_l1.toArray⟩, .bool a_v2, .string ⟨a_l2.toArray⟩, .bool a_v3, .string ⟨a_l3.toArray⟩] 33)).alloc (.cells #[.string ⟨b_s.toArray⟩, .string ⟨b_p.toArray⟩, .int .i64 b_n, .bool b_v0, .string ⟨b_l0.toArray⟩, .bool b_v1, .string ⟨b_l1.toArray⟩, .bool b_v2, .string ⟨b_l2.toArray⟩, .bool b_v3, .string ⟨b_l3.toArray⟩] 33)) (w.heap.size + 1) ((b_s, b_p, b_n, (b_v0, b_l0), (b_v1, b_l1), (b_v2, b_l2), (b_v3, b_l3)) : Atm) := by
    have := box_new (w.alloc (.cells #[.string ⟨a_s.toArray⟩, .string ⟨a_p.toArray⟩, .int .i64 a_n, .bool a_v0, .string ⟨a_l0.toArray⟩, .bool a_v1, .string ⟨a_l1.toArray⟩, .bool a_v2, .string ⟨a_l2.toArray⟩, .bool a_v3, .string ⟨a_l3.toArray⟩] 33)) ((b_s, b_p, b_n, (b_v0, b_l0), (b_v1, b_l1), (b_v2, b_l2), (b_v3, b_l3)) : Atm) 33
    rwa [World.size_alloc] at this
  obtain ⟨a_c0, a_c1, a_c2, a_c3, a_c4, a_c5, a_c6, a_c7, a_c8, a_c9, a_c10⟩ := a_B.all
  obtain ⟨b_c0, b_c1, b_c2, b_c3, b_c4, b_c5, b_c6, b_c7, b_c8, b_c9, b_c10⟩ := b_B.all
  clear ka hR
  go_enter Tryz.func39, Tryz.ntmps39
  go_wp2_with fail
  refine (HX.out _).mono ?_
  rintro e w1 ⟨v, r, rfl, hb, hv⟩
  clear a_c0 a_c1 a_c2 a_c3 a_c4 a_c5 a_c6 a_c7 a_c8 a_c9 a_c10 b_c0 b_c1 b_c2 b_c3 b_c4 b_c5 b_c6 b_c7 b_c8 b_c9 b_c10 a_B b_B
  go_wp2_with fail
  go_ret2
  exact ⟨_, _, rfl, hS.trans hb, hv⟩
end Go.Proofs.YtbgdljcgbhhfdaaGreatDoor
