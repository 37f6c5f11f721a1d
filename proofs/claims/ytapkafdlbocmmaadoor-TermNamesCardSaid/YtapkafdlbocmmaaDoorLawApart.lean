/- TermApart returns true at every two atoms, in every world in which the library's table strings.asciiSpace stands. -/
import Derived.Test.YtapkafdlbocmmaaDoorLives03
import Derived.Test.YtapkafdlbocmmaaDoorEq
import Derived.Deep.RegionHeld3
namespace Go.Proofs.YtapkafdlbocmmaaDoor
open Go.RowKit
attribute [local go_sem ↓] run_atomEq run_termEq'

theorem light_of {a : Atm} (h : lightB a = true) : Light a := by
  simp only [lightB, Bool.and_eq_true, decide_eq_true_eq, List.all_eq_true] at h
  exact ⟨by omega, by omega, fun t ht => by have := h.2 t ht; omega⟩

set_option maxHeartbeats 2000000 in
set_option maxRecDepth 100000 in
theorem apart_main (a_s a_p : List UInt8) (a_n : Int) (a_v0 a_v1 a_v2 a_v3 : Bool) (a_l0 a_l1 a_l2 a_l3 : List UInt8) (b_s b_p : List UInt8) (b_n : Int) (b_v0 b_v1 b_v2 b_v3 : Bool) (b_l0 b_l1 b_l2 b_l3 : List UInt8) (w : World) (hE : Env w) (fa : FitsA ((a_s, a_p, a_n, (a_v0, a_l0), (a_v1, a_l1), (a_v2, a_l2), (a_v3, a_l3)) : Atm)) (fb : FitsA ((b_s, b_p, b_n, (b_v0, b_l0), (b_v1, b_l1), (b_v2, b_l2), (b_v3, b_l3)) : Atm)) (la : lightB ((a_s, a_p, a_n, (a_v0, a_l0), (a_v1, a_l1), (a_v2, a_l2), (a_v3, a_l3)) : Atm) = true) (lb : lightB ((b_s, b_p, b_n, (b_v0, b_l0), (b_v1, b_l1), (b_v2, b_l2), (b_v3, b_l3)) : Atm) = true) (ka : (checkA ((a_s, a_p, a_n, (a_v0, a_l0), (a_v1, a_l1), (a_v2, a_l2), (a_v3, a_l3)) : Atm) != 0) = false) (kb : (checkA ((b_s, b_p, b_n, (b_v0, b_l0), (b_v1, b_l1), (b_v2, b_l2), (b_v3, b_l3)) : Atm) != 0) = false) :
    Calls Tryd.prog 8 #[.agg #[.string ⟨a_s.toArray⟩, .string ⟨a_p.toArray⟩, .int .i64 a_n, .bool a_v0, .string ⟨a_l0.toArray⟩, .bool a_v1, .string ⟨a_l1.toArray⟩, .bool a_v2, .string ⟨a_l2.toArray⟩, .bool a_v3, .string ⟨a_l3.toArray⟩], .agg #[.string ⟨b_s.toArray⟩, .string ⟨b_p.toArray⟩, .int .i64 b_n, .bool b_v0, .string ⟨b_l0.toArray⟩, .bool b_v1, .string ⟨b_l1.toArray⟩, .bool b_v2, .string ⟨b_l2.toArray⟩, .bool b_v3, .string ⟨b_l3.toArray⟩]] w fun e w' => e = .returned (.bool true) ∧ Since w w' := by
  have hS : Since w ((w.alloc (.cells #[.string ⟨a_s.toArray⟩, .string ⟨a_p.toArray⟩, .int .i64 a_n, .bool a_v0, .string ⟨a_l0.toArray⟩, .bool a_v1, .string ⟨a_l1.toArray⟩, .bool a_v2, .string ⟨a_l2.toArray⟩, .bool a_v3, .string ⟨a_l3.toArray⟩] 26)).alloc (.cells #[.string ⟨b_s.toArray⟩, .string ⟨b_p.toArray⟩, .int .i64 b_n, .bool b_v0, .string ⟨b_l0.toArray⟩, .bool b_v1, .string ⟨b_l1.toArray⟩, .bool b_v2, .string ⟨b_l2.toArray⟩, .bool b_v3, .string ⟨b_l3.toArray⟩] 26)) := ((Since.refl _).alloc _).alloc _
  have a_B : Box ((w.alloc (.cells #[.string ⟨a_s.toArray⟩, .string ⟨a_p.toArray⟩, .int .i64 a_n, .bool a_v0, .string ⟨a_l0.toArray⟩, .bool a_v1, .string ⟨a_l1.toArray⟩, .bool a_v2, .string ⟨a_l2.toArray⟩, .bool a_v3, .string ⟨a_l3.toArray⟩] 26)).alloc (.cells #[.string ⟨b_s.toArray⟩, .string ⟨b_p.toArray⟩, .int .i64 b_n, .bool b_v0, .string ⟨b_l0.toArray⟩, .bool b_v1, .string ⟨b_l1.toArray⟩, .bool b_v2, .string ⟨b_l2.toArray⟩, .bool b_v3, .string ⟨b_l3.toArray⟩] 26)) w.heap.size ((a_s, a_p, a_n, (a_v0, a_l0), (a_v1, a_l1), (a_v2, a_l2), (a_v3, a_l3)) : Atm) := (box_new w ((a_s, a_p, a_n, (a_v0, a_l0), (a_v1, a_l1), (a_v2, a_l2), (a_v3, a_l3)) : Atm) _).next ((Since.refl _).alloc _)
  have b_B : Box ((w.alloc (.cells #[.string ⟨a_s.toArray⟩, .string ⟨a_p.toArray⟩, .int .i64 a_n, .bool a_v0, .string ⟨a_l0.toArray⟩, .bool a_v1, .string ⟨a_l1.toArray⟩, .bool a_v2, .string ⟨a_l2.toArray⟩, .bool a_v3, .string ⟨a_l3.toArray⟩] 26)).alloc (.cells #[.string ⟨b_s.toArray⟩, .string ⟨b_p.toArray⟩, .int .i64 b_n, .bool b_v0, .string ⟨b_l0.toArray⟩, .bool b_v1, .string ⟨b_l1.toArray⟩, .bool b_v2, .string ⟨b_l2.toArray⟩, .bool b_v3, .string ⟨b_l3.toArray⟩] 26)) (w.heap.size + 1) ((b_s, b_p, b_n, (b_v0, b_l0), (b_v1, b_l1), (b_v2, b_l2), (b_v3, b_l3)) : Atm) := by
    have := box_new (w.alloc (.cells #[.string ⟨a_s.toArray⟩, .string ⟨a_p.toArray⟩, .int .i64 a_n, .bool a_v0, .string ⟨a_l0.toArray⟩, .bool a_v1, .string ⟨a_l1.toArray⟩, .bool a_v2, .string ⟨a_l2.toArray⟩, .bool a_v3, .string ⟨a_l3.toArray⟩] 26)) ((b_s, b_p, b_n, (b_v0, b_l0), (b_v1, b_l1), (b_v2, b_l2), (b_v3, b_l3)) : Atm) 26
    rwa [World.size_alloc] at this
  obtain ⟨a_c0, a_c1, a_c2, a_c3, a_c4, a_c5, a_c6, a_c7, a_c8, a_c9, a_c10⟩ := a_B.all
  obtain ⟨b_c0, b_c1, b_c2, b_c3, b_c4, b_c5, b_c6, b_c7, b_c8, b_c9, b_c10⟩ := b_B.all
  replace hE := hE.next hS
  have HFA := Lib.hid fa
  have HLA := Lib.hid (light_of la)
  have HLB := Lib.hid (light_of lb)
  obtain ⟨hpA, hpB, hn0, hn4, hterms, hcount, hrest⟩ := valid_parts (a := ((a_s, a_p, a_n, (a_v0, a_l0), (a_v1, a_l1), (a_v2, a_l2), (a_v3, a_l3)) : Atm)) (by simpa using ka)
  obtain ⟨n, hn⟩ : ∃ n, Hid (n = countA ((a_s, a_p, a_n, (a_v0, a_l0), (a_v1, a_l1), (a_v2, a_l2), (a_v3, a_l3)) : Atm)) := ⟨_, rfl⟩
  have hN : Hid (a_n = (n : Int)) := by
    show _ = _
    rw [hn.out]; exact hcount.symm
  have hn4' : n ≤ 4 := by rw [hn.out]; exact countA_le _
  clear hpA hpB hn0 hn4 hterms hcount hrest
  have HFB := Lib.hid fb
  clear fa fb
  go_enter Tryd.func8, Tryd.ntmps8
  go_wp2_with (first
    | (go_at_call 18; refine (lives03_any _ hE).mono ?_; rintro e w1 ⟨rfl, hb⟩; replace hE := hE.next hb; replace hS := hS.trans hb; replace a_B := a_B.next hb; replace a_c0 := hb.cell a_c0; replace a_c1 := hb.cell a_c1; replace a_c2 := hb.cell a_c2; replace a_c3 := hb.cell a_c3; replace a_c4 := hb.cell a_c4; replace a_c5 := hb.cell a_c5; replace a_c6 := hb.cell a_c6; replace a_c7 := hb.cell a_c7; replace a_c8 := hb.cell a_c8; replace a_c9 := hb.cell a_c9; replace a_c10 := hb.cell a_c10; replace b_B := b_B.next hb; replace b_c0 := hb.cell b_c0; replace b_c1 := hb.cell b_c1; replace b_c2 := hb.cell b_c2; replace b_c3 := hb.cell b_c3; replace b_c4 := hb.cell b_c4; replace b_c5 := hb.cell b_c5; replace b_c6 := hb.cell b_c6; replace b_c7 := hb.cell b_c7; replace b_c8 := hb.cell b_c8; replace b_c9 := hb.cell b_c9; replace b_c10 := hb.cell b_c10)
    | (go_at_call 12; first | ((with_reducible refine (light_any a_s a_p a_n a_v0 a_v1 a_v2 a_v3 a_l0 a_l1 a_l2 a_l3 _).mono ?_); rintro e w1 ⟨rfl, hb⟩; rw [la]; replace hE := hE.next hb; replace hS := hS.trans hb; replace a_B := a_B.next hb; replace a_c0 := hb.cell a_c0; replace a_c1 := hb.cell a_c1; replace a_c2 := hb.cell a_c2; replace a_c3 := hb.cell a_c3; replace a_c4 := hb.cell a_c4; replace a_c5 := hb.cell a_c5; replace a_c6 := hb.cell a_c6; replace a_c7 := hb.cell a_c7; replace a_c8 := hb.cell a_c8; replace a_c9 := hb.cell a_c9; replace a_c10 := hb.cell a_c10; replace b_B := b_B.next hb; replace b_c0 := hb.cell b_c0; replace b_c1 := hb.cell b_c1; replace b_c2 := hb.cell b_c2; replace b_c3 := hb.cell b_c3; replace b_c4 := hb.cell b_c4; replace b_c5 := hb.cell b_c5; replace b_c6 := hb.cell b_c6; replace b_c7 := hb.cell b_c7; replace b_c8 := hb.cell b_c8; replace b_c9 := hb.cell b_c9; replace b_c10 := hb.cell b_c10) | ((with_reducible refine (light_any b_s b_p b_n b_v0 b_v1 b_v2 b_v3 b_l0 b_l1 b_l2 b_l3 _).mono ?_); rintro e w1 ⟨rfl, hb⟩; rw [lb]; replace hE := hE.next hb; replace hS := hS.trans hb; replace a_B := a_B.next hb; replace a_c0 := hb.cell a_c0; replace a_c1 := hb.cell a_c1; replace a_c2 := hb.cell a_c2; replace a_c3 := hb.cell a_c3; replace a_c4 := hb.cell a_c4; replace a_c5 := hb.cell a_c5; replace a_c6 := hb.cell a_c6; replace a_c7 := hb.cell a_c7; replace a_c8 := hb.cell a_c8; replace a_c9 := hb.cell a_c9; replace a_c10 := hb.cell a_c10; replace b_B := b_B.next hb; replace b_c0 := hb.cell b_c0; replace b_c1 := hb.cell b_c1; replace b_c2 := hb.cell b_c2; replace b_c3 := hb.cell b_c3; replace b_c4 := hb.cell b_c4; replace b_c5 := hb.cell b_c5; replace b_c6 := hb.cell b_c6; replace b_c7 := hb.cell b_c7; replace b_c8 := hb.cell b_c8; replace b_c9 := hb.cell b_c9; replace b_c10 := hb.cell b_c10))
    | (go_at_call 21; first | ((with_reducible refine (check_any a_s a_p a_n a_v0 a_v1 a_v2 a_v3 a_l0 a_l1 a_l2 a_l3 _ HFA.out hE).mono ?_); rintro e w1 ⟨rfl, hb⟩; replace hE := hE.next hb; replace hS := hS.trans hb; replace a_B := a_B.next hb; replace a_c0 := hb.cell a_c0; replace a_c1 := hb.cell a_c1; replace a_c2 := hb.cell a_c2; replace a_c3 := hb.cell a_c3; replace a_c4 := hb.cell a_c4; replace a_c5 := hb.cell a_c5; replace a_c6 := hb.cell a_c6; replace a_c7 := hb.cell a_c7; replace a_c8 := hb.cell a_c8; replace a_c9 := hb.cell a_c9; replace a_c10 := hb.cell a_c10; replace b_B := b_B.next hb; replace b_c0 := hb.cell b_c0; replace b_c1 := hb.cell b_c1; replace b_c2 := hb.cell b_c2; replace b_c3 := hb.cell b_c3; replace b_c4 := hb.cell b_c4; replace b_c5 := hb.cell b_c5; replace b_c6 := hb.cell b_c6; replace b_c7 := hb.cell b_c7; replace b_c8 := hb.cell b_c8; replace b_c9 := hb.cell b_c9; replace b_c10 := hb.cell b_c10) | ((with_reducible refine (check_any b_s b_p b_n b_v0 b_v1 b_v2 b_v3 b_l0 b_l1 b_l2 b_l3 _ HFB.out hE).mono ?_); rintro e w1 ⟨rfl, hb⟩; replace hE := hE.next hb; replace hS := hS.trans hb; replace a_B := a_B.next hb; replace a_c0 := hb.cell a_c0; replace a_c1 := hb.cell a_c1; replace a_c2 := hb.cell a_c2; replace a_c3 := hb.cell a_c3; replace a_c4 := hb.cell a_c4; replace a_c5 := hb.cell a_c5; replace a_c6 := hb.cell a_c6; replace a_c7 := hb.cell a_c7; replace a_c8 := hb.cell a_c8; replace a_c9 := hb.cell a_c9; replace a_c10 := hb.cell a_c10; replace b_B := b_B.next hb; replace b_c0 := hb.cell b_c0; replace b_c1 := hb.cell b_c1; replace b_c2 := hb.cell b_c2; replace b_c3 := hb.cell b_c3; replace b_c4 := hb.cell b_c4; replace b_c5 := hb.cell b_c5; replace b_c6 := hb.cell b_c6; replace b_c7 := hb.cell b_c7; replace b_c8 := hb.cell b_c8; replace b_c9 := hb.cell b_c9; replace b_c10 := hb.cell b_c10)))
  clear hb
  go_region_held3 (fun w' => w'.cell? ⟨w.heap.size, 0, none⟩ = some (.string ⟨a_s.toArray⟩) ∧ w'.cell? ⟨w.heap.size, 1, none⟩ = some (.string ⟨a_p.toArray⟩) ∧ w'.cell? ⟨w.heap.size, 2, none⟩ = some (.int .i64 a_n) ∧ w'.cell? ⟨w.heap.size, 3, none⟩ = some (.bool a_v0) ∧ w'.cell? ⟨w.heap.size, 4, none⟩ = some (.string ⟨a_l0.toArray⟩) ∧ w'.cell? ⟨w.heap.size, 5, none⟩ = some (.bool a_v1) ∧ w'.cell? ⟨w.heap.size, 6, none⟩ = some (.string ⟨a_l1.toArray⟩) ∧ w'.cell? ⟨w.heap.size, 7, none⟩ = some (.bool a_v2) ∧ w'.cell? ⟨w.heap.size, 8, none⟩ = some (.string ⟨a_l2.toArray⟩) ∧ w'.cell? ⟨w.heap.size, 9, none⟩ = some (.bool a_v3) ∧ w'.cell? ⟨w.heap.size, 10, none⟩ = some (.string ⟨a_l3.toArray⟩)) (first | (refine ⟨?_, ?_, ?_, ?_, ?_, ?_, ?_, ?_, ?_, ?_, ?_⟩ <;> assumption) | (go_split_ands; refine ⟨?_, ?_, ?_, ?_, ?_, ?_, ?_, ?_, ?_, ?_, ?_⟩ <;> (refine Since.cell hb ?_; assumption)))
    (first
      | (go_at_call 24; ((with_reducible refine (vars_any a_s a_p a_n a_v0 a_v1 a_v2 a_v3 a_l0 a_l1 a_l2 a_l3 _).mono ?_); rintro e w2 ⟨v1, rfl, hown1, hb⟩; have hq1 := hb))
      | (go_at_call 30; ((with_reducible refine (consts_any a_s a_p a_n a_v0 a_v1 a_v2 a_v3 a_l0 a_l1 a_l2 a_l3 _).mono ?_); rintro e w3 ⟨v2, rfl, hown2, hb⟩; have hq2 := hb)))
  go_wp2_with fail
  have hS3 : Since w w3 := (hS.drew.trans hq1).trans hq2
  have HA3 : Box w3 w.heap.size ((a_s, a_p, a_n, (a_v0, a_l0), (a_v1, a_l1), (a_v2, a_l2), (a_v3, a_l3)) : Atm) := ((a_B.next ((Since.refl _).drew)).next hq1).next hq2
  have HB3 : Box w3 (w.heap.size + 1) ((b_s, b_p, b_n, (b_v0, b_l0), (b_v1, b_l1), (b_v2, b_l2), (b_v3, b_l3)) : Atm) := ((b_B.next ((Since.refl _).drew)).next hq1).next hq2
  have hE3 : Env w3 := ((hE.next ((Since.refl _).drew)).next hq1).next hq2
  have hR1 := (row_of_own hown1).next hq2
  have hR2 := row_of_own hown2
  clear hown1 hown2 hq1 hq2 a_c0 a_c1 a_c2 a_c3 a_c4 a_c5 a_c6 a_c7 a_c8 a_c9 a_c10 b_c0 b_c1 b_c2 b_c3 b_c4 b_c5 b_c6 b_c7 b_c8 b_c9 b_c10 a_B b_B hS hE
  obtain ⟨V, hV⟩ : ∃ V, Hid (V = namesA ((a_s, a_p, a_n, (a_v0, a_l0), (a_v1, a_l1), (a_v2, a_l2), (a_v3, a_l3)) : Atm) true) := ⟨_, rfl⟩
  obtain ⟨C, hC⟩ : ∃ C, Hid (C = namesA ((a_s, a_p, a_n, (a_v0, a_l0), (a_v1, a_l1), (a_v2, a_l2), (a_v3, a_l3)) : Atm) false) := ⟨_, rfl⟩
  rw [← hV.out] at hR1
  rw [← hC.out] at hR2
  obtain ⟨a1, c1, rfl⟩ := hR1.len
  obtain ⟨a2, c2, rfl⟩ := hR2.len
  obtain ⟨L, hL⟩ : ∃ L, Hid (L = argsL ((a_s, a_p, a_n, (a_v0, a_l0), (a_v1, a_l1), (a_v2, a_l2), (a_v3, a_l3)) : Atm)) := ⟨argsL ((a_s, a_p, a_n, (a_v0, a_l0), (a_v1, a_l1), (a_v2, a_l2), (a_v3, a_l3)) : Atm), rfl⟩
  have hl4 : Hid (L.length = 4) := by show _ = _; rw [hL.out]; rfl
  have hT1 : Hid (∀ k, (h : k < L.length) → k < n → L[k].1 = true → V.count L[k].2 = 1) := by
    intro k h hk ht
    have := names_has ((a_s, a_p, a_n, (a_v0, a_l0), (a_v1, a_l1), (a_v2, a_l2), (a_v3, a_l3)) : Atm) (t := L[k]) (by
      have e : termsA ((a_s, a_p, a_n, (a_v0, a_l0), (a_v1, a_l1), (a_v2, a_l2), (a_v3, a_l3)) : Atm) = L.take n := by rw [hL.out, hn.out]; rfl
      rw [e, List.mem_take_iff_getElem]
      exact ⟨k, by omega, rfl⟩)
    rw [ht, ← hV.out] at this; exact this
  have hT2 : Hid (∀ k, (h : k < L.length) → k < n → L[k].1 = false → C.count L[k].2 = 1) := by
    intro k h hk ht
    have := names_has ((a_s, a_p, a_n, (a_v0, a_l0), (a_v1, a_l1), (a_v2, a_l2), (a_v3, a_l3)) : Atm) (t := L[k]) (by
      have e : termsA ((a_s, a_p, a_n, (a_v0, a_l0), (a_v1, a_l1), (a_v2, a_l2), (a_v3, a_l3)) : Atm) = L.take n := by rw [hL.out, hn.out]; rfl
      rw [e, List.mem_take_iff_getElem]
      exact ⟨k, by omega, rfl⟩)
    rw [ht, ← hC.out] at this; exact this
  have hlen : V.length + C.length ≤ n := by
    have := names_len ((a_s, a_p, a_n, (a_v0, a_l0), (a_v1, a_l1), (a_v2, a_l2), (a_v3, a_l3)) : Atm)
    rw [← hV.out, ← hC.out, ← hn.out] at this; exact this
  have hargs := HA3.args
  rw [← hL.out] at hargs
  have hcn := HA3.n
  rw [show (((a_s, a_p, a_n, (a_v0, a_l0), (a_v1, a_l1), (a_v2, a_l2), (a_v3, a_l3)) : Atm)).2.2.1 = (n : Int) from hN.out] at hcn
  have HCN := Lib.hid hcn
  clear hcn
  go_loopw [7, 8, 9, 10] (fun inn i _ _ wr => ∃ k : Nat, k ≤ n ∧ i = .int .i64 k ∧ inn = .int .i64 k ∧ Since w3 wr) (fun _ i _ _ _ => n - (intOf i).toNat)
  case atStart => exact ⟨0, Nat.zero_le _, rfl, rfl, Since.refl _⟩
  case round =>
    obtain ⟨k, hk, rfl, rfl, hSr⟩ := hrel
    have d2 := hSr.cell HCN.out
    by_cases hlt : k < n
    · have hkL : k < L.length := by rw [hl4.out]; omega
      obtain ⟨d3, d4⟩ := (hargs.next hSr).2 k hkL
      have g1 := hT1.out k hkL hlt
      have g2 := hT2.out k hkL hlt
      have hk4 : (k : Int) < 4 := by omega
      generalize L[k] = t at *
      obtain ⟨tv, tl⟩ := t
      cases tv
      · have hcnt : C.count tl = 1 := g2 rfl
        have hpos : 0 < C.length := by
          have := List.count_le_length (a := tl) (l := C)
          omega
        have HCNT := Lib.hid hcnt
        clear g1 g2 hcnt
        obtain ⟨b2, o2, c2', e2, hc2, hcell2⟩ := (hR2.next hSr).some hpos
        injection e2 with e2 _ e2'
        subst e2 e2'
        have HCELL := Lib.hid hcell2
        clear hcell2
        go_wp2
        go_loopw [7, 10] (fun inn q wq => ∃ j : Nat, j ≤ C.length ∧ q = .int .i64 j ∧ inn = .int .i64 ((k : Int) + ((C.take j).count tl : Nat)) ∧ Since wr wq) (fun _ q _ => C.length - (intOf q).toNat)
        case atStart => exact ⟨0, Nat.zero_le _, rfl, by go_num, Since.refl _⟩
        case round =>
          obtain ⟨j, hj, rfl, rfl, hSq⟩ := hrel
          have hcl := List.count_le_length (a := tl) (l := C.take j)
          have hcl2 : (C.take j).length ≤ 4 := by rw [List.length_take]; omega
          by_cases hjl : j < C.length
          · have f1 := hSq.cell (HCELL.out j (by simpa using hjl))
            have f2 := hSq.cell d4
            have hst : (C.take (j + 1)).count tl = (C.take j).count tl + if C[j] == tl then 1 else 0 := by
              rw [List.take_succ_eq_append_getElem hjl, List.count_append, List.count_singleton]
            have HST := Lib.hid hst
            clear hst
            have hj0 : (0 : Int) ≤ (j : Int) := by omega
            have hj1 : (j : Int) < (C.length : Int) := by omega
            simp only [List.getElem_map, strV] at f1
            generalize C[j] = x at *
            generalize (C.take j).count tl = q at *
            cases he : (x == tl)
            · go_wp2_with fail
              go_quiet (fail)
              go_wp2_with fail
              go_roundw
              case rel => exact ⟨j + 1, by omega, by go_num, by rw [HST.out, he]; go_num, hSq.drewN _⟩
              case measure => simp [intOf]; omega
            · have hx : x = tl := by simpa using he
              subst hx
              clear he
              go_wp2_with fail
              go_quiet (fail)
              go_wp2_with fail
              go_roundw
              case rel => exact ⟨j + 1, by omega, by go_num, by rw [HST.out, beq_self_eq_true]; go_num, hSq.drewN _⟩
              case measure => simp [intOf]; omega
          · have hq1 : (C.take j).count tl = 1 := by rw [List.take_of_length_le (by omega)]; exact HCNT.out
            rw [hq1]
            clear hq1
            go_wp2_with fail
            go_roundw
            case rel => exact ⟨k + 1, by omega, by go_num, by go_num, hSr.trans hSq⟩
            case measure => simp [intOf]; omega
      · have hcnt : V.count tl = 1 := g1 rfl
        have hpos : 0 < V.length := by
          have := List.count_le_length (a := tl) (l := V)
          omega
        have HCNT := Lib.hid hcnt
        clear g1 g2 hcnt
        obtain ⟨b1, o1, c1', e1, hc1, hcell1⟩ := (hR1.next hSr).some hpos
        injection e1 with e1 _ e1'
        subst e1 e1'
        have HCELL := Lib.hid hcell1
        clear hcell1
        go_wp2
        go_loopw [7, 10] (fun inn q wq => ∃ j : Nat, j ≤ V.length ∧ q = .int .i64 j ∧ inn = .int .i64 ((k : Int) + ((V.take j).count tl : Nat)) ∧ Since wr wq) (fun _ q _ => V.length - (intOf q).toNat)
        case atStart => exact ⟨0, Nat.zero_le _, rfl, by go_num, Since.refl _⟩
        case round =>
          obtain ⟨j, hj, rfl, rfl, hSq⟩ := hrel
          have hcl := List.count_le_length (a := tl) (l := V.take j)
          have hcl2 : (V.take j).length ≤ 4 := by rw [List.length_take]; omega
          by_cases hjl : j < V.length
          · have f1 := hSq.cell (HCELL.out j (by simpa using hjl))
            have f2 := hSq.cell d4
            have hst : (V.take (j + 1)).count tl = (V.take j).count tl + if V[j] == tl then 1 else 0 := by
              rw [List.take_succ_eq_append_getElem hjl, List.count_append, List.count_singleton]
            have HST := Lib.hid hst
            clear hst
            have hj0 : (0 : Int) ≤ (j : Int) := by omega
            have hj1 : (j : Int) < (V.length : Int) := by omega
            simp only [List.getElem_map, strV] at f1
            generalize V[j] = x at *
            generalize (V.take j).count tl = q at *
            cases he : (x == tl)
            · go_wp2_with fail
              go_quiet (fail)
              go_wp2_with fail
              go_roundw
              case rel => exact ⟨j + 1, by omega, by go_num, by rw [HST.out, he]; go_num, hSq.drewN _⟩
              case measure => simp [intOf]; omega
            · have hx : x = tl := by simpa using he
              subst hx
              clear he
              go_wp2_with fail
              go_quiet (fail)
              go_wp2_with fail
              go_roundw
              case rel => exact ⟨j + 1, by omega, by go_num, by rw [HST.out, beq_self_eq_true]; go_num, hSq.drewN _⟩
              case measure => simp [intOf]; omega
          · have hq1 : (V.take j).count tl = 1 := by rw [List.take_of_length_le (by omega)]; exact HCNT.out
            rw [hq1]
            clear hq1
            go_wp2_with fail
            go_roundw
            case rel => exact ⟨k + 1, by omega, by go_num, by go_num, hSr.trans hSq⟩
            case measure => simp [intOf]; omega
    · obtain rfl : k = n := by omega
      go_wp2_with fail
      have hSw := hS3.trans hSr
      have HAr := HA3.next hSr
      have HBr := HB3.next hSr
      have hEr := hE3.next hSr
      clear hargs hT1 hT2 HCN hSr hk hlt HA3 HB3 hE3 hS3 hL hl4 hR1 hR2
      obtain ⟨a_c0, a_c1, a_c2, a_c3, a_c4, a_c5, a_c6, a_c7, a_c8, a_c9, a_c10⟩ := HAr.all
      obtain ⟨b_c0, b_c1, b_c2, b_c3, b_c4, b_c5, b_c6, b_c7, b_c8, b_c9, b_c10⟩ := HBr.all
      clear HAr HBr d2
      have hEN : a_n = (k : Int) := hN.out
      have t1 : ((k : Int) == a_n) = true := by rw [hEN]; simp
      have t2 : decide ((V.length : Int) + (C.length : Int) ≤ a_n) = true := decide_eq_true (by omega)
      have hV4 : V.length ≤ 4 := by omega
      have hC4 : C.length ≤ 4 := by omega
      clear hEN
      obtain ⟨X, hX⟩ : ∃ X, Hid (X = textA ((a_s, a_p, a_n, (a_v0, a_l0), (a_v1, a_l1), (a_v2, a_l2), (a_v3, a_l3)) : Atm)) := ⟨_, rfl⟩
      obtain ⟨Y, hY⟩ : ∃ Y, Hid (Y = textA ((b_s, b_p, b_n, (b_v0, b_l0), (b_v1, b_l1), (b_v2, b_l2), (b_v3, b_l3)) : Atm)) := ⟨_, rfl⟩
      have HTA : Hid (∀ W, Calls Tryd.prog 23 #[.agg #[.string ⟨a_s.toArray⟩, .string ⟨a_p.toArray⟩, .int .i64 a_n, .bool a_v0, .string ⟨a_l0.toArray⟩, .bool a_v1, .string ⟨a_l1.toArray⟩, .bool a_v2, .string ⟨a_l2.toArray⟩, .bool a_v3, .string ⟨a_l3.toArray⟩]] W fun e w' => e = .returned (.string ⟨X.toArray⟩) ∧ Since W w') := by
        intro W; rw [hX.out]; exact text_any a_s a_p a_n a_v0 a_v1 a_v2 a_v3 a_l0 a_l1 a_l2 a_l3 W HLA.out
      have HTB : Hid (∀ W, Calls Tryd.prog 23 #[.agg #[.string ⟨b_s.toArray⟩, .string ⟨b_p.toArray⟩, .int .i64 b_n, .bool b_v0, .string ⟨b_l0.toArray⟩, .bool b_v1, .string ⟨b_l1.toArray⟩, .bool b_v2, .string ⟨b_l2.toArray⟩, .bool b_v3, .string ⟨b_l3.toArray⟩]] W fun e w' => e = .returned (.string ⟨Y.toArray⟩) ∧ Since W w') := by
        intro W; rw [hY.out]; exact text_any b_s b_p b_n b_v0 b_v1 b_v2 b_v3 b_l0 b_l1 b_l2 b_l3 W HLB.out
      have HG : Hid (∀ W, Env W → Calls Tryd.prog 28 #[.agg #[.string ⟨a_s.toArray⟩, .string ⟨a_p.toArray⟩, .int .i64 a_n, .bool a_v0, .string ⟨a_l0.toArray⟩, .bool a_v1, .string ⟨a_l1.toArray⟩, .bool a_v2, .string ⟨a_l2.toArray⟩, .bool a_v3, .string ⟨a_l3.toArray⟩]] W fun e w' => e = .returned (.bool ((V.length : Int) == 0)) ∧ Since W w') := by
        intro W hW
        have h := ground_any a_s a_p a_n a_v0 a_v1 a_v2 a_v3 a_l0 a_l1 a_l2 a_l3 W HFA.out hW
        rw [ground_names, ← hV.out] at h
        have e : ((V.length : Int) == 0) = (V.length == 0) := by rw [Bool.eq_iff_iff]; simp
        rw [e]; exact h
      have hXY : eqA ((a_s, a_p, a_n, (a_v0, a_l0), (a_v1, a_l1), (a_v2, a_l2), (a_v3, a_l3)) : Atm) ((b_s, b_p, b_n, (b_v0, b_l0), (b_v1, b_l1), (b_v2, b_l2), (b_v3, b_l3)) : Atm) = true → X = Y := by
        intro h; rw [hX.out, hY.out, eqA_iff.1 h]
      have hXY2 : eqA ((a_s, a_p, a_n, (a_v0, a_l0), (a_v1, a_l1), (a_v2, a_l2), (a_v3, a_l3)) : Atm) ((b_s, b_p, b_n, (b_v0, b_l0), (b_v1, b_l1), (b_v2, b_l2), (b_v3, b_l3)) : Atm) = false → (X == Y) = false := by
        intro h
        rw [beq_eq_false_iff_ne]
        intro e
        rw [hX.out, hY.out] at e
        have := text_inj (by simpa using ka) (by simpa using kb) e
        rw [this, eqA_self] at h; cases h
      have hw1 : w.heap.size < wr.heap.size := World.block_lt_of_cell? wr _ a_c0
      have hw2 : w.heap.size + 1 < wr.heap.size := World.block_lt_of_cell? wr _ b_c0
      cases hq : eqA ((a_s, a_p, a_n, (a_v0, a_l0), (a_v1, a_l1), (a_v2, a_l2), (a_v3, a_l3)) : Atm) ((b_s, b_p, b_n, (b_v0, b_l0), (b_v1, b_l1), (b_v2, b_l2), (b_v3, b_l3)) : Atm)
      all_goals
        have hXY' := hXY
        have hXY2' := hXY2
        rw [hq] at hXY' hXY2'
        clear hXY hXY2
        first
          | (have e := hXY' rfl; subst e)
          | (have e := hXY2' rfl)
        clear hXY' hXY2'
        go_region_held3 (fun w' => (w'.cell? ⟨w.heap.size, 0, none⟩ = some (.string ⟨a_s.toArray⟩) ∧ w'.cell? ⟨w.heap.size, 1, none⟩ = some (.string ⟨a_p.toArray⟩) ∧ w'.cell? ⟨w.heap.size, 2, none⟩ = some (.int .i64 a_n) ∧ w'.cell? ⟨w.heap.size, 3, none⟩ = some (.bool a_v0) ∧ w'.cell? ⟨w.heap.size, 4, none⟩ = some (.string ⟨a_l0.toArray⟩) ∧ w'.cell? ⟨w.heap.size, 5, none⟩ = some (.bool a_v1) ∧ w'.cell? ⟨w.heap.size, 6, none⟩ = some (.string ⟨a_l1.toArray⟩) ∧ w'.cell? ⟨w.heap.size, 7, none⟩ = some (.bool a_v2) ∧ w'.cell? ⟨w.heap.size, 8, none⟩ = some (.string ⟨a_l2.toArray⟩) ∧ w'.cell? ⟨w.heap.size, 9, none⟩ = some (.bool a_v3) ∧ w'.cell? ⟨w.heap.size, 10, none⟩ = some (.string ⟨a_l3.toArray⟩)) ∧ (w'.cell? ⟨w.heap.size + 1, 0, none⟩ = some (.string ⟨b_s.toArray⟩) ∧ w'.cell? ⟨w.heap.size + 1, 1, none⟩ = some (.string ⟨b_p.toArray⟩) ∧ w'.cell? ⟨w.heap.size + 1, 2, none⟩ = some (.int .i64 b_n) ∧ w'.cell? ⟨w.heap.size + 1, 3, none⟩ = some (.bool b_v0) ∧ w'.cell? ⟨w.heap.size + 1, 4, none⟩ = some (.string ⟨b_l0.toArray⟩) ∧ w'.cell? ⟨w.heap.size + 1, 5, none⟩ = some (.bool b_v1) ∧ w'.cell? ⟨w.heap.size + 1, 6, none⟩ = some (.string ⟨b_l1.toArray⟩) ∧ w'.cell? ⟨w.heap.size + 1, 7, none⟩ = some (.bool b_v2) ∧ w'.cell? ⟨w.heap.size + 1, 8, none⟩ = some (.string ⟨b_l2.toArray⟩) ∧ w'.cell? ⟨w.heap.size + 1, 9, none⟩ = some (.bool b_v3) ∧ w'.cell? ⟨w.heap.size + 1, 10, none⟩ = some (.string ⟨b_l3.toArray⟩)) ∧ Env w' ∧ Since w w')
          (first | ((refine ⟨⟨?_, ?_, ?_, ?_, ?_, ?_, ?_, ?_, ?_, ?_, ?_⟩, ⟨?_, ?_, ?_, ?_, ?_, ?_, ?_, ?_, ?_, ?_, ?_⟩, ?_, ?_⟩) <;> (first | assumption | (refine Since.drew ?_; assumption))) | (go_split_ands; (refine ⟨⟨?_, ?_, ?_, ?_, ?_, ?_, ?_, ?_, ?_, ?_, ?_⟩, ⟨?_, ?_, ?_, ?_, ?_, ?_, ?_, ?_, ?_, ?_, ?_⟩, ?_, ?_⟩) <;> first | (refine Since.cell hb ?_; assumption) | (refine Env.next ?_ hb; assumption) | (refine Since.trans ?_ hb; assumption)))
          (first
            | (go_at_call 23; first | ((with_reducible refine (HTA.out _).mono ?_); rintro e w5 ⟨rfl, hb⟩) | ((with_reducible refine (HTB.out _).mono ?_); rintro e w5 ⟨rfl, hb⟩))
            | (go_at_call 28; ((with_reducible refine (HG.out _ (by go_split_ands; assumption)).mono ?_); rintro e w5 ⟨rfl, hb⟩)))
        all_goals go_wp2_with fail
        all_goals go_ret
        all_goals go_split_ands
        all_goals refine ⟨ret_bool ?_, ?_⟩
        all_goals first | assumption | rfl | (rw [IntWalk.i64_in _ (by omega)]; exact t2)

set_option maxHeartbeats 2000000 in
set_option maxRecDepth 100000 in
theorem apart_walk (a_s a_p : List UInt8) (a_n : Int) (a_v0 a_v1 a_v2 a_v3 : Bool) (a_l0 a_l1 a_l2 a_l3 : List UInt8) (b_s b_p : List UInt8) (b_n : Int) (b_v0 b_v1 b_v2 b_v3 : Bool) (b_l0 b_l1 b_l2 b_l3 : List UInt8) (w : World) (hE : Env w) (fa : FitsA ((a_s, a_p, a_n, (a_v0, a_l0), (a_v1, a_l1), (a_v2, a_l2), (a_v3, a_l3)) : Atm)) (fb : FitsA ((b_s, b_p, b_n, (b_v0, b_l0), (b_v1, b_l1), (b_v2, b_l2), (b_v3, b_l3)) : Atm)) :
    Calls Tryd.prog 8 #[.agg #[.string ⟨a_s.toArray⟩, .string ⟨a_p.toArray⟩, .int .i64 a_n, .bool a_v0, .string ⟨a_l0.toArray⟩, .bool a_v1, .string ⟨a_l1.toArray⟩, .bool a_v2, .string ⟨a_l2.toArray⟩, .bool a_v3, .string ⟨a_l3.toArray⟩], .agg #[.string ⟨b_s.toArray⟩, .string ⟨b_p.toArray⟩, .int .i64 b_n, .bool b_v0, .string ⟨b_l0.toArray⟩, .bool b_v1, .string ⟨b_l1.toArray⟩, .bool b_v2, .string ⟨b_l2.toArray⟩, .bool b_v3, .string ⟨b_l3.toArray⟩]] w fun e w' => e = .returned (.bool true) ∧ Since w w' := by
  cases la : lightB ((a_s, a_p, a_n, (a_v0, a_l0), (a_v1, a_l1), (a_v2, a_l2), (a_v3, a_l3)) : Atm)
  case true =>
    cases lb : lightB ((b_s, b_p, b_n, (b_v0, b_l0), (b_v1, b_l1), (b_v2, b_l2), (b_v3, b_l3)) : Atm)
    case true =>
      cases ka : (checkA ((a_s, a_p, a_n, (a_v0, a_l0), (a_v1, a_l1), (a_v2, a_l2), (a_v3, a_l3)) : Atm) != 0)
      case false =>
        cases kb : (checkA ((b_s, b_p, b_n, (b_v0, b_l0), (b_v1, b_l1), (b_v2, b_l2), (b_v3, b_l3)) : Atm) != 0)
        case false => exact apart_main a_s a_p a_n a_v0 a_v1 a_v2 a_v3 a_l0 a_l1 a_l2 a_l3 b_s b_p b_n b_v0 b_v1 b_v2 b_v3 b_l0 b_l1 b_l2 b_l3 w hE fa fb la lb ka kb
        all_goals
          have hS : Since w ((w.alloc (.cells #[.string ⟨a_s.toArray⟩, .string ⟨a_p.toArray⟩, .int .i64 a_n, .bool a_v0, .string ⟨a_l0.toArray⟩, .bool a_v1, .string ⟨a_l1.toArray⟩, .bool a_v2, .string ⟨a_l2.toArray⟩, .bool a_v3, .string ⟨a_l3.toArray⟩] 26)).alloc (.cells #[.string ⟨b_s.toArray⟩, .string ⟨b_p.toArray⟩, .int .i64 b_n, .bool b_v0, .string ⟨b_l0.toArray⟩, .bool b_v1, .string ⟨b_l1.toArray⟩, .bool b_v2, .string ⟨b_l2.toArray⟩, .bool b_v3, .string ⟨b_l3.toArray⟩] 26)) := ((Since.refl _).alloc _).alloc _
          have a_B : Box ((w.alloc (.cells #[.string ⟨a_s.toArray⟩, .string ⟨a_p.toArray⟩, .int .i64 a_n, .bool a_v0, .string ⟨a_l0.toArray⟩, .bool a_v1, .string ⟨a_l1.toArray⟩, .bool a_v2, .string ⟨a_l2.toArray⟩, .bool a_v3, .string ⟨a_l3.toArray⟩] 26)).alloc (.cells #[.string ⟨b_s.toArray⟩, .string ⟨b_p.toArray⟩, .int .i64 b_n, .bool b_v0, .string ⟨b_l0.toArray⟩, .bool b_v1, .string ⟨b_l1.toArray⟩, .bool b_v2, .string ⟨b_l2.toArray⟩, .bool b_v3, .string ⟨b_l3.toArray⟩] 26)) w.heap.size ((a_s, a_p, a_n, (a_v0, a_l0), (a_v1, a_l1), (a_v2, a_l2), (a_v3, a_l3)) : Atm) := (box_new w ((a_s, a_p, a_n, (a_v0, a_l0), (a_v1, a_l1), (a_v2, a_l2), (a_v3, a_l3)) : Atm) _).next ((Since.refl _).alloc _)
          have b_B : Box ((w.alloc (.cells #[.string ⟨a_s.toArray⟩, .string ⟨a_p.toArray⟩, .int .i64 a_n, .bool a_v0, .string ⟨a_l0.toArray⟩, .bool a_v1, .string ⟨a_l1.toArray⟩, .bool a_v2, .string ⟨a_l2.toArray⟩, .bool a_v3, .string ⟨a_l3.toArray⟩] 26)).alloc (.cells #[.string ⟨b_s.toArray⟩, .string ⟨b_p.toArray⟩, .int .i64 b_n, .bool b_v0, .string ⟨b_l0.toArray⟩, .bool b_v1, .string ⟨b_l1.toArray⟩, .bool b_v2, .string ⟨b_l2.toArray⟩, .bool b_v3, .string ⟨b_l3.toArray⟩] 26)) (w.heap.size + 1) ((b_s, b_p, b_n, (b_v0, b_l0), (b_v1, b_l1), (b_v2, b_l2), (b_v3, b_l3)) : Atm) := by
            have := box_new (w.alloc (.cells #[.string ⟨a_s.toArray⟩, .string ⟨a_p.toArray⟩, .int .i64 a_n, .bool a_v0, .string ⟨a_l0.toArray⟩, .bool a_v1, .string ⟨a_l1.toArray⟩, .bool a_v2, .string ⟨a_l2.toArray⟩, .bool a_v3, .string ⟨a_l3.toArray⟩] 26)) ((b_s, b_p, b_n, (b_v0, b_l0), (b_v1, b_l1), (b_v2, b_l2), (b_v3, b_l3)) : Atm) 26
            rwa [World.size_alloc] at this
          obtain ⟨a_c0, a_c1, a_c2, a_c3, a_c4, a_c5, a_c6, a_c7, a_c8, a_c9, a_c10⟩ := a_B.all
          obtain ⟨b_c0, b_c1, b_c2, b_c3, b_c4, b_c5, b_c6, b_c7, b_c8, b_c9, b_c10⟩ := b_B.all
          replace hE := hE.next hS
          have HFA := Lib.hid fa
          have HFB := Lib.hid fb
          clear fa fb
          go_enter Tryd.func8, Tryd.ntmps8
          go_wp2_with (first
            | (go_at_call 18; refine (lives03_any _ hE).mono ?_; rintro e w1 ⟨rfl, hb⟩; replace hE := hE.next hb; replace hS := hS.trans hb; replace a_B := a_B.next hb; replace a_c0 := hb.cell a_c0; replace a_c1 := hb.cell a_c1; replace a_c2 := hb.cell a_c2; replace a_c3 := hb.cell a_c3; replace a_c4 := hb.cell a_c4; replace a_c5 := hb.cell a_c5; replace a_c6 := hb.cell a_c6; replace a_c7 := hb.cell a_c7; replace a_c8 := hb.cell a_c8; replace a_c9 := hb.cell a_c9; replace a_c10 := hb.cell a_c10; replace b_B := b_B.next hb; replace b_c0 := hb.cell b_c0; replace b_c1 := hb.cell b_c1; replace b_c2 := hb.cell b_c2; replace b_c3 := hb.cell b_c3; replace b_c4 := hb.cell b_c4; replace b_c5 := hb.cell b_c5; replace b_c6 := hb.cell b_c6; replace b_c7 := hb.cell b_c7; replace b_c8 := hb.cell b_c8; replace b_c9 := hb.cell b_c9; replace b_c10 := hb.cell b_c10)
            | (go_at_call 12; first | ((with_reducible refine (light_any a_s a_p a_n a_v0 a_v1 a_v2 a_v3 a_l0 a_l1 a_l2 a_l3 _).mono ?_); rintro e w1 ⟨rfl, hb⟩; rw [la]; replace hE := hE.next hb; replace hS := hS.trans hb; replace a_B := a_B.next hb; replace a_c0 := hb.cell a_c0; replace a_c1 := hb.cell a_c1; replace a_c2 := hb.cell a_c2; replace a_c3 := hb.cell a_c3; replace a_c4 := hb.cell a_c4; replace a_c5 := hb.cell a_c5; replace a_c6 := hb.cell a_c6; replace a_c7 := hb.cell a_c7; replace a_c8 := hb.cell a_c8; replace a_c9 := hb.cell a_c9; replace a_c10 := hb.cell a_c10; replace b_B := b_B.next hb; replace b_c0 := hb.cell b_c0; replace b_c1 := hb.cell b_c1; replace b_c2 := hb.cell b_c2; replace b_c3 := hb.cell b_c3; replace b_c4 := hb.cell b_c4; replace b_c5 := hb.cell b_c5; replace b_c6 := hb.cell b_c6; replace b_c7 := hb.cell b_c7; replace b_c8 := hb.cell b_c8; replace b_c9 := hb.cell b_c9; replace b_c10 := hb.cell b_c10) | ((with_reducible refine (light_any b_s b_p b_n b_v0 b_v1 b_v2 b_v3 b_l0 b_l1 b_l2 b_l3 _).mono ?_); rintro e w1 ⟨rfl, hb⟩; rw [lb]; replace hE := hE.next hb; replace hS := hS.trans hb; replace a_B := a_B.next hb; replace a_c0 := hb.cell a_c0; replace a_c1 := hb.cell a_c1; replace a_c2 := hb.cell a_c2; replace a_c3 := hb.cell a_c3; replace a_c4 := hb.cell a_c4; replace a_c5 := hb.cell a_c5; replace a_c6 := hb.cell a_c6; replace a_c7 := hb.cell a_c7; replace a_c8 := hb.cell a_c8; replace a_c9 := hb.cell a_c9; replace a_c10 := hb.cell a_c10; replace b_B := b_B.next hb; replace b_c0 := hb.cell b_c0; replace b_c1 := hb.cell b_c1; replace b_c2 := hb.cell b_c2; replace b_c3 := hb.cell b_c3; replace b_c4 := hb.cell b_c4; replace b_c5 := hb.cell b_c5; replace b_c6 := hb.cell b_c6; replace b_c7 := hb.cell b_c7; replace b_c8 := hb.cell b_c8; replace b_c9 := hb.cell b_c9; replace b_c10 := hb.cell b_c10))
            | (go_at_call 21; first | ((with_reducible refine (check_any a_s a_p a_n a_v0 a_v1 a_v2 a_v3 a_l0 a_l1 a_l2 a_l3 _ HFA.out hE).mono ?_); rintro e w1 ⟨rfl, hb⟩; replace hE := hE.next hb; replace hS := hS.trans hb; replace a_B := a_B.next hb; replace a_c0 := hb.cell a_c0; replace a_c1 := hb.cell a_c1; replace a_c2 := hb.cell a_c2; replace a_c3 := hb.cell a_c3; replace a_c4 := hb.cell a_c4; replace a_c5 := hb.cell a_c5; replace a_c6 := hb.cell a_c6; replace a_c7 := hb.cell a_c7; replace a_c8 := hb.cell a_c8; replace a_c9 := hb.cell a_c9; replace a_c10 := hb.cell a_c10; replace b_B := b_B.next hb; replace b_c0 := hb.cell b_c0; replace b_c1 := hb.cell b_c1; replace b_c2 := hb.cell b_c2; replace b_c3 := hb.cell b_c3; replace b_c4 := hb.cell b_c4; replace b_c5 := hb.cell b_c5; replace b_c6 := hb.cell b_c6; replace b_c7 := hb.cell b_c7; replace b_c8 := hb.cell b_c8; replace b_c9 := hb.cell b_c9; replace b_c10 := hb.cell b_c10) | ((with_reducible refine (check_any b_s b_p b_n b_v0 b_v1 b_v2 b_v3 b_l0 b_l1 b_l2 b_l3 _ HFB.out hE).mono ?_); rintro e w1 ⟨rfl, hb⟩; replace hE := hE.next hb; replace hS := hS.trans hb; replace a_B := a_B.next hb; replace a_c0 := hb.cell a_c0; replace a_c1 := hb.cell a_c1; replace a_c2 := hb.cell a_c2; replace a_c3 := hb.cell a_c3; replace a_c4 := hb.cell a_c4; replace a_c5 := hb.cell a_c5; replace a_c6 := hb.cell a_c6; replace a_c7 := hb.cell a_c7; replace a_c8 := hb.cell a_c8; replace a_c9 := hb.cell a_c9; replace a_c10 := hb.cell a_c10; replace b_B := b_B.next hb; replace b_c0 := hb.cell b_c0; replace b_c1 := hb.cell b_c1; replace b_c2 := hb.cell b_c2; replace b_c3 := hb.cell b_c3; replace b_c4 := hb.cell b_c4; replace b_c5 := hb.cell b_c5; replace b_c6 := hb.cell b_c6; replace b_c7 := hb.cell b_c7; replace b_c8 := hb.cell b_c8; replace b_c9 := hb.cell b_c9; replace b_c10 := hb.cell b_c10)))
          go_ret
          exact ⟨rfl, hS⟩
      all_goals
        have hS : Since w ((w.alloc (.cells #[.string ⟨a_s.toArray⟩, .string ⟨a_p.toArray⟩, .int .i64 a_n, .bool a_v0, .string ⟨a_l0.toArray⟩, .bool a_v1, .string ⟨a_l1.toArray⟩, .bool a_v2, .string ⟨a_l2.toArray⟩, .bool a_v3, .string ⟨a_l3.toArray⟩] 26)).alloc (.cells #[.string ⟨b_s.toArray⟩, .string ⟨b_p.toArray⟩, .int .i64 b_n, .bool b_v0, .string ⟨b_l0.toArray⟩, .bool b_v1, .string ⟨b_l1.toArray⟩, .bool b_v2, .string ⟨b_l2.toArray⟩, .bool b_v3, .string ⟨b_l3.toArray⟩] 26)) := ((Since.refl _).alloc _).alloc _
        have a_B : Box ((w.alloc (.cells #[.string ⟨a_s.toArray⟩, .string ⟨a_p.toArray⟩, .int .i64 a_n, .bool a_v0, .string ⟨a_l0.toArray⟩, .bool a_v1, .string ⟨a_l1.toArray⟩, .bool a_v2, .string ⟨a_l2.toArray⟩, .bool a_v3, .string ⟨a_l3.toArray⟩] 26)).alloc (.cells #[.string ⟨b_s.toArray⟩, .string ⟨b_p.toArray⟩, .int .i64 b_n, .bool b_v0, .string ⟨b_l0.toArray⟩, .bool b_v1, .string ⟨b_l1.toArray⟩, .bool b_v2, .string ⟨b_l2.toArray⟩, .bool b_v3, .string ⟨b_l3.toArray⟩] 26)) w.heap.size ((a_s, a_p, a_n, (a_v0, a_l0), (a_v1, a_l1), (a_v2, a_l2), (a_v3, a_l3)) : Atm) := (box_new w ((a_s, a_p, a_n, (a_v0, a_l0), (a_v1, a_l1), (a_v2, a_l2), (a_v3, a_l3)) : Atm) _).next ((Since.refl _).alloc _)
        have b_B : Box ((w.alloc (.cells #[.string ⟨a_s.toArray⟩, .string ⟨a_p.toArray⟩, .int .i64 a_n, .bool a_v0, .string ⟨a_l0.toArray⟩, .bool a_v1, .string ⟨a_l1.toArray⟩, .bool a_v2, .string ⟨a_l2.toArray⟩, .bool a_v3, .string ⟨a_l3.toArray⟩] 26)).alloc (.cells #[.string ⟨b_s.toArray⟩, .string ⟨b_p.toArray⟩, .int .i64 b_n, .bool b_v0, .string ⟨b_l0.toArray⟩, .bool b_v1, .string ⟨b_l1.toArray⟩, .bool b_v2, .string ⟨b_l2.toArray⟩, .bool b_v3, .string ⟨b_l3.toArray⟩] 26)) (w.heap.size + 1) ((b_s, b_p, b_n, (b_v0, b_l0), (b_v1, b_l1), (b_v2, b_l2), (b_v3, b_l3)) : Atm) := by
          have := box_new (w.alloc (.cells #[.string ⟨a_s.toArray⟩, .string ⟨a_p.toArray⟩, .int .i64 a_n, .bool a_v0, .string ⟨a_l0.toArray⟩, .bool a_v1, .string ⟨a_l1.toArray⟩, .bool a_v2, .string ⟨a_l2.toArray⟩, .bool a_v3, .string ⟨a_l3.toArray⟩] 26)) ((b_s, b_p, b_n, (b_v0, b_l0), (b_v1, b_l1), (b_v2, b_l2), (b_v3, b_l3)) : Atm) 26
          rwa [World.size_alloc] at this
        obtain ⟨a_c0, a_c1, a_c2, a_c3, a_c4, a_c5, a_c6, a_c7, a_c8, a_c9, a_c10⟩ := a_B.all
        obtain ⟨b_c0, b_c1, b_c2, b_c3, b_c4, b_c5, b_c6, b_c7, b_c8, b_c9, b_c10⟩ := b_B.all
        replace hE := hE.next hS
        have HFA := Lib.hid fa
        have HFB := Lib.hid fb
        clear fa fb
        go_enter Tryd.func8, Tryd.ntmps8
        go_wp2_with (first
          | (go_at_call 18; refine (lives03_any _ hE).mono ?_; rintro e w1 ⟨rfl, hb⟩; replace hE := hE.next hb; replace hS := hS.trans hb; replace a_B := a_B.next hb; replace a_c0 := hb.cell a_c0; replace a_c1 := hb.cell a_c1; replace a_c2 := hb.cell a_c2; replace a_c3 := hb.cell a_c3; replace a_c4 := hb.cell a_c4; replace a_c5 := hb.cell a_c5; replace a_c6 := hb.cell a_c6; replace a_c7 := hb.cell a_c7; replace a_c8 := hb.cell a_c8; replace a_c9 := hb.cell a_c9; replace a_c10 := hb.cell a_c10; replace b_B := b_B.next hb; replace b_c0 := hb.cell b_c0; replace b_c1 := hb.cell b_c1; replace b_c2 := hb.cell b_c2; replace b_c3 := hb.cell b_c3; replace b_c4 := hb.cell b_c4; replace b_c5 := hb.cell b_c5; replace b_c6 := hb.cell b_c6; replace b_c7 := hb.cell b_c7; replace b_c8 := hb.cell b_c8; replace b_c9 := hb.cell b_c9; replace b_c10 := hb.cell b_c10)
          | (go_at_call 12; first | ((with_reducible refine (light_any a_s a_p a_n a_v0 a_v1 a_v2 a_v3 a_l0 a_l1 a_l2 a_l3 _).mono ?_); rintro e w1 ⟨rfl, hb⟩; rw [la]; replace hE := hE.next hb; replace hS := hS.trans hb; replace a_B := a_B.next hb; replace a_c0 := hb.cell a_c0; replace a_c1 := hb.cell a_c1; replace a_c2 := hb.cell a_c2; replace a_c3 := hb.cell a_c3; replace a_c4 := hb.cell a_c4; replace a_c5 := hb.cell a_c5; replace a_c6 := hb.cell a_c6; replace a_c7 := hb.cell a_c7; replace a_c8 := hb.cell a_c8; replace a_c9 := hb.cell a_c9; replace a_c10 := hb.cell a_c10; replace b_B := b_B.next hb; replace b_c0 := hb.cell b_c0; replace b_c1 := hb.cell b_c1; replace b_c2 := hb.cell b_c2; replace b_c3 := hb.cell b_c3; replace b_c4 := hb.cell b_c4; replace b_c5 := hb.cell b_c5; replace b_c6 := hb.cell b_c6; replace b_c7 := hb.cell b_c7; replace b_c8 := hb.cell b_c8; replace b_c9 := hb.cell b_c9; replace b_c10 := hb.cell b_c10) | ((with_reducible refine (light_any b_s b_p b_n b_v0 b_v1 b_v2 b_v3 b_l0 b_l1 b_l2 b_l3 _).mono ?_); rintro e w1 ⟨rfl, hb⟩; rw [lb]; replace hE := hE.next hb; replace hS := hS.trans hb; replace a_B := a_B.next hb; replace a_c0 := hb.cell a_c0; replace a_c1 := hb.cell a_c1; replace a_c2 := hb.cell a_c2; replace a_c3 := hb.cell a_c3; replace a_c4 := hb.cell a_c4; replace a_c5 := hb.cell a_c5; replace a_c6 := hb.cell a_c6; replace a_c7 := hb.cell a_c7; replace a_c8 := hb.cell a_c8; replace a_c9 := hb.cell a_c9; replace a_c10 := hb.cell a_c10; replace b_B := b_B.next hb; replace b_c0 := hb.cell b_c0; replace b_c1 := hb.cell b_c1; replace b_c2 := hb.cell b_c2; replace b_c3 := hb.cell b_c3; replace b_c4 := hb.cell b_c4; replace b_c5 := hb.cell b_c5; replace b_c6 := hb.cell b_c6; replace b_c7 := hb.cell b_c7; replace b_c8 := hb.cell b_c8; replace b_c9 := hb.cell b_c9; replace b_c10 := hb.cell b_c10))
          | (go_at_call 21; first | ((with_reducible refine (check_any a_s a_p a_n a_v0 a_v1 a_v2 a_v3 a_l0 a_l1 a_l2 a_l3 _ HFA.out hE).mono ?_); rintro e w1 ⟨rfl, hb⟩; replace hE := hE.next hb; replace hS := hS.trans hb; replace a_B := a_B.next hb; replace a_c0 := hb.cell a_c0; replace a_c1 := hb.cell a_c1; replace a_c2 := hb.cell a_c2; replace a_c3 := hb.cell a_c3; replace a_c4 := hb.cell a_c4; replace a_c5 := hb.cell a_c5; replace a_c6 := hb.cell a_c6; replace a_c7 := hb.cell a_c7; replace a_c8 := hb.cell a_c8; replace a_c9 := hb.cell a_c9; replace a_c10 := hb.cell a_c10; replace b_B := b_B.next hb; replace b_c0 := hb.cell b_c0; replace b_c1 := hb.cell b_c1; replace b_c2 := hb.cell b_c2; replace b_c3 := hb.cell b_c3; replace b_c4 := hb.cell b_c4; replace b_c5 := hb.cell b_c5; replace b_c6 := hb.cell b_c6; replace b_c7 := hb.cell b_c7; replace b_c8 := hb.cell b_c8; replace b_c9 := hb.cell b_c9; replace b_c10 := hb.cell b_c10) | ((with_reducible refine (check_any b_s b_p b_n b_v0 b_v1 b_v2 b_v3 b_l0 b_l1 b_l2 b_l3 _ HFB.out hE).mono ?_); rintro e w1 ⟨rfl, hb⟩; replace hE := hE.next hb; replace hS := hS.trans hb; replace a_B := a_B.next hb; replace a_c0 := hb.cell a_c0; replace a_c1 := hb.cell a_c1; replace a_c2 := hb.cell a_c2; replace a_c3 := hb.cell a_c3; replace a_c4 := hb.cell a_c4; replace a_c5 := hb.cell a_c5; replace a_c6 := hb.cell a_c6; replace a_c7 := hb.cell a_c7; replace a_c8 := hb.cell a_c8; replace a_c9 := hb.cell a_c9; replace a_c10 := hb.cell a_c10; replace b_B := b_B.next hb; replace b_c0 := hb.cell b_c0; replace b_c1 := hb.cell b_c1; replace b_c2 := hb.cell b_c2; replace b_c3 := hb.cell b_c3; replace b_c4 := hb.cell b_c4; replace b_c5 := hb.cell b_c5; replace b_c6 := hb.cell b_c6; replace b_c7 := hb.cell b_c7; replace b_c8 := hb.cell b_c8; replace b_c9 := hb.cell b_c9; replace b_c10 := hb.cell b_c10)))
        go_ret
        exact ⟨rfl, hS⟩
    all_goals
      have hS : Since w ((w.alloc (.cells #[.string ⟨a_s.toArray⟩, .string ⟨a_p.toArray⟩, .int .i64 a_n, .bool a_v0, .string ⟨a_l0.toArray⟩, .bool a_v1, .string ⟨a_l1.toArray⟩, .bool a_v2, .string ⟨a_l2.toArray⟩, .bool a_v3, .string ⟨a_l3.toArray⟩] 26)).alloc (.cells #[.string ⟨b_s.toArray⟩, .string ⟨b_p.toArray⟩, .int .i64 b_n, .bool b_v0, .string ⟨b_l0.toArray⟩, .bool b_v1, .string ⟨b_l1.toArray⟩, .bool b_v2, .string ⟨b_l2.toArray⟩, .bool b_v3, .string ⟨b_l3.toArray⟩] 26)) := ((Since.refl _).alloc _).alloc _
      have a_B : Box ((w.alloc (.cells #[.string ⟨a_s.toArray⟩, .string ⟨a_p.toArray⟩, .int .i64 a_n, .bool a_v0, .string ⟨a_l0.toArray⟩, .bool a_v1, .string ⟨a_l1.toArray⟩, .bool a_v2, .string ⟨a_l2.toArray⟩, .bool a_v3, .string ⟨a_l3.toArray⟩] 26)).alloc (.cells #[.string ⟨b_s.toArray⟩, .string ⟨b_p.toArray⟩, .int .i64 b_n, .bool b_v0, .string ⟨b_l0.toArray⟩, .bool b_v1, .string ⟨b_l1.toArray⟩, .bool b_v2, .string ⟨b_l2.toArray⟩, .bool b_v3, .string ⟨b_l3.toArray⟩] 26)) w.heap.size ((a_s, a_p, a_n, (a_v0, a_l0), (a_v1, a_l1), (a_v2, a_l2), (a_v3, a_l3)) : Atm) := (box_new w ((a_s, a_p, a_n, (a_v0, a_l0), (a_v1, a_l1), (a_v2, a_l2), (a_v3, a_l3)) : Atm) _).next ((Since.refl _).alloc _)
      have b_B : Box ((w.alloc (.cells #[.string ⟨a_s.toArray⟩, .string ⟨a_p.toArray⟩, .int .i64 a_n, .bool a_v0, .string ⟨a_l0.toArray⟩, .bool a_v1, .string ⟨a_l1.toArray⟩, .bool a_v2, .string ⟨a_l2.toArray⟩, .bool a_v3, .string ⟨a_l3.toArray⟩] 26)).alloc (.cells #[.string ⟨b_s.toArray⟩, .string ⟨b_p.toArray⟩, .int .i64 b_n, .bool b_v0, .string ⟨b_l0.toArray⟩, .bool b_v1, .string ⟨b_l1.toArray⟩, .bool b_v2, .string ⟨b_l2.toArray⟩, .bool b_v3, .string ⟨b_l3.toArray⟩] 26)) (w.heap.size + 1) ((b_s, b_p, b_n, (b_v0, b_l0), (b_v1, b_l1), (b_v2, b_l2), (b_v3, b_l3)) : Atm) := by
        have := box_new (w.alloc (.cells #[.string ⟨a_s.toArray⟩, .string ⟨a_p.toArray⟩, .int .i64 a_n, .bool a_v0, .string ⟨a_l0.toArray⟩, .bool a_v1, .string ⟨a_l1.toArray⟩, .bool a_v2, .string ⟨a_l2.toArray⟩, .bool a_v3, .string ⟨a_l3.toArray⟩] 26)) ((b_s, b_p, b_n, (b_v0, b_l0), (b_v1, b_l1), (b_v2, b_l2), (b_v3, b_l3)) : Atm) 26
        rwa [World.size_alloc] at this
      obtain ⟨a_c0, a_c1, a_c2, a_c3, a_c4, a_c5, a_c6, a_c7, a_c8, a_c9, a_c10⟩ := a_B.all
      obtain ⟨b_c0, b_c1, b_c2, b_c3, b_c4, b_c5, b_c6, b_c7, b_c8, b_c9, b_c10⟩ := b_B.all
      replace hE := hE.next hS
      have HFA := Lib.hid fa
      have HFB := Lib.hid fb
      clear fa fb
      go_enter Tryd.func8, Tryd.ntmps8
      go_wp2_with (first
        | (go_at_call 18; refine (lives03_any _ hE).mono ?_; rintro e w1 ⟨rfl, hb⟩; replace hE := hE.next hb; replace hS := hS.trans hb; replace a_B := a_B.next hb; replace a_c0 := hb.cell a_c0; replace a_c1 := hb.cell a_c1; replace a_c2 := hb.cell a_c2; replace a_c3 := hb.cell a_c3; replace a_c4 := hb.cell a_c4; replace a_c5 := hb.cell a_c5; replace a_c6 := hb.cell a_c6; replace a_c7 := hb.cell a_c7; replace a_c8 := hb.cell a_c8; replace a_c9 := hb.cell a_c9; replace a_c10 := hb.cell a_c10; replace b_B := b_B.next hb; replace b_c0 := hb.cell b_c0; replace b_c1 := hb.cell b_c1; replace b_c2 := hb.cell b_c2; replace b_c3 := hb.cell b_c3; replace b_c4 := hb.cell b_c4; replace b_c5 := hb.cell b_c5; replace b_c6 := hb.cell b_c6; replace b_c7 := hb.cell b_c7; replace b_c8 := hb.cell b_c8; replace b_c9 := hb.cell b_c9; replace b_c10 := hb.cell b_c10)
        | (go_at_call 12; first | ((with_reducible refine (light_any a_s a_p a_n a_v0 a_v1 a_v2 a_v3 a_l0 a_l1 a_l2 a_l3 _).mono ?_); rintro e w1 ⟨rfl, hb⟩; rw [la]; replace hE := hE.next hb; replace hS := hS.trans hb; replace a_B := a_B.next hb; replace a_c0 := hb.cell a_c0; replace a_c1 := hb.cell a_c1; replace a_c2 := hb.cell a_c2; replace a_c3 := hb.cell a_c3; replace a_c4 := hb.cell a_c4; replace a_c5 := hb.cell a_c5; replace a_c6 := hb.cell a_c6; replace a_c7 := hb.cell a_c7; replace a_c8 := hb.cell a_c8; replace a_c9 := hb.cell a_c9; replace a_c10 := hb.cell a_c10; replace b_B := b_B.next hb; replace b_c0 := hb.cell b_c0; replace b_c1 := hb.cell b_c1; replace b_c2 := hb.cell b_c2; replace b_c3 := hb.cell b_c3; replace b_c4 := hb.cell b_c4; replace b_c5 := hb.cell b_c5; replace b_c6 := hb.cell b_c6; replace b_c7 := hb.cell b_c7; replace b_c8 := hb.cell b_c8; replace b_c9 := hb.cell b_c9; replace b_c10 := hb.cell b_c10) | ((with_reducible refine (light_any b_s b_p b_n b_v0 b_v1 b_v2 b_v3 b_l0 b_l1 b_l2 b_l3 _).mono ?_); rintro e w1 ⟨rfl, hb⟩; rw [lb]; replace hE := hE.next hb; replace hS := hS.trans hb; replace a_B := a_B.next hb; replace a_c0 := hb.cell a_c0; replace a_c1 := hb.cell a_c1; replace a_c2 := hb.cell a_c2; replace a_c3 := hb.cell a_c3; replace a_c4 := hb.cell a_c4; replace a_c5 := hb.cell a_c5; replace a_c6 := hb.cell a_c6; replace a_c7 := hb.cell a_c7; replace a_c8 := hb.cell a_c8; replace a_c9 := hb.cell a_c9; replace a_c10 := hb.cell a_c10; replace b_B := b_B.next hb; replace b_c0 := hb.cell b_c0; replace b_c1 := hb.cell b_c1; replace b_c2 := hb.cell b_c2; replace b_c3 := hb.cell b_c3; replace b_c4 := hb.cell b_c4; replace b_c5 := hb.cell b_c5; replace b_c6 := hb.cell b_c6; replace b_c7 := hb.cell b_c7; replace b_c8 := hb.cell b_c8; replace b_c9 := hb.cell b_c9; replace b_c10 := hb.cell b_c10))
        | (go_at_call 21; first | ((with_reducible refine (check_any a_s a_p a_n a_v0 a_v1 a_v2 a_v3 a_l0 a_l1 a_l2 a_l3 _ HFA.out hE).mono ?_); rintro e w1 ⟨rfl, hb⟩; replace hE := hE.next hb; replace hS := hS.trans hb; replace a_B := a_B.next hb; replace a_c0 := hb.cell a_c0; replace a_c1 := hb.cell a_c1; replace a_c2 := hb.cell a_c2; replace a_c3 := hb.cell a_c3; replace a_c4 := hb.cell a_c4; replace a_c5 := hb.cell a_c5; replace a_c6 := hb.cell a_c6; replace a_c7 := hb.cell a_c7; replace a_c8 := hb.cell a_c8; replace a_c9 := hb.cell a_c9; replace a_c10 := hb.cell a_c10; replace b_B := b_B.next hb; replace b_c0 := hb.cell b_c0; replace b_c1 := hb.cell b_c1; replace b_c2 := hb.cell b_c2; replace b_c3 := hb.cell b_c3; replace b_c4 := hb.cell b_c4; replace b_c5 := hb.cell b_c5; replace b_c6 := hb.cell b_c6; replace b_c7 := hb.cell b_c7; replace b_c8 := hb.cell b_c8; replace b_c9 := hb.cell b_c9; replace b_c10 := hb.cell b_c10) | ((with_reducible refine (check_any b_s b_p b_n b_v0 b_v1 b_v2 b_v3 b_l0 b_l1 b_l2 b_l3 _ HFB.out hE).mono ?_); rintro e w1 ⟨rfl, hb⟩; replace hE := hE.next hb; replace hS := hS.trans hb; replace a_B := a_B.next hb; replace a_c0 := hb.cell a_c0; replace a_c1 := hb.cell a_c1; replace a_c2 := hb.cell a_c2; replace a_c3 := hb.cell a_c3; replace a_c4 := hb.cell a_c4; replace a_c5 := hb.cell a_c5; replace a_c6 := hb.cell a_c6; replace a_c7 := hb.cell a_c7; replace a_c8 := hb.cell a_c8; replace a_c9 := hb.cell a_c9; replace a_c10 := hb.cell a_c10; replace b_B := b_B.next hb; replace b_c0 := hb.cell b_c0; replace b_c1 := hb.cell b_c1; replace b_c2 := hb.cell b_c2; replace b_c3 := hb.cell b_c3; replace b_c4 := hb.cell b_c4; replace b_c5 := hb.cell b_c5; replace b_c6 := hb.cell b_c6; replace b_c7 := hb.cell b_c7; replace b_c8 := hb.cell b_c8; replace b_c9 := hb.cell b_c9; replace b_c10 := hb.cell b_c10)))
      go_ret
      exact ⟨rfl, hS⟩
  all_goals
    have hS : Since w ((w.alloc (.cells #[.string ⟨a_s.toArray⟩, .string ⟨a_p.toArray⟩, .int .i64 a_n, .bool a_v0, .string ⟨a_l0.toArray⟩, .bool a_v1, .string ⟨a_l1.toArray⟩, .bool a_v2, .string ⟨a_l2.toArray⟩, .bool a_v3, .string ⟨a_l3.toArray⟩] 26)).alloc (.cells #[.string ⟨b_s.toArray⟩, .string ⟨b_p.toArray⟩, .int .i64 b_n, .bool b_v0, .string ⟨b_l0.toArray⟩, .bool b_v1, .string ⟨b_l1.toArray⟩, .bool b_v2, .string ⟨b_l2.toArray⟩, .bool b_v3, .string ⟨b_l3.toArray⟩] 26)) := ((Since.refl _).alloc _).alloc _
    have a_B : Box ((w.alloc (.cells #[.string ⟨a_s.toArray⟩, .string ⟨a_p.toArray⟩, .int .i64 a_n, .bool a_v0, .string ⟨a_l0.toArray⟩, .bool a_v1, .string ⟨a_l1.toArray⟩, .bool a_v2, .string ⟨a_l2.toArray⟩, .bool a_v3, .string ⟨a_l3.toArray⟩] 26)).alloc (.cells #[.string ⟨b_s.toArray⟩, .string ⟨b_p.toArray⟩, .int .i64 b_n, .bool b_v0, .string ⟨b_l0.toArray⟩, .bool b_v1, .string ⟨b_l1.toArray⟩, .bool b_v2, .string ⟨b_l2.toArray⟩, .bool b_v3, .string ⟨b_l3.toArray⟩] 26)) w.heap.size ((a_s, a_p, a_n, (a_v0, a_l0), (a_v1, a_l1), (a_v2, a_l2), (a_v3, a_l3)) : Atm) := (box_new w ((a_s, a_p, a_n, (a_v0, a_l0), (a_v1, a_l1), (a_v2, a_l2), (a_v3, a_l3)) : Atm) _).next ((Since.refl _).alloc _)
    have b_B : Box ((w.alloc (.cells #[.string ⟨a_s.toArray⟩, .string ⟨a_p.toArray⟩, .int .i64 a_n, .bool a_v0, .string ⟨a_l0.toArray⟩, .bool a_v1, .string ⟨a_l1.toArray⟩, .bool a_v2, .string ⟨a_l2.toArray⟩, .bool a_v3, .string ⟨a_l3.toArray⟩] 26)).alloc (.cells #[.string ⟨b_s.toArray⟩, .string ⟨b_p.toArray⟩, .int .i64 b_n, .bool b_v0, .string ⟨b_l0.toArray⟩, .bool b_v1, .string ⟨b_l1.toArray⟩, .bool b_v2, .string ⟨b_l2.toArray⟩, .bool b_v3, .string ⟨b_l3.toArray⟩] 26)) (w.heap.size + 1) ((b_s, b_p, b_n, (b_v0, b_l0), (b_v1, b_l1), (b_v2, b_l2), (b_v3, b_l3)) : Atm) := by
      have := box_new (w.alloc (.cells #[.string ⟨a_s.toArray⟩, .string ⟨a_p.toArray⟩, .int .i64 a_n, .bool a_v0, .string ⟨a_l0.toArray⟩, .bool a_v1, .string ⟨a_l1.toArray⟩, .bool a_v2, .string ⟨a_l2.toArray⟩, .bool a_v3, .string ⟨a_l3.toArray⟩] 26)) ((b_s, b_p, b_n, (b_v0, b_l0), (b_v1, b_l1), (b_v2, b_l2), (b_v3, b_l3)) : Atm) 26
      rwa [World.size_alloc] at this
    obtain ⟨a_c0, a_c1, a_c2, a_c3, a_c4, a_c5, a_c6, a_c7, a_c8, a_c9, a_c10⟩ := a_B.all
    obtain ⟨b_c0, b_c1, b_c2, b_c3, b_c4, b_c5, b_c6, b_c7, b_c8, b_c9, b_c10⟩ := b_B.all
    replace hE := hE.next hS
    have HFA := Lib.hid fa
    have HFB := Lib.hid fb
    clear fa fb
    go_enter Tryd.func8, Tryd.ntmps8
    go_wp2_with (first
      | (go_at_call 18; refine (lives03_any _ hE).mono ?_; rintro e w1 ⟨rfl, hb⟩; replace hE := hE.next hb; replace hS := hS.trans hb; replace a_B := a_B.next hb; replace a_c0 := hb.cell a_c0; replace a_c1 := hb.cell a_c1; replace a_c2 := hb.cell a_c2; replace a_c3 := hb.cell a_c3; replace a_c4 := hb.cell a_c4; replace a_c5 := hb.cell a_c5; replace a_c6 := hb.cell a_c6; replace a_c7 := hb.cell a_c7; replace a_c8 := hb.cell a_c8; replace a_c9 := hb.cell a_c9; replace a_c10 := hb.cell a_c10; replace b_B := b_B.next hb; replace b_c0 := hb.cell b_c0; replace b_c1 := hb.cell b_c1; replace b_c2 := hb.cell b_c2; replace b_c3 := hb.cell b_c3; replace b_c4 := hb.cell b_c4; replace b_c5 := hb.cell b_c5; replace b_c6 := hb.cell b_c6; replace b_c7 := hb.cell b_c7; replace b_c8 := hb.cell b_c8; replace b_c9 := hb.cell b_c9; replace b_c10 := hb.cell b_c10)
      | (go_at_call 12; first | ((with_reducible refine (light_any a_s a_p a_n a_v0 a_v1 a_v2 a_v3 a_l0 a_l1 a_l2 a_l3 _).mono ?_); rintro e w1 ⟨rfl, hb⟩; rw [la]; replace hE := hE.next hb; replace hS := hS.trans hb; replace a_B := a_B.next hb; replace a_c0 := hb.cell a_c0; replace a_c1 := hb.cell a_c1; replace a_c2 := hb.cell a_c2; replace a_c3 := hb.cell a_c3; replace a_c4 := hb.cell a_c4; replace a_c5 := hb.cell a_c5; replace a_c6 := hb.cell a_c6; replace a_c7 := hb.cell a_c7; replace a_c8 := hb.cell a_c8; replace a_c9 := hb.cell a_c9; replace a_c10 := hb.cell a_c10; replace b_B := b_B.next hb; replace b_c0 := hb.cell b_c0; replace b_c1 := hb.cell b_c1; replace b_c2 := hb.cell b_c2; replace b_c3 := hb.cell b_c3; replace b_c4 := hb.cell b_c4; replace b_c5 := hb.cell b_c5; replace b_c6 := hb.cell b_c6; replace b_c7 := hb.cell b_c7; replace b_c8 := hb.cell b_c8; replace b_c9 := hb.cell b_c9; replace b_c10 := hb.cell b_c10) | ((with_reducible refine (light_any b_s b_p b_n b_v0 b_v1 b_v2 b_v3 b_l0 b_l1 b_l2 b_l3 _).mono ?_); rintro e w1 ⟨rfl, hb⟩; rw [lb]; replace hE := hE.next hb; replace hS := hS.trans hb; replace a_B := a_B.next hb; replace a_c0 := hb.cell a_c0; replace a_c1 := hb.cell a_c1; replace a_c2 := hb.cell a_c2; replace a_c3 := hb.cell a_c3; replace a_c4 := hb.cell a_c4; replace a_c5 := hb.cell a_c5; replace a_c6 := hb.cell a_c6; replace a_c7 := hb.cell a_c7; replace a_c8 := hb.cell a_c8; replace a_c9 := hb.cell a_c9; replace a_c10 := hb.cell a_c10; replace b_B := b_B.next hb; replace b_c0 := hb.cell b_c0; replace b_c1 := hb.cell b_c1; replace b_c2 := hb.cell b_c2; replace b_c3 := hb.cell b_c3; replace b_c4 := hb.cell b_c4; replace b_c5 := hb.cell b_c5; replace b_c6 := hb.cell b_c6; replace b_c7 := hb.cell b_c7; replace b_c8 := hb.cell b_c8; replace b_c9 := hb.cell b_c9; replace b_c10 := hb.cell b_c10))
      | (go_at_call 21; first | ((with_reducible refine (check_any a_s a_p a_n a_v0 a_v1 a_v2 a_v3 a_l0 a_l1 a_l2 a_l3 _ HFA.out hE).mono ?_); rintro e w1 ⟨rfl, hb⟩; replace hE := hE.next hb; replace hS := hS.trans hb; replace a_B := a_B.next hb; replace a_c0 := hb.cell a_c0; replace a_c1 := hb.cell a_c1; replace a_c2 := hb.cell a_c2; replace a_c3 := hb.cell a_c3; replace a_c4 := hb.cell a_c4; replace a_c5 := hb.cell a_c5; replace a_c6 := hb.cell a_c6; replace a_c7 := hb.cell a_c7; replace a_c8 := hb.cell a_c8; replace a_c9 := hb.cell a_c9; replace a_c10 := hb.cell a_c10; replace b_B := b_B.next hb; replace b_c0 := hb.cell b_c0; replace b_c1 := hb.cell b_c1; replace b_c2 := hb.cell b_c2; replace b_c3 := hb.cell b_c3; replace b_c4 := hb.cell b_c4; replace b_c5 := hb.cell b_c5; replace b_c6 := hb.cell b_c6; replace b_c7 := hb.cell b_c7; replace b_c8 := hb.cell b_c8; replace b_c9 := hb.cell b_c9; replace b_c10 := hb.cell b_c10) | ((with_reducible refine (check_any b_s b_p b_n b_v0 b_v1 b_v2 b_v3 b_l0 b_l1 b_l2 b_l3 _ HFB.out hE).mono ?_); rintro e w1 ⟨rfl, hb⟩; replace hE := hE.next hb; replace hS := hS.trans hb; replace a_B := a_B.next hb; replace a_c0 := hb.cell a_c0; replace a_c1 := hb.cell a_c1; replace a_c2 := hb.cell a_c2; replace a_c3 := hb.cell a_c3; replace a_c4 := hb.cell a_c4; replace a_c5 := hb.cell a_c5; replace a_c6 := hb.cell a_c6; replace a_c7 := hb.cell a_c7; replace a_c8 := hb.cell a_c8; replace a_c9 := hb.cell a_c9; replace a_c10 := hb.cell a_c10; replace b_B := b_B.next hb; replace b_c0 := hb.cell b_c0; replace b_c1 := hb.cell b_c1; replace b_c2 := hb.cell b_c2; replace b_c3 := hb.cell b_c3; replace b_c4 := hb.cell b_c4; replace b_c5 := hb.cell b_c5; replace b_c6 := hb.cell b_c6; replace b_c7 := hb.cell b_c7; replace b_c8 := hb.cell b_c8; replace b_c9 := hb.cell b_c9; replace b_c10 := hb.cell b_c10)))
    go_ret
    exact ⟨rfl, hS⟩
end Go.Proofs.YtapkafdlbocmmaaDoor
