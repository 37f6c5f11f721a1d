/- TermCalls returns true at every input, in every world in which the library's table strings.asciiSpace stands. -/
import Derived.Test.YtapkafdlbocmmaaDoorLawApart
import Derived.Test.YtapkafdlbocmmaaDoorRef3M
import Derived.Test.YtapkafdlbocmmaaDoorRows0
namespace Go.Proofs.YtapkafdlbocmmaaDoor
open Go.RowKit
attribute [local go_sem ↓] run_atomEq run_termEq'
attribute [local go_sem] eqA_self eqT_self

theorem same_self (v1 v2 : Value) (L : List (List UInt8)) (w : World) (h1 : Row w v1 L.length (L.map strV)) (h2 : Row w v2 L.length (L.map strV)) (hm : L.length ≤ maxLen) :
    Calls Tryd.prog 29 #[v1, v2] w fun e w' => e = .returned (.bool true) ∧ Since w w' :=
  (same_str v1 v2 L L w h1 h2 hm hm).mono fun _ _ h => ⟨h.1.trans (ret_bool (decide_eq_true rfl)), h.2⟩
theorem tmRow_own' {W : World} {base : Nat} {v : Value} {n : Nat} {L : List Tm} (h : W.ownsRow base 23 2 v n (L.flatMap tmC)) (hL : L.length = n) : TmRow W v L := by
  have h2 := rowOf_of_own tmC_len h hL
  rcases h.2 with ⟨e, h0⟩ | ⟨g, cap, cur, e, _, _, hn, _⟩
  · exact .inl ⟨e, List.eq_nil_of_length_eq_zero (by omega)⟩
  · refine .inr ⟨g, 0, cap, by rw [hL]; exact e, by rw [hL]; exact hn, fun k hk => ?_⟩
    obtain ⟨a, c, h3, h4, h5, h6⟩ := h2
    obtain ⟨b, o, e2, hc⟩ := h6 (by omega)
    rw [e] at h3
    injection h3 with h3 _ _
    rw [e2] at h3
    injection h3 with h3
    injection h3 with hb ho _
    subst hb ho
    exact ⟨hc k hk 0 _ rfl, hc k hk 1 _ rfl⟩

set_option maxHeartbeats 8000000 in
set_option maxRecDepth 100000 in
theorem calls_main (a_s a_p : List UInt8) (a_n : Int) (a_v0 a_v1 a_v2 a_v3 : Bool) (a_l0 a_l1 a_l2 a_l3 : List UInt8) (tv : Bool) (tl s p : List UInt8) (v : Value) (L : List Tm) (w : World) (hE : Env w) (fa : FitsA ((a_s, a_p, a_n, (a_v0, a_l0), (a_v1, a_l1), (a_v2, a_l2), (a_v3, a_l3)) : Atm)) (la : lightB ((a_s, a_p, a_n, (a_v0, a_l0), (a_v1, a_l1), (a_v2, a_l2), (a_v3, a_l3)) : Atm) = true) (ht : tl.length ≤ 300) (hs : s.length ≤ 300) (hp : p.length ≤ 300) (hv : RowOf 2 tmC w v L) (hl : ∀ t ∈ L, t.2.length ≤ maxLen) (h9 : L.length ≤ 9) :
    Calls Tryd.prog 7 #[.agg #[.string ⟨a_s.toArray⟩, .string ⟨a_p.toArray⟩, .int .i64 a_n, .bool a_v0, .string ⟨a_l0.toArray⟩, .bool a_v1, .string ⟨a_l1.toArray⟩, .bool a_v2, .string ⟨a_l2.toArray⟩, .bool a_v3, .string ⟨a_l3.toArray⟩], .agg #[.bool tv, .string ⟨tl.toArray⟩], .string ⟨s.toArray⟩, .string ⟨p.toArray⟩, v] w fun e w' => e = .returned (.bool true) ∧ Since w w' := by
  have hS : Since w ((w.alloc (.cells #[.string ⟨a_s.toArray⟩, .string ⟨a_p.toArray⟩, .int .i64 a_n, .bool a_v0, .string ⟨a_l0.toArray⟩, .bool a_v1, .string ⟨a_l1.toArray⟩, .bool a_v2, .string ⟨a_l2.toArray⟩, .bool a_v3, .string ⟨a_l3.toArray⟩] 26)).alloc (.cells #[.bool tv, .string ⟨tl.toArray⟩] 23)) := ((Since.refl _).alloc _).alloc _
  have a_B : Box ((w.alloc (.cells #[.string ⟨a_s.toArray⟩, .string ⟨a_p.toArray⟩, .int .i64 a_n, .bool a_v0, .string ⟨a_l0.toArray⟩, .bool a_v1, .string ⟨a_l1.toArray⟩, .bool a_v2, .string ⟨a_l2.toArray⟩, .bool a_v3, .string ⟨a_l3.toArray⟩] 26)).alloc (.cells #[.bool tv, .string ⟨tl.toArray⟩] 23)) w.heap.size ((a_s, a_p, a_n, (a_v0, a_l0), (a_v1, a_l1), (a_v2, a_l2), (a_v3, a_l3)) : Atm) := (box_new w ((a_s, a_p, a_n, (a_v0, a_l0), (a_v1, a_l1), (a_v2, a_l2), (a_v3, a_l3)) : Atm) _).next ((Since.refl _).alloc _)
  have t_c0 : ((w.alloc (.cells #[.string ⟨a_s.toArray⟩, .string ⟨a_p.toArray⟩, .int .i64 a_n, .bool a_v0, .string ⟨a_l0.toArray⟩, .bool a_v1, .string ⟨a_l1.toArray⟩, .bool a_v2, .string ⟨a_l2.toArray⟩, .bool a_v3, .string ⟨a_l3.toArray⟩] 26)).alloc (.cells #[.bool tv, .string ⟨tl.toArray⟩] 23)).cell? ⟨w.heap.size + 1, 0, none⟩ = some (.bool tv) := by
    have := World.cell?_alloc_new (w.alloc (.cells #[.string ⟨a_s.toArray⟩, .string ⟨a_p.toArray⟩, .int .i64 a_n, .bool a_v0, .string ⟨a_l0.toArray⟩, .bool a_v1, .string ⟨a_l1.toArray⟩, .bool a_v2, .string ⟨a_l2.toArray⟩, .bool a_v3, .string ⟨a_l3.toArray⟩] 26)) #[.bool tv, .string ⟨tl.toArray⟩] 23 0
    rw [World.size_alloc] at this; rw [this]; rfl
  have t_c1 : ((w.alloc (.cells #[.string ⟨a_s.toArray⟩, .string ⟨a_p.toArray⟩, .int .i64 a_n, .bool a_v0, .string ⟨a_l0.toArray⟩, .bool a_v1, .string ⟨a_l1.toArray⟩, .bool a_v2, .string ⟨a_l2.toArray⟩, .bool a_v3, .string ⟨a_l3.toArray⟩] 26)).alloc (.cells #[.bool tv, .string ⟨tl.toArray⟩] 23)).cell? ⟨w.heap.size + 1, 1, none⟩ = some (.string ⟨tl.toArray⟩) := by
    have := World.cell?_alloc_new (w.alloc (.cells #[.string ⟨a_s.toArray⟩, .string ⟨a_p.toArray⟩, .int .i64 a_n, .bool a_v0, .string ⟨a_l0.toArray⟩, .bool a_v1, .string ⟨a_l1.toArray⟩, .bool a_v2, .string ⟨a_l2.toArray⟩, .bool a_v3, .string ⟨a_l3.toArray⟩] 26)) #[.bool tv, .string ⟨tl.toArray⟩] 23 1
    rw [World.size_alloc] at this; rw [this]; rfl
  obtain ⟨a_c0, a_c1, a_c2, a_c3, a_c4, a_c5, a_c6, a_c7, a_c8, a_c9, a_c10⟩ := a_B.all
  replace hE := hE.next hS
  replace hv := hv.next hS
  have HFA := Lib.hid fa
  have hLa := light_of la
  have HLA := Lib.hid hLa
  have HTL : Hid (tl.length ≤ maxLen) := by show tl.length ≤ maxLen; unfold maxLen; omega
  have HSL : Hid (s.length ≤ maxLen) := by show s.length ≤ maxLen; unfold maxLen; omega
  have HPL : Hid (p.length ≤ maxLen) := by show p.length ≤ maxLen; unfold maxLen; omega
  have HLL := Lib.hid hl
  have hnl := names_len ((a_s, a_p, a_n, (a_v0, a_l0), (a_v1, a_l1), (a_v2, a_l2), (a_v3, a_l3)) : Atm)
  have hcl := countA_le ((a_s, a_p, a_n, (a_v0, a_l0), (a_v1, a_l1), (a_v2, a_l2), (a_v3, a_l3)) : Atm)
  have HL1 : Hid ((namesA ((a_s, a_p, a_n, (a_v0, a_l0), (a_v1, a_l1), (a_v2, a_l2), (a_v3, a_l3)) : Atm) true).length ≤ maxLen) := by show _ ≤ maxLen; unfold maxLen; omega
  have HL2 : Hid ((namesA ((a_s, a_p, a_n, (a_v0, a_l0), (a_v1, a_l1), (a_v2, a_l2), (a_v3, a_l3)) : Atm) false).length ≤ maxLen) := by show _ ≤ maxLen; unfold maxLen; omega
  have g1 : decide ((300 : Int) < (tl.length : Int)) = false := decide_eq_false (by omega)
  have g2 : decide ((300 : Int) < (s.length : Int)) = false := decide_eq_false (by omega)
  have g3 : decide ((300 : Int) < (p.length : Int)) = false := decide_eq_false (by omega)
  have g4 : decide ((9 : Int) < (L.length : Int)) = false := decide_eq_false (by omega)
  obtain ⟨m, hm⟩ : ∃ m, Hid (m = madeA s p L) := ⟨_, rfl⟩
  obtain ⟨⟨m_s, m_p, m_n, ⟨m_v0, m_l0⟩, ⟨m_v1, m_l1⟩, ⟨m_v2, m_l2⟩, ⟨m_v3, m_l3⟩⟩, kk⟩ := m
  have HM1 : Hid (∀ v' W, Env W → TmRow W v' L → Calls Tryd.prog 19 #[.string ⟨s.toArray⟩, .string ⟨p.toArray⟩, v'] W fun e w' => e = .returned (.tuple #[.agg #[.string ⟨m_s.toArray⟩, .string ⟨m_p.toArray⟩, .int .i64 m_n, .bool m_v0, .string ⟨m_l0.toArray⟩, .bool m_v1, .string ⟨m_l1.toArray⟩, .bool m_v2, .string ⟨m_l2.toArray⟩, .bool m_v3, .string ⟨m_l3.toArray⟩], .int .i64 kk]) ∧ Since W w') := by
    intro v' W hEW hrow
    have h := made_any s p v' L W hEW hrow HSL.out HPL.out HLL.out (by unfold maxLen; omega)
    rw [← hm.out] at h
    exact h
  have HM2 : Hid (∀ v' W, RowOf 2 tmC W v' L → Calls Tryd.prog 31 #[.string ⟨s.toArray⟩, .string ⟨p.toArray⟩, v'] W fun e w' => e = .returned (.tuple #[.agg #[.string ⟨m_s.toArray⟩, .string ⟨m_p.toArray⟩, .int .i64 m_n, .bool m_v0, .string ⟨m_l0.toArray⟩, .bool m_v1, .string ⟨m_l1.toArray⟩, .bool m_v2, .string ⟨m_l2.toArray⟩, .bool m_v3, .string ⟨m_l3.toArray⟩], .int .i64 kk]) ∧ Since W w') := by
    intro v' W hrow
    have h := rmade_any s p v' L W hrow HSL.out HPL.out HLL.out
    rw [← hm.out] at h
    exact h
  obtain ⟨va, vc, rfl⟩ := hv.form
  clear fa hLa hl hnl hcl ht hs hp hm
  go_enter Tryd.func7, Tryd.ntmps7
  go_wp2_with (first
    | (go_at_call 18; refine (lives03_any _ hE).mono ?_; rintro e w1 ⟨rfl, hb⟩; replace hE := hE.next hb; replace hS := hS.trans hb; replace hv := hv.next hb; replace a_B := a_B.next hb; replace a_c0 := hb.cell a_c0; replace a_c1 := hb.cell a_c1; replace a_c2 := hb.cell a_c2; replace a_c3 := hb.cell a_c3; replace a_c4 := hb.cell a_c4; replace a_c5 := hb.cell a_c5; replace a_c6 := hb.cell a_c6; replace a_c7 := hb.cell a_c7; replace a_c8 := hb.cell a_c8; replace a_c9 := hb.cell a_c9; replace a_c10 := hb.cell a_c10; replace t_c0 := hb.cell t_c0; replace t_c1 := hb.cell t_c1)
    | (go_at_call 12; ((with_reducible refine (light_any a_s a_p a_n a_v0 a_v1 a_v2 a_v3 a_l0 a_l1 a_l2 a_l3 _).mono ?_); rintro e w1 ⟨rfl, hb⟩; rw [la]; replace hE := hE.next hb; replace hS := hS.trans hb; replace hv := hv.next hb; replace a_B := a_B.next hb; replace a_c0 := hb.cell a_c0; replace a_c1 := hb.cell a_c1; replace a_c2 := hb.cell a_c2; replace a_c3 := hb.cell a_c3; replace a_c4 := hb.cell a_c4; replace a_c5 := hb.cell a_c5; replace a_c6 := hb.cell a_c6; replace a_c7 := hb.cell a_c7; replace a_c8 := hb.cell a_c8; replace a_c9 := hb.cell a_c9; replace a_c10 := hb.cell a_c10; replace t_c0 := hb.cell t_c0; replace t_c1 := hb.cell t_c1)))
  refine (ownTm_any _ L _ hv (by omega)).mono ?_
  rintro e w2 ⟨sv, rfl, hown, hb⟩
  replace hE := hE.next hb; replace hS := hS.trans hb; replace hv := hv.next hb; replace a_B := a_B.next hb; replace a_c0 := hb.cell a_c0; replace a_c1 := hb.cell a_c1; replace a_c2 := hb.cell a_c2; replace a_c3 := hb.cell a_c3; replace a_c4 := hb.cell a_c4; replace a_c5 := hb.cell a_c5; replace a_c6 := hb.cell a_c6; replace a_c7 := hb.cell a_c7; replace a_c8 := hb.cell a_c8; replace a_c9 := hb.cell a_c9; replace a_c10 := hb.cell a_c10; replace t_c0 := hb.cell t_c0; replace t_c1 := hb.cell t_c1
  go_wp2_with fail
  refine (HM1.out sv _ hE (tmRow_own' hown rfl)).mono ?_
  rintro e w3 ⟨rfl, hb⟩
  replace hE := hE.next hb; replace hS := hS.trans hb; replace hv := hv.next hb; replace a_B := a_B.next hb; replace a_c0 := hb.cell a_c0; replace a_c1 := hb.cell a_c1; replace a_c2 := hb.cell a_c2; replace a_c3 := hb.cell a_c3; replace a_c4 := hb.cell a_c4; replace a_c5 := hb.cell a_c5; replace a_c6 := hb.cell a_c6; replace a_c7 := hb.cell a_c7; replace a_c8 := hb.cell a_c8; replace a_c9 := hb.cell a_c9; replace a_c10 := hb.cell a_c10; replace t_c0 := hb.cell t_c0; replace t_c1 := hb.cell t_c1
  have hal : Since w3 (w3.alloc (.cells #[.string ⟨m_s.toArray⟩, .string ⟨m_p.toArray⟩, .int .i64 m_n, .bool m_v0, .string ⟨m_l0.toArray⟩, .bool m_v1, .string ⟨m_l1.toArray⟩, .bool m_v2, .string ⟨m_l2.toArray⟩, .bool m_v3, .string ⟨m_l3.toArray⟩] 26)) := (Since.refl _).alloc _
  go_wp2_with fail
  refine (HM2.out _ _ (hv.next hal)).mono ?_
  rintro e w4 ⟨rfl, hb⟩
  have hB1 := (box_new w3 ((m_s, m_p, m_n, (m_v0, m_l0), (m_v1, m_l1), (m_v2, m_l2), (m_v3, m_l3)) : Atm) 26).next hb
  replace hb := hal.trans hb
  replace hE := hE.next hb; replace hS := hS.trans hb; replace hv := hv.next hb; replace a_B := a_B.next hb; replace a_c0 := hb.cell a_c0; replace a_c1 := hb.cell a_c1; replace a_c2 := hb.cell a_c2; replace a_c3 := hb.cell a_c3; replace a_c4 := hb.cell a_c4; replace a_c5 := hb.cell a_c5; replace a_c6 := hb.cell a_c6; replace a_c7 := hb.cell a_c7; replace a_c8 := hb.cell a_c8; replace a_c9 := hb.cell a_c9; replace a_c10 := hb.cell a_c10; replace t_c0 := hb.cell t_c0; replace t_c1 := hb.cell t_c1
  go_wp2_with fail
  obtain ⟨m_c0, m_c1, m_c2, m_c3, m_c4, m_c5, m_c6, m_c7, m_c8, m_c9, m_c10⟩ := (hB1.next ((Since.refl w4).alloc (.cells #[.string ⟨m_s.toArray⟩, .string ⟨m_p.toArray⟩, .int .i64 m_n, .bool m_v0, .string ⟨m_l0.toArray⟩, .bool m_v1, .string ⟨m_l1.toArray⟩, .bool m_v2, .string ⟨m_l2.toArray⟩, .bool m_v3, .string ⟨m_l3.toArray⟩] 26))).all
  have hB2 : Box (w4.alloc (.cells #[.string ⟨m_s.toArray⟩, .string ⟨m_p.toArray⟩, .int .i64 m_n, .bool m_v0, .string ⟨m_l0.toArray⟩, .bool m_v1, .string ⟨m_l1.toArray⟩, .bool m_v2, .string ⟨m_l2.toArray⟩, .bool m_v3, .string ⟨m_l3.toArray⟩] 26)) w4.heap.size ((m_s, m_p, m_n, (m_v0, m_l0), (m_v1, m_l1), (m_v2, m_l2), (m_v3, m_l3)) : Atm) := box_new w4 ((m_s, m_p, m_n, (m_v0, m_l0), (m_v1, m_l1), (m_v2, m_l2), (m_v3, m_l3)) : Atm) 26
  obtain ⟨n_c0, n_c1, n_c2, n_c3, n_c4, n_c5, n_c6, n_c7, n_c8, n_c9, n_c10⟩ := hB2.all
  replace hb : Since w4 (w4.alloc (.cells #[.string ⟨m_s.toArray⟩, .string ⟨m_p.toArray⟩, .int .i64 m_n, .bool m_v0, .string ⟨m_l0.toArray⟩, .bool m_v1, .string ⟨m_l1.toArray⟩, .bool m_v2, .string ⟨m_l2.toArray⟩, .bool m_v3, .string ⟨m_l3.toArray⟩] 26)) := (Since.refl _).alloc _
  replace hE := hE.next hb; replace hS := hS.trans hb; replace hv := hv.next hb; replace a_B := a_B.next hb; replace a_c0 := hb.cell a_c0; replace a_c1 := hb.cell a_c1; replace a_c2 := hb.cell a_c2; replace a_c3 := hb.cell a_c3; replace a_c4 := hb.cell a_c4; replace a_c5 := hb.cell a_c5; replace a_c6 := hb.cell a_c6; replace a_c7 := hb.cell a_c7; replace a_c8 := hb.cell a_c8; replace a_c9 := hb.cell a_c9; replace a_c10 := hb.cell a_c10; replace t_c0 := hb.cell t_c0; replace t_c1 := hb.cell t_c1
  obtain ⟨W, hWW⟩ : ∃ W : World, Hid (W = w4.alloc (.cells #[.string ⟨m_s.toArray⟩, .string ⟨m_p.toArray⟩, .int .i64 m_n, .bool m_v0, .string ⟨m_l0.toArray⟩, .bool m_v1, .string ⟨m_l1.toArray⟩, .bool m_v2, .string ⟨m_l2.toArray⟩, .bool m_v3, .string ⟨m_l3.toArray⟩] 26)) := ⟨_, rfl⟩
  rw [← hWW.out] at a_c0 a_c1 a_c2 a_c3 a_c4 a_c5 a_c6 a_c7 a_c8 a_c9 a_c10 m_c0 m_c1 m_c2 m_c3 m_c4 m_c5 m_c6 m_c7 m_c8 m_c9 m_c10 n_c0 n_c1 n_c2 n_c3 n_c4 n_c5 n_c6 n_c7 n_c8 n_c9 n_c10 t_c0 t_c1 hE hS ⊢
  clear hb hal hB1 hB2 hown hv a_B HM1 HM2
  go_region_held3 (fun w' => (w'.cell? ⟨w.heap.size, 0, none⟩ = some (.string ⟨a_s.toArray⟩) ∧ w'.cell? ⟨w.heap.size, 1, none⟩ = some (.string ⟨a_p.toArray⟩) ∧ w'.cell? ⟨w.heap.size, 2, none⟩ = some (.int .i64 a_n) ∧ w'.cell? ⟨w.heap.size, 3, none⟩ = some (.bool a_v0) ∧ w'.cell? ⟨w.heap.size, 4, none⟩ = some (.string ⟨a_l0.toArray⟩) ∧ w'.cell? ⟨w.heap.size, 5, none⟩ = some (.bool a_v1) ∧ w'.cell? ⟨w.heap.size, 6, none⟩ = some (.string ⟨a_l1.toArray⟩) ∧ w'.cell? ⟨w.heap.size, 7, none⟩ = some (.bool a_v2) ∧ w'.cell? ⟨w.heap.size, 8, none⟩ = some (.string ⟨a_l2.toArray⟩) ∧ w'.cell? ⟨w.heap.size, 9, none⟩ = some (.bool a_v3) ∧ w'.cell? ⟨w.heap.size, 10, none⟩ = some (.string ⟨a_l3.toArray⟩)) ∧ (w'.cell? ⟨w3.heap.size, 0, none⟩ = some (.string ⟨m_s.toArray⟩) ∧ w'.cell? ⟨w3.heap.size, 1, none⟩ = some (.string ⟨m_p.toArray⟩) ∧ w'.cell? ⟨w3.heap.size, 2, none⟩ = some (.int .i64 m_n) ∧ w'.cell? ⟨w3.heap.size, 3, none⟩ = some (.bool m_v0) ∧ w'.cell? ⟨w3.heap.size, 4, none⟩ = some (.string ⟨m_l0.toArray⟩) ∧ w'.cell? ⟨w3.heap.size, 5, none⟩ = some (.bool m_v1) ∧ w'.cell? ⟨w3.heap.size, 6, none⟩ = some (.string ⟨m_l1.toArray⟩) ∧ w'.cell? ⟨w3.heap.size, 7, none⟩ = some (.bool m_v2) ∧ w'.cell? ⟨w3.heap.size, 8, none⟩ = some (.string ⟨m_l2.toArray⟩) ∧ w'.cell? ⟨w3.heap.size, 9, none⟩ = some (.bool m_v3) ∧ w'.cell? ⟨w3.heap.size, 10, none⟩ = some (.string ⟨m_l3.toArray⟩)) ∧ (w'.cell? ⟨w4.heap.size, 0, none⟩ = some (.string ⟨m_s.toArray⟩) ∧ w'.cell? ⟨w4.heap.size, 1, none⟩ = some (.string ⟨m_p.toArray⟩) ∧ w'.cell? ⟨w4.heap.size, 2, none⟩ = some (.int .i64 m_n) ∧ w'.cell? ⟨w4.heap.size, 3, none⟩ = some (.bool m_v0) ∧ w'.cell? ⟨w4.heap.size, 4, none⟩ = some (.string ⟨m_l0.toArray⟩) ∧ w'.cell? ⟨w4.heap.size, 5, none⟩ = some (.bool m_v1) ∧ w'.cell? ⟨w4.heap.size, 6, none⟩ = some (.string ⟨m_l1.toArray⟩) ∧ w'.cell? ⟨w4.heap.size, 7, none⟩ = some (.bool m_v2) ∧ w'.cell? ⟨w4.heap.size, 8, none⟩ = some (.string ⟨m_l2.toArray⟩) ∧ w'.cell? ⟨w4.heap.size, 9, none⟩ = some (.bool m_v3) ∧ w'.cell? ⟨w4.heap.size, 10, none⟩ = some (.string ⟨m_l3.toArray⟩)) ∧ (w'.cell? ⟨w.heap.size + 1, 0, none⟩ = some (.bool tv) ∧ w'.cell? ⟨w.heap.size + 1, 1, none⟩ = some (.string ⟨tl.toArray⟩)) ∧ Env w' ∧ Since w w')
    (first | (refine ⟨⟨?_, ?_, ?_, ?_, ?_, ?_, ?_, ?_, ?_, ?_, ?_⟩, ⟨?_, ?_, ?_, ?_, ?_, ?_, ?_, ?_, ?_, ?_, ?_⟩, ⟨?_, ?_, ?_, ?_, ?_, ?_, ?_, ?_, ?_, ?_, ?_⟩, ⟨?_, ?_⟩, ?_, ?_⟩ <;> first | assumption | (refine Since.drew ?_; assumption)) | (go_split_ands; refine ⟨⟨?_, ?_, ?_, ?_, ?_, ?_, ?_, ?_, ?_, ?_, ?_⟩, ⟨?_, ?_, ?_, ?_, ?_, ?_, ?_, ?_, ?_, ?_, ?_⟩, ⟨?_, ?_, ?_, ?_, ?_, ?_, ?_, ?_, ?_, ?_, ?_⟩, ⟨?_, ?_⟩, ?_, ?_⟩ <;> first | (refine Since.cell hb ?_; assumption) | (refine Env.next ?_ hb; assumption) | (refine Since.trans ?_ hb; assumption)))
    (first
      | (go_at_call 21; ((with_reducible refine (check_any a_s a_p a_n a_v0 a_v1 a_v2 a_v3 a_l0 a_l1 a_l2 a_l3 _ HFA.out (by go_split_ands; assumption)).mono ?_); rintro e w9 ⟨rfl, hb⟩))
      | (go_at_call 13; ((with_reducible refine (rcheck_any a_s a_p a_n a_v0 a_v1 a_v2 a_v3 a_l0 a_l1 a_l2 a_l3 _ HFA.out).mono ?_); rintro e w9 ⟨rfl, hb⟩))
      | (go_at_call 22; ((with_reducible refine (term_any tv tl _ HTL.out (by go_split_ands; assumption)).mono ?_); rintro e w9 ⟨rfl, hb⟩))
      | (go_at_call 32; ((with_reducible refine (rterm_any tv tl _ HTL.out).mono ?_); rintro e w9 ⟨rfl, hb⟩))
      | (go_at_call 28; ((with_reducible refine (ground_any a_s a_p a_n a_v0 a_v1 a_v2 a_v3 a_l0 a_l1 a_l2 a_l3 _ HFA.out (by go_split_ands; assumption)).mono ?_); rintro e w9 ⟨rfl, hb⟩))
      | (go_at_call 17; ((with_reducible refine (rground_any a_s a_p a_n a_v0 a_v1 a_v2 a_v3 a_l0 a_l1 a_l2 a_l3 _).mono ?_); rintro e w9 ⟨rfl, hb⟩))
      | (go_at_call 24; ((with_reducible refine (vars_any a_s a_p a_n a_v0 a_v1 a_v2 a_v3 a_l0 a_l1 a_l2 a_l3 _).mono ?_); rintro e w9 ⟨s1, rfl, hown1, hb⟩))
      | (go_at_call 33; ((with_reducible refine (rvars_any a_s a_p a_n a_v0 a_v1 a_v2 a_v3 a_l0 a_l1 a_l2 a_l3 _).mono ?_); rintro e w9 ⟨s2, rfl, hown2, hb⟩))
      | (go_at_call 30; ((with_reducible refine (consts_any a_s a_p a_n a_v0 a_v1 a_v2 a_v3 a_l0 a_l1 a_l2 a_l3 _).mono ?_); rintro e w9 ⟨s3, rfl, hown3, hb⟩))
      | (go_at_call 34; ((with_reducible refine (rconsts_any a_s a_p a_n a_v0 a_v1 a_v2 a_v3 a_l0 a_l1 a_l2 a_l3 _).mono ?_); rintro e w9 ⟨s4, rfl, hown4, hb⟩))
      | (go_at_call 29; first | ((with_reducible refine (same_self s3 s4 _ _ ((row_of_own hown3).next hb) (row_of_own hown4) HL2.out).mono ?_); rintro e w9 ⟨rfl, hb⟩) | ((with_reducible refine (same_self s1 s2 _ _ ((row_of_own hown1).next hb) (row_of_own hown2) HL1.out).mono ?_); rintro e w9 ⟨rfl, hb⟩))
      | (go_at_call 23; ((with_reducible refine (text_any a_s a_p a_n a_v0 a_v1 a_v2 a_v3 a_l0 a_l1 a_l2 a_l3 _ HLA.out).mono ?_); rintro e w9 ⟨rfl, hb⟩))
      | (go_at_call 35; ((with_reducible refine (rtext_any a_s a_p a_n a_v0 a_v1 a_v2 a_v3 a_l0 a_l1 a_l2 a_l3 _ HLA.out).mono ?_); rintro e w9 ⟨rfl, hb⟩)))
  go_wp2_with fail
  go_ret
  go_split_ands
  refine ⟨?_, ?_⟩
  all_goals first | rfl | assumption

set_option maxHeartbeats 4000000 in
set_option maxRecDepth 100000 in
theorem calls_out (a_s a_p : List UInt8) (a_n : Int) (a_v0 a_v1 a_v2 a_v3 : Bool) (a_l0 a_l1 a_l2 a_l3 : List UInt8) (tv : Bool) (tl s p : List UInt8) (v : Value) (L : List Tm) (w : World) (hE : Env w) (ht : tl.length ≤ maxLen) (hs : s.length ≤ maxLen) (hp : p.length ≤ maxLen) (hv : RowOf 2 tmC w v L) (h : lightB ((a_s, a_p, a_n, (a_v0, a_l0), (a_v1, a_l1), (a_v2, a_l2), (a_v3, a_l3)) : Atm) = false ∨ (lightB ((a_s, a_p, a_n, (a_v0, a_l0), (a_v1, a_l1), (a_v2, a_l2), (a_v3, a_l3)) : Atm) = true ∧ (300 < tl.length ∨ (tl.length ≤ 300 ∧ (300 < s.length ∨ (s.length ≤ 300 ∧ (300 < p.length ∨ (p.length ≤ 300 ∧ 9 < L.length)))))))) :
    Calls Tryd.prog 7 #[.agg #[.string ⟨a_s.toArray⟩, .string ⟨a_p.toArray⟩, .int .i64 a_n, .bool a_v0, .string ⟨a_l0.toArray⟩, .bool a_v1, .string ⟨a_l1.toArray⟩, .bool a_v2, .string ⟨a_l2.toArray⟩, .bool a_v3, .string ⟨a_l3.toArray⟩], .agg #[.bool tv, .string ⟨tl.toArray⟩], .string ⟨s.toArray⟩, .string ⟨p.toArray⟩, v] w fun e w' => e = .returned (.bool true) ∧ Since w w' := by
  have hS : Since w ((w.alloc (.cells #[.string ⟨a_s.toArray⟩, .string ⟨a_p.toArray⟩, .int .i64 a_n, .bool a_v0, .string ⟨a_l0.toArray⟩, .bool a_v1, .string ⟨a_l1.toArray⟩, .bool a_v2, .string ⟨a_l2.toArray⟩, .bool a_v3, .string ⟨a_l3.toArray⟩] 26)).alloc (.cells #[.bool tv, .string ⟨tl.toArray⟩] 23)) := ((Since.refl _).alloc _).alloc _
  have a_B : Box ((w.alloc (.cells #[.string ⟨a_s.toArray⟩, .string ⟨a_p.toArray⟩, .int .i64 a_n, .bool a_v0, .string ⟨a_l0.toArray⟩, .bool a_v1, .string ⟨a_l1.toArray⟩, .bool a_v2, .string ⟨a_l2.toArray⟩, .bool a_v3, .string ⟨a_l3.toArray⟩] 26)).alloc (.cells #[.bool tv, .string ⟨tl.toArray⟩] 23)) w.heap.size ((a_s, a_p, a_n, (a_v0, a_l0), (a_v1, a_l1), (a_v2, a_l2), (a_v3, a_l3)) : Atm) := (box_new w ((a_s, a_p, a_n, (a_v0, a_l0), (a_v1, a_l1), (a_v2, a_l2), (a_v3, a_l3)) : Atm) _).next ((Since.refl _).alloc _)
  have t_c0 : ((w.alloc (.cells #[.string ⟨a_s.toArray⟩, .string ⟨a_p.toArray⟩, .int .i64 a_n, .bool a_v0, .string ⟨a_l0.toArray⟩, .bool a_v1, .string ⟨a_l1.toArray⟩, .bool a_v2, .string ⟨a_l2.toArray⟩, .bool a_v3, .string ⟨a_l3.toArray⟩] 26)).alloc (.cells #[.bool tv, .string ⟨tl.toArray⟩] 23)).cell? ⟨w.heap.size + 1, 0, none⟩ = some (.bool tv) := by
    have := World.cell?_alloc_new (w.alloc (.cells #[.string ⟨a_s.toArray⟩, .string ⟨a_p.toArray⟩, .int .i64 a_n, .bool a_v0, .string ⟨a_l0.toArray⟩, .bool a_v1, .string ⟨a_l1.toArray⟩, .bool a_v2, .string ⟨a_l2.toArray⟩, .bool a_v3, .string ⟨a_l3.toArray⟩] 26)) #[.bool tv, .string ⟨tl.toArray⟩] 23 0
    rw [World.size_alloc] at this; rw [this]; rfl
  have t_c1 : ((w.alloc (.cells #[.string ⟨a_s.toArray⟩, .string ⟨a_p.toArray⟩, .int .i64 a_n, .bool a_v0, .string ⟨a_l0.toArray⟩, .bool a_v1, .string ⟨a_l1.toArray⟩, .bool a_v2, .string ⟨a_l2.toArray⟩, .bool a_v3, .string ⟨a_l3.toArray⟩] 26)).alloc (.cells #[.bool tv, .string ⟨tl.toArray⟩] 23)).cell? ⟨w.heap.size + 1, 1, none⟩ = some (.string ⟨tl.toArray⟩) := by
    have := World.cell?_alloc_new (w.alloc (.cells #[.string ⟨a_s.toArray⟩, .string ⟨a_p.toArray⟩, .int .i64 a_n, .bool a_v0, .string ⟨a_l0.toArray⟩, .bool a_v1, .string ⟨a_l1.toArray⟩, .bool a_v2, .string ⟨a_l2.toArray⟩, .bool a_v3, .string ⟨a_l3.toArray⟩] 26)) #[.bool tv, .string ⟨tl.toArray⟩] 23 1
    rw [World.size_alloc] at this; rw [this]; rfl
  obtain ⟨a_c0, a_c1, a_c2, a_c3, a_c4, a_c5, a_c6, a_c7, a_c8, a_c9, a_c10⟩ := a_B.all
  replace hE := hE.next hS
  replace hv := hv.next hS
  have hm := hv.len
  unfold maxLen at ht hs hp hm
  obtain ⟨va, vc, rfl⟩ := hv.form
  rcases h with la | ⟨la, h | ⟨h1, h | ⟨h2, h | ⟨h3, h⟩⟩⟩⟩
  · skip
    go_enter Tryd.func7, Tryd.ntmps7
    go_wp2_with (first
      | (go_at_call 18; refine (lives03_any _ hE).mono ?_; rintro e w1 ⟨rfl, hb⟩; replace hE := hE.next hb; replace hS := hS.trans hb; replace hv := hv.next hb; replace a_B := a_B.next hb; replace a_c0 := hb.cell a_c0; replace a_c1 := hb.cell a_c1; replace a_c2 := hb.cell a_c2; replace a_c3 := hb.cell a_c3; replace a_c4 := hb.cell a_c4; replace a_c5 := hb.cell a_c5; replace a_c6 := hb.cell a_c6; replace a_c7 := hb.cell a_c7; replace a_c8 := hb.cell a_c8; replace a_c9 := hb.cell a_c9; replace a_c10 := hb.cell a_c10; replace t_c0 := hb.cell t_c0; replace t_c1 := hb.cell t_c1)
      | (go_at_call 12; ((with_reducible refine (light_any a_s a_p a_n a_v0 a_v1 a_v2 a_v3 a_l0 a_l1 a_l2 a_l3 _).mono ?_); rintro e w1 ⟨rfl, hb⟩; rw [la]; replace hE := hE.next hb; replace hS := hS.trans hb; replace hv := hv.next hb; replace a_B := a_B.next hb; replace a_c0 := hb.cell a_c0; replace a_c1 := hb.cell a_c1; replace a_c2 := hb.cell a_c2; replace a_c3 := hb.cell a_c3; replace a_c4 := hb.cell a_c4; replace a_c5 := hb.cell a_c5; replace a_c6 := hb.cell a_c6; replace a_c7 := hb.cell a_c7; replace a_c8 := hb.cell a_c8; replace a_c9 := hb.cell a_c9; replace a_c10 := hb.cell a_c10; replace t_c0 := hb.cell t_c0; replace t_c1 := hb.cell t_c1)))
    go_ret
    exact ⟨rfl, hS⟩
  · have g1 : decide ((300 : Int) < (tl.length : Int)) = true := decide_eq_true (by omega)
    go_enter Tryd.func7, Tryd.ntmps7
    go_wp2_with (first
      | (go_at_call 18; refine (lives03_any _ hE).mono ?_; rintro e w1 ⟨rfl, hb⟩; replace hE := hE.next hb; replace hS := hS.trans hb; replace hv := hv.next hb; replace a_B := a_B.next hb; replace a_c0 := hb.cell a_c0; replace a_c1 := hb.cell a_c1; replace a_c2 := hb.cell a_c2; replace a_c3 := hb.cell a_c3; replace a_c4 := hb.cell a_c4; replace a_c5 := hb.cell a_c5; replace a_c6 := hb.cell a_c6; replace a_c7 := hb.cell a_c7; replace a_c8 := hb.cell a_c8; replace a_c9 := hb.cell a_c9; replace a_c10 := hb.cell a_c10; replace t_c0 := hb.cell t_c0; replace t_c1 := hb.cell t_c1)
      | (go_at_call 12; ((with_reducible refine (light_any a_s a_p a_n a_v0 a_v1 a_v2 a_v3 a_l0 a_l1 a_l2 a_l3 _).mono ?_); rintro e w1 ⟨rfl, hb⟩; rw [la]; replace hE := hE.next hb; replace hS := hS.trans hb; replace hv := hv.next hb; replace a_B := a_B.next hb; replace a_c0 := hb.cell a_c0; replace a_c1 := hb.cell a_c1; replace a_c2 := hb.cell a_c2; replace a_c3 := hb.cell a_c3; replace a_c4 := hb.cell a_c4; replace a_c5 := hb.cell a_c5; replace a_c6 := hb.cell a_c6; replace a_c7 := hb.cell a_c7; replace a_c8 := hb.cell a_c8; replace a_c9 := hb.cell a_c9; replace a_c10 := hb.cell a_c10; replace t_c0 := hb.cell t_c0; replace t_c1 := hb.cell t_c1)))
    go_ret
    exact ⟨rfl, hS⟩
  · have g1 : decide ((300 : Int) < (tl.length : Int)) = false := decide_eq_false (by omega)
    have g2 : decide ((300 : Int) < (s.length : Int)) = true := decide_eq_true (by omega)
    go_enter Tryd.func7, Tryd.ntmps7
    go_wp2_with (first
      | (go_at_call 18; refine (lives03_any _ hE).mono ?_; rintro e w1 ⟨rfl, hb⟩; replace hE := hE.next hb; replace hS := hS.trans hb; replace hv := hv.next hb; replace a_B := a_B.next hb; replace a_c0 := hb.cell a_c0; replace a_c1 := hb.cell a_c1; replace a_c2 := hb.cell a_c2; replace a_c3 := hb.cell a_c3; replace a_c4 := hb.cell a_c4; replace a_c5 := hb.cell a_c5; replace a_c6 := hb.cell a_c6; replace a_c7 := hb.cell a_c7; replace a_c8 := hb.cell a_c8; replace a_c9 := hb.cell a_c9; replace a_c10 := hb.cell a_c10; replace t_c0 := hb.cell t_c0; replace t_c1 := hb.cell t_c1)
      | (go_at_call 12; ((with_reducible refine (light_any a_s a_p a_n a_v0 a_v1 a_v2 a_v3 a_l0 a_l1 a_l2 a_l3 _).mono ?_); rintro e w1 ⟨rfl, hb⟩; rw [la]; replace hE := hE.next hb; replace hS := hS.trans hb; replace hv := hv.next hb; replace a_B := a_B.next hb; replace a_c0 := hb.cell a_c0; replace a_c1 := hb.cell a_c1; replace a_c2 := hb.cell a_c2; replace a_c3 := hb.cell a_c3; replace a_c4 := hb.cell a_c4; replace a_c5 := hb.cell a_c5; replace a_c6 := hb.cell a_c6; replace a_c7 := hb.cell a_c7; replace a_c8 := hb.cell a_c8; replace a_c9 := hb.cell a_c9; replace a_c10 := hb.cell a_c10; replace t_c0 := hb.cell t_c0; replace t_c1 := hb.cell t_c1)))
    go_ret
    exact ⟨rfl, hS⟩
  · have g1 : decide ((300 : Int) < (tl.length : Int)) = false := decide_eq_false (by omega)
    have g2 : decide ((300 : Int) < (s.length : Int)) = false := decide_eq_false (by omega)
    have g3 : decide ((300 : Int) < (p.length : Int)) = true := decide_eq_true (by omega)
    go_enter Tryd.func7, Tryd.ntmps7
    go_wp2_with (first
      | (go_at_call 18; refine (lives03_any _ hE).mono ?_; rintro e w1 ⟨rfl, hb⟩; replace hE := hE.next hb; replace hS := hS.trans hb; replace hv := hv.next hb; replace a_B := a_B.next hb; replace a_c0 := hb.cell a_c0; replace a_c1 := hb.cell a_c1; replace a_c2 := hb.cell a_c2; replace a_c3 := hb.cell a_c3; replace a_c4 := hb.cell a_c4; replace a_c5 := hb.cell a_c5; replace a_c6 := hb.cell a_c6; replace a_c7 := hb.cell a_c7; replace a_c8 := hb.cell a_c8; replace a_c9 := hb.cell a_c9; replace a_c10 := hb.cell a_c10; replace t_c0 := hb.cell t_c0; replace t_c1 := hb.cell t_c1)
      | (go_at_call 12; ((with_reducible refine (light_any a_s a_p a_n a_v0 a_v1 a_v2 a_v3 a_l0 a_l1 a_l2 a_l3 _).mono ?_); rintro e w1 ⟨rfl, hb⟩; rw [la]; replace hE := hE.next hb; replace hS := hS.trans hb; replace hv := hv.next hb; replace a_B := a_B.next hb; replace a_c0 := hb.cell a_c0; replace a_c1 := hb.cell a_c1; replace a_c2 := hb.cell a_c2; replace a_c3 := hb.cell a_c3; replace a_c4 := hb.cell a_c4; replace a_c5 := hb.cell a_c5; replace a_c6 := hb.cell a_c6; replace a_c7 := hb.cell a_c7; replace a_c8 := hb.cell a_c8; replace a_c9 := hb.cell a_c9; replace a_c10 := hb.cell a_c10; replace t_c0 := hb.cell t_c0; replace t_c1 := hb.cell t_c1)))
    go_ret
    exact ⟨rfl, hS⟩
  · have g1 : decide ((300 : Int) < (tl.length : Int)) = false := decide_eq_false (by omega)
    have g2 : decide ((300 : Int) < (s.length : Int)) = false := decide_eq_false (by omega)
    have g3 : decide ((300 : Int) < (p.length : Int)) = false := decide_eq_false (by omega)
    have g4 : decide ((9 : Int) < (L.length : Int)) = true := decide_eq_true (by omega)
    go_enter Tryd.func7, Tryd.ntmps7
    go_wp2_with (first
      | (go_at_call 18; refine (lives03_any _ hE).mono ?_; rintro e w1 ⟨rfl, hb⟩; replace hE := hE.next hb; replace hS := hS.trans hb; replace hv := hv.next hb; replace a_B := a_B.next hb; replace a_c0 := hb.cell a_c0; replace a_c1 := hb.cell a_c1; replace a_c2 := hb.cell a_c2; replace a_c3 := hb.cell a_c3; replace a_c4 := hb.cell a_c4; replace a_c5 := hb.cell a_c5; replace a_c6 := hb.cell a_c6; replace a_c7 := hb.cell a_c7; replace a_c8 := hb.cell a_c8; replace a_c9 := hb.cell a_c9; replace a_c10 := hb.cell a_c10; replace t_c0 := hb.cell t_c0; replace t_c1 := hb.cell t_c1)
      | (go_at_call 12; ((with_reducible refine (light_any a_s a_p a_n a_v0 a_v1 a_v2 a_v3 a_l0 a_l1 a_l2 a_l3 _).mono ?_); rintro e w1 ⟨rfl, hb⟩; rw [la]; replace hE := hE.next hb; replace hS := hS.trans hb; replace hv := hv.next hb; replace a_B := a_B.next hb; replace a_c0 := hb.cell a_c0; replace a_c1 := hb.cell a_c1; replace a_c2 := hb.cell a_c2; replace a_c3 := hb.cell a_c3; replace a_c4 := hb.cell a_c4; replace a_c5 := hb.cell a_c5; replace a_c6 := hb.cell a_c6; replace a_c7 := hb.cell a_c7; replace a_c8 := hb.cell a_c8; replace a_c9 := hb.cell a_c9; replace a_c10 := hb.cell a_c10; replace t_c0 := hb.cell t_c0; replace t_c1 := hb.cell t_c1)))
    go_ret
    exact ⟨rfl, hS⟩

theorem calls_walk (a_s a_p : List UInt8) (a_n : Int) (a_v0 a_v1 a_v2 a_v3 : Bool) (a_l0 a_l1 a_l2 a_l3 : List UInt8) (tv : Bool) (tl s p : List UInt8) (v : Value) (L : List Tm) (w : World) (hE : Env w) (fa : FitsA ((a_s, a_p, a_n, (a_v0, a_l0), (a_v1, a_l1), (a_v2, a_l2), (a_v3, a_l3)) : Atm)) (ht : tl.length ≤ maxLen) (hs : s.length ≤ maxLen) (hp : p.length ≤ maxLen) (hv : RowOf 2 tmC w v L) (hl : ∀ t ∈ L, t.2.length ≤ maxLen) :
    Calls Tryd.prog 7 #[.agg #[.string ⟨a_s.toArray⟩, .string ⟨a_p.toArray⟩, .int .i64 a_n, .bool a_v0, .string ⟨a_l0.toArray⟩, .bool a_v1, .string ⟨a_l1.toArray⟩, .bool a_v2, .string ⟨a_l2.toArray⟩, .bool a_v3, .string ⟨a_l3.toArray⟩], .agg #[.bool tv, .string ⟨tl.toArray⟩], .string ⟨s.toArray⟩, .string ⟨p.toArray⟩, v] w fun e w' => e = .returned (.bool true) ∧ Since w w' := by
  cases la : lightB ((a_s, a_p, a_n, (a_v0, a_l0), (a_v1, a_l1), (a_v2, a_l2), (a_v3, a_l3)) : Atm)
  · exact calls_out a_s a_p a_n a_v0 a_v1 a_v2 a_v3 a_l0 a_l1 a_l2 a_l3 tv tl s p v L w hE ht hs hp hv (.inl la)
  by_cases h1 : tl.length ≤ 300
  · by_cases h2 : s.length ≤ 300
    · by_cases h3 : p.length ≤ 300
      · by_cases h4 : L.length ≤ 9
        · exact calls_main a_s a_p a_n a_v0 a_v1 a_v2 a_v3 a_l0 a_l1 a_l2 a_l3 tv tl s p v L w hE fa la h1 h2 h3 hv hl h4
        · exact calls_out a_s a_p a_n a_v0 a_v1 a_v2 a_v3 a_l0 a_l1 a_l2 a_l3 tv tl s p v L w hE ht hs hp hv (.inr ⟨la, .inr ⟨h1, .inr ⟨h2, .inr ⟨h3, by omega⟩⟩⟩⟩)
      · exact calls_out a_s a_p a_n a_v0 a_v1 a_v2 a_v3 a_l0 a_l1 a_l2 a_l3 tv tl s p v L w hE ht hs hp hv (.inr ⟨la, .inr ⟨h1, .inr ⟨h2, .inl (by omega)⟩⟩⟩)
    · exact calls_out a_s a_p a_n a_v0 a_v1 a_v2 a_v3 a_l0 a_l1 a_l2 a_l3 tv tl s p v L w hE ht hs hp hv (.inr ⟨la, .inr ⟨h1, .inl (by omega)⟩⟩)
  · exact calls_out a_s a_p a_n a_v0 a_v1 a_v2 a_v3 a_l0 a_l1 a_l2 a_l3 tv tl s p v L w hE ht hs hp hv (.inr ⟨la, .inl (by omega)⟩)
end Go.Proofs.YtapkafdlbocmmaaDoor
