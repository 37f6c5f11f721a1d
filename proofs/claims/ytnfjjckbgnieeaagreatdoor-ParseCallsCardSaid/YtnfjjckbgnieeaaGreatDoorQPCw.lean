/- ParseCalls of law 10: the walk. -/
import Derived.Test.YtnfjjckbgnieeaaGreatDoorQPSp
import Derived.Test.YtnfjjckbgnieeaaGreatDoorQParR
import Derived.Test.YtnfjjckbgnieeaaGreatDoorQRpI
namespace Go.Proofs.YtnfjjckbgnieeaaGreatDoor
open Go.RowKit
attribute [local go_sem ↓] run_termEq' run_atomEq
attribute [local go_sem] eqA_self eqT_self

set_option maxHeartbeats 8000000 in
set_option maxRecDepth 100000 in
theorem pcalls_any (s : Txt) (w : World) (hs : s.length ≤ maxLen) (hE : EnvT w) :
    Calls Tryz.prog 8 #[.string ⟨s.toArray⟩] w fun e w' => e = .returned (.bool true) ∧ Since w w' := by
  obtain ⟨K, hK⟩ : ∃ K : Ending → World → Prop, Hid (K = fun e w' => e = .returned (.bool true) ∧ Since w w') := ⟨_, rfl⟩
  have hgood : Hid (∀ w', Since w w' → K (.returned (.bool true)) w') := fun w' h => by rw [hK.out]; exact ⟨rfl, h⟩
  rw [← hK.out]
  have HL : Hid (Calls Tryz.prog 10 #[] w fun e w' => e = .returned (.bool true) ∧ Since w w') := lives10_any w hE
  have HP1 : Hid (∀ W, Since w W → Calls Tryz.prog 11 #[.string ⟨s.toArray⟩] W (PolPost s W)) := fun W h => policy_any s hs W (hE.next h)
  have HP2 : Hid (s.length ≤ 1500 → ∀ W, Calls Tryz.prog 28 #[.string ⟨s.toArray⟩] W (PolPost s W)) := fun h W => rpolicy_any s (by omega) W
  have HG1 := Lib.hid (fun W (h : Since w W) => pub_goal_any s hs W (hE.next h))
  have HA1 := Lib.hid (fun W (h : Since w W) => pub_atom_any s hs W (hE.next h))
  have HG2 : Hid (s.length ≤ 1500 → ∀ W, Calls Tryz.prog 29 #[.string ⟨s.toArray⟩] W fun e w' => e = .returned (.tuple #[.agg (atmC (oneL (some [63]) s).1), .int .i64 ((oneL (some [63]) s).2.1 : Int), .int .i64 (oneL (some [63]) s).2.2]) ∧ Since W w') := fun h W => rgoal_any s (by omega) W
  have HA2 : Hid (s.length ≤ 1500 → ∀ W, Calls Tryz.prog 30 #[.string ⟨s.toArray⟩] W fun e w' => e = .returned (.tuple #[.agg (atmC (oneL none s).1), .int .i64 ((oneL none s).2.1 : Int), .int .i64 (oneL none s).2.2]) ∧ Since W w') := fun h W => rpatom_any s (by omega) W
  unfold PolPost at HP1 HP2
  obtain ⟨R1, hR1⟩ : ∃ R, Hid (R = policyL s) := ⟨_, rfl⟩
  obtain ⟨R3, hR3⟩ : ∃ R, Hid (R = oneL (some [63]) s) := ⟨_, rfl⟩
  obtain ⟨R4, hR4⟩ : ∃ R, Hid (R = oneL none s) := ⟨_, rfl⟩
  rw [← hR1.out] at HP1 HP2
  rw [← hR3.out] at HG1 HG2
  rw [← hR4.out] at HA1 HA2
  obtain ⟨P1, at_, f⟩ := R1
  obtain ⟨⟨a_s, a_p, a_n, ⟨a_v0, a_l0⟩, ⟨a_v1, a_l1⟩, ⟨a_v2, a_l2⟩, ⟨a_v3, a_l3⟩⟩, pa, h⟩ := R3
  obtain ⟨⟨b_s, b_p, b_n, ⟨b_v0, b_l0⟩, ⟨b_v1, b_l1⟩, ⟨b_v2, b_l2⟩, ⟨b_v3, b_l3⟩⟩, pb, h2⟩ := R4
  simp only at HP1 HP2 HG1 HG2 HA1 HA2
  replace HG1 : Hid (∀ W, Since w W → Calls Tryz.prog 24 #[.string ⟨s.toArray⟩] W fun e w' => e = .returned (.tuple #[.agg #[.string ⟨a_s.toArray⟩, .string ⟨a_p.toArray⟩, .int .i64 a_n, .bool a_v0, .string ⟨a_l0.toArray⟩, .bool a_v1, .string ⟨a_l1.toArray⟩, .bool a_v2, .string ⟨a_l2.toArray⟩, .bool a_v3, .string ⟨a_l3.toArray⟩], .int .i64 (pa : Int), .int .i64 h]) ∧ Since W w') := HG1.out
  replace HG2 : Hid (s.length ≤ 1500 → ∀ W, Calls Tryz.prog 29 #[.string ⟨s.toArray⟩] W fun e w' => e = .returned (.tuple #[.agg #[.string ⟨a_s.toArray⟩, .string ⟨a_p.toArray⟩, .int .i64 a_n, .bool a_v0, .string ⟨a_l0.toArray⟩, .bool a_v1, .string ⟨a_l1.toArray⟩, .bool a_v2, .string ⟨a_l2.toArray⟩, .bool a_v3, .string ⟨a_l3.toArray⟩], .int .i64 (pa : Int), .int .i64 h]) ∧ Since W w') := HG2.out
  replace HA1 : Hid (∀ W, Since w W → Calls Tryz.prog 27 #[.string ⟨s.toArray⟩] W fun e w' => e = .returned (.tuple #[.agg #[.string ⟨b_s.toArray⟩, .string ⟨b_p.toArray⟩, .int .i64 b_n, .bool b_v0, .string ⟨b_l0.toArray⟩, .bool b_v1, .string ⟨b_l1.toArray⟩, .bool b_v2, .string ⟨b_l2.toArray⟩, .bool b_v3, .string ⟨b_l3.toArray⟩], .int .i64 (pb : Int), .int .i64 h2]) ∧ Since W w') := HA1.out
  replace HA2 : Hid (s.length ≤ 1500 → ∀ W, Calls Tryz.prog 30 #[.string ⟨s.toArray⟩] W fun e w' => e = .returned (.tuple #[.agg #[.string ⟨b_s.toArray⟩, .string ⟨b_p.toArray⟩, .int .i64 b_n, .bool b_v0, .string ⟨b_l0.toArray⟩, .bool b_v1, .string ⟨b_l1.toArray⟩, .bool b_v2, .string ⟨b_l2.toArray⟩, .bool b_v3, .string ⟨b_l3.toArray⟩], .int .i64 (pb : Int), .int .i64 h2]) ∧ Since W w') := HA2.out
  obtain ⟨n, hn⟩ : ∃ n : Nat, Hid (s.length = n) := ⟨_, rfl⟩
  have hn2 := hn.out
  clear hE hK hR1 hR3 hR4 hs
  go_enter Tryz.func8, Tryz.ntmps8
  go_wp2_with fail
  refine HL.out.mono ?_
  rintro e w4 ⟨rfl, hS4⟩
  clear HL
  by_cases gn : (1500 : Int) < (n : Int)
  · go_wp2_with fail
    exact hgood.out _ hS4
  have hsn : s.length ≤ 1500 := by omega
  replace HP2 := Lib.hid (HP2.out hsn)
  replace HG2 := Lib.hid (HG2.out hsn)
  replace HA2 := Lib.hid (HA2.out hsn)
  clear hsn
  go_wp2_with fail
  refine (HP1.out _ hS4).mono ?_
  rintro e w6 ⟨c3, c4, c5, c6, c7, c8, c9, C1, U1, G1, rfl, hO1, hb⟩
  have hS6 := hS4.trans hb
  clear hb HP1 hS4
  obtain ⟨pr, pd, cl, qu, bu, ru, gr⟩ := P1
  obtain ⟨a3, e3, a4, e4, a5, e5, a8, e8, a9, e9, v3, v4, v5, v6, v7, v8, v9⟩ := pol_cells2 hO1
  simp only at v3 v4 v5 v6 v7 v8 v9
  subst v3 v4 v5 v6 v7 v8 v9
  obtain ⟨w7, hw7⟩ : ∃ W, Hid (W = w6.alloc (.cells #[.slice a3 pr.length e3, .slice a4 pd.length e4, .slice a5 cl.length e5, .int .i64 qu, .int .i64 bu, .slice a8 ru.length e8, .slice a9 gr.length e9] 29)) := ⟨_, rfl⟩
  have hb : Since w6 w7 := by rw [hw7.out]; exact (Since.refl w6).alloc _
  have hB1 : Cel w7 w6.heap.size #[.slice a3 pr.length e3, .slice a4 pd.length e4, .slice a5 cl.length e5, .int .i64 qu, .int .i64 bu, .slice a8 ru.length e8, .slice a9 gr.length e9] 29 := by rw [hw7.out]; exact heap_alloc_new w6 _
  have hS7 := hS6.trans hb
  replace hO1 := hO1.next hb
  clear hb hS6
  go_upto_region 6 with (fail)
  rw [← hw7.out]
  obtain ⟨g1, hg1⟩ : ∃ g, Hid (g = w6.heap.size) := ⟨_, rfl⟩
  simp only [← hg1.out]
  rw [← hg1.out] at hB1
  clear hg1 hw7
  go_wp2_with fail
  refine (HP2.out w7).mono ?_
  rintro e w8 ⟨d3, d4, d5, d6, d7, d8, d9, C2, U2, G2, rfl, hO2, hb⟩
  have hS8 := hS7.trans hb
  replace hO1 := hO1.next hb
  replace hB1 := hB1.next hb
  clear hb HP2 hS7
  obtain ⟨x3, y3, x4, y4, x5, y5, x8, y8, x9, y9, v3, v4, v5, v6, v7, v8, v9⟩ := pol_cells2 hO2
  simp only at v3 v4 v5 v6 v7 v8 v9
  subst v3 v4 v5 v6 v7 v8 v9
  obtain ⟨w9, hw9⟩ : ∃ W, Hid (W = w8.alloc (.cells #[.slice x3 pr.length y3, .slice x4 pd.length y4, .slice x5 cl.length y5, .int .i64 qu, .int .i64 bu, .slice x8 ru.length y8, .slice x9 gr.length y9] 29)) := ⟨_, rfl⟩
  have hb : Since w8 w9 := by rw [hw9.out]; exact (Since.refl w8).alloc _
  have hB2 : Cel w9 w8.heap.size #[.slice x3 pr.length y3, .slice x4 pd.length y4, .slice x5 cl.length y5, .int .i64 qu, .int .i64 bu, .slice x8 ru.length y8, .slice x9 gr.length y9] 29 := by rw [hw9.out]; exact heap_alloc_new w8 _
  have hS9 := hS8.trans hb
  replace hO1 := hO1.next hb
  replace hO2 := hO2.next hb
  replace hB1 := hB1.next hb
  clear hb hS8
  go_upto_region 7 with (fail)
  rw [← hw9.out]
  obtain ⟨g2, hg2⟩ : ∃ g, Hid (g = w8.heap.size) := ⟨_, rfl⟩
  simp only [← hg2.out]
  rw [← hg2.out] at hB2
  clear hg2 hw9
  go_wp2_with fail
  refine (HG1.out _ hS9).mono ?_
  rintro e wA ⟨rfl, hb⟩
  have hSA := hS9.trans hb
  replace hO1 := hO1.next hb
  replace hO2 := hO2.next hb
  replace hB1 := hB1.next hb
  replace hB2 := hB2.next hb
  clear hb hS9
  obtain ⟨wB, hwB⟩ : ∃ W, Hid (W = wA.alloc (.cells #[.string ⟨a_s.toArray⟩, .string ⟨a_p.toArray⟩, .int .i64 a_n, .bool a_v0, .string ⟨a_l0.toArray⟩, .bool a_v1, .string ⟨a_l1.toArray⟩, .bool a_v2, .string ⟨a_l2.toArray⟩, .bool a_v3, .string ⟨a_l3.toArray⟩] 44)) := ⟨_, rfl⟩
  have hb : Since wA wB := by rw [hwB.out]; exact (Since.refl wA).alloc _
  have hB3 : Cel wB wA.heap.size #[.string ⟨a_s.toArray⟩, .string ⟨a_p.toArray⟩, .int .i64 a_n, .bool a_v0, .string ⟨a_l0.toArray⟩, .bool a_v1, .string ⟨a_l1.toArray⟩, .bool a_v2, .string ⟨a_l2.toArray⟩, .bool a_v3, .string ⟨a_l3.toArray⟩] 44 := by rw [hwB.out]; exact heap_alloc_new wA _
  have hSB := hSA.trans hb
  replace hO1 := hO1.next hb
  replace hO2 := hO2.next hb
  replace hB1 := hB1.next hb
  replace hB2 := hB2.next hb
  clear hb hSA
  go_upto_region 8 with (fail)
  rw [← hwB.out]
  obtain ⟨g3, hg3⟩ : ∃ g, Hid (g = wA.heap.size) := ⟨_, rfl⟩
  simp only [← hg3.out]
  rw [← hg3.out] at hB3
  clear hg3 hwB
  go_wp2_with fail
  refine (HG2.out _).mono ?_
  rintro e wC ⟨rfl, hb⟩
  have hSC := hSB.trans hb
  replace hO1 := hO1.next hb
  replace hO2 := hO2.next hb
  replace hB1 := hB1.next hb
  replace hB2 := hB2.next hb
  replace hB3 := hB3.next hb
  clear hb hSB
  obtain ⟨wD, hwD⟩ : ∃ W, Hid (W = wC.alloc (.cells #[.string ⟨a_s.toArray⟩, .string ⟨a_p.toArray⟩, .int .i64 a_n, .bool a_v0, .string ⟨a_l0.toArray⟩, .bool a_v1, .string ⟨a_l1.toArray⟩, .bool a_v2, .string ⟨a_l2.toArray⟩, .bool a_v3, .string ⟨a_l3.toArray⟩] 44)) := ⟨_, rfl⟩
  have hb : Since wC wD := by rw [hwD.out]; exact (Since.refl wC).alloc _
  have hB4 : Cel wD wC.heap.size #[.string ⟨a_s.toArray⟩, .string ⟨a_p.toArray⟩, .int .i64 a_n, .bool a_v0, .string ⟨a_l0.toArray⟩, .bool a_v1, .string ⟨a_l1.toArray⟩, .bool a_v2, .string ⟨a_l2.toArray⟩, .bool a_v3, .string ⟨a_l3.toArray⟩] 44 := by rw [hwD.out]; exact heap_alloc_new wC _
  have hSD := hSC.trans hb
  replace hO1 := hO1.next hb
  replace hO2 := hO2.next hb
  replace hB1 := hB1.next hb
  replace hB2 := hB2.next hb
  replace hB3 := hB3.next hb
  clear hb hSC
  go_upto_region 9 with (fail)
  rw [← hwD.out]
  obtain ⟨g4, hg4⟩ : ∃ g, Hid (g = wC.heap.size) := ⟨_, rfl⟩
  simp only [← hg4.out]
  rw [← hg4.out] at hB4
  clear hg4 hwD
  go_wp2_with fail
  refine (HA1.out _ hSD).mono ?_
  rintro e wE ⟨rfl, hb⟩
  have hSE := hSD.trans hb
  replace hO1 := hO1.next hb
  replace hO2 := hO2.next hb
  replace hB1 := hB1.next hb
  replace hB2 := hB2.next hb
  replace hB3 := hB3.next hb
  replace hB4 := hB4.next hb
  clear hb hSD
  obtain ⟨wF, hwF⟩ : ∃ W, Hid (W = wE.alloc (.cells #[.string ⟨b_s.toArray⟩, .string ⟨b_p.toArray⟩, .int .i64 b_n, .bool b_v0, .string ⟨b_l0.toArray⟩, .bool b_v1, .string ⟨b_l1.toArray⟩, .bool b_v2, .string ⟨b_l2.toArray⟩, .bool b_v3, .string ⟨b_l3.toArray⟩] 44)) := ⟨_, rfl⟩
  have hb : Since wE wF := by rw [hwF.out]; exact (Since.refl wE).alloc _
  have hB5 : Cel wF wE.heap.size #[.string ⟨b_s.toArray⟩, .string ⟨b_p.toArray⟩, .int .i64 b_n, .bool b_v0, .string ⟨b_l0.toArray⟩, .bool b_v1, .string ⟨b_l1.toArray⟩, .bool b_v2, .string ⟨b_l2.toArray⟩, .bool b_v3, .string ⟨b_l3.toArray⟩] 44 := by rw [hwF.out]; exact heap_alloc_new wE _
  have hSF := hSE.trans hb
  replace hO1 := hO1.next hb
  replace hO2 := hO2.next hb
  replace hB1 := hB1.next hb
  replace hB2 := hB2.next hb
  replace hB3 := hB3.next hb
  replace hB4 := hB4.next hb
  clear hb hSE
  go_upto_region 10 with (fail)
  rw [← hwF.out]
  obtain ⟨g5, hg5⟩ : ∃ g, Hid (g = wE.heap.size) := ⟨_, rfl⟩
  simp only [← hg5.out]
  rw [← hg5.out] at hB5
  clear hg5 hwF
  go_wp2_with fail
  refine (HA2.out _).mono ?_
  rintro e wG ⟨rfl, hb⟩
  have hSG := hSF.trans hb
  replace hO1 := hO1.next hb
  replace hO2 := hO2.next hb
  replace hB1 := hB1.next hb
  replace hB2 := hB2.next hb
  replace hB3 := hB3.next hb
  replace hB4 := hB4.next hb
  replace hB5 := hB5.next hb
  clear hb hSF
  obtain ⟨wH, hwH⟩ : ∃ W, Hid (W = wG.alloc (.cells #[.string ⟨b_s.toArray⟩, .string ⟨b_p.toArray⟩, .int .i64 b_n, .bool b_v0, .string ⟨b_l0.toArray⟩, .bool b_v1, .string ⟨b_l1.toArray⟩, .bool b_v2, .string ⟨b_l2.toArray⟩, .bool b_v3, .string ⟨b_l3.toArray⟩] 44)) := ⟨_, rfl⟩
  have hb : Since wG wH := by rw [hwH.out]; exact (Since.refl wG).alloc _
  have hB6 : Cel wH wG.heap.size #[.string ⟨b_s.toArray⟩, .string ⟨b_p.toArray⟩, .int .i64 b_n, .bool b_v0, .string ⟨b_l0.toArray⟩, .bool b_v1, .string ⟨b_l1.toArray⟩, .bool b_v2, .string ⟨b_l2.toArray⟩, .bool b_v3, .string ⟨b_l3.toArray⟩] 44 := by rw [hwH.out]; exact heap_alloc_new wG _
  have hSH := hSG.trans hb
  replace hO1 := hO1.next hb
  replace hO2 := hO2.next hb
  replace hB1 := hB1.next hb
  replace hB2 := hB2.next hb
  replace hB3 := hB3.next hb
  replace hB4 := hB4.next hb
  replace hB5 := hB5.next hb
  clear hb hSG
  go_upto_region 11 with (fail)
  rw [← hwH.out]
  obtain ⟨g6, hg6⟩ : ∃ g, Hid (g = wG.heap.size) := ⟨_, rfl⟩
  simp only [← hg6.out]
  rw [← hg6.out] at hB6
  clear hg6 hwH
  have HSP := Lib.hid (same_policy_any hO1 hO2)
  clear hO1 hO2
  have k0 : wH.cell? ⟨g1, 0, none⟩ = some (.slice a3 pr.length e3) := hB1.cell 0; have l0 : wH.cell? ⟨g2, 0, none⟩ = some (.slice x3 pr.length y3) := hB2.cell 0; have k1 : wH.cell? ⟨g1, 1, none⟩ = some (.slice a4 pd.length e4) := hB1.cell 1; have l1 : wH.cell? ⟨g2, 1, none⟩ = some (.slice x4 pd.length y4) := hB2.cell 1; have k2 : wH.cell? ⟨g1, 2, none⟩ = some (.slice a5 cl.length e5) := hB1.cell 2; have l2 : wH.cell? ⟨g2, 2, none⟩ = some (.slice x5 cl.length y5) := hB2.cell 2; have k3 : wH.cell? ⟨g1, 3, none⟩ = some (.int .i64 qu) := hB1.cell 3; have l3 : wH.cell? ⟨g2, 3, none⟩ = some (.int .i64 qu) := hB2.cell 3; have k4 : wH.cell? ⟨g1, 4, none⟩ = some (.int .i64 bu) := hB1.cell 4; have l4 : wH.cell? ⟨g2, 4, none⟩ = some (.int .i64 bu) := hB2.cell 4; have k5 : wH.cell? ⟨g1, 5, none⟩ = some (.slice a8 ru.length e8) := hB1.cell 5; have l5 : wH.cell? ⟨g2, 5, none⟩ = some (.slice x8 ru.length y8) := hB2.cell 5; have k6 : wH.cell? ⟨g1, 6, none⟩ = some (.slice a9 gr.length e9) := hB1.cell 6; have l6 : wH.cell? ⟨g2, 6, none⟩ = some (.slice x9 gr.length y9) := hB2.cell 6
  have HC3 := Lib.hid hB3
  have HC4 := Lib.hid hB4
  have HC5 := Lib.hid hB5
  have HC6 := Lib.hid hB6
  clear hB1 hB2 hB3 hB4 hB5 hB6
  go_wp2_with fail
  refine HSP.out.mono ?_
  rintro e wI ⟨rfl, hb⟩
  have hSI := hSH.trans hb
  have hB3 := HC3.out.next hb
  have hB4 := HC4.out.next hb
  have hB5 := HC5.out.next hb
  have hB6 := HC6.out.next hb
  have m0 : wI.cell? ⟨g3, 0, none⟩ = some (.string ⟨a_s.toArray⟩) := hB3.cell 0; have n0 : wI.cell? ⟨g4, 0, none⟩ = some (.string ⟨a_s.toArray⟩) := hB4.cell 0; have o0 : wI.cell? ⟨g5, 0, none⟩ = some (.string ⟨b_s.toArray⟩) := hB5.cell 0; have q0 : wI.cell? ⟨g6, 0, none⟩ = some (.string ⟨b_s.toArray⟩) := hB6.cell 0; have m1 : wI.cell? ⟨g3, 1, none⟩ = some (.string ⟨a_p.toArray⟩) := hB3.cell 1; have n1 : wI.cell? ⟨g4, 1, none⟩ = some (.string ⟨a_p.toArray⟩) := hB4.cell 1; have o1 : wI.cell? ⟨g5, 1, none⟩ = some (.string ⟨b_p.toArray⟩) := hB5.cell 1; have q1 : wI.cell? ⟨g6, 1, none⟩ = some (.string ⟨b_p.toArray⟩) := hB6.cell 1; have m2 : wI.cell? ⟨g3, 2, none⟩ = some (.int .i64 a_n) := hB3.cell 2; have n2 : wI.cell? ⟨g4, 2, none⟩ = some (.int .i64 a_n) := hB4.cell 2; have o2 : wI.cell? ⟨g5, 2, none⟩ = some (.int .i64 b_n) := hB5.cell 2; have q2 : wI.cell? ⟨g6, 2, none⟩ = some (.int .i64 b_n) := hB6.cell 2; have m3 : wI.cell? ⟨g3, 3, none⟩ = some (.bool a_v0) := hB3.cell 3; have n3 : wI.cell? ⟨g4, 3, none⟩ = some (.bool a_v0) := hB4.cell 3; have o3 : wI.cell? ⟨g5, 3, none⟩ = some (.bool b_v0) := hB5.cell 3; have q3 : wI.cell? ⟨g6, 3, none⟩ = some (.bool b_v0) := hB6.cell 3; have m4 : wI.cell? ⟨g3, 4, none⟩ = some (.string ⟨a_l0.toArray⟩) := hB3.cell 4; have n4 : wI.cell? ⟨g4, 4, none⟩ = some (.string ⟨a_l0.toArray⟩) := hB4.cell 4; have o4 : wI.cell? ⟨g5, 4, none⟩ = some (.string ⟨b_l0.toArray⟩) := hB5.cell 4; have q4 : wI.cell? ⟨g6, 4, none⟩ = some (.string ⟨b_l0.toArray⟩) := hB6.cell 4; have m5 : wI.cell? ⟨g3, 5, none⟩ = some (.bool a_v1) := hB3.cell 5; have n5 : wI.cell? ⟨g4, 5, none⟩ = some (.bool a_v1) := hB4.cell 5; have o5 : wI.cell? ⟨g5, 5, none⟩ = some (.bool b_v1) := hB5.cell 5; have q5 : wI.cell? ⟨g6, 5, none⟩ = some (.bool b_v1) := hB6.cell 5; have m6 : wI.cell? ⟨g3, 6, none⟩ = some (.string ⟨a_l1.toArray⟩) := hB3.cell 6; have n6 : wI.cell? ⟨g4, 6, none⟩ = some (.string ⟨a_l1.toArray⟩) := hB4.cell 6; have o6 : wI.cell? ⟨g5, 6, none⟩ = some (.string ⟨b_l1.toArray⟩) := hB5.cell 6; have q6 : wI.cell? ⟨g6, 6, none⟩ = some (.string ⟨b_l1.toArray⟩) := hB6.cell 6; have m7 : wI.cell? ⟨g3, 7, none⟩ = some (.bool a_v2) := hB3.cell 7; have n7 : wI.cell? ⟨g4, 7, none⟩ = some (.bool a_v2) := hB4.cell 7; have o7 : wI.cell? ⟨g5, 7, none⟩ = some (.bool b_v2) := hB5.cell 7; have q7 : wI.cell? ⟨g6, 7, none⟩ = some (.bool b_v2) := hB6.cell 7; have m8 : wI.cell? ⟨g3, 8, none⟩ = some (.string ⟨a_l2.toArray⟩) := hB3.cell 8; have n8 : wI.cell? ⟨g4, 8, none⟩ = some (.string ⟨a_l2.toArray⟩) := hB4.cell 8; have o8 : wI.cell? ⟨g5, 8, none⟩ = some (.string ⟨b_l2.toArray⟩) := hB5.cell 8; have q8 : wI.cell? ⟨g6, 8, none⟩ = some (.string ⟨b_l2.toArray⟩) := hB6.cell 8; have m9 : wI.cell? ⟨g3, 9, none⟩ = some (.bool a_v3) := hB3.cell 9; have n9 : wI.cell? ⟨g4, 9, none⟩ = some (.bool a_v3) := hB4.cell 9; have o9 : wI.cell? ⟨g5, 9, none⟩ = some (.bool b_v3) := hB5.cell 9; have q9 : wI.cell? ⟨g6, 9, none⟩ = some (.bool b_v3) := hB6.cell 9; have m10 : wI.cell? ⟨g3, 10, none⟩ = some (.string ⟨a_l3.toArray⟩) := hB3.cell 10; have n10 : wI.cell? ⟨g4, 10, none⟩ = some (.string ⟨a_l3.toArray⟩) := hB4.cell 10; have o10 : wI.cell? ⟨g5, 10, none⟩ = some (.string ⟨b_l3.toArray⟩) := hB5.cell 10; have q10 : wI.cell? ⟨g6, 10, none⟩ = some (.string ⟨b_l3.toArray⟩) := hB6.cell 10
  clear hB3 hB4 hB5 hB6 HC3 HC4 HC5 HC6 HSP hb hSH k0 l0 k1 l1 k2 l2 k3 l3 k4 l4 k5 l5 k6 l6
  go_wp2_with fail
  exact hgood.out _ hSI
end Go.Proofs.YtnfjjckbgnieeaaGreatDoor
