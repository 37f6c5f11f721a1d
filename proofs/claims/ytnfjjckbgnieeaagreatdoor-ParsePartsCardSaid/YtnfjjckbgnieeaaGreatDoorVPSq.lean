/- vouchsafekit.SamePolicy of equal policies whose rows may share what they hold. -/
import Derived.Test.YtnfjjckbgnieeaaGreatDoorVPSp
namespace Go.Proofs.YtnfjjckbgnieeaaGreatDoor
open Go.RowKit
attribute [local go_sem ↓] run_termEq' run_atomEq
attribute [local go_sem] eqA_self eqT_self

/-- A row of things that hold rows. -/
structure NestR {α : Type} (W : World) (B : Nat) (e1 : TypeId) (K1 : Nat) (c : α → Value → List Value) (e2 : TypeId) (K2 : Nat) (cnt : α → Nat) (inn : α → List Value) (v : Value) (L : List (α × Value)) : Prop where
  row : W.ownsRow B e1 K1 v L.length (L.flatMap fun p => c p.1 p.2)
  ins : ∀ p ∈ L, W.ownsRow B e2 K2 p.2 (cnt p.1) (inn p.1)
/-- A policy to read: its rows may share blocks. -/
structure PRd (W : World) (D : Nat) (c3 c4 c5 c6 c7 c8 c9 : Value) (P : Pol) (C : List (Clr × Value)) (U : List (Rul × Value)) (G : List (Grn × Value)) : Prop where
  pr : W.ownsRow D 9 1 c3 P.pr.length (P.pr.flatMap txtL)
  pd : W.ownsRow D 36 2 c4 P.pd.length (P.pd.flatMap prdL)
  cl : NestR W D 38 2 clrC 9 1 (fun x => x.2.length) (fun x => x.2.flatMap txtL) c5 C
  ru : NestR W D 47 12 rulC 44 11 (fun x => x.2.length) (fun x => x.2.flatMap atmL) c8 U
  gr : NestR W D 49 13 grnC 44 11 (fun x => x.2.2.length) (fun x => x.2.2.flatMap atmL) c9 G
  eC : C.map Prod.fst = P.cl
  eU : U.map Prod.fst = P.ru
  eG : G.map Prod.fst = P.gr
  qu : c6 = .int .i64 P.qu
  bu : c7 = .int .i64 P.bu
theorem PRd.next {W W' : World} {D : Nat} {c3 c4 c5 c6 c7 c8 c9 : Value} {P : Pol} {C : List (Clr × Value)} {U : List (Rul × Value)} {G : List (Grn × Value)} (h : PRd W D c3 c4 c5 c6 c7 c8 c9 P C U G) (hs : Since W W') : PRd W' D c3 c4 c5 c6 c7 c8 c9 P C U G :=
  ⟨own_since h.pr hs, own_since h.pd hs, ⟨own_since h.cl.row hs, fun p hp => own_since (h.cl.ins p hp) hs⟩, ⟨own_since h.ru.row hs, fun p hp => own_since (h.ru.ins p hp) hs⟩, ⟨own_since h.gr.row hs, fun p hp => own_since (h.gr.ins p hp) hs⟩, h.eC, h.eU, h.eG, h.qu, h.bu⟩
theorem POwn.prd {W : World} {D : Nat} {c3 c4 c5 c6 c7 c8 c9 : Value} {P : Pol} {C : List (Clr × Value)} {U : List (Rul × Value)} {G : List (Grn × Value)} (h : POwn W D c3 c4 c5 c6 c7 c8 c9 P C U G) : PRd W D c3 c4 c5 c6 c7 c8 c9 P C U G :=
  ⟨h.pr, h.pd, ⟨h.cl.row, h.cl.ins⟩, ⟨h.ru.row, h.ru.ins⟩, ⟨h.gr.row, h.gr.ins⟩, h.eC, h.eU, h.eG, h.qu, h.bu⟩
theorem prd_cells {W : World} {D : Nat} {c3 c4 c5 c6 c7 c8 c9 : Value} {P : Pol} {C : List (Clr × Value)} {U : List (Rul × Value)} {G : List (Grn × Value)} (h : PRd W D c3 c4 c5 c6 c7 c8 c9 P C U G) : ∃ a3 e3 a4 e4 a5 e5 a8 e8 a9 e9, c3 = .slice a3 P.pr.length e3 ∧ c4 = .slice a4 P.pd.length e4 ∧ c5 = .slice a5 P.cl.length e5 ∧ c6 = .int .i64 P.qu ∧ c7 = .int .i64 P.bu ∧ c8 = .slice a8 P.ru.length e8 ∧ c9 = .slice a9 P.gr.length e9 := by
  obtain ⟨a3, e3, h3⟩ := own_slice h.pr
  obtain ⟨a4, e4, h4⟩ := own_slice h.pd
  obtain ⟨a5, e5, h5⟩ := own_slice h.cl.row
  obtain ⟨a8, e8, h8⟩ := own_slice h.ru.row
  obtain ⟨a9, e9, h9⟩ := own_slice h.gr.row
  have l5 : C.length = P.cl.length := by rw [← h.eC, List.length_map]
  have l8 : U.length = P.ru.length := by rw [← h.eU, List.length_map]
  have l9 : G.length = P.gr.length := by rw [← h.eG, List.length_map]
  rw [l5] at h5; rw [l8] at h8; rw [l9] at h9
  exact ⟨a3, e3, a4, e4, a5, e5, a8, e8, a9, e9, h3, h4, h5, h.qu, h.bu, h8, h9⟩
set_option maxHeartbeats 8000000 in
set_option maxRecDepth 100000 in
theorem same_policy_prd {w : World} {D1 D2 : Nat} {c3 c4 c5 c6 c7 c8 c9 d3 d4 d5 d6 d7 d8 d9 : Value} {P : Pol} {C1 C2 : List (Clr × Value)} {U1 U2 : List (Rul × Value)} {G1 G2 : List (Grn × Value)}
    (h1 : PRd w D1 c3 c4 c5 c6 c7 c8 c9 P C1 U1 G1) (h2 : PRd w D2 d3 d4 d5 d6 d7 d8 d9 P C2 U2 G2) :
    Calls Tryz.prog 12 #[.agg #[c3, c4, c5, c6, c7, c8, c9], .agg #[d3, d4, d5, d6, d7, d8, d9]] w fun e w' => e = .returned (.bool true) ∧ Since w w' := by
  obtain ⟨pr, pd, cl, qu, bu, ru, gr⟩ := P
  obtain ⟨a3, e3, a4, e4, a5, e5, a8, e8, a9, e9, v3, v4, v5, v6, v7, v8, v9⟩ := prd_cells h1
  simp only at v3 v4 v5 v6 v7 v8 v9
  subst v3 v4 v5 v6 v7 v8 v9
  obtain ⟨x3, y3, x4, y4, x5, y5, x8, y8, x9, y9, v3, v4, v5, v6, v7, v8, v9⟩ := prd_cells h2
  simp only at v3 v4 v5 v6 v7 v8 v9
  subst v3 v4 v5 v6 v7 v8 v9
  have hS : Since w ((w.alloc (.cells #[.slice a3 pr.length e3, .slice a4 pd.length e4, .slice a5 cl.length e5, .int .i64 qu, .int .i64 bu, .slice a8 ru.length e8, .slice a9 gr.length e9] 29)).alloc (.cells #[.slice x3 pr.length y3, .slice x4 pd.length y4, .slice x5 cl.length y5, .int .i64 qu, .int .i64 bu, .slice x8 ru.length y8, .slice x9 gr.length y9] 29)) := ((Since.refl w).alloc _).alloc _
  have c1 : Cel ((w.alloc (.cells #[.slice a3 pr.length e3, .slice a4 pd.length e4, .slice a5 cl.length e5, .int .i64 qu, .int .i64 bu, .slice a8 ru.length e8, .slice a9 gr.length e9] 29)).alloc (.cells #[.slice x3 pr.length y3, .slice x4 pd.length y4, .slice x5 cl.length y5, .int .i64 qu, .int .i64 bu, .slice x8 ru.length y8, .slice x9 gr.length y9] 29)) w.heap.size #[.slice a3 pr.length e3, .slice a4 pd.length e4, .slice a5 cl.length e5, .int .i64 qu, .int .i64 bu, .slice a8 ru.length e8, .slice a9 gr.length e9] 29 := (show Cel _ _ _ _ from heap_alloc_new w _).next ((Since.refl _).alloc _)
  have c2 : Cel ((w.alloc (.cells #[.slice a3 pr.length e3, .slice a4 pd.length e4, .slice a5 cl.length e5, .int .i64 qu, .int .i64 bu, .slice a8 ru.length e8, .slice a9 gr.length e9] 29)).alloc (.cells #[.slice x3 pr.length y3, .slice x4 pd.length y4, .slice x5 cl.length y5, .int .i64 qu, .int .i64 bu, .slice x8 ru.length y8, .slice x9 gr.length y9] 29)) (w.heap.size + 1) #[.slice x3 pr.length y3, .slice x4 pd.length y4, .slice x5 cl.length y5, .int .i64 qu, .int .i64 bu, .slice x8 ru.length y8, .slice x9 gr.length y9] 29 := by
    have h := heap_alloc_new (w.alloc (.cells #[.slice a3 pr.length e3, .slice a4 pd.length e4, .slice a5 cl.length e5, .int .i64 qu, .int .i64 bu, .slice a8 ru.length e8, .slice a9 gr.length e9] 29)) (.cells #[.slice x3 pr.length y3, .slice x4 pd.length y4, .slice x5 cl.length y5, .int .i64 qu, .int .i64 bu, .slice x8 ru.length y8, .slice x9 gr.length y9] 29)
    rwa [World.size_alloc] at h
  have q1 : C1.map Prod.fst = cl := h1.eC
  have q2 : C2.map Prod.fst = cl := h2.eC
  have q3 : U1.map Prod.fst = ru := h1.eU
  have q4 : U2.map Prod.fst = ru := h2.eU
  have q5 : G1.map Prod.fst = gr := h1.eG
  have q6 : G2.map Prod.fst = gr := h2.eG
  have EC1 := Lib.hid q1
  have EC2 := Lib.hid q2
  have EU1 := Lib.hid q3
  have EU2 := Lib.hid q4
  have EG1 := Lib.hid q5
  have EG2 := Lib.hid q6
  have n1 : Hid (C1.length = cl.length) := by show _ = _; rw [← q1, List.length_map]
  have n2 : Hid (C2.length = cl.length) := by show _ = _; rw [← q2, List.length_map]
  have n3 : Hid (U1.length = ru.length) := by show _ = _; rw [← q3, List.length_map]
  have n4 : Hid (U2.length = ru.length) := by show _ = _; rw [← q4, List.length_map]
  have n5 : Hid (G1.length = gr.length) := by show _ = _; rw [← q5, List.length_map]
  have n6 : Hid (G2.length = gr.length) := by show _ = _; rw [← q6, List.length_map]
  have HlC : Hid (cl.length ≤ 9223372036854775807) := by show _ ≤ _; rw [← n1.out]; exact own_lenP h1.cl.row
  have HlU : Hid (ru.length ≤ 9223372036854775807) := by show _ ≤ _; rw [← n3.out]; exact own_lenP h1.ru.row
  have HlG : Hid (gr.length ≤ 9223372036854775807) := by show _ ≤ _; rw [← n5.out]; exact own_lenP h1.gr.row
  have HP1 := Lib.hid h1
  have HP2 := Lib.hid h2
  have HS1 : Hid (∀ W, Since w W → Calls Tryz.prog 39 #[.slice a3 pr.length e3, .slice x3 pr.length y3] W fun e w' => e = .returned (.bool true) ∧ Since W w') := fun W h => by
    have lm : pr.length ≤ maxLen := Nat.le_trans (own_lenP h1.pr) (by decide)
    have h := same_str (.slice a3 pr.length e3) (.slice x3 pr.length y3) pr pr W (tx_row (own_since h1.pr h)) (tx_row (own_since h2.pr h)) lm lm
    rwa [decide_eq_true (show pr = pr from rfl)] at h
  have HS2 : Hid (∀ W, Since w W → Calls Tryz.prog 40 #[.slice a4 pd.length e4, .slice x4 pd.length y4] W fun e w' => e = .returned (.bool true) ∧ Since W w') := fun W h => same_prdsM _ _ pd W (prd_row (own_since h1.pd h)) (prd_row (own_since h2.pd h)) (own_lenP h1.pd)
  clear h1 h2 q1 q2 q3 q4 q5 q6
  go_enter Tryz.func12, Tryz.ntmps12
  go_upto_region 1 with (fail)
  generalize ((w.alloc (.cells #[.slice a3 pr.length e3, .slice a4 pd.length e4, .slice a5 cl.length e5, .int .i64 qu, .int .i64 bu, .slice a8 ru.length e8, .slice a9 gr.length e9] 29)).alloc (.cells #[.slice x3 pr.length y3, .slice x4 pd.length y4, .slice x5 cl.length y5, .int .i64 qu, .int .i64 bu, .slice x8 ru.length y8, .slice x9 gr.length y9] 29)) = w1 at *
  have k0 : w1.cell? ⟨w.heap.size, 0, none⟩ = some (.slice a3 pr.length e3) := c1.cell 0; have k1 : w1.cell? ⟨w.heap.size, 1, none⟩ = some (.slice a4 pd.length e4) := c1.cell 1; have k2 : w1.cell? ⟨w.heap.size, 2, none⟩ = some (.slice a5 cl.length e5) := c1.cell 2; have k3 : w1.cell? ⟨w.heap.size, 3, none⟩ = some (.int .i64 qu) := c1.cell 3; have k4 : w1.cell? ⟨w.heap.size, 4, none⟩ = some (.int .i64 bu) := c1.cell 4; have k5 : w1.cell? ⟨w.heap.size, 5, none⟩ = some (.slice a8 ru.length e8) := c1.cell 5; have k6 : w1.cell? ⟨w.heap.size, 6, none⟩ = some (.slice a9 gr.length e9) := c1.cell 6
  have l0 : w1.cell? ⟨w.heap.size + 1, 0, none⟩ = some (.slice x3 pr.length y3) := c2.cell 0; have l1 : w1.cell? ⟨w.heap.size + 1, 1, none⟩ = some (.slice x4 pd.length y4) := c2.cell 1; have l2 : w1.cell? ⟨w.heap.size + 1, 2, none⟩ = some (.slice x5 cl.length y5) := c2.cell 2; have l3 : w1.cell? ⟨w.heap.size + 1, 3, none⟩ = some (.int .i64 qu) := c2.cell 3; have l4 : w1.cell? ⟨w.heap.size + 1, 4, none⟩ = some (.int .i64 bu) := c2.cell 4; have l5 : w1.cell? ⟨w.heap.size + 1, 5, none⟩ = some (.slice x8 ru.length y8) := c2.cell 5; have l6 : w1.cell? ⟨w.heap.size + 1, 6, none⟩ = some (.slice x9 gr.length y9) := c2.cell 6
  clear c1 c2
  go_wp2_with fail
  refine (HS1.out _ hS).mono ?_
  rintro e w2 ⟨rfl, hb⟩
  replace hS := hS.trans hb
  replace k0 := hb.cell k0; replace l0 := hb.cell l0; replace k1 := hb.cell k1; replace l1 := hb.cell l1; replace k2 := hb.cell k2; replace l2 := hb.cell l2; replace k3 := hb.cell k3; replace l3 := hb.cell l3; replace k4 := hb.cell k4; replace l4 := hb.cell l4; replace k5 := hb.cell k5; replace l5 := hb.cell l5; replace k6 := hb.cell k6; replace l6 := hb.cell l6
  clear hb
  go_wp2_with fail
  refine (HS2.out _ hS).mono ?_
  rintro e w3 ⟨rfl, hb⟩
  replace hS := hS.trans hb
  replace k0 := hb.cell k0; replace l0 := hb.cell l0; replace k1 := hb.cell k1; replace l1 := hb.cell l1; replace k2 := hb.cell k2; replace l2 := hb.cell l2; replace k3 := hb.cell k3; replace l3 := hb.cell l3; replace k4 := hb.cell k4; replace l4 := hb.cell l4; replace k5 := hb.cell k5; replace l5 := hb.cell l5; replace k6 := hb.cell k6; replace l6 := hb.cell l6
  clear hb HS1 HS2
  go_wp2_with fail
  go_loopw [5] (fun i wr => ∃ k : Nat, k ≤ cl.length ∧ i = .int .i64 (k : Int) ∧ Since w3 wr) (fun i _ => cl.length - (intOf i).toNat)
  case atStart => exact ⟨0, Nat.zero_le _, rfl, Since.refl _⟩
  case round =>
  rename World => w10
  obtain ⟨k, hk, rfl, hb⟩ := hrel
  have hrel0 := hb
  replace hS := hS.trans hb
  replace k0 := hb.cell k0; replace l0 := hb.cell l0; replace k1 := hb.cell k1; replace l1 := hb.cell l1; replace k2 := hb.cell k2; replace l2 := hb.cell l2; replace k3 := hb.cell k3; replace l3 := hb.cell l3; replace k4 := hb.cell k4; replace l4 := hb.cell l4; replace k5 := hb.cell k5; replace l5 := hb.cell l5; replace k6 := hb.cell k6; replace l6 := hb.cell l6
  clear hb
  by_cases hlt : k < cl.length
  · have hlt2 : (k : Int) < (cl.length : Int) := Int.ofNat_lt.2 hlt
    have hlt0 : (0 : Int) ≤ (k : Int) := Int.natCast_nonneg k
    have hk1 := wrap_step hlt HlC.out
    have hk3 := Lib.hid (meas_wrap hlt HlC.out)
    have hl1 : k < C1.length := by rw [n1.out]; exact hlt
    have hl2 : k < C2.length := by rw [n2.out]; exact hlt
    have hm1 := List.getElem_mem hl1
    have hm2 := List.getElem_mem hl2
    have hrow1 : w10.ownsRow D1 38 2 (.slice a5 cl.length e5) C1.length (C1.flatMap fun p => clrC p.1 p.2) := (HP1.out.next hS).cl.row
    have hrow2 : w10.ownsRow D2 38 2 (.slice x5 cl.length y5) C2.length (C2.flatMap fun p => clrC p.1 p.2) := (HP2.out.next hS).cl.row
    have hin1 := (HP1.out.next hS).cl.ins _ hm1
    have hin2 := (HP2.out.next hS).cl.ins _ hm2
    obtain ⟨b1, o1, s1, hv, -, hat1⟩ := own_atk hrow1 (by decide) (fun _ => rfl) hl1
    injection hv with hv1 hv2 hv3
    clear hv2
    subst hv1; subst hv3
    obtain ⟨b2, o2, s2, hv, -, hat2⟩ := own_atk hrow2 (by decide) (fun _ => rfl) hl2
    injection hv with hv1 hv2 hv3
    clear hv2
    subst hv1; subst hv3
    have hfst : C1[k].1 = C2[k].1 := by
      have g1 : (C1.map Prod.fst)[k]'(by rw [List.length_map]; exact hl1) = (C2.map Prod.fst)[k]'(by rw [List.length_map]; exact hl2) := by
        simp only [EC1.out, EC2.out]
      simpa using g1
    obtain ⟨p1, hp1⟩ : ∃ p, Hid (p = C1[k]) := ⟨C1[k], rfl⟩
    obtain ⟨p2, hp2⟩ : ∃ p, Hid (p = C2[k]) := ⟨C2[k], rfl⟩
    rw [← hp1.out] at hat1 hin1 hfst
    rw [← hp2.out] at hat2 hin2 hfst
    obtain ⟨z, u1⟩ := p1
    obtain ⟨z', u2⟩ := p2
    simp only at hfst
    subst hfst
    obtain ⟨z0, z1⟩ := z
    have hX : At w10 b1 (o1 + k * 2) #[.string ⟨z0.toArray⟩, u1] := hat1
    have hY : At w10 b2 (o2 + k * 2) #[.string ⟨z0.toArray⟩, u2] := hat2
    have HT : Hid (∀ W, Since w10 W → Calls Tryz.prog 39 #[u1, u2] W fun e w' => e = .returned (.bool true) ∧ Since W w') := fun W h => by
      have lm : z1.length ≤ maxLen := Nat.le_trans (own_lenP hin1) (by decide)
      have h := same_str u1 u2 z1 z1 W (tx_row (own_since hin1 h)) (tx_row (own_since hin2 h)) lm lm
      rwa [decide_eq_true (show z1 = z1 from rfl)] at h
    clear hat1 hat2 hin1 hin2 hp1 hp2 hm1 hm2 hrow1 hrow2 hl1 hl2
    have hPb := box_at k0 k1 k2 k3 k4 k5 k6
    have hQb := box_at l0 l1 l2 l3 l4 l5 l6
    go_upto_region 6 with (fail)
    have hs0 : Since w10 w10.drew := (Since.refl _).drew
    refine hx_begin (S := fun W => Since w10 W) (by kernel_rfl) hs0 (by kernel_rfl) (fun _ _ _ _ _ h => h) (fun hns hQ => ?_)
    refine hx_take (i := 0) (oi := _) (v := .pointer (some ⟨w.heap.size, 2, none⟩)) rfl rfl hns (by kernel_rfl) (by kernel_rfl) hQ (by kernel_rfl) (fun _ _ => by kernel_rfl) hs0 ?_
    refine hx_take (i := 1) (oi := _) (v := .slice (some ⟨b1, o1, none⟩) cl.length e5) rfl rfl hns (by kernel_rfl) (by kernel_rfl) hQ (by kernel_rfl) (fun W hW => ld_one rfl (by kernel_rfl) (by kernel_rfl) W (hPb.next hW 2 _ rfl)) hs0 ?_
    refine hx_take (i := 2) (oi := _) (v := .int .i64 (k : Int)) rfl rfl hns (by kernel_rfl) (by kernel_rfl) hQ (by kernel_rfl) (fun _ _ => by kernel_rfl) hs0 ?_
    refine hx_take (i := 3) (oi := _) (v := .pointer (some ⟨b1, o1 + k * 2, none⟩)) rfl rfl hns (by kernel_rfl) (by kernel_rfl) hQ (by kernel_rfl) (fun W _ => ix_sl (n := cl.length) (c := e5) (K := 2) rfl (by kernel_rfl) (by kernel_rfl) (by kernel_rfl) rfl hlt W) hs0 ?_
    refine hx_take (i := 4) (oi := _) (v := .pointer (some ⟨b1, o1 + k * 2, none⟩)) rfl rfl hns (by kernel_rfl) (by kernel_rfl) hQ (by kernel_rfl) (fun _ _ => by kernel_rfl) hs0 ?_
    refine hx_take (i := 5) (oi := _) (v := .string ⟨z0.toArray⟩) rfl rfl hns (by kernel_rfl) (by kernel_rfl) hQ (by kernel_rfl) (fun W hW => ld_one rfl (by kernel_rfl) (by kernel_rfl) W (hX.next hW 0 _ rfl)) hs0 ?_
    refine hx_take (i := 6) (oi := _) (v := .pointer (some ⟨w.heap.size + 1, 2, none⟩)) rfl rfl hns (by kernel_rfl) (by kernel_rfl) hQ (by kernel_rfl) (fun _ _ => by kernel_rfl) hs0 ?_
    refine hx_take (i := 7) (oi := _) (v := .slice (some ⟨b2, o2, none⟩) cl.length y5) rfl rfl hns (by kernel_rfl) (by kernel_rfl) hQ (by kernel_rfl) (fun W hW => ld_one rfl (by kernel_rfl) (by kernel_rfl) W (hQb.next hW 2 _ rfl)) hs0 ?_
    refine hx_take (i := 8) (oi := _) (v := .int .i64 (k : Int)) rfl rfl hns (by kernel_rfl) (by kernel_rfl) hQ (by kernel_rfl) (fun _ _ => by kernel_rfl) hs0 ?_
    refine hx_take (i := 9) (oi := _) (v := .pointer (some ⟨b2, o2 + k * 2, none⟩)) rfl rfl hns (by kernel_rfl) (by kernel_rfl) hQ (by kernel_rfl) (fun W _ => ix_sl (n := cl.length) (c := y5) (K := 2) rfl (by kernel_rfl) (by kernel_rfl) (by kernel_rfl) rfl hlt W) hs0 ?_
    refine hx_take (i := 10) (oi := _) (v := .pointer (some ⟨b2, o2 + k * 2, none⟩)) rfl rfl hns (by kernel_rfl) (by kernel_rfl) hQ (by kernel_rfl) (fun _ _ => by kernel_rfl) hs0 ?_
    refine hx_take (i := 11) (oi := _) (v := .string ⟨z0.toArray⟩) rfl rfl hns (by kernel_rfl) (by kernel_rfl) hQ (by kernel_rfl) (fun W hW => ld_one rfl (by kernel_rfl) (by kernel_rfl) W (hY.next hW 0 _ rfl)) hs0 ?_
    refine hx_take (i := 12) (oi := _) (v := .bool false) rfl rfl hns (by kernel_rfl) (by kernel_rfl) hQ (by kernel_rfl) (fun W _ => neqs_txtP (s := z0) rfl (by kernel_rfl) (by kernel_rfl) W) hs0 ?_
    refine hx_take (i := 13) (oi := _) (v := .bool false) rfl rfl hns (by kernel_rfl) (by kernel_rfl) hQ (by kernel_rfl) (fun _ _ => by kernel_rfl) hs0 ?_
    refine hx_take (i := 14) (oi := _) (v := .pointer (some ⟨w.heap.size, 2, none⟩)) rfl rfl hns (by kernel_rfl) (by kernel_rfl) hQ (by kernel_rfl) (fun _ _ => by kernel_rfl) hs0 ?_
    refine hx_take (i := 15) (oi := _) (v := .slice (some ⟨b1, o1, none⟩) cl.length e5) rfl rfl hns (by kernel_rfl) (by kernel_rfl) hQ (by kernel_rfl) (fun W hW => ld_one rfl (by kernel_rfl) (by kernel_rfl) W (hPb.next hW 2 _ rfl)) hs0 ?_
    refine hx_take (i := 16) (oi := _) (v := .int .i64 (k : Int)) rfl rfl hns (by kernel_rfl) (by kernel_rfl) hQ (by kernel_rfl) (fun _ _ => by kernel_rfl) hs0 ?_
    refine hx_take (i := 17) (oi := _) (v := .pointer (some ⟨b1, o1 + k * 2, none⟩)) rfl rfl hns (by kernel_rfl) (by kernel_rfl) hQ (by kernel_rfl) (fun W _ => ix_sl (n := cl.length) (c := e5) (K := 2) rfl (by kernel_rfl) (by kernel_rfl) (by kernel_rfl) rfl hlt W) hs0 ?_
    refine hx_take (i := 18) (oi := _) (v := .pointer (some ⟨b1, o1 + k * 2 + 1, none⟩)) rfl rfl hns (by kernel_rfl) (by kernel_rfl) hQ (by kernel_rfl) (fun _ _ => by kernel_rfl) hs0 ?_
    refine hx_take (i := 19) (oi := _) (v := u1) rfl rfl hns (by kernel_rfl) (by kernel_rfl) hQ (by kernel_rfl) (fun W hW => ld_one rfl (by kernel_rfl) (by kernel_rfl) W (hX.next hW 1 _ rfl)) hs0 ?_
    refine hx_take (i := 20) (oi := _) (v := .pointer (some ⟨w.heap.size + 1, 2, none⟩)) rfl rfl hns (by kernel_rfl) (by kernel_rfl) hQ (by kernel_rfl) (fun _ _ => by kernel_rfl) hs0 ?_
    refine hx_take (i := 21) (oi := _) (v := .slice (some ⟨b2, o2, none⟩) cl.length y5) rfl rfl hns (by kernel_rfl) (by kernel_rfl) hQ (by kernel_rfl) (fun W hW => ld_one rfl (by kernel_rfl) (by kernel_rfl) W (hQb.next hW 2 _ rfl)) hs0 ?_
    refine hx_take (i := 22) (oi := _) (v := .int .i64 (k : Int)) rfl rfl hns (by kernel_rfl) (by kernel_rfl) hQ (by kernel_rfl) (fun _ _ => by kernel_rfl) hs0 ?_
    refine hx_take (i := 23) (oi := _) (v := .pointer (some ⟨b2, o2 + k * 2, none⟩)) rfl rfl hns (by kernel_rfl) (by kernel_rfl) hQ (by kernel_rfl) (fun W _ => ix_sl (n := cl.length) (c := y5) (K := 2) rfl (by kernel_rfl) (by kernel_rfl) (by kernel_rfl) rfl hlt W) hs0 ?_
    refine hx_take (i := 24) (oi := _) (v := .pointer (some ⟨b2, o2 + k * 2 + 1, none⟩)) rfl rfl hns (by kernel_rfl) (by kernel_rfl) hQ (by kernel_rfl) (fun _ _ => by kernel_rfl) hs0 ?_
    refine hx_take (i := 25) (oi := _) (v := u2) rfl rfl hns (by kernel_rfl) (by kernel_rfl) hQ (by kernel_rfl) (fun W hW => ld_one rfl (by kernel_rfl) (by kernel_rfl) W (hY.next hW 1 _ rfl)) hs0 ?_
    refine hx_call (i := 26) (oi := _) 39 #[u1, u2] rfl rfl (by kernel_rfl) (by kernel_rfl) (by kernel_rfl) (HT.out _ hs0) ?_
    rintro e wx51 ⟨rfl, hb⟩
    have hs1 : Since w10 wx51 := hs0.trans hb
    clear hb
    refine ⟨_, rfl, hs1, ?_⟩
    refine hx_take (i := 27) (oi := _) (v := .bool false) rfl rfl hns (by kernel_rfl) (by kernel_rfl) hQ (by kernel_rfl) (fun _ _ => by kernel_rfl) hs1 ?_
    refine hx_take (i := 28) (oi := _) (v := .bool false) rfl rfl hns (by kernel_rfl) (by kernel_rfl) hQ (by kernel_rfl) (fun _ _ => by kernel_rfl) hs1 ?_
    refine wpAnyH_done (by kernel_rfl) ?_ _
    clear hns hQ
    simp only [List.set_cons_zero, List.set_cons_succ]
    clear hPb hQb
    go_wp2_with fail
    go_roundw
    case rel => exact ⟨k + 1, hlt, congrArg (Value.int .i64) (hk1.trans (cast_step k)), hrel0.trans hs1⟩
    case measure => rw [intOf_int, intOf_int]; exact hk3.out
  have hlt2 : ¬ (k : Int) < (cl.length : Int) := fun h => hlt (Int.ofNat_lt.1 h)
  clear hk hlt hrel0
  go_wp2_with fail
  go_loopw [6] (fun i wr => ∃ k : Nat, k ≤ ru.length ∧ i = .int .i64 (k : Int) ∧ Since w10 wr) (fun i _ => ru.length - (intOf i).toNat)
  case atStart => exact ⟨0, Nat.zero_le _, rfl, Since.refl _⟩
  case round =>
  rename World => w20
  obtain ⟨k, hk, rfl, hb⟩ := hrel
  have hrel0 := hb
  replace hS := hS.trans hb
  replace k0 := hb.cell k0; replace l0 := hb.cell l0; replace k1 := hb.cell k1; replace l1 := hb.cell l1; replace k2 := hb.cell k2; replace l2 := hb.cell l2; replace k3 := hb.cell k3; replace l3 := hb.cell l3; replace k4 := hb.cell k4; replace l4 := hb.cell l4; replace k5 := hb.cell k5; replace l5 := hb.cell l5; replace k6 := hb.cell k6; replace l6 := hb.cell l6
  clear hb
  by_cases hlt : k < ru.length
  · have hlt2 : (k : Int) < (ru.length : Int) := Int.ofNat_lt.2 hlt
    have hlt0 : (0 : Int) ≤ (k : Int) := Int.natCast_nonneg k
    have hk1 := wrap_step hlt HlU.out
    have hk3 := Lib.hid (meas_wrap hlt HlU.out)
    have hl1 : k < U1.length := by rw [n3.out]; exact hlt
    have hl2 : k < U2.length := by rw [n4.out]; exact hlt
    have hm1 := List.getElem_mem hl1
    have hm2 := List.getElem_mem hl2
    have hrow1 : w20.ownsRow D1 47 12 (.slice a8 ru.length e8) U1.length (U1.flatMap fun p => rulC p.1 p.2) := (HP1.out.next hS).ru.row
    have hrow2 : w20.ownsRow D2 47 12 (.slice x8 ru.length y8) U2.length (U2.flatMap fun p => rulC p.1 p.2) := (HP2.out.next hS).ru.row
    have hin1 := (HP1.out.next hS).ru.ins _ hm1
    have hin2 := (HP2.out.next hS).ru.ins _ hm2
    obtain ⟨b1, o1, s1, hv, -, hat1⟩ := own_atk hrow1 (by decide) (fun _ => rfl) hl1
    injection hv with hv1 hv2 hv3
    clear hv2
    subst hv1; subst hv3
    obtain ⟨b2, o2, s2, hv, -, hat2⟩ := own_atk hrow2 (by decide) (fun _ => rfl) hl2
    injection hv with hv1 hv2 hv3
    clear hv2
    subst hv1; subst hv3
    have hfst : U1[k].1 = U2[k].1 := by
      have g1 : (U1.map Prod.fst)[k]'(by rw [List.length_map]; exact hl1) = (U2.map Prod.fst)[k]'(by rw [List.length_map]; exact hl2) := by
        simp only [EU1.out, EU2.out]
      simpa using g1
    obtain ⟨p1, hp1⟩ : ∃ p, Hid (p = U1[k]) := ⟨U1[k], rfl⟩
    obtain ⟨p2, hp2⟩ : ∃ p, Hid (p = U2[k]) := ⟨U2[k], rfl⟩
    rw [← hp1.out] at hat1 hin1 hfst
    rw [← hp2.out] at hat2 hin2 hfst
    obtain ⟨z, u1⟩ := p1
    obtain ⟨z', u2⟩ := p2
    simp only at hfst
    subst hfst
    obtain ⟨⟨z_s, z_p, z_n, ⟨z_v0, z_l0⟩, ⟨z_v1, z_l1⟩, ⟨z_v2, z_l2⟩, ⟨z_v3, z_l3⟩⟩, z1⟩ := z
    have hX : At w20 b1 (o1 + k * 12) (#[.string ⟨z_s.toArray⟩, .string ⟨z_p.toArray⟩, .int .i64 z_n, .bool z_v0, .string ⟨z_l0.toArray⟩, .bool z_v1, .string ⟨z_l1.toArray⟩, .bool z_v2, .string ⟨z_l2.toArray⟩, .bool z_v3, .string ⟨z_l3.toArray⟩, u1]) := hat1
    have hY : At w20 b2 (o2 + k * 12) (#[.string ⟨z_s.toArray⟩, .string ⟨z_p.toArray⟩, .int .i64 z_n, .bool z_v0, .string ⟨z_l0.toArray⟩, .bool z_v1, .string ⟨z_l1.toArray⟩, .bool z_v2, .string ⟨z_l2.toArray⟩, .bool z_v3, .string ⟨z_l3.toArray⟩, u2]) := hat2
    have hXa : At w20 b1 (o1 + k * 12) #[.string ⟨z_s.toArray⟩, .string ⟨z_p.toArray⟩, .int .i64 z_n, .bool z_v0, .string ⟨z_l0.toArray⟩, .bool z_v1, .string ⟨z_l1.toArray⟩, .bool z_v2, .string ⟨z_l2.toArray⟩, .bool z_v3, .string ⟨z_l3.toArray⟩] := at_sub hX 0 11
    have hYa : At w20 b2 (o2 + k * 12) #[.string ⟨z_s.toArray⟩, .string ⟨z_p.toArray⟩, .int .i64 z_n, .bool z_v0, .string ⟨z_l0.toArray⟩, .bool z_v1, .string ⟨z_l1.toArray⟩, .bool z_v2, .string ⟨z_l2.toArray⟩, .bool z_v3, .string ⟨z_l3.toArray⟩] := at_sub hY 0 11
    have HT : Hid (∀ W, Since w20 W → Calls Tryz.prog 41 #[.agg #[.string ⟨z_s.toArray⟩, .string ⟨z_p.toArray⟩, .int .i64 z_n, .bool z_v0, .string ⟨z_l0.toArray⟩, .bool z_v1, .string ⟨z_l1.toArray⟩, .bool z_v2, .string ⟨z_l2.toArray⟩, .bool z_v3, .string ⟨z_l3.toArray⟩], .agg #[.string ⟨z_s.toArray⟩, .string ⟨z_p.toArray⟩, .int .i64 z_n, .bool z_v0, .string ⟨z_l0.toArray⟩, .bool z_v1, .string ⟨z_l1.toArray⟩, .bool z_v2, .string ⟨z_l2.toArray⟩, .bool z_v3, .string ⟨z_l3.toArray⟩], u1, u2] W fun e w' => e = .returned (.bool true) ∧ Since W w') := fun W h => same_ruleM z_s z_p z_n z_v0 z_v1 z_v2 z_v3 z_l0 z_l1 z_l2 z_l3 u1 u2 z1 W (atm_row (own_since hin1 h)) (atm_row (own_since hin2 h)) (own_lenP hin1)
    clear hat1 hat2 hin1 hin2 hp1 hp2 hm1 hm2 hrow1 hrow2 hl1 hl2
    have hPb := box_at k0 k1 k2 k3 k4 k5 k6
    have hQb := box_at l0 l1 l2 l3 l4 l5 l6
    go_upto_region 11 with (fail)
    have hs0 : Since w20 w20.drew := (Since.refl _).drew
    refine hx_begin (S := fun W => Since w20 W) (by kernel_rfl) hs0 (by kernel_rfl) (fun _ _ _ _ _ h => h) (fun hns hQ => ?_)
    refine hx_take (i := 0) (oi := _) (v := .pointer (some ⟨w.heap.size, 5, none⟩)) rfl rfl hns (by kernel_rfl) (by kernel_rfl) hQ (by kernel_rfl) (fun _ _ => by kernel_rfl) hs0 ?_
    refine hx_take (i := 1) (oi := _) (v := .slice (some ⟨b1, o1, none⟩) ru.length e8) rfl rfl hns (by kernel_rfl) (by kernel_rfl) hQ (by kernel_rfl) (fun W hW => ld_one rfl (by kernel_rfl) (by kernel_rfl) W (hPb.next hW 5 _ rfl)) hs0 ?_
    refine hx_take (i := 2) (oi := _) (v := .int .i64 (k : Int)) rfl rfl hns (by kernel_rfl) (by kernel_rfl) hQ (by kernel_rfl) (fun _ _ => by kernel_rfl) hs0 ?_
    refine hx_take (i := 3) (oi := _) (v := .pointer (some ⟨b1, o1 + k * 12, none⟩)) rfl rfl hns (by kernel_rfl) (by kernel_rfl) hQ (by kernel_rfl) (fun W _ => ix_sl (n := ru.length) (c := e8) (K := 12) rfl (by kernel_rfl) (by kernel_rfl) (by kernel_rfl) rfl hlt W) hs0 ?_
    refine hx_take (i := 4) (oi := _) (v := .pointer (some ⟨b1, o1 + k * 12, none⟩)) rfl rfl hns (by kernel_rfl) (by kernel_rfl) hQ (by kernel_rfl) (fun _ _ => by kernel_rfl) hs0 ?_
    refine hx_take (i := 5) (oi := _) (v := .agg #[.string ⟨z_s.toArray⟩, .string ⟨z_p.toArray⟩, .int .i64 z_n, .bool z_v0, .string ⟨z_l0.toArray⟩, .bool z_v1, .string ⟨z_l1.toArray⟩, .bool z_v2, .string ⟨z_l2.toArray⟩, .bool z_v3, .string ⟨z_l3.toArray⟩]) rfl rfl hns (by kernel_rfl) (by kernel_rfl) hQ (by kernel_rfl) (fun W hW => ld_at rfl (by kernel_rfl) (by kernel_rfl) (by kernel_rfl) W (hXa.next hW)) hs0 ?_
    refine hx_take (i := 6) (oi := _) (v := .pointer (some ⟨w.heap.size + 1, 5, none⟩)) rfl rfl hns (by kernel_rfl) (by kernel_rfl) hQ (by kernel_rfl) (fun _ _ => by kernel_rfl) hs0 ?_
    refine hx_take (i := 7) (oi := _) (v := .slice (some ⟨b2, o2, none⟩) ru.length y8) rfl rfl hns (by kernel_rfl) (by kernel_rfl) hQ (by kernel_rfl) (fun W hW => ld_one rfl (by kernel_rfl) (by kernel_rfl) W (hQb.next hW 5 _ rfl)) hs0 ?_
    refine hx_take (i := 8) (oi := _) (v := .int .i64 (k : Int)) rfl rfl hns (by kernel_rfl) (by kernel_rfl) hQ (by kernel_rfl) (fun _ _ => by kernel_rfl) hs0 ?_
    refine hx_take (i := 9) (oi := _) (v := .pointer (some ⟨b2, o2 + k * 12, none⟩)) rfl rfl hns (by kernel_rfl) (by kernel_rfl) hQ (by kernel_rfl) (fun W _ => ix_sl (n := ru.length) (c := y8) (K := 12) rfl (by kernel_rfl) (by kernel_rfl) (by kernel_rfl) rfl hlt W) hs0 ?_
    refine hx_take (i := 10) (oi := _) (v := .pointer (some ⟨b2, o2 + k * 12, none⟩)) rfl rfl hns (by kernel_rfl) (by kernel_rfl) hQ (by kernel_rfl) (fun _ _ => by kernel_rfl) hs0 ?_
    refine hx_take (i := 11) (oi := _) (v := .agg #[.string ⟨z_s.toArray⟩, .string ⟨z_p.toArray⟩, .int .i64 z_n, .bool z_v0, .string ⟨z_l0.toArray⟩, .bool z_v1, .string ⟨z_l1.toArray⟩, .bool z_v2, .string ⟨z_l2.toArray⟩, .bool z_v3, .string ⟨z_l3.toArray⟩]) rfl rfl hns (by kernel_rfl) (by kernel_rfl) hQ (by kernel_rfl) (fun W hW => ld_at rfl (by kernel_rfl) (by kernel_rfl) (by kernel_rfl) W (hYa.next hW)) hs0 ?_
    refine hx_take (i := 12) (oi := _) (v := .pointer (some ⟨w.heap.size, 5, none⟩)) rfl rfl hns (by kernel_rfl) (by kernel_rfl) hQ (by kernel_rfl) (fun _ _ => by kernel_rfl) hs0 ?_
    refine hx_take (i := 13) (oi := _) (v := .slice (some ⟨b1, o1, none⟩) ru.length e8) rfl rfl hns (by kernel_rfl) (by kernel_rfl) hQ (by kernel_rfl) (fun W hW => ld_one rfl (by kernel_rfl) (by kernel_rfl) W (hPb.next hW 5 _ rfl)) hs0 ?_
    refine hx_take (i := 14) (oi := _) (v := .int .i64 (k : Int)) rfl rfl hns (by kernel_rfl) (by kernel_rfl) hQ (by kernel_rfl) (fun _ _ => by kernel_rfl) hs0 ?_
    refine hx_take (i := 15) (oi := _) (v := .pointer (some ⟨b1, o1 + k * 12, none⟩)) rfl rfl hns (by kernel_rfl) (by kernel_rfl) hQ (by kernel_rfl) (fun W _ => ix_sl (n := ru.length) (c := e8) (K := 12) rfl (by kernel_rfl) (by kernel_rfl) (by kernel_rfl) rfl hlt W) hs0 ?_
    refine hx_take (i := 16) (oi := _) (v := .pointer (some ⟨b1, o1 + k * 12 + 11, none⟩)) rfl rfl hns (by kernel_rfl) (by kernel_rfl) hQ (by kernel_rfl) (fun _ _ => by kernel_rfl) hs0 ?_
    refine hx_take (i := 17) (oi := _) (v := u1) rfl rfl hns (by kernel_rfl) (by kernel_rfl) hQ (by kernel_rfl) (fun W hW => ld_one rfl (by kernel_rfl) (by kernel_rfl) W (hX.next hW 11 _ rfl)) hs0 ?_
    refine hx_take (i := 18) (oi := _) (v := .pointer (some ⟨w.heap.size + 1, 5, none⟩)) rfl rfl hns (by kernel_rfl) (by kernel_rfl) hQ (by kernel_rfl) (fun _ _ => by kernel_rfl) hs0 ?_
    refine hx_take (i := 19) (oi := _) (v := .slice (some ⟨b2, o2, none⟩) ru.length y8) rfl rfl hns (by kernel_rfl) (by kernel_rfl) hQ (by kernel_rfl) (fun W hW => ld_one rfl (by kernel_rfl) (by kernel_rfl) W (hQb.next hW 5 _ rfl)) hs0 ?_
    refine hx_take (i := 20) (oi := _) (v := .int .i64 (k : Int)) rfl rfl hns (by kernel_rfl) (by kernel_rfl) hQ (by kernel_rfl) (fun _ _ => by kernel_rfl) hs0 ?_
    refine hx_take (i := 21) (oi := _) (v := .pointer (some ⟨b2, o2 + k * 12, none⟩)) rfl rfl hns (by kernel_rfl) (by kernel_rfl) hQ (by kernel_rfl) (fun W _ => ix_sl (n := ru.length) (c := y8) (K := 12) rfl (by kernel_rfl) (by kernel_rfl) (by kernel_rfl) rfl hlt W) hs0 ?_
    refine hx_take (i := 22) (oi := _) (v := .pointer (some ⟨b2, o2 + k * 12 + 11, none⟩)) rfl rfl hns (by kernel_rfl) (by kernel_rfl) hQ (by kernel_rfl) (fun _ _ => by kernel_rfl) hs0 ?_
    refine hx_take (i := 23) (oi := _) (v := u2) rfl rfl hns (by kernel_rfl) (by kernel_rfl) hQ (by kernel_rfl) (fun W hW => ld_one rfl (by kernel_rfl) (by kernel_rfl) W (hY.next hW 11 _ rfl)) hs0 ?_
    refine hx_call (i := 24) (oi := _) 41 #[.agg #[.string ⟨z_s.toArray⟩, .string ⟨z_p.toArray⟩, .int .i64 z_n, .bool z_v0, .string ⟨z_l0.toArray⟩, .bool z_v1, .string ⟨z_l1.toArray⟩, .bool z_v2, .string ⟨z_l2.toArray⟩, .bool z_v3, .string ⟨z_l3.toArray⟩], .agg #[.string ⟨z_s.toArray⟩, .string ⟨z_p.toArray⟩, .int .i64 z_n, .bool z_v0, .string ⟨z_l0.toArray⟩, .bool z_v1, .string ⟨z_l1.toArray⟩, .bool z_v2, .string ⟨z_l2.toArray⟩, .bool z_v3, .string ⟨z_l3.toArray⟩], u1, u2] rfl rfl (by kernel_rfl) (by kernel_rfl) (by kernel_rfl) (HT.out _ hs0) ?_
    rintro e wx51 ⟨rfl, hb⟩
    have hs1 : Since w20 wx51 := hs0.trans hb
    clear hb
    refine ⟨_, rfl, hs1, ?_⟩
    refine hx_take (i := 25) (oi := _) (v := .bool false) rfl rfl hns (by kernel_rfl) (by kernel_rfl) hQ (by kernel_rfl) (fun _ _ => by kernel_rfl) hs1 ?_
    refine wpAnyH_done (by kernel_rfl) ?_ _
    clear hns hQ
    simp only [List.set_cons_zero, List.set_cons_succ]
    clear hPb hQb
    go_wp2_with fail
    go_roundw
    case rel => exact ⟨k + 1, hlt, congrArg (Value.int .i64) (hk1.trans (cast_step k)), hrel0.trans hs1⟩
    case measure => rw [intOf_int, intOf_int]; exact hk3.out
  have hlt2 : ¬ (k : Int) < (ru.length : Int) := fun h => hlt (Int.ofNat_lt.1 h)
  clear hk hlt hrel0
  go_wp2_with fail
  go_loopw [7] (fun i wr => ∃ k : Nat, k ≤ gr.length ∧ i = .int .i64 (k : Int) ∧ Since w20 wr) (fun i _ => gr.length - (intOf i).toNat)
  case atStart => exact ⟨0, Nat.zero_le _, rfl, Since.refl _⟩
  case round =>
  rename World => w30
  obtain ⟨k, hk, rfl, hb⟩ := hrel
  have hrel0 := hb
  replace hS := hS.trans hb
  replace k0 := hb.cell k0; replace l0 := hb.cell l0; replace k1 := hb.cell k1; replace l1 := hb.cell l1; replace k2 := hb.cell k2; replace l2 := hb.cell l2; replace k3 := hb.cell k3; replace l3 := hb.cell l3; replace k4 := hb.cell k4; replace l4 := hb.cell l4; replace k5 := hb.cell k5; replace l5 := hb.cell l5; replace k6 := hb.cell k6; replace l6 := hb.cell l6
  clear hb
  by_cases hlt : k < gr.length
  · have hlt2 : (k : Int) < (gr.length : Int) := Int.ofNat_lt.2 hlt
    have hlt0 : (0 : Int) ≤ (k : Int) := Int.natCast_nonneg k
    have hk1 := wrap_step hlt HlG.out
    have hk3 := Lib.hid (meas_wrap hlt HlG.out)
    have hl1 : k < G1.length := by rw [n5.out]; exact hlt
    have hl2 : k < G2.length := by rw [n6.out]; exact hlt
    have hm1 := List.getElem_mem hl1
    have hm2 := List.getElem_mem hl2
    have hrow1 : w30.ownsRow D1 49 13 (.slice a9 gr.length e9) G1.length (G1.flatMap fun p => grnC p.1 p.2) := (HP1.out.next hS).gr.row
    have hrow2 : w30.ownsRow D2 49 13 (.slice x9 gr.length y9) G2.length (G2.flatMap fun p => grnC p.1 p.2) := (HP2.out.next hS).gr.row
    have hin1 := (HP1.out.next hS).gr.ins _ hm1
    have hin2 := (HP2.out.next hS).gr.ins _ hm2
    obtain ⟨b1, o1, s1, hv, -, hat1⟩ := own_atk hrow1 (by decide) (fun _ => rfl) hl1
    injection hv with hv1 hv2 hv3
    clear hv2
    subst hv1; subst hv3
    obtain ⟨b2, o2, s2, hv, -, hat2⟩ := own_atk hrow2 (by decide) (fun _ => rfl) hl2
    injection hv with hv1 hv2 hv3
    clear hv2
    subst hv1; subst hv3
    have hfst : G1[k].1 = G2[k].1 := by
      have g1 : (G1.map Prod.fst)[k]'(by rw [List.length_map]; exact hl1) = (G2.map Prod.fst)[k]'(by rw [List.length_map]; exact hl2) := by
        simp only [EG1.out, EG2.out]
      simpa using g1
    obtain ⟨p1, hp1⟩ : ∃ p, Hid (p = G1[k]) := ⟨G1[k], rfl⟩
    obtain ⟨p2, hp2⟩ : ∃ p, Hid (p = G2[k]) := ⟨G2[k], rfl⟩
    rw [← hp1.out] at hat1 hin1 hfst
    rw [← hp2.out] at hat2 hin2 hfst
    obtain ⟨z, u1⟩ := p1
    obtain ⟨z', u2⟩ := p2
    simp only at hfst
    subst hfst
    obtain ⟨z0, ⟨z_s, z_p, z_n, ⟨z_v0, z_l0⟩, ⟨z_v1, z_l1⟩, ⟨z_v2, z_l2⟩, ⟨z_v3, z_l3⟩⟩, z1⟩ := z
    have hX : At w30 b1 (o1 + k * 13) (#[.string ⟨z0.toArray⟩, .string ⟨z_s.toArray⟩, .string ⟨z_p.toArray⟩, .int .i64 z_n, .bool z_v0, .string ⟨z_l0.toArray⟩, .bool z_v1, .string ⟨z_l1.toArray⟩, .bool z_v2, .string ⟨z_l2.toArray⟩, .bool z_v3, .string ⟨z_l3.toArray⟩, u1]) := hat1
    have hY : At w30 b2 (o2 + k * 13) (#[.string ⟨z0.toArray⟩, .string ⟨z_s.toArray⟩, .string ⟨z_p.toArray⟩, .int .i64 z_n, .bool z_v0, .string ⟨z_l0.toArray⟩, .bool z_v1, .string ⟨z_l1.toArray⟩, .bool z_v2, .string ⟨z_l2.toArray⟩, .bool z_v3, .string ⟨z_l3.toArray⟩, u2]) := hat2
    have hXa : At w30 b1 (o1 + k * 13 + 1) #[.string ⟨z_s.toArray⟩, .string ⟨z_p.toArray⟩, .int .i64 z_n, .bool z_v0, .string ⟨z_l0.toArray⟩, .bool z_v1, .string ⟨z_l1.toArray⟩, .bool z_v2, .string ⟨z_l2.toArray⟩, .bool z_v3, .string ⟨z_l3.toArray⟩] := at_sub hX 1 11
    have hYa : At w30 b2 (o2 + k * 13 + 1) #[.string ⟨z_s.toArray⟩, .string ⟨z_p.toArray⟩, .int .i64 z_n, .bool z_v0, .string ⟨z_l0.toArray⟩, .bool z_v1, .string ⟨z_l1.toArray⟩, .bool z_v2, .string ⟨z_l2.toArray⟩, .bool z_v3, .string ⟨z_l3.toArray⟩] := at_sub hY 1 11
    have HT : Hid (∀ W, Since w30 W → Calls Tryz.prog 41 #[.agg #[.string ⟨z_s.toArray⟩, .string ⟨z_p.toArray⟩, .int .i64 z_n, .bool z_v0, .string ⟨z_l0.toArray⟩, .bool z_v1, .string ⟨z_l1.toArray⟩, .bool z_v2, .string ⟨z_l2.toArray⟩, .bool z_v3, .string ⟨z_l3.toArray⟩], .agg #[.string ⟨z_s.toArray⟩, .string ⟨z_p.toArray⟩, .int .i64 z_n, .bool z_v0, .string ⟨z_l0.toArray⟩, .bool z_v1, .string ⟨z_l1.toArray⟩, .bool z_v2, .string ⟨z_l2.toArray⟩, .bool z_v3, .string ⟨z_l3.toArray⟩], u1, u2] W fun e w' => e = .returned (.bool true) ∧ Since W w') := fun W h => same_ruleM z_s z_p z_n z_v0 z_v1 z_v2 z_v3 z_l0 z_l1 z_l2 z_l3 u1 u2 z1 W (atm_row (own_since hin1 h)) (atm_row (own_since hin2 h)) (own_lenP hin1)
    clear hat1 hat2 hin1 hin2 hp1 hp2 hm1 hm2 hrow1 hrow2 hl1 hl2
    have hPb := box_at k0 k1 k2 k3 k4 k5 k6
    have hQb := box_at l0 l1 l2 l3 l4 l5 l6
    go_upto_region 16 with (fail)
    have hs0 : Since w30 w30.drew := (Since.refl _).drew
    refine hx_begin (S := fun W => Since w30 W) (by kernel_rfl) hs0 (by kernel_rfl) (fun _ _ _ _ _ h => h) (fun hns hQ => ?_)
    refine hx_take (i := 0) (oi := _) (v := .pointer (some ⟨w.heap.size, 6, none⟩)) rfl rfl hns (by kernel_rfl) (by kernel_rfl) hQ (by kernel_rfl) (fun _ _ => by kernel_rfl) hs0 ?_
    refine hx_take (i := 1) (oi := _) (v := .slice (some ⟨b1, o1, none⟩) gr.length e9) rfl rfl hns (by kernel_rfl) (by kernel_rfl) hQ (by kernel_rfl) (fun W hW => ld_one rfl (by kernel_rfl) (by kernel_rfl) W (hPb.next hW 6 _ rfl)) hs0 ?_
    refine hx_take (i := 2) (oi := _) (v := .int .i64 (k : Int)) rfl rfl hns (by kernel_rfl) (by kernel_rfl) hQ (by kernel_rfl) (fun _ _ => by kernel_rfl) hs0 ?_
    refine hx_take (i := 3) (oi := _) (v := .pointer (some ⟨b1, o1 + k * 13, none⟩)) rfl rfl hns (by kernel_rfl) (by kernel_rfl) hQ (by kernel_rfl) (fun W _ => ix_sl (n := gr.length) (c := e9) (K := 13) rfl (by kernel_rfl) (by kernel_rfl) (by kernel_rfl) rfl hlt W) hs0 ?_
    refine hx_take (i := 4) (oi := _) (v := .pointer (some ⟨b1, o1 + k * 13, none⟩)) rfl rfl hns (by kernel_rfl) (by kernel_rfl) hQ (by kernel_rfl) (fun _ _ => by kernel_rfl) hs0 ?_
    refine hx_take (i := 5) (oi := _) (v := .string ⟨z0.toArray⟩) rfl rfl hns (by kernel_rfl) (by kernel_rfl) hQ (by kernel_rfl) (fun W hW => ld_one rfl (by kernel_rfl) (by kernel_rfl) W (hX.next hW 0 _ rfl)) hs0 ?_
    refine hx_take (i := 6) (oi := _) (v := .pointer (some ⟨w.heap.size + 1, 6, none⟩)) rfl rfl hns (by kernel_rfl) (by kernel_rfl) hQ (by kernel_rfl) (fun _ _ => by kernel_rfl) hs0 ?_
    refine hx_take (i := 7) (oi := _) (v := .slice (some ⟨b2, o2, none⟩) gr.length y9) rfl rfl hns (by kernel_rfl) (by kernel_rfl) hQ (by kernel_rfl) (fun W hW => ld_one rfl (by kernel_rfl) (by kernel_rfl) W (hQb.next hW 6 _ rfl)) hs0 ?_
    refine hx_take (i := 8) (oi := _) (v := .int .i64 (k : Int)) rfl rfl hns (by kernel_rfl) (by kernel_rfl) hQ (by kernel_rfl) (fun _ _ => by kernel_rfl) hs0 ?_
    refine hx_take (i := 9) (oi := _) (v := .pointer (some ⟨b2, o2 + k * 13, none⟩)) rfl rfl hns (by kernel_rfl) (by kernel_rfl) hQ (by kernel_rfl) (fun W _ => ix_sl (n := gr.length) (c := y9) (K := 13) rfl (by kernel_rfl) (by kernel_rfl) (by kernel_rfl) rfl hlt W) hs0 ?_
    refine hx_take (i := 10) (oi := _) (v := .pointer (some ⟨b2, o2 + k * 13, none⟩)) rfl rfl hns (by kernel_rfl) (by kernel_rfl) hQ (by kernel_rfl) (fun _ _ => by kernel_rfl) hs0 ?_
    refine hx_take (i := 11) (oi := _) (v := .string ⟨z0.toArray⟩) rfl rfl hns (by kernel_rfl) (by kernel_rfl) hQ (by kernel_rfl) (fun W hW => ld_one rfl (by kernel_rfl) (by kernel_rfl) W (hY.next hW 0 _ rfl)) hs0 ?_
    refine hx_take (i := 12) (oi := _) (v := .bool false) rfl rfl hns (by kernel_rfl) (by kernel_rfl) hQ (by kernel_rfl) (fun W _ => neqs_txtP (s := z0) rfl (by kernel_rfl) (by kernel_rfl) W) hs0 ?_
    refine hx_take (i := 13) (oi := _) (v := .bool false) rfl rfl hns (by kernel_rfl) (by kernel_rfl) hQ (by kernel_rfl) (fun _ _ => by kernel_rfl) hs0 ?_
    refine hx_take (i := 14) (oi := _) (v := .pointer (some ⟨w.heap.size, 6, none⟩)) rfl rfl hns (by kernel_rfl) (by kernel_rfl) hQ (by kernel_rfl) (fun _ _ => by kernel_rfl) hs0 ?_
    refine hx_take (i := 15) (oi := _) (v := .slice (some ⟨b1, o1, none⟩) gr.length e9) rfl rfl hns (by kernel_rfl) (by kernel_rfl) hQ (by kernel_rfl) (fun W hW => ld_one rfl (by kernel_rfl) (by kernel_rfl) W (hPb.next hW 6 _ rfl)) hs0 ?_
    refine hx_take (i := 16) (oi := _) (v := .int .i64 (k : Int)) rfl rfl hns (by kernel_rfl) (by kernel_rfl) hQ (by kernel_rfl) (fun _ _ => by kernel_rfl) hs0 ?_
    refine hx_take (i := 17) (oi := _) (v := .pointer (some ⟨b1, o1 + k * 13, none⟩)) rfl rfl hns (by kernel_rfl) (by kernel_rfl) hQ (by kernel_rfl) (fun W _ => ix_sl (n := gr.length) (c := e9) (K := 13) rfl (by kernel_rfl) (by kernel_rfl) (by kernel_rfl) rfl hlt W) hs0 ?_
    refine hx_take (i := 18) (oi := _) (v := .pointer (some ⟨b1, o1 + k * 13 + 1, none⟩)) rfl rfl hns (by kernel_rfl) (by kernel_rfl) hQ (by kernel_rfl) (fun _ _ => by kernel_rfl) hs0 ?_
    refine hx_take (i := 19) (oi := _) (v := .agg #[.string ⟨z_s.toArray⟩, .string ⟨z_p.toArray⟩, .int .i64 z_n, .bool z_v0, .string ⟨z_l0.toArray⟩, .bool z_v1, .string ⟨z_l1.toArray⟩, .bool z_v2, .string ⟨z_l2.toArray⟩, .bool z_v3, .string ⟨z_l3.toArray⟩]) rfl rfl hns (by kernel_rfl) (by kernel_rfl) hQ (by kernel_rfl) (fun W hW => ld_at rfl (by kernel_rfl) (by kernel_rfl) (by kernel_rfl) W (hXa.next hW)) hs0 ?_
    refine hx_take (i := 20) (oi := _) (v := .pointer (some ⟨w.heap.size + 1, 6, none⟩)) rfl rfl hns (by kernel_rfl) (by kernel_rfl) hQ (by kernel_rfl) (fun _ _ => by kernel_rfl) hs0 ?_
    refine hx_take (i := 21) (oi := _) (v := .slice (some ⟨b2, o2, none⟩) gr.length y9) rfl rfl hns (by kernel_rfl) (by kernel_rfl) hQ (by kernel_rfl) (fun W hW => ld_one rfl (by kernel_rfl) (by kernel_rfl) W (hQb.next hW 6 _ rfl)) hs0 ?_
    refine hx_take (i := 22) (oi := _) (v := .int .i64 (k : Int)) rfl rfl hns (by kernel_rfl) (by kernel_rfl) hQ (by kernel_rfl) (fun _ _ => by kernel_rfl) hs0 ?_
    refine hx_take (i := 23) (oi := _) (v := .pointer (some ⟨b2, o2 + k * 13, none⟩)) rfl rfl hns (by kernel_rfl) (by kernel_rfl) hQ (by kernel_rfl) (fun W _ => ix_sl (n := gr.length) (c := y9) (K := 13) rfl (by kernel_rfl) (by kernel_rfl) (by kernel_rfl) rfl hlt W) hs0 ?_
    refine hx_take (i := 24) (oi := _) (v := .pointer (some ⟨b2, o2 + k * 13 + 1, none⟩)) rfl rfl hns (by kernel_rfl) (by kernel_rfl) hQ (by kernel_rfl) (fun _ _ => by kernel_rfl) hs0 ?_
    refine hx_take (i := 25) (oi := _) (v := .agg #[.string ⟨z_s.toArray⟩, .string ⟨z_p.toArray⟩, .int .i64 z_n, .bool z_v0, .string ⟨z_l0.toArray⟩, .bool z_v1, .string ⟨z_l1.toArray⟩, .bool z_v2, .string ⟨z_l2.toArray⟩, .bool z_v3, .string ⟨z_l3.toArray⟩]) rfl rfl hns (by kernel_rfl) (by kernel_rfl) hQ (by kernel_rfl) (fun W hW => ld_at rfl (by kernel_rfl) (by kernel_rfl) (by kernel_rfl) W (hYa.next hW)) hs0 ?_
    refine hx_take (i := 26) (oi := _) (v := .pointer (some ⟨w.heap.size, 6, none⟩)) rfl rfl hns (by kernel_rfl) (by kernel_rfl) hQ (by kernel_rfl) (fun _ _ => by kernel_rfl) hs0 ?_
    refine hx_take (i := 27) (oi := _) (v := .slice (some ⟨b1, o1, none⟩) gr.length e9) rfl rfl hns (by kernel_rfl) (by kernel_rfl) hQ (by kernel_rfl) (fun W hW => ld_one rfl (by kernel_rfl) (by kernel_rfl) W (hPb.next hW 6 _ rfl)) hs0 ?_
    refine hx_take (i := 28) (oi := _) (v := .int .i64 (k : Int)) rfl rfl hns (by kernel_rfl) (by kernel_rfl) hQ (by kernel_rfl) (fun _ _ => by kernel_rfl) hs0 ?_
    refine hx_take (i := 29) (oi := _) (v := .pointer (some ⟨b1, o1 + k * 13, none⟩)) rfl rfl hns (by kernel_rfl) (by kernel_rfl) hQ (by kernel_rfl) (fun W _ => ix_sl (n := gr.length) (c := e9) (K := 13) rfl (by kernel_rfl) (by kernel_rfl) (by kernel_rfl) rfl hlt W) hs0 ?_
    refine hx_take (i := 30) (oi := _) (v := .pointer (some ⟨b1, o1 + k * 13 + 12, none⟩)) rfl rfl hns (by kernel_rfl) (by kernel_rfl) hQ (by kernel_rfl) (fun _ _ => by kernel_rfl) hs0 ?_
    refine hx_take (i := 31) (oi := _) (v := u1) rfl rfl hns (by kernel_rfl) (by kernel_rfl) hQ (by kernel_rfl) (fun W hW => ld_one rfl (by kernel_rfl) (by kernel_rfl) W (hX.next hW 12 _ rfl)) hs0 ?_
    refine hx_take (i := 32) (oi := _) (v := .pointer (some ⟨w.heap.size + 1, 6, none⟩)) rfl rfl hns (by kernel_rfl) (by kernel_rfl) hQ (by kernel_rfl) (fun _ _ => by kernel_rfl) hs0 ?_
    refine hx_take (i := 33) (oi := _) (v := .slice (some ⟨b2, o2, none⟩) gr.length y9) rfl rfl hns (by kernel_rfl) (by kernel_rfl) hQ (by kernel_rfl) (fun W hW => ld_one rfl (by kernel_rfl) (by kernel_rfl) W (hQb.next hW 6 _ rfl)) hs0 ?_
    refine hx_take (i := 34) (oi := _) (v := .int .i64 (k : Int)) rfl rfl hns (by kernel_rfl) (by kernel_rfl) hQ (by kernel_rfl) (fun _ _ => by kernel_rfl) hs0 ?_
    refine hx_take (i := 35) (oi := _) (v := .pointer (some ⟨b2, o2 + k * 13, none⟩)) rfl rfl hns (by kernel_rfl) (by kernel_rfl) hQ (by kernel_rfl) (fun W _ => ix_sl (n := gr.length) (c := y9) (K := 13) rfl (by kernel_rfl) (by kernel_rfl) (by kernel_rfl) rfl hlt W) hs0 ?_
    refine hx_take (i := 36) (oi := _) (v := .pointer (some ⟨b2, o2 + k * 13 + 12, none⟩)) rfl rfl hns (by kernel_rfl) (by kernel_rfl) hQ (by kernel_rfl) (fun _ _ => by kernel_rfl) hs0 ?_
    refine hx_take (i := 37) (oi := _) (v := u2) rfl rfl hns (by kernel_rfl) (by kernel_rfl) hQ (by kernel_rfl) (fun W hW => ld_one rfl (by kernel_rfl) (by kernel_rfl) W (hY.next hW 12 _ rfl)) hs0 ?_
    refine hx_call (i := 38) (oi := _) 41 #[.agg #[.string ⟨z_s.toArray⟩, .string ⟨z_p.toArray⟩, .int .i64 z_n, .bool z_v0, .string ⟨z_l0.toArray⟩, .bool z_v1, .string ⟨z_l1.toArray⟩, .bool z_v2, .string ⟨z_l2.toArray⟩, .bool z_v3, .string ⟨z_l3.toArray⟩], .agg #[.string ⟨z_s.toArray⟩, .string ⟨z_p.toArray⟩, .int .i64 z_n, .bool z_v0, .string ⟨z_l0.toArray⟩, .bool z_v1, .string ⟨z_l1.toArray⟩, .bool z_v2, .string ⟨z_l2.toArray⟩, .bool z_v3, .string ⟨z_l3.toArray⟩], u1, u2] rfl rfl (by kernel_rfl) (by kernel_rfl) (by kernel_rfl) (HT.out _ hs0) ?_
    rintro e wx51 ⟨rfl, hb⟩
    have hs1 : Since w30 wx51 := hs0.trans hb
    clear hb
    refine ⟨_, rfl, hs1, ?_⟩
    refine hx_take (i := 39) (oi := _) (v := .bool false) rfl rfl hns (by kernel_rfl) (by kernel_rfl) hQ (by kernel_rfl) (fun _ _ => by kernel_rfl) hs1 ?_
    refine hx_take (i := 40) (oi := _) (v := .bool false) rfl rfl hns (by kernel_rfl) (by kernel_rfl) hQ (by kernel_rfl) (fun _ _ => by kernel_rfl) hs1 ?_
    refine wpAnyH_done (by kernel_rfl) ?_ _
    clear hns hQ
    simp only [List.set_cons_zero, List.set_cons_succ]
    clear hPb hQb
    go_wp2_with fail
    go_roundw
    case rel => exact ⟨k + 1, hlt, congrArg (Value.int .i64) (hk1.trans (cast_step k)), hrel0.trans hs1⟩
    case measure => rw [intOf_int, intOf_int]; exact hk3.out
  have hlt2 : ¬ (k : Int) < (gr.length : Int) := fun h => hlt (Int.ofNat_lt.1 h)
  clear hk hlt hrel0
  go_wp2_with fail
  go_ret
  exact ⟨rfl, hS⟩
end Go.Proofs.YtnfjjckbgnieeaaGreatDoor
