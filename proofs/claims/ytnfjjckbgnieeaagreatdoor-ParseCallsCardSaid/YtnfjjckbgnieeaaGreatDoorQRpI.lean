/- The reference's reader of policies: one, Goal, Atom. -/
import Derived.Test.YtnfjjckbgnieeaaGreatDoorQRpH
namespace Go.Proofs.YtnfjjckbgnieeaaGreatDoor
open Go.RowKit

theorem oneR_err {stop : Option Txt} {ts : Toks} {e : PErr} (h : (oneX stop ts).2 = .error e) : oneT stop ts = .error e := by
  have ha := one_agr stop ts
  cases hp : oneT stop ts with
  | ok a =>
    rw [hp] at ha
    obtain ⟨r1, h1⟩ := ha
    rw [h1] at h
    cases h
  | error x =>
    rw [hp] at ha
    have h1 : (oneX stop ts).2 = .error x := ha
    rw [h] at h1
    injection h1 with h1
    rw [h1]
theorem oneR_ok {stop : Option Txt} {ts r : Toks} {a : Atm} (h : oneX stop ts = (a, .ok r)) : oneT stop ts = .ok a := by
  have ha := one_agr stop ts
  cases hp : oneT stop ts with
  | ok b =>
    rw [hp] at ha
    obtain ⟨r1, h1⟩ := ha
    rw [h] at h1
    injection h1 with h2 _
    rw [h2]
  | error x =>
    rw [hp] at ha
    have h1 : (oneX stop ts).2 = .error x := ha
    rw [h] at h1
    cases h1
theorem st_atmZ {o : Oper} {x y : Operand} {ev : Operand → Value} {g k : Nat} {cells : Array Value} (ho : o.op = Op.store 44 x y) (hx : ev x = .pointer (some ⟨g, k, none⟩)) (hy : ev y = .agg cells) (W : World) (ht : W.there g k cells.size) (hs : cells.size = 11) (h1 : cells.all (·.oneCell') = true) :
    (execOp ev o).run Tryz.prog W = .ok .skip (W.setCells g k cells.toList) := by
  have h := run_storeAt_mid (P := Tryz.prog) W g k 44 cells ht (by rw [hs]; kernel_rfl) h1
  simp only [execOp, ho, hx, hy, Sem.run_bind, h]
  rfl
set_option maxHeartbeats 16000000 in
set_option maxRecDepth 100000 in
theorem rone_stop (s : Txt) (hs : s.length ≤ 65536) (w : World) : Calls Tryz.prog 56 #[.string ⟨s.toArray⟩, .string ⟨#[63]⟩] w fun e w' => e = .returned (.tuple #[.agg (atmC (oneL (some [63]) s).1), .int .i64 ((oneL (some [63]) s).2.1 : Int), .int .i64 (oneL (some [63]) s).2.2]) ∧ Since w w' := by
  obtain ⟨K, hK⟩ : ∃ K : Ending → World → Prop, Hid (K = fun e w' => e = .returned (.tuple #[.agg (atmC (oneL (some [63]) s).1), .int .i64 ((oneL (some [63]) s).2.1 : Int), .int .i64 (oneL (some [63]) s).2.2]) ∧ Since w w') := ⟨_, rfl⟩
  have hgood : Hid (∀ (a : Atm) (p : Nat) (e : Int) w', oneL (some [63]) s = (a, p, e) → Since w w' → K (.returned (.tuple #[.agg (atmC a), .int .i64 (p : Int), .int .i64 e])) w') := by
    intro a p e w' h1 h2
    rw [hK.out]
    exact ⟨by rw [h1], h2⟩
  rw [← hK.out]
  have hS1 : Since w (w.alloc (.cells #[.string ⟨#[]⟩, .string ⟨#[]⟩, .int .i64 0, .bool false, .string ⟨#[]⟩, .bool false, .string ⟨#[]⟩, .bool false, .string ⟨#[]⟩, .bool false, .string ⟨#[]⟩] 44)) := (Since.refl w).alloc _
  have hR1 : Cel (w.alloc (.cells #[.string ⟨#[]⟩, .string ⟨#[]⟩, .int .i64 0, .bool false, .string ⟨#[]⟩, .bool false, .string ⟨#[]⟩, .bool false, .string ⟨#[]⟩, .bool false, .string ⟨#[]⟩] 44)) w.heap.size #[.string ⟨#[]⟩, .string ⟨#[]⟩, .int .i64 0, .bool false, .string ⟨#[]⟩, .bool false, .string ⟨#[]⟩, .bool false, .string ⟨#[]⟩, .bool false, .string ⟨#[]⟩] 44 := heap_alloc_new w _
  have HA := Lib.hid (rall_any s (w.alloc (.cells #[.string ⟨#[]⟩, .string ⟨#[]⟩, .int .i64 0, .bool false, .string ⟨#[]⟩, .bool false, .string ⟨#[]⟩, .bool false, .string ⟨#[]⟩, .bool false, .string ⟨#[]⟩] 44)) hs)
  unfold AllPost at HA
  have hfit : ∀ x ∈ txtsK (allL s).1, x.length ≤ 65536 := fun x hx => by
    unfold txtsK at hx
    obtain ⟨t, ht, rfl⟩ := List.mem_map.1 hx
    exact tk_fits hs ht
  have hmany : (allL s).1.length ≤ 65536 := all_many hs
  have hpl : oneL (some [63]) s = if (allL s).2.2 = 0 then (match oneT (some [63]) (txtsK (allL s).1) with
    | .ok a => (a, 0, 0)
    | .error (k, e) => (zeroA, placeK (allL s).1 s.length k, e)) else (zeroA, (allL s).2.1, (allL s).2.2) := rfl
  obtain ⟨R, hR⟩ : ∃ R, Hid (R = allL s) := ⟨_, rfl⟩
  rw [← hR.out] at HA hfit hmany hpl
  obtain ⟨TL, A0, e0⟩ := R
  simp only at HA hfit hmany hpl
  have HF := Lib.hid hfit
  have HMN := Lib.hid hmany
  have HP0 := Lib.hid hpl
  clear hK hR hs hfit hmany hpl
  go_enter Tryz.func56, Tryz.ntmps56
  go_upto_region 1 with (fail)
  generalize (w.alloc (.cells #[.string ⟨#[]⟩, .string ⟨#[]⟩, .int .i64 0, .bool false, .string ⟨#[]⟩, .bool false, .string ⟨#[]⟩, .bool false, .string ⟨#[]⟩, .bool false, .string ⟨#[]⟩] 44)) = w1 at *
  obtain ⟨rb, hrb⟩ : ∃ x, Hid (x = w.heap.size) := ⟨_, rfl⟩
  simp only [← hrb.out]
  rw [← hrb.out] at hR1
  have HRL2 : Hid (w.heap.size ≤ rb) := by show _ ≤ _; rw [hrb.out]; exact Nat.le_refl _
  clear hrb
  go_wp2_with fail
  refine HA.out.mono ?_
  rintro e w2 ⟨lv, rfl, hown, hb⟩
  have hS2 := hS1.trans hb
  have hR2 := hR1.next hb
  clear HA hb hS1 hR1
  by_cases he : ¬ e0 = 0
  · have hpl : oneL (some [63]) s = (zeroA, A0, e0) := by rw [HP0.out, if_neg he]
    obtain ⟨la, lc, rfl⟩ := own_slice hown
    have hone : Hid (((#[.string ⟨#[]⟩, .string ⟨#[]⟩, .int .i64 0, .bool false, .string ⟨#[]⟩, .bool false, .string ⟨#[]⟩, .bool false, .string ⟨#[]⟩, .bool false, .string ⟨#[]⟩] : Array Value).all (·.oneCell')) = true) := by show _ = _; simp [Value.oneCell']
    have hNN := hR2.row #[.string ⟨#[]⟩, .string ⟨#[]⟩, .int .i64 0, .bool false, .string ⟨#[]⟩, .bool false, .string ⟨#[]⟩, .bool false, .string ⟨#[]⟩, .bool false, .string ⟨#[]⟩]
    have hfin := Lib.hid (hgood.out _ _ _ (w2.setRow rb #[.string ⟨#[]⟩, .string ⟨#[]⟩, .int .i64 0, .bool false, .string ⟨#[]⟩, .bool false, .string ⟨#[]⟩, .bool false, .string ⟨#[]⟩, .bool false, .string ⟨#[]⟩]) hpl ((row_setRow hR2).since hS2 (fun x hx => by rw [hx]; exact HRL2.out)))
    clear hown HF HMN HP0 hpl hS2
    go_wp2_with (refine wpList_store_row rfl 44 (.tmp 4) (.tmp 20) rfl rb #[.string ⟨#[]⟩, .string ⟨#[]⟩, .int .i64 0, .bool false, .string ⟨#[]⟩, .bool false, .string ⟨#[]⟩, .bool false, .string ⟨#[]⟩, .bool false, .string ⟨#[]⟩] rfl rfl 44 #[.string ⟨#[]⟩, .string ⟨#[]⟩, .int .i64 0, .bool false, .string ⟨#[]⟩, .bool false, .string ⟨#[]⟩, .bool false, .string ⟨#[]⟩, .bool false, .string ⟨#[]⟩] hR2 ainfoC rfl hone.out ?_)
    generalize (w2.setRow rb #[.string ⟨#[]⟩, .string ⟨#[]⟩, .int .i64 0, .bool false, .string ⟨#[]⟩, .bool false, .string ⟨#[]⟩, .bool false, .string ⟨#[]⟩, .bool false, .string ⟨#[]⟩]) = wq at *
    clear hR2 hone
    have q0 : wq.cell? ⟨rb, 0, none⟩ = some (.string ⟨#[]⟩) := hNN.cell 0
    have q1 : wq.cell? ⟨rb, 1, none⟩ = some (.string ⟨#[]⟩) := hNN.cell 1
    have q2 : wq.cell? ⟨rb, 2, none⟩ = some (.int .i64 0) := hNN.cell 2
    have q3 : wq.cell? ⟨rb, 3, none⟩ = some (.bool false) := hNN.cell 3
    have q4 : wq.cell? ⟨rb, 4, none⟩ = some (.string ⟨#[]⟩) := hNN.cell 4
    have q5 : wq.cell? ⟨rb, 5, none⟩ = some (.bool false) := hNN.cell 5
    have q6 : wq.cell? ⟨rb, 6, none⟩ = some (.string ⟨#[]⟩) := hNN.cell 6
    have q7 : wq.cell? ⟨rb, 7, none⟩ = some (.bool false) := hNN.cell 7
    have q8 : wq.cell? ⟨rb, 8, none⟩ = some (.string ⟨#[]⟩) := hNN.cell 8
    have q9 : wq.cell? ⟨rb, 9, none⟩ = some (.bool false) := hNN.cell 9
    have q10 : wq.cell? ⟨rb, 10, none⟩ = some (.string ⟨#[]⟩) := hNN.cell 10
    refine bodyPost_ret (v := .tuple #[.agg #[.string ⟨#[]⟩, .string ⟨#[]⟩, .int .i64 0, .bool false, .string ⟨#[]⟩, .bool false, .string ⟨#[]⟩, .bool false, .string ⟨#[]⟩, .bool false, .string ⟨#[]⟩], .int .i64 (A0 : Int), .int .i64 e0]) ?_ rfl hfin.out
    clear hfin hNN
    simp [results, Tryz.results56, go_sem, q0, q1, q2, q3, q4, q5, q6, q7, q8, q9, q10]
  replace he : e0 = 0 := by omega
  subst he
  have HPL : Hid ((∀ k e, (oneX (some [63]) (txtsK TL)).2 = .error (k, e) → oneL (some [63]) s = (zeroA, placeK TL s.length k, e)) ∧ (∀ a r, oneX (some [63]) (txtsK TL) = (a, .ok r) → oneL (some [63]) s = (a, 0, 0))) := by
    refine ⟨fun k e h => ?_, fun a r h => ?_⟩
    · rw [HP0.out, if_pos rfl, oneR_err h]
    · rw [HP0.out, if_pos rfl, oneR_ok h]
  obtain ⟨la, lc, hlv⟩ := own_slice hown
  have hown0 := own_base hown (Nat.zero_le _)
  clear HP0 hown
  have hlen : (txtsK TL).length = TL.length := by unfold txtsK; rw [List.length_map]
  have hRD : Rdr (w2.alloc (.cells #[lv, .int .i64 0, .int .i64 (s.length : Int), .int .i64 0, .int .i64 0] 95)) w2.heap.size lv TL s.length (.ok (txtsK TL)) 0 := by
    have h1 : Since w2 (w2.alloc (.cells #[lv, .int .i64 0, .int .i64 (s.length : Int), .int .i64 0, .int .i64 0] 95)) := (Since.refl _).alloc _
    refine ⟨heap_alloc_new _ _, own_since hown0 h1, HMN.out, Nat.zero_le _, fun r e => ?_, fun e h => by cases h⟩
    injection e with e
    subst e
    exact ⟨by rw [hlen]; omega, [], rfl⟩
  have hS5 : Since w (w2.alloc (.cells #[lv, .int .i64 0, .int .i64 (s.length : Int), .int .i64 0, .int .i64 0] 95)) := hS2.alloc _
  have hR5 := hR2.next ((Since.refl w2).alloc (.cells #[lv, .int .i64 0, .int .i64 (s.length : Int), .int .i64 0, .int .i64 0] 95))
  have HLO0 := hS2.size
  subst hlv
  clear hS2 hR2 hown0 hlen
  obtain ⟨w5, hw5⟩ : ∃ W, Hid (W = (w2.alloc (.cells #[.slice la TL.length lc, .int .i64 0, .int .i64 (s.length : Int), .int .i64 0, .int .i64 0] 95))) := ⟨_, rfl⟩
  rw [← hw5.out] at hRD hS5 hR5
  go_upto_region 5 with (fail)
  rw [← hw5.out]
  clear hw5
  obtain ⟨g, hg⟩ : ∃ x, Hid (x = w2.heap.size) := ⟨_, rfl⟩
  simp only [← hg.out]
  rw [← hg.out] at hRD HLO0
  clear hg
  have HLO := Lib.hid HLO0
  obtain ⟨lv, hlv⟩ : ∃ x, Hid (x = Value.slice la TL.length lc) := ⟨_, rfl⟩
  rw [← hlv.out] at hRD
  have hne : Hid (¬ rb = g) := cel_cel_ne hR5 hRD.cel (by decide)
  have HAX := Lib.hid (ratom_any10 HF.out hRD)
  obtain ⟨⟨⟨a_s, a_p, a_n, ⟨a_v0, a_l0⟩, ⟨a_v1, a_l1⟩, ⟨a_v2, a_l2⟩, ⟨a_v3, a_l3⟩⟩, q6⟩, hq6⟩ : ∃ x, Hid (x = atomX (.ok (txtsK TL))) := ⟨_, rfl⟩
  rw [← hq6.out] at HAX
  have HA2 : Hid (Calls Tryz.prog 80 #[.pointer (some ⟨g, 0, none⟩)] w5 fun e w' => e = .returned (.agg #[.string ⟨a_s.toArray⟩, .string ⟨a_p.toArray⟩, .int .i64 a_n, .bool a_v0, .string ⟨a_l0.toArray⟩, .bool a_v1, .string ⟨a_l1.toArray⟩, .bool a_v2, .string ⟨a_l2.toArray⟩, .bool a_v3, .string ⟨a_l3.toArray⟩]) ∧ (∃ j, Rdr w' g lv TL s.length q6 j) ∧ OnlyG g w5 w') := HAX.out
  clear HAX HLO0 hRD hlv
  go_wp2_with fail
  refine HA2.out.mono ?_
  rintro e w6 ⟨rfl, hr6, hk6⟩
  have hRB6 := hk6.cel hR5 hne.out
  have hS6 := hk6.since hS5 (fun x hx => by rw [hx]; exact HLO.out)
  have hSa : Since w6 (w6.alloc (.cells #[.string ⟨a_s.toArray⟩, .string ⟨a_p.toArray⟩, .int .i64 a_n, .bool a_v0, .string ⟨a_l0.toArray⟩, .bool a_v1, .string ⟨a_l1.toArray⟩, .bool a_v2, .string ⟨a_l2.toArray⟩, .bool a_v3, .string ⟨a_l3.toArray⟩] 44)) := (Since.refl _).alloc _
  have hRB7 := hRB6.next hSa
  have hS7 := hS6.trans hSa
  have hAB7 : Cel (w6.alloc (.cells #[.string ⟨a_s.toArray⟩, .string ⟨a_p.toArray⟩, .int .i64 a_n, .bool a_v0, .string ⟨a_l0.toArray⟩, .bool a_v1, .string ⟨a_l1.toArray⟩, .bool a_v2, .string ⟨a_l2.toArray⟩, .bool a_v3, .string ⟨a_l3.toArray⟩] 44)) w6.heap.size #[.string ⟨a_s.toArray⟩, .string ⟨a_p.toArray⟩, .int .i64 a_n, .bool a_v0, .string ⟨a_l0.toArray⟩, .bool a_v1, .string ⟨a_l1.toArray⟩, .bool a_v2, .string ⟨a_l2.toArray⟩, .bool a_v3, .string ⟨a_l3.toArray⟩] 44 := heap_alloc_new _ _
  obtain ⟨j6, hr6⟩ := hr6
  replace hr6 := hr6.next hSa
  clear HA2 hk6 hRB6 hS6 hSa hR5 hS5
  go_upto_region 6 with (fail)
  obtain ⟨ab, hab⟩ : ∃ x, Hid (x = w6.heap.size) := ⟨_, rfl⟩
  simp only [← hab.out]
  rw [← hab.out] at hAB7
  clear hab
  generalize (w6.alloc (.cells #[.string ⟨a_s.toArray⟩, .string ⟨a_p.toArray⟩, .int .i64 a_n, .bool a_v0, .string ⟨a_l0.toArray⟩, .bool a_v1, .string ⟨a_l1.toArray⟩, .bool a_v2, .string ⟨a_l2.toArray⟩, .bool a_v3, .string ⟨a_l3.toArray⟩] 44)) = w7 at *
  have hna : Hid (¬ ab = g) := cel_cel_ne hAB7 hr6.cel (by decide)
  have HM3 := Lib.hid (rmust_any [63] hr6)
  obtain ⟨q7, hq7⟩ : ∃ x, Hid (x = mustS [63] q6) := ⟨_, rfl⟩
  rw [← hq7.out] at HM3
  have HXO : Hid ((oneX (some [63]) (txtsK TL)) = (((a_s, a_p, a_n, (a_v0, a_l0), (a_v1, a_l1), (a_v2, a_l2), (a_v3, a_l3)) : Atm), restS q7)) := by show _ = _; unfold oneX; rw [← hq6.out, hq7.out]; rfl
  clear hr6 hq7 hq6
  go_wp2_with fail
  refine HM3.out.mono ?_
  rintro e w8 ⟨rfl, hr8, hk8⟩
  have hRB8 := hk8.cel hRB7 hne.out
  have hAB8 := hk8.cel hAB7 hna.out
  have hS8 := hk8.since hS7 (fun x hx => by rw [hx]; exact HLO.out)
  obtain ⟨j8, hr8⟩ := hr8
  clear HM3 hRB7 hAB7 hS7 hk8
  have HCM : Hid (Rdr w8 g lv TL s.length q7 j8) := hr8
  cases q7 with
  | error x =>
    obtain ⟨k0, er⟩ := x
    have HE0 : (oneX (some [63]) (txtsK TL)).2 = .error (k0, er) := by rw [HXO.out]; rfl
    have hpl : oneL (some [63]) s = (zeroA, placeK TL s.length k0, er) := HPL.out.1 k0 er HE0
    obtain ⟨jx, hrx⟩ : ∃ j, Rdr w8 g lv TL s.length (.error (k0, er)) j := ⟨_, hr8⟩
    have he : ¬ (er : Int) = 0 := hrx.bad _ rfl
    have hRB : Cel w8 g #[lv, .int .i64 (jx : Int), .int .i64 (s.length : Int), .int .i64 (placeK TL s.length k0 : Int), .int .i64 er] 95 := hrx.cel
    have c4 : w8.cell? ⟨g, 4, none⟩ = some (.int .i64 er) := hrx.cel.cell 4
    have hR6 := hRB8
    have hSS := hS8
    have hne2 : ¬ g = rb := fun e => cel_cel_ne hRB hR6 (by decide) e
    clear hrx HF HPL HE0 hr8 HXO HCM hAB8 hRB8 hS8
    go_upto_region 11 with (fail)
    clear c4
    have hSd : Since w8 w8.drew := (Since.refl _).drew
    replace hRB := hRB.next hSd
    replace hR6 := hR6.next hSd
    replace hSS := hSS.trans hSd
    clear hSd
    refine hx_begin (S := fun W => Cel W g #[lv, .int .i64 (jx : Int), .int .i64 (s.length : Int), .int .i64 (placeK TL s.length k0 : Int), .int .i64 er] 95) (by kernel_rfl) hRB (by kernel_rfl) (fun _ _ _ _ _ h => h) (fun hns hQ => ?_)
    refine hx_take (i := 0) (oi := _) (v := .agg #[.string ⟨#[]⟩, .string ⟨#[]⟩, .int .i64 0, .bool false, .string ⟨#[]⟩, .bool false, .string ⟨#[]⟩, .bool false, .string ⟨#[]⟩, .bool false, .string ⟨#[]⟩]) rfl rfl hns (by kernel_rfl) (by kernel_rfl) hQ (by kernel_rfl) (fun _ _ => by kernel_rfl) hRB ?_
    refine hx_take (i := 1) (oi := _) (v := .pointer (some ⟨g, 0, none⟩)) rfl rfl hns (by kernel_rfl) (by kernel_rfl) hQ (by kernel_rfl) (fun _ _ => by kernel_rfl) hRB ?_
    refine hx_take (i := 2) (oi := _) (v := .pointer (some ⟨g, 0, none⟩)) rfl rfl hns (by kernel_rfl) (by kernel_rfl) hQ (by kernel_rfl) (fun _ _ => by kernel_rfl) hRB ?_
    refine hx_take (i := 3) (oi := _) (v := .pointer (some ⟨g, 3, none⟩)) rfl rfl hns (by kernel_rfl) (by kernel_rfl) hQ (by kernel_rfl) (fun _ _ => by kernel_rfl) hRB ?_
    refine hx_take (i := 4) (oi := _) (v := .int .i64 (placeK TL s.length k0 : Int)) rfl rfl hns (by kernel_rfl) (by kernel_rfl) hQ (by kernel_rfl) (fun W hW => ld_one rfl (by kernel_rfl) (by kernel_rfl) W (Cel.cell hW 3)) hRB ?_
    refine hx_take (i := 5) (oi := _) (v := .pointer (some ⟨g, 0, none⟩)) rfl rfl hns (by kernel_rfl) (by kernel_rfl) hQ (by kernel_rfl) (fun _ _ => by kernel_rfl) hRB ?_
    refine hx_take (i := 6) (oi := _) (v := .pointer (some ⟨g, 0, none⟩)) rfl rfl hns (by kernel_rfl) (by kernel_rfl) hQ (by kernel_rfl) (fun _ _ => by kernel_rfl) hRB ?_
    refine hx_take (i := 7) (oi := _) (v := .pointer (some ⟨g, 4, none⟩)) rfl rfl hns (by kernel_rfl) (by kernel_rfl) hQ (by kernel_rfl) (fun _ _ => by kernel_rfl) hRB ?_
    refine hx_take (i := 8) (oi := _) (v := .int .i64 er) rfl rfl hns (by kernel_rfl) (by kernel_rfl) hQ (by kernel_rfl) (fun W hW => ld_one rfl (by kernel_rfl) (by kernel_rfl) W (Cel.cell hW 4)) hRB ?_
    have hTH : w8.drew.there rb 0 11 := cel_there hR6 (by show 0 + 11 ≤ 11; decide)
    have hNN : Cel (w8.drew.setCells rb 0 (#[.string ⟨#[]⟩, .string ⟨#[]⟩, .int .i64 0, .bool false, .string ⟨#[]⟩, .bool false, .string ⟨#[]⟩, .bool false, .string ⟨#[]⟩, .bool false, .string ⟨#[]⟩] : Array Value).toList) rb #[.string ⟨#[]⟩, .string ⟨#[]⟩, .int .i64 0, .bool false, .string ⟨#[]⟩, .bool false, .string ⟨#[]⟩, .bool false, .string ⟨#[]⟩, .bool false, .string ⟨#[]⟩] 44 := cel_setsV hR6 _ 0 (by simp [setsV])
    have hZN := only_sets w8.drew rb 0 (#[.string ⟨#[]⟩, .string ⟨#[]⟩, .int .i64 0, .bool false, .string ⟨#[]⟩, .bool false, .string ⟨#[]⟩, .bool false, .string ⟨#[]⟩, .bool false, .string ⟨#[]⟩] : Array Value).toList
    have hfin := Lib.hid (hgood.out _ _ _ (w8.drew.setCells rb 0 (#[.string ⟨#[]⟩, .string ⟨#[]⟩, .int .i64 0, .bool false, .string ⟨#[]⟩, .bool false, .string ⟨#[]⟩, .bool false, .string ⟨#[]⟩, .bool false, .string ⟨#[]⟩] : Array Value).toList) hpl (hZN.since hSS (fun x hx => by rw [hx]; exact HRL2.out)))
    refine hx_store (i := 9) (oi := _) (w8.drew.setCells rb 0 (#[.string ⟨#[]⟩, .string ⟨#[]⟩, .int .i64 0, .bool false, .string ⟨#[]⟩, .bool false, .string ⟨#[]⟩, .bool false, .string ⟨#[]⟩, .bool false, .string ⟨#[]⟩] : Array Value).toList) rfl rfl (by kernel_rfl) (by kernel_rfl) (st_atmZ rfl (by kernel_rfl) (by kernel_rfl) _ hTH rfl (by simp [Value.oneCell'])) (hZN.cel hRB hne2) ?_
    replace hRB := hZN.cel hRB hne2
    refine hx_take (i := 10) (oi := _) (v := .int .i64 (placeK TL s.length k0 : Int)) rfl rfl hns (by kernel_rfl) (by kernel_rfl) hQ (by kernel_rfl) (fun _ _ => by kernel_rfl) hRB ?_
    refine hx_take (i := 11) (oi := _) (v := .int .i64 er) rfl rfl hns (by kernel_rfl) (by kernel_rfl) hQ (by kernel_rfl) (fun _ _ => by kernel_rfl) hRB ?_
    refine wpAnyH_done (by kernel_rfl) ?_ _
    clear hns hQ
    simp only [List.set_cons_zero, List.set_cons_succ]
    clear hRB hR6 hSS hTH hZN
    generalize (w8.drew.setCells rb 0 (#[.string ⟨#[]⟩, .string ⟨#[]⟩, .int .i64 0, .bool false, .string ⟨#[]⟩, .bool false, .string ⟨#[]⟩, .bool false, .string ⟨#[]⟩, .bool false, .string ⟨#[]⟩] : Array Value).toList) = wq at *
    go_wp2_with fail
    have q0 : wq.cell? ⟨rb, 0, none⟩ = some (.string ⟨#[]⟩) := hNN.cell 0
    have q1 : wq.cell? ⟨rb, 1, none⟩ = some (.string ⟨#[]⟩) := hNN.cell 1
    have q2 : wq.cell? ⟨rb, 2, none⟩ = some (.int .i64 0) := hNN.cell 2
    have q3 : wq.cell? ⟨rb, 3, none⟩ = some (.bool false) := hNN.cell 3
    have q4 : wq.cell? ⟨rb, 4, none⟩ = some (.string ⟨#[]⟩) := hNN.cell 4
    have q5 : wq.cell? ⟨rb, 5, none⟩ = some (.bool false) := hNN.cell 5
    have q6 : wq.cell? ⟨rb, 6, none⟩ = some (.string ⟨#[]⟩) := hNN.cell 6
    have q7 : wq.cell? ⟨rb, 7, none⟩ = some (.bool false) := hNN.cell 7
    have q8 : wq.cell? ⟨rb, 8, none⟩ = some (.string ⟨#[]⟩) := hNN.cell 8
    have q9 : wq.cell? ⟨rb, 9, none⟩ = some (.bool false) := hNN.cell 9
    have q10 : wq.cell? ⟨rb, 10, none⟩ = some (.string ⟨#[]⟩) := hNN.cell 10
    refine bodyPost_ret (v := .tuple #[.agg #[.string ⟨#[]⟩, .string ⟨#[]⟩, .int .i64 0, .bool false, .string ⟨#[]⟩, .bool false, .string ⟨#[]⟩, .bool false, .string ⟨#[]⟩, .bool false, .string ⟨#[]⟩], .int .i64 (placeK TL s.length k0 : Int), .int .i64 er]) ?_ rfl hfin.out
    clear hfin hNN
    simp [results, Tryz.results56, go_sem, q0, q1, q2, q3, q4, q5, q6, q7, q8, q9, q10]
  | ok r =>
    have c4 : w8.cell? ⟨g, 4, none⟩ = some (.int .i64 0) := hr8.cel.cell 4
    have c1 : w8.cell? ⟨g, 1, none⟩ = some (.int .i64 (j8 : Int)) := hr8.cel.cell 1
    by_cases h0 : r.length = 0
    · have hpl : oneL (some [63]) s = (((a_s, a_p, a_n, (a_v0, a_l0), (a_v1, a_l1), (a_v2, a_l2), (a_v3, a_l3)) : Atm), 0, 0) := HPL.out.2 _ r (by rw [HXO.out]; show (_, (if r.length = 0 then (.ok r : RS) else .error (r.length, 3))) = _; rw [if_pos h0])
      have hcnd : ¬ (j8 : Int) < (TL.length : Int) := by have := hr8.sub; omega
      have y0 : w8.cell? ⟨ab, 0, none⟩ = some (.string ⟨a_s.toArray⟩) := hAB8.cell 0
      have y1 : w8.cell? ⟨ab, 1, none⟩ = some (.string ⟨a_p.toArray⟩) := hAB8.cell 1
      have y2 : w8.cell? ⟨ab, 2, none⟩ = some (.int .i64 a_n) := hAB8.cell 2
      have y3 : w8.cell? ⟨ab, 3, none⟩ = some (.bool a_v0) := hAB8.cell 3
      have y4 : w8.cell? ⟨ab, 4, none⟩ = some (.string ⟨a_l0.toArray⟩) := hAB8.cell 4
      have y5 : w8.cell? ⟨ab, 5, none⟩ = some (.bool a_v1) := hAB8.cell 5
      have y6 : w8.cell? ⟨ab, 6, none⟩ = some (.string ⟨a_l1.toArray⟩) := hAB8.cell 6
      have y7 : w8.cell? ⟨ab, 7, none⟩ = some (.bool a_v2) := hAB8.cell 7
      have y8 : w8.cell? ⟨ab, 8, none⟩ = some (.string ⟨a_l2.toArray⟩) := hAB8.cell 8
      have y9 : w8.cell? ⟨ab, 9, none⟩ = some (.bool a_v3) := hAB8.cell 9
      have y10 : w8.cell? ⟨ab, 10, none⟩ = some (.string ⟨a_l3.toArray⟩) := hAB8.cell 10
      have hone : Hid (((#[.string ⟨a_s.toArray⟩, .string ⟨a_p.toArray⟩, .int .i64 a_n, .bool a_v0, .string ⟨a_l0.toArray⟩, .bool a_v1, .string ⟨a_l1.toArray⟩, .bool a_v2, .string ⟨a_l2.toArray⟩, .bool a_v3, .string ⟨a_l3.toArray⟩] : Array Value).all (·.oneCell')) = true) := by show _ = _; simp [Value.oneCell']
      have hNN := hRB8.row #[.string ⟨a_s.toArray⟩, .string ⟨a_p.toArray⟩, .int .i64 a_n, .bool a_v0, .string ⟨a_l0.toArray⟩, .bool a_v1, .string ⟨a_l1.toArray⟩, .bool a_v2, .string ⟨a_l2.toArray⟩, .bool a_v3, .string ⟨a_l3.toArray⟩]
      have hfin : Hid (K (.returned (.tuple #[.agg #[.string ⟨a_s.toArray⟩, .string ⟨a_p.toArray⟩, .int .i64 a_n, .bool a_v0, .string ⟨a_l0.toArray⟩, .bool a_v1, .string ⟨a_l1.toArray⟩, .bool a_v2, .string ⟨a_l2.toArray⟩, .bool a_v3, .string ⟨a_l3.toArray⟩], .int .i64 0, .int .i64 0])) (w8.setRow rb #[.string ⟨a_s.toArray⟩, .string ⟨a_p.toArray⟩, .int .i64 a_n, .bool a_v0, .string ⟨a_l0.toArray⟩, .bool a_v1, .string ⟨a_l1.toArray⟩, .bool a_v2, .string ⟨a_l2.toArray⟩, .bool a_v3, .string ⟨a_l3.toArray⟩])) := hgood.out _ _ _ (w8.setRow rb #[.string ⟨a_s.toArray⟩, .string ⟨a_p.toArray⟩, .int .i64 a_n, .bool a_v0, .string ⟨a_l0.toArray⟩, .bool a_v1, .string ⟨a_l1.toArray⟩, .bool a_v2, .string ⟨a_l2.toArray⟩, .bool a_v3, .string ⟨a_l3.toArray⟩]) hpl ((row_setRow hRB8).since hS8 (fun x hx => by rw [hx]; exact HRL2.out))
      clear HF HPL HXO HCM hr8 hAB8 hS8 hpl h0
      go_wp2_with (refine wpList_store_row rfl 44 (.tmp 4) (.tmp 69) rfl rb #[.string ⟨a_s.toArray⟩, .string ⟨a_p.toArray⟩, .int .i64 a_n, .bool a_v0, .string ⟨a_l0.toArray⟩, .bool a_v1, .string ⟨a_l1.toArray⟩, .bool a_v2, .string ⟨a_l2.toArray⟩, .bool a_v3, .string ⟨a_l3.toArray⟩] rfl rfl 44 #[.string ⟨#[]⟩, .string ⟨#[]⟩, .int .i64 0, .bool false, .string ⟨#[]⟩, .bool false, .string ⟨#[]⟩, .bool false, .string ⟨#[]⟩, .bool false, .string ⟨#[]⟩] hRB8 ainfoC rfl hone.out ?_)
      generalize (w8.setRow rb #[.string ⟨a_s.toArray⟩, .string ⟨a_p.toArray⟩, .int .i64 a_n, .bool a_v0, .string ⟨a_l0.toArray⟩, .bool a_v1, .string ⟨a_l1.toArray⟩, .bool a_v2, .string ⟨a_l2.toArray⟩, .bool a_v3, .string ⟨a_l3.toArray⟩]) = wq at *
      clear y0 y1 y2 y3 y4 y5 y6 y7 y8 y9 y10 c4 c1 hcnd hRB8 hone
      have q0 : wq.cell? ⟨rb, 0, none⟩ = some (.string ⟨a_s.toArray⟩) := hNN.cell 0
      have q1 : wq.cell? ⟨rb, 1, none⟩ = some (.string ⟨a_p.toArray⟩) := hNN.cell 1
      have q2 : wq.cell? ⟨rb, 2, none⟩ = some (.int .i64 a_n) := hNN.cell 2
      have q3 : wq.cell? ⟨rb, 3, none⟩ = some (.bool a_v0) := hNN.cell 3
      have q4 : wq.cell? ⟨rb, 4, none⟩ = some (.string ⟨a_l0.toArray⟩) := hNN.cell 4
      have q5 : wq.cell? ⟨rb, 5, none⟩ = some (.bool a_v1) := hNN.cell 5
      have q6 : wq.cell? ⟨rb, 6, none⟩ = some (.string ⟨a_l1.toArray⟩) := hNN.cell 6
      have q7 : wq.cell? ⟨rb, 7, none⟩ = some (.bool a_v2) := hNN.cell 7
      have q8 : wq.cell? ⟨rb, 8, none⟩ = some (.string ⟨a_l2.toArray⟩) := hNN.cell 8
      have q9 : wq.cell? ⟨rb, 9, none⟩ = some (.bool a_v3) := hNN.cell 9
      have q10 : wq.cell? ⟨rb, 10, none⟩ = some (.string ⟨a_l3.toArray⟩) := hNN.cell 10
      refine bodyPost_ret (v := .tuple #[.agg #[.string ⟨a_s.toArray⟩, .string ⟨a_p.toArray⟩, .int .i64 a_n, .bool a_v0, .string ⟨a_l0.toArray⟩, .bool a_v1, .string ⟨a_l1.toArray⟩, .bool a_v2, .string ⟨a_l2.toArray⟩, .bool a_v3, .string ⟨a_l3.toArray⟩], .int .i64 0, .int .i64 0]) ?_ rfl hfin.out
      clear hfin hNN
      simp [results, Tryz.results56, go_sem, q0, q1, q2, q3, q4, q5, q6, q7, q8, q9, q10]
    · have hcnd : (j8 : Int) < (TL.length : Int) := by have := hr8.sub; omega
      have hjl : TL.length - j8 = r.length := by have := hr8.sub; omega
      have HFL := Lib.hid (rfail_any 3 j8 (by decide) hr8 hr8.ile)
      rw [hjl] at HFL
      have HFL2 : Hid (Calls Tryz.prog 77 #[.pointer (some ⟨g, 0, none⟩), .int .i64 3, .int .i64 (j8 : Int)] w8 fun e w' => e = .returned (.tuple #[]) ∧ Rdr w' g lv TL s.length (.error (r.length, 3)) j8 ∧ OnlyG g w8 w') := HFL.out
      have HE0 : (oneX (some [63]) (txtsK TL)).2 = .error (r.length, 3) := by rw [HXO.out]; show (if r.length = 0 then (.ok r : RS) else .error (r.length, 3)) = _; rw [if_neg h0]
      clear HFL HCM hjl hr8 hAB8
      go_wp2_with fail
      refine HFL2.out.mono ?_
      rintro e w9 ⟨rfl, hr9, hk9⟩
      have hRB9 := hk9.cel hRB8 hne.out
      have hS9 := hk9.since hS8 (fun x hx => by rw [hx]; exact HLO.out)
      clear HFL2 hk9 hRB8 hS8 c4 c1 hcnd
      have hpl : oneL (some [63]) s = (zeroA, placeK TL s.length r.length, 3) := HPL.out.1 r.length 3 HE0
      obtain ⟨jx, hrx⟩ : ∃ j, Rdr w9 g lv TL s.length (.error (r.length, 3)) j := ⟨_, hr9⟩
      have he : ¬ (3 : Int) = 0 := hrx.bad _ rfl
      have hRB : Cel w9 g #[lv, .int .i64 (jx : Int), .int .i64 (s.length : Int), .int .i64 (placeK TL s.length r.length : Int), .int .i64 3] 95 := hrx.cel
      have c4 : w9.cell? ⟨g, 4, none⟩ = some (.int .i64 3) := hrx.cel.cell 4
      have hR6 := hRB9
      have hSS := hS9
      have hne2 : ¬ g = rb := fun e => cel_cel_ne hRB hR6 (by decide) e
      clear hrx HF HPL HE0 HXO hr9 hRB9 hS9
      go_upto_region 11 with (fail)
      clear c4
      have hSd : Since w9 w9.drew := (Since.refl _).drew
      replace hRB := hRB.next hSd
      replace hR6 := hR6.next hSd
      replace hSS := hSS.trans hSd
      clear hSd
      refine hx_begin (S := fun W => Cel W g #[lv, .int .i64 (jx : Int), .int .i64 (s.length : Int), .int .i64 (placeK TL s.length r.length : Int), .int .i64 3] 95) (by kernel_rfl) hRB (by kernel_rfl) (fun _ _ _ _ _ h => h) (fun hns hQ => ?_)
      refine hx_take (i := 0) (oi := _) (v := .agg #[.string ⟨#[]⟩, .string ⟨#[]⟩, .int .i64 0, .bool false, .string ⟨#[]⟩, .bool false, .string ⟨#[]⟩, .bool false, .string ⟨#[]⟩, .bool false, .string ⟨#[]⟩]) rfl rfl hns (by kernel_rfl) (by kernel_rfl) hQ (by kernel_rfl) (fun _ _ => by kernel_rfl) hRB ?_
      refine hx_take (i := 1) (oi := _) (v := .pointer (some ⟨g, 0, none⟩)) rfl rfl hns (by kernel_rfl) (by kernel_rfl) hQ (by kernel_rfl) (fun _ _ => by kernel_rfl) hRB ?_
      refine hx_take (i := 2) (oi := _) (v := .pointer (some ⟨g, 0, none⟩)) rfl rfl hns (by kernel_rfl) (by kernel_rfl) hQ (by kernel_rfl) (fun _ _ => by kernel_rfl) hRB ?_
      refine hx_take (i := 3) (oi := _) (v := .pointer (some ⟨g, 3, none⟩)) rfl rfl hns (by kernel_rfl) (by kernel_rfl) hQ (by kernel_rfl) (fun _ _ => by kernel_rfl) hRB ?_
      refine hx_take (i := 4) (oi := _) (v := .int .i64 (placeK TL s.length r.length : Int)) rfl rfl hns (by kernel_rfl) (by kernel_rfl) hQ (by kernel_rfl) (fun W hW => ld_one rfl (by kernel_rfl) (by kernel_rfl) W (Cel.cell hW 3)) hRB ?_
      refine hx_take (i := 5) (oi := _) (v := .pointer (some ⟨g, 0, none⟩)) rfl rfl hns (by kernel_rfl) (by kernel_rfl) hQ (by kernel_rfl) (fun _ _ => by kernel_rfl) hRB ?_
      refine hx_take (i := 6) (oi := _) (v := .pointer (some ⟨g, 0, none⟩)) rfl rfl hns (by kernel_rfl) (by kernel_rfl) hQ (by kernel_rfl) (fun _ _ => by kernel_rfl) hRB ?_
      refine hx_take (i := 7) (oi := _) (v := .pointer (some ⟨g, 4, none⟩)) rfl rfl hns (by kernel_rfl) (by kernel_rfl) hQ (by kernel_rfl) (fun _ _ => by kernel_rfl) hRB ?_
      refine hx_take (i := 8) (oi := _) (v := .int .i64 3) rfl rfl hns (by kernel_rfl) (by kernel_rfl) hQ (by kernel_rfl) (fun W hW => ld_one rfl (by kernel_rfl) (by kernel_rfl) W (Cel.cell hW 4)) hRB ?_
      have hTH : w9.drew.there rb 0 11 := cel_there hR6 (by show 0 + 11 ≤ 11; decide)
      have hNN : Cel (w9.drew.setCells rb 0 (#[.string ⟨#[]⟩, .string ⟨#[]⟩, .int .i64 0, .bool false, .string ⟨#[]⟩, .bool false, .string ⟨#[]⟩, .bool false, .string ⟨#[]⟩, .bool false, .string ⟨#[]⟩] : Array Value).toList) rb #[.string ⟨#[]⟩, .string ⟨#[]⟩, .int .i64 0, .bool false, .string ⟨#[]⟩, .bool false, .string ⟨#[]⟩, .bool false, .string ⟨#[]⟩, .bool false, .string ⟨#[]⟩] 44 := cel_setsV hR6 _ 0 (by simp [setsV])
      have hZN := only_sets w9.drew rb 0 (#[.string ⟨#[]⟩, .string ⟨#[]⟩, .int .i64 0, .bool false, .string ⟨#[]⟩, .bool false, .string ⟨#[]⟩, .bool false, .string ⟨#[]⟩, .bool false, .string ⟨#[]⟩] : Array Value).toList
      have hfin := Lib.hid (hgood.out _ _ _ (w9.drew.setCells rb 0 (#[.string ⟨#[]⟩, .string ⟨#[]⟩, .int .i64 0, .bool false, .string ⟨#[]⟩, .bool false, .string ⟨#[]⟩, .bool false, .string ⟨#[]⟩, .bool false, .string ⟨#[]⟩] : Array Value).toList) hpl (hZN.since hSS (fun x hx => by rw [hx]; exact HRL2.out)))
      refine hx_store (i := 9) (oi := _) (w9.drew.setCells rb 0 (#[.string ⟨#[]⟩, .string ⟨#[]⟩, .int .i64 0, .bool false, .string ⟨#[]⟩, .bool false, .string ⟨#[]⟩, .bool false, .string ⟨#[]⟩, .bool false, .string ⟨#[]⟩] : Array Value).toList) rfl rfl (by kernel_rfl) (by kernel_rfl) (st_atmZ rfl (by kernel_rfl) (by kernel_rfl) _ hTH rfl (by simp [Value.oneCell'])) (hZN.cel hRB hne2) ?_
      replace hRB := hZN.cel hRB hne2
      refine hx_take (i := 10) (oi := _) (v := .int .i64 (placeK TL s.length r.length : Int)) rfl rfl hns (by kernel_rfl) (by kernel_rfl) hQ (by kernel_rfl) (fun _ _ => by kernel_rfl) hRB ?_
      refine hx_take (i := 11) (oi := _) (v := .int .i64 3) rfl rfl hns (by kernel_rfl) (by kernel_rfl) hQ (by kernel_rfl) (fun _ _ => by kernel_rfl) hRB ?_
      refine wpAnyH_done (by kernel_rfl) ?_ _
      clear hns hQ
      simp only [List.set_cons_zero, List.set_cons_succ]
      clear hRB hR6 hSS hTH hZN
      generalize (w9.drew.setCells rb 0 (#[.string ⟨#[]⟩, .string ⟨#[]⟩, .int .i64 0, .bool false, .string ⟨#[]⟩, .bool false, .string ⟨#[]⟩, .bool false, .string ⟨#[]⟩, .bool false, .string ⟨#[]⟩] : Array Value).toList) = wq at *
      go_wp2_with fail
      have q0 : wq.cell? ⟨rb, 0, none⟩ = some (.string ⟨#[]⟩) := hNN.cell 0
      have q1 : wq.cell? ⟨rb, 1, none⟩ = some (.string ⟨#[]⟩) := hNN.cell 1
      have q2 : wq.cell? ⟨rb, 2, none⟩ = some (.int .i64 0) := hNN.cell 2
      have q3 : wq.cell? ⟨rb, 3, none⟩ = some (.bool false) := hNN.cell 3
      have q4 : wq.cell? ⟨rb, 4, none⟩ = some (.string ⟨#[]⟩) := hNN.cell 4
      have q5 : wq.cell? ⟨rb, 5, none⟩ = some (.bool false) := hNN.cell 5
      have q6 : wq.cell? ⟨rb, 6, none⟩ = some (.string ⟨#[]⟩) := hNN.cell 6
      have q7 : wq.cell? ⟨rb, 7, none⟩ = some (.bool false) := hNN.cell 7
      have q8 : wq.cell? ⟨rb, 8, none⟩ = some (.string ⟨#[]⟩) := hNN.cell 8
      have q9 : wq.cell? ⟨rb, 9, none⟩ = some (.bool false) := hNN.cell 9
      have q10 : wq.cell? ⟨rb, 10, none⟩ = some (.string ⟨#[]⟩) := hNN.cell 10
      refine bodyPost_ret (v := .tuple #[.agg #[.string ⟨#[]⟩, .string ⟨#[]⟩, .int .i64 0, .bool false, .string ⟨#[]⟩, .bool false, .string ⟨#[]⟩, .bool false, .string ⟨#[]⟩, .bool false, .string ⟨#[]⟩], .int .i64 (placeK TL s.length r.length : Int), .int .i64 3]) ?_ rfl hfin.out
      clear hfin hNN
      simp [results, Tryz.results56, go_sem, q0, q1, q2, q3, q4, q5, q6, q7, q8, q9, q10]
set_option maxHeartbeats 16000000 in
set_option maxRecDepth 100000 in
theorem rone_bare (s : Txt) (hs : s.length ≤ 65536) (w : World) : Calls Tryz.prog 56 #[.string ⟨s.toArray⟩, .string ⟨#[]⟩] w fun e w' => e = .returned (.tuple #[.agg (atmC (oneL none s).1), .int .i64 ((oneL none s).2.1 : Int), .int .i64 (oneL none s).2.2]) ∧ Since w w' := by
  obtain ⟨K, hK⟩ : ∃ K : Ending → World → Prop, Hid (K = fun e w' => e = .returned (.tuple #[.agg (atmC (oneL none s).1), .int .i64 ((oneL none s).2.1 : Int), .int .i64 (oneL none s).2.2]) ∧ Since w w') := ⟨_, rfl⟩
  have hgood : Hid (∀ (a : Atm) (p : Nat) (e : Int) w', oneL none s = (a, p, e) → Since w w' → K (.returned (.tuple #[.agg (atmC a), .int .i64 (p : Int), .int .i64 e])) w') := by
    intro a p e w' h1 h2
    rw [hK.out]
    exact ⟨by rw [h1], h2⟩
  rw [← hK.out]
  have hS1 : Since w (w.alloc (.cells #[.string ⟨#[]⟩, .string ⟨#[]⟩, .int .i64 0, .bool false, .string ⟨#[]⟩, .bool false, .string ⟨#[]⟩, .bool false, .string ⟨#[]⟩, .bool false, .string ⟨#[]⟩] 44)) := (Since.refl w).alloc _
  have hR1 : Cel (w.alloc (.cells #[.string ⟨#[]⟩, .string ⟨#[]⟩, .int .i64 0, .bool false, .string ⟨#[]⟩, .bool false, .string ⟨#[]⟩, .bool false, .string ⟨#[]⟩, .bool false, .string ⟨#[]⟩] 44)) w.heap.size #[.string ⟨#[]⟩, .string ⟨#[]⟩, .int .i64 0, .bool false, .string ⟨#[]⟩, .bool false, .string ⟨#[]⟩, .bool false, .string ⟨#[]⟩, .bool false, .string ⟨#[]⟩] 44 := heap_alloc_new w _
  have HA := Lib.hid (rall_any s (w.alloc (.cells #[.string ⟨#[]⟩, .string ⟨#[]⟩, .int .i64 0, .bool false, .string ⟨#[]⟩, .bool false, .string ⟨#[]⟩, .bool false, .string ⟨#[]⟩, .bool false, .string ⟨#[]⟩] 44)) hs)
  unfold AllPost at HA
  have hfit : ∀ x ∈ txtsK (allL s).1, x.length ≤ 65536 := fun x hx => by
    unfold txtsK at hx
    obtain ⟨t, ht, rfl⟩ := List.mem_map.1 hx
    exact tk_fits hs ht
  have hmany : (allL s).1.length ≤ 65536 := all_many hs
  have hpl : oneL none s = if (allL s).2.2 = 0 then (match oneT none (txtsK (allL s).1) with
    | .ok a => (a, 0, 0)
    | .error (k, e) => (zeroA, placeK (allL s).1 s.length k, e)) else (zeroA, (allL s).2.1, (allL s).2.2) := rfl
  obtain ⟨R, hR⟩ : ∃ R, Hid (R = allL s) := ⟨_, rfl⟩
  rw [← hR.out] at HA hfit hmany hpl
  obtain ⟨TL, A0, e0⟩ := R
  simp only at HA hfit hmany hpl
  have HF := Lib.hid hfit
  have HMN := Lib.hid hmany
  have HP0 := Lib.hid hpl
  clear hK hR hs hfit hmany hpl
  go_enter Tryz.func56, Tryz.ntmps56
  go_upto_region 1 with (fail)
  generalize (w.alloc (.cells #[.string ⟨#[]⟩, .string ⟨#[]⟩, .int .i64 0, .bool false, .string ⟨#[]⟩, .bool false, .string ⟨#[]⟩, .bool false, .string ⟨#[]⟩, .bool false, .string ⟨#[]⟩] 44)) = w1 at *
  obtain ⟨rb, hrb⟩ : ∃ x, Hid (x = w.heap.size) := ⟨_, rfl⟩
  simp only [← hrb.out]
  rw [← hrb.out] at hR1
  have HRL2 : Hid (w.heap.size ≤ rb) := by show _ ≤ _; rw [hrb.out]; exact Nat.le_refl _
  clear hrb
  go_wp2_with fail
  refine HA.out.mono ?_
  rintro e w2 ⟨lv, rfl, hown, hb⟩
  have hS2 := hS1.trans hb
  have hR2 := hR1.next hb
  clear HA hb hS1 hR1
  by_cases he : ¬ e0 = 0
  · have hpl : oneL none s = (zeroA, A0, e0) := by rw [HP0.out, if_neg he]
    obtain ⟨la, lc, rfl⟩ := own_slice hown
    have hone : Hid (((#[.string ⟨#[]⟩, .string ⟨#[]⟩, .int .i64 0, .bool false, .string ⟨#[]⟩, .bool false, .string ⟨#[]⟩, .bool false, .string ⟨#[]⟩, .bool false, .string ⟨#[]⟩] : Array Value).all (·.oneCell')) = true) := by show _ = _; simp [Value.oneCell']
    have hNN := hR2.row #[.string ⟨#[]⟩, .string ⟨#[]⟩, .int .i64 0, .bool false, .string ⟨#[]⟩, .bool false, .string ⟨#[]⟩, .bool false, .string ⟨#[]⟩, .bool false, .string ⟨#[]⟩]
    have hfin := Lib.hid (hgood.out _ _ _ (w2.setRow rb #[.string ⟨#[]⟩, .string ⟨#[]⟩, .int .i64 0, .bool false, .string ⟨#[]⟩, .bool false, .string ⟨#[]⟩, .bool false, .string ⟨#[]⟩, .bool false, .string ⟨#[]⟩]) hpl ((row_setRow hR2).since hS2 (fun x hx => by rw [hx]; exact HRL2.out)))
    clear hown HF HMN HP0 hpl hS2
    go_wp2_with (refine wpList_store_row rfl 44 (.tmp 4) (.tmp 20) rfl rb #[.string ⟨#[]⟩, .string ⟨#[]⟩, .int .i64 0, .bool false, .string ⟨#[]⟩, .bool false, .string ⟨#[]⟩, .bool false, .string ⟨#[]⟩, .bool false, .string ⟨#[]⟩] rfl rfl 44 #[.string ⟨#[]⟩, .string ⟨#[]⟩, .int .i64 0, .bool false, .string ⟨#[]⟩, .bool false, .string ⟨#[]⟩, .bool false, .string ⟨#[]⟩, .bool false, .string ⟨#[]⟩] hR2 ainfoC rfl hone.out ?_)
    generalize (w2.setRow rb #[.string ⟨#[]⟩, .string ⟨#[]⟩, .int .i64 0, .bool false, .string ⟨#[]⟩, .bool false, .string ⟨#[]⟩, .bool false, .string ⟨#[]⟩, .bool false, .string ⟨#[]⟩]) = wq at *
    clear hR2 hone
    have q0 : wq.cell? ⟨rb, 0, none⟩ = some (.string ⟨#[]⟩) := hNN.cell 0
    have q1 : wq.cell? ⟨rb, 1, none⟩ = some (.string ⟨#[]⟩) := hNN.cell 1
    have q2 : wq.cell? ⟨rb, 2, none⟩ = some (.int .i64 0) := hNN.cell 2
    have q3 : wq.cell? ⟨rb, 3, none⟩ = some (.bool false) := hNN.cell 3
    have q4 : wq.cell? ⟨rb, 4, none⟩ = some (.string ⟨#[]⟩) := hNN.cell 4
    have q5 : wq.cell? ⟨rb, 5, none⟩ = some (.bool false) := hNN.cell 5
    have q6 : wq.cell? ⟨rb, 6, none⟩ = some (.string ⟨#[]⟩) := hNN.cell 6
    have q7 : wq.cell? ⟨rb, 7, none⟩ = some (.bool false) := hNN.cell 7
    have q8 : wq.cell? ⟨rb, 8, none⟩ = some (.string ⟨#[]⟩) := hNN.cell 8
    have q9 : wq.cell? ⟨rb, 9, none⟩ = some (.bool false) := hNN.cell 9
    have q10 : wq.cell? ⟨rb, 10, none⟩ = some (.string ⟨#[]⟩) := hNN.cell 10
    refine bodyPost_ret (v := .tuple #[.agg #[.string ⟨#[]⟩, .string ⟨#[]⟩, .int .i64 0, .bool false, .string ⟨#[]⟩, .bool false, .string ⟨#[]⟩, .bool false, .string ⟨#[]⟩, .bool false, .string ⟨#[]⟩], .int .i64 (A0 : Int), .int .i64 e0]) ?_ rfl hfin.out
    clear hfin hNN
    simp [results, Tryz.results56, go_sem, q0, q1, q2, q3, q4, q5, q6, q7, q8, q9, q10]
  replace he : e0 = 0 := by omega
  subst he
  have HPL : Hid ((∀ k e, (oneX none (txtsK TL)).2 = .error (k, e) → oneL none s = (zeroA, placeK TL s.length k, e)) ∧ (∀ a r, oneX none (txtsK TL) = (a, .ok r) → oneL none s = (a, 0, 0))) := by
    refine ⟨fun k e h => ?_, fun a r h => ?_⟩
    · rw [HP0.out, if_pos rfl, oneR_err h]
    · rw [HP0.out, if_pos rfl, oneR_ok h]
  obtain ⟨la, lc, hlv⟩ := own_slice hown
  have hown0 := own_base hown (Nat.zero_le _)
  clear HP0 hown
  have hlen : (txtsK TL).length = TL.length := by unfold txtsK; rw [List.length_map]
  have hRD : Rdr (w2.alloc (.cells #[lv, .int .i64 0, .int .i64 (s.length : Int), .int .i64 0, .int .i64 0] 95)) w2.heap.size lv TL s.length (.ok (txtsK TL)) 0 := by
    have h1 : Since w2 (w2.alloc (.cells #[lv, .int .i64 0, .int .i64 (s.length : Int), .int .i64 0, .int .i64 0] 95)) := (Since.refl _).alloc _
    refine ⟨heap_alloc_new _ _, own_since hown0 h1, HMN.out, Nat.zero_le _, fun r e => ?_, fun e h => by cases h⟩
    injection e with e
    subst e
    exact ⟨by rw [hlen]; omega, [], rfl⟩
  have hS5 : Since w (w2.alloc (.cells #[lv, .int .i64 0, .int .i64 (s.length : Int), .int .i64 0, .int .i64 0] 95)) := hS2.alloc _
  have hR5 := hR2.next ((Since.refl w2).alloc (.cells #[lv, .int .i64 0, .int .i64 (s.length : Int), .int .i64 0, .int .i64 0] 95))
  have HLO0 := hS2.size
  subst hlv
  clear hS2 hR2 hown0 hlen
  obtain ⟨w5, hw5⟩ : ∃ W, Hid (W = (w2.alloc (.cells #[.slice la TL.length lc, .int .i64 0, .int .i64 (s.length : Int), .int .i64 0, .int .i64 0] 95))) := ⟨_, rfl⟩
  rw [← hw5.out] at hRD hS5 hR5
  go_upto_region 5 with (fail)
  rw [← hw5.out]
  clear hw5
  obtain ⟨g, hg⟩ : ∃ x, Hid (x = w2.heap.size) := ⟨_, rfl⟩
  simp only [← hg.out]
  rw [← hg.out] at hRD HLO0
  clear hg
  have HLO := Lib.hid HLO0
  obtain ⟨lv, hlv⟩ : ∃ x, Hid (x = Value.slice la TL.length lc) := ⟨_, rfl⟩
  rw [← hlv.out] at hRD
  have hne : Hid (¬ rb = g) := cel_cel_ne hR5 hRD.cel (by decide)
  have HAX := Lib.hid (ratom_any10 HF.out hRD)
  obtain ⟨⟨⟨a_s, a_p, a_n, ⟨a_v0, a_l0⟩, ⟨a_v1, a_l1⟩, ⟨a_v2, a_l2⟩, ⟨a_v3, a_l3⟩⟩, q6⟩, hq6⟩ : ∃ x, Hid (x = atomX (.ok (txtsK TL))) := ⟨_, rfl⟩
  rw [← hq6.out] at HAX
  have HA2 : Hid (Calls Tryz.prog 80 #[.pointer (some ⟨g, 0, none⟩)] w5 fun e w' => e = .returned (.agg #[.string ⟨a_s.toArray⟩, .string ⟨a_p.toArray⟩, .int .i64 a_n, .bool a_v0, .string ⟨a_l0.toArray⟩, .bool a_v1, .string ⟨a_l1.toArray⟩, .bool a_v2, .string ⟨a_l2.toArray⟩, .bool a_v3, .string ⟨a_l3.toArray⟩]) ∧ (∃ j, Rdr w' g lv TL s.length q6 j) ∧ OnlyG g w5 w') := HAX.out
  clear HAX HLO0 hRD hlv
  go_wp2_with fail
  refine HA2.out.mono ?_
  rintro e w6 ⟨rfl, hr6, hk6⟩
  have hRB6 := hk6.cel hR5 hne.out
  have hS6 := hk6.since hS5 (fun x hx => by rw [hx]; exact HLO.out)
  have hSa : Since w6 (w6.alloc (.cells #[.string ⟨a_s.toArray⟩, .string ⟨a_p.toArray⟩, .int .i64 a_n, .bool a_v0, .string ⟨a_l0.toArray⟩, .bool a_v1, .string ⟨a_l1.toArray⟩, .bool a_v2, .string ⟨a_l2.toArray⟩, .bool a_v3, .string ⟨a_l3.toArray⟩] 44)) := (Since.refl _).alloc _
  have hRB7 := hRB6.next hSa
  have hS7 := hS6.trans hSa
  have hAB7 : Cel (w6.alloc (.cells #[.string ⟨a_s.toArray⟩, .string ⟨a_p.toArray⟩, .int .i64 a_n, .bool a_v0, .string ⟨a_l0.toArray⟩, .bool a_v1, .string ⟨a_l1.toArray⟩, .bool a_v2, .string ⟨a_l2.toArray⟩, .bool a_v3, .string ⟨a_l3.toArray⟩] 44)) w6.heap.size #[.string ⟨a_s.toArray⟩, .string ⟨a_p.toArray⟩, .int .i64 a_n, .bool a_v0, .string ⟨a_l0.toArray⟩, .bool a_v1, .string ⟨a_l1.toArray⟩, .bool a_v2, .string ⟨a_l2.toArray⟩, .bool a_v3, .string ⟨a_l3.toArray⟩] 44 := heap_alloc_new _ _
  obtain ⟨j6, hr6⟩ := hr6
  replace hr6 := hr6.next hSa
  clear HA2 hk6 hRB6 hS6 hSa hR5 hS5
  go_upto_region 6 with (fail)
  obtain ⟨ab, hab⟩ : ∃ x, Hid (x = w6.heap.size) := ⟨_, rfl⟩
  simp only [← hab.out]
  rw [← hab.out] at hAB7
  clear hab
  generalize (w6.alloc (.cells #[.string ⟨a_s.toArray⟩, .string ⟨a_p.toArray⟩, .int .i64 a_n, .bool a_v0, .string ⟨a_l0.toArray⟩, .bool a_v1, .string ⟨a_l1.toArray⟩, .bool a_v2, .string ⟨a_l2.toArray⟩, .bool a_v3, .string ⟨a_l3.toArray⟩] 44)) = w7 at *
  have hna : Hid (¬ ab = g) := cel_cel_ne hAB7 hr6.cel (by decide)
  have HXO : Hid ((oneX none (txtsK TL)) = (((a_s, a_p, a_n, (a_v0, a_l0), (a_v1, a_l1), (a_v2, a_l2), (a_v3, a_l3)) : Atm), restS q6)) := by show _ = _; unfold oneX; rw [← hq6.out]; rfl
  obtain ⟨q7, hq7⟩ : ∃ x, Hid (x = q6) := ⟨_, rfl⟩
  rw [← hq7.out] at HXO hr6
  obtain ⟨w8, hw8⟩ : ∃ W, Hid (W = w7) := ⟨_, rfl⟩
  rw [← hw8.out] at hr6 hRB7 hAB7 hS7
  have hr8 := hr6
  have hRB8 := hRB7
  have hAB8 := hAB7
  have hS8 := hS7
  obtain ⟨j8, hj8⟩ : ∃ x, Hid (x = j6) := ⟨_, rfl⟩
  rw [← hj8.out] at hr8
  rw [← hw8.out]
  clear hq6 hq7 hw8 hr6 hRB7 hAB7 hS7 hj8
  have HCM : Hid (Rdr w8 g lv TL s.length q7 j8) := hr8
  cases q7 with
  | error x =>
    obtain ⟨k0, er⟩ := x
    have HE0 : (oneX none (txtsK TL)).2 = .error (k0, er) := by rw [HXO.out]; rfl
    have hpl : oneL none s = (zeroA, placeK TL s.length k0, er) := HPL.out.1 k0 er HE0
    obtain ⟨jx, hrx⟩ : ∃ j, Rdr w8 g lv TL s.length (.error (k0, er)) j := ⟨_, hr8⟩
    have he : ¬ (er : Int) = 0 := hrx.bad _ rfl
    have hRB : Cel w8 g #[lv, .int .i64 (jx : Int), .int .i64 (s.length : Int), .int .i64 (placeK TL s.length k0 : Int), .int .i64 er] 95 := hrx.cel
    have c4 : w8.cell? ⟨g, 4, none⟩ = some (.int .i64 er) := hrx.cel.cell 4
    have hR6 := hRB8
    have hSS := hS8
    have hne2 : ¬ g = rb := fun e => cel_cel_ne hRB hR6 (by decide) e
    clear hrx HF HPL HE0 hr8 HXO HCM hAB8 hRB8 hS8
    go_upto_region 11 with (fail)
    clear c4
    have hSd : Since w8 w8.drew := (Since.refl _).drew
    replace hRB := hRB.next hSd
    replace hR6 := hR6.next hSd
    replace hSS := hSS.trans hSd
    clear hSd
    refine hx_begin (S := fun W => Cel W g #[lv, .int .i64 (jx : Int), .int .i64 (s.length : Int), .int .i64 (placeK TL s.length k0 : Int), .int .i64 er] 95) (by kernel_rfl) hRB (by kernel_rfl) (fun _ _ _ _ _ h => h) (fun hns hQ => ?_)
    refine hx_take (i := 0) (oi := _) (v := .agg #[.string ⟨#[]⟩, .string ⟨#[]⟩, .int .i64 0, .bool false, .string ⟨#[]⟩, .bool false, .string ⟨#[]⟩, .bool false, .string ⟨#[]⟩, .bool false, .string ⟨#[]⟩]) rfl rfl hns (by kernel_rfl) (by kernel_rfl) hQ (by kernel_rfl) (fun _ _ => by kernel_rfl) hRB ?_
    refine hx_take (i := 1) (oi := _) (v := .pointer (some ⟨g, 0, none⟩)) rfl rfl hns (by kernel_rfl) (by kernel_rfl) hQ (by kernel_rfl) (fun _ _ => by kernel_rfl) hRB ?_
    refine hx_take (i := 2) (oi := _) (v := .pointer (some ⟨g, 0, none⟩)) rfl rfl hns (by kernel_rfl) (by kernel_rfl) hQ (by kernel_rfl) (fun _ _ => by kernel_rfl) hRB ?_
    refine hx_take (i := 3) (oi := _) (v := .pointer (some ⟨g, 3, none⟩)) rfl rfl hns (by kernel_rfl) (by kernel_rfl) hQ (by kernel_rfl) (fun _ _ => by kernel_rfl) hRB ?_
    refine hx_take (i := 4) (oi := _) (v := .int .i64 (placeK TL s.length k0 : Int)) rfl rfl hns (by kernel_rfl) (by kernel_rfl) hQ (by kernel_rfl) (fun W hW => ld_one rfl (by kernel_rfl) (by kernel_rfl) W (Cel.cell hW 3)) hRB ?_
    refine hx_take (i := 5) (oi := _) (v := .pointer (some ⟨g, 0, none⟩)) rfl rfl hns (by kernel_rfl) (by kernel_rfl) hQ (by kernel_rfl) (fun _ _ => by kernel_rfl) hRB ?_
    refine hx_take (i := 6) (oi := _) (v := .pointer (some ⟨g, 0, none⟩)) rfl rfl hns (by kernel_rfl) (by kernel_rfl) hQ (by kernel_rfl) (fun _ _ => by kernel_rfl) hRB ?_
    refine hx_take (i := 7) (oi := _) (v := .pointer (some ⟨g, 4, none⟩)) rfl rfl hns (by kernel_rfl) (by kernel_rfl) hQ (by kernel_rfl) (fun _ _ => by kernel_rfl) hRB ?_
    refine hx_take (i := 8) (oi := _) (v := .int .i64 er) rfl rfl hns (by kernel_rfl) (by kernel_rfl) hQ (by kernel_rfl) (fun W hW => ld_one rfl (by kernel_rfl) (by kernel_rfl) W (Cel.cell hW 4)) hRB ?_
    have hTH : w8.drew.there rb 0 11 := cel_there hR6 (by show 0 + 11 ≤ 11; decide)
    have hNN : Cel (w8.drew.setCells rb 0 (#[.string ⟨#[]⟩, .string ⟨#[]⟩, .int .i64 0, .bool false, .string ⟨#[]⟩, .bool false, .string ⟨#[]⟩, .bool false, .string ⟨#[]⟩, .bool false, .string ⟨#[]⟩] : Array Value).toList) rb #[.string ⟨#[]⟩, .string ⟨#[]⟩, .int .i64 0, .bool false, .string ⟨#[]⟩, .bool false, .string ⟨#[]⟩, .bool false, .string ⟨#[]⟩, .bool false, .string ⟨#[]⟩] 44 := cel_setsV hR6 _ 0 (by simp [setsV])
    have hZN := only_sets w8.drew rb 0 (#[.string ⟨#[]⟩, .string ⟨#[]⟩, .int .i64 0, .bool false, .string ⟨#[]⟩, .bool false, .string ⟨#[]⟩, .bool false, .string ⟨#[]⟩, .bool false, .string ⟨#[]⟩] : Array Value).toList
    have hfin := Lib.hid (hgood.out _ _ _ (w8.drew.setCells rb 0 (#[.string ⟨#[]⟩, .string ⟨#[]⟩, .int .i64 0, .bool false, .string ⟨#[]⟩, .bool false, .string ⟨#[]⟩, .bool false, .string ⟨#[]⟩, .bool false, .string ⟨#[]⟩] : Array Value).toList) hpl (hZN.since hSS (fun x hx => by rw [hx]; exact HRL2.out)))
    refine hx_store (i := 9) (oi := _) (w8.drew.setCells rb 0 (#[.string ⟨#[]⟩, .string ⟨#[]⟩, .int .i64 0, .bool false, .string ⟨#[]⟩, .bool false, .string ⟨#[]⟩, .bool false, .string ⟨#[]⟩, .bool false, .string ⟨#[]⟩] : Array Value).toList) rfl rfl (by kernel_rfl) (by kernel_rfl) (st_atmZ rfl (by kernel_rfl) (by kernel_rfl) _ hTH rfl (by simp [Value.oneCell'])) (hZN.cel hRB hne2) ?_
    replace hRB := hZN.cel hRB hne2
    refine hx_take (i := 10) (oi := _) (v := .int .i64 (placeK TL s.length k0 : Int)) rfl rfl hns (by kernel_rfl) (by kernel_rfl) hQ (by kernel_rfl) (fun _ _ => by kernel_rfl) hRB ?_
    refine hx_take (i := 11) (oi := _) (v := .int .i64 er) rfl rfl hns (by kernel_rfl) (by kernel_rfl) hQ (by kernel_rfl) (fun _ _ => by kernel_rfl) hRB ?_
    refine wpAnyH_done (by kernel_rfl) ?_ _
    clear hns hQ
    simp only [List.set_cons_zero, List.set_cons_succ]
    clear hRB hR6 hSS hTH hZN
    generalize (w8.drew.setCells rb 0 (#[.string ⟨#[]⟩, .string ⟨#[]⟩, .int .i64 0, .bool false, .string ⟨#[]⟩, .bool false, .string ⟨#[]⟩, .bool false, .string ⟨#[]⟩, .bool false, .string ⟨#[]⟩] : Array Value).toList) = wq at *
    go_wp2_with fail
    have q0 : wq.cell? ⟨rb, 0, none⟩ = some (.string ⟨#[]⟩) := hNN.cell 0
    have q1 : wq.cell? ⟨rb, 1, none⟩ = some (.string ⟨#[]⟩) := hNN.cell 1
    have q2 : wq.cell? ⟨rb, 2, none⟩ = some (.int .i64 0) := hNN.cell 2
    have q3 : wq.cell? ⟨rb, 3, none⟩ = some (.bool false) := hNN.cell 3
    have q4 : wq.cell? ⟨rb, 4, none⟩ = some (.string ⟨#[]⟩) := hNN.cell 4
    have q5 : wq.cell? ⟨rb, 5, none⟩ = some (.bool false) := hNN.cell 5
    have q6 : wq.cell? ⟨rb, 6, none⟩ = some (.string ⟨#[]⟩) := hNN.cell 6
    have q7 : wq.cell? ⟨rb, 7, none⟩ = some (.bool false) := hNN.cell 7
    have q8 : wq.cell? ⟨rb, 8, none⟩ = some (.string ⟨#[]⟩) := hNN.cell 8
    have q9 : wq.cell? ⟨rb, 9, none⟩ = some (.bool false) := hNN.cell 9
    have q10 : wq.cell? ⟨rb, 10, none⟩ = some (.string ⟨#[]⟩) := hNN.cell 10
    refine bodyPost_ret (v := .tuple #[.agg #[.string ⟨#[]⟩, .string ⟨#[]⟩, .int .i64 0, .bool false, .string ⟨#[]⟩, .bool false, .string ⟨#[]⟩, .bool false, .string ⟨#[]⟩, .bool false, .string ⟨#[]⟩], .int .i64 (placeK TL s.length k0 : Int), .int .i64 er]) ?_ rfl hfin.out
    clear hfin hNN
    simp [results, Tryz.results56, go_sem, q0, q1, q2, q3, q4, q5, q6, q7, q8, q9, q10]
  | ok r =>
    have c4 : w8.cell? ⟨g, 4, none⟩ = some (.int .i64 0) := hr8.cel.cell 4
    have c1 : w8.cell? ⟨g, 1, none⟩ = some (.int .i64 (j8 : Int)) := hr8.cel.cell 1
    by_cases h0 : r.length = 0
    · have hpl : oneL none s = (((a_s, a_p, a_n, (a_v0, a_l0), (a_v1, a_l1), (a_v2, a_l2), (a_v3, a_l3)) : Atm), 0, 0) := HPL.out.2 _ r (by rw [HXO.out]; show (_, (if r.length = 0 then (.ok r : RS) else .error (r.length, 3))) = _; rw [if_pos h0])
      have hcnd : ¬ (j8 : Int) < (TL.length : Int) := by have := hr8.sub; omega
      have y0 : w8.cell? ⟨ab, 0, none⟩ = some (.string ⟨a_s.toArray⟩) := hAB8.cell 0
      have y1 : w8.cell? ⟨ab, 1, none⟩ = some (.string ⟨a_p.toArray⟩) := hAB8.cell 1
      have y2 : w8.cell? ⟨ab, 2, none⟩ = some (.int .i64 a_n) := hAB8.cell 2
      have y3 : w8.cell? ⟨ab, 3, none⟩ = some (.bool a_v0) := hAB8.cell 3
      have y4 : w8.cell? ⟨ab, 4, none⟩ = some (.string ⟨a_l0.toArray⟩) := hAB8.cell 4
      have y5 : w8.cell? ⟨ab, 5, none⟩ = some (.bool a_v1) := hAB8.cell 5
      have y6 : w8.cell? ⟨ab, 6, none⟩ = some (.string ⟨a_l1.toArray⟩) := hAB8.cell 6
      have y7 : w8.cell? ⟨ab, 7, none⟩ = some (.bool a_v2) := hAB8.cell 7
      have y8 : w8.cell? ⟨ab, 8, none⟩ = some (.string ⟨a_l2.toArray⟩) := hAB8.cell 8
      have y9 : w8.cell? ⟨ab, 9, none⟩ = some (.bool a_v3) := hAB8.cell 9
      have y10 : w8.cell? ⟨ab, 10, none⟩ = some (.string ⟨a_l3.toArray⟩) := hAB8.cell 10
      have hone : Hid (((#[.string ⟨a_s.toArray⟩, .string ⟨a_p.toArray⟩, .int .i64 a_n, .bool a_v0, .string ⟨a_l0.toArray⟩, .bool a_v1, .string ⟨a_l1.toArray⟩, .bool a_v2, .string ⟨a_l2.toArray⟩, .bool a_v3, .string ⟨a_l3.toArray⟩] : Array Value).all (·.oneCell')) = true) := by show _ = _; simp [Value.oneCell']
      have hNN := hRB8.row #[.string ⟨a_s.toArray⟩, .string ⟨a_p.toArray⟩, .int .i64 a_n, .bool a_v0, .string ⟨a_l0.toArray⟩, .bool a_v1, .string ⟨a_l1.toArray⟩, .bool a_v2, .string ⟨a_l2.toArray⟩, .bool a_v3, .string ⟨a_l3.toArray⟩]
      have hfin : Hid (K (.returned (.tuple #[.agg #[.string ⟨a_s.toArray⟩, .string ⟨a_p.toArray⟩, .int .i64 a_n, .bool a_v0, .string ⟨a_l0.toArray⟩, .bool a_v1, .string ⟨a_l1.toArray⟩, .bool a_v2, .string ⟨a_l2.toArray⟩, .bool a_v3, .string ⟨a_l3.toArray⟩], .int .i64 0, .int .i64 0])) (w8.setRow rb #[.string ⟨a_s.toArray⟩, .string ⟨a_p.toArray⟩, .int .i64 a_n, .bool a_v0, .string ⟨a_l0.toArray⟩, .bool a_v1, .string ⟨a_l1.toArray⟩, .bool a_v2, .string ⟨a_l2.toArray⟩, .bool a_v3, .string ⟨a_l3.toArray⟩])) := hgood.out _ _ _ (w8.setRow rb #[.string ⟨a_s.toArray⟩, .string ⟨a_p.toArray⟩, .int .i64 a_n, .bool a_v0, .string ⟨a_l0.toArray⟩, .bool a_v1, .string ⟨a_l1.toArray⟩, .bool a_v2, .string ⟨a_l2.toArray⟩, .bool a_v3, .string ⟨a_l3.toArray⟩]) hpl ((row_setRow hRB8).since hS8 (fun x hx => by rw [hx]; exact HRL2.out))
      clear HF HPL HXO HCM hr8 hAB8 hS8 hpl h0
      go_wp2_with (refine wpList_store_row rfl 44 (.tmp 4) (.tmp 69) rfl rb #[.string ⟨a_s.toArray⟩, .string ⟨a_p.toArray⟩, .int .i64 a_n, .bool a_v0, .string ⟨a_l0.toArray⟩, .bool a_v1, .string ⟨a_l1.toArray⟩, .bool a_v2, .string ⟨a_l2.toArray⟩, .bool a_v3, .string ⟨a_l3.toArray⟩] rfl rfl 44 #[.string ⟨#[]⟩, .string ⟨#[]⟩, .int .i64 0, .bool false, .string ⟨#[]⟩, .bool false, .string ⟨#[]⟩, .bool false, .string ⟨#[]⟩, .bool false, .string ⟨#[]⟩] hRB8 ainfoC rfl hone.out ?_)
      generalize (w8.setRow rb #[.string ⟨a_s.toArray⟩, .string ⟨a_p.toArray⟩, .int .i64 a_n, .bool a_v0, .string ⟨a_l0.toArray⟩, .bool a_v1, .string ⟨a_l1.toArray⟩, .bool a_v2, .string ⟨a_l2.toArray⟩, .bool a_v3, .string ⟨a_l3.toArray⟩]) = wq at *
      clear y0 y1 y2 y3 y4 y5 y6 y7 y8 y9 y10 c4 c1 hcnd hRB8 hone
      have q0 : wq.cell? ⟨rb, 0, none⟩ = some (.string ⟨a_s.toArray⟩) := hNN.cell 0
      have q1 : wq.cell? ⟨rb, 1, none⟩ = some (.string ⟨a_p.toArray⟩) := hNN.cell 1
      have q2 : wq.cell? ⟨rb, 2, none⟩ = some (.int .i64 a_n) := hNN.cell 2
      have q3 : wq.cell? ⟨rb, 3, none⟩ = some (.bool a_v0) := hNN.cell 3
      have q4 : wq.cell? ⟨rb, 4, none⟩ = some (.string ⟨a_l0.toArray⟩) := hNN.cell 4
      have q5 : wq.cell? ⟨rb, 5, none⟩ = some (.bool a_v1) := hNN.cell 5
      have q6 : wq.cell? ⟨rb, 6, none⟩ = some (.string ⟨a_l1.toArray⟩) := hNN.cell 6
      have q7 : wq.cell? ⟨rb, 7, none⟩ = some (.bool a_v2) := hNN.cell 7
      have q8 : wq.cell? ⟨rb, 8, none⟩ = some (.string ⟨a_l2.toArray⟩) := hNN.cell 8
      have q9 : wq.cell? ⟨rb, 9, none⟩ = some (.bool a_v3) := hNN.cell 9
      have q10 : wq.cell? ⟨rb, 10, none⟩ = some (.string ⟨a_l3.toArray⟩) := hNN.cell 10
      refine bodyPost_ret (v := .tuple #[.agg #[.string ⟨a_s.toArray⟩, .string ⟨a_p.toArray⟩, .int .i64 a_n, .bool a_v0, .string ⟨a_l0.toArray⟩, .bool a_v1, .string ⟨a_l1.toArray⟩, .bool a_v2, .string ⟨a_l2.toArray⟩, .bool a_v3, .string ⟨a_l3.toArray⟩], .int .i64 0, .int .i64 0]) ?_ rfl hfin.out
      clear hfin hNN
      simp [results, Tryz.results56, go_sem, q0, q1, q2, q3, q4, q5, q6, q7, q8, q9, q10]
    · have hcnd : (j8 : Int) < (TL.length : Int) := by have := hr8.sub; omega
      have hjl : TL.length - j8 = r.length := by have := hr8.sub; omega
      have HFL := Lib.hid (rfail_any 3 j8 (by decide) hr8 hr8.ile)
      rw [hjl] at HFL
      have HFL2 : Hid (Calls Tryz.prog 77 #[.pointer (some ⟨g, 0, none⟩), .int .i64 3, .int .i64 (j8 : Int)] w8 fun e w' => e = .returned (.tuple #[]) ∧ Rdr w' g lv TL s.length (.error (r.length, 3)) j8 ∧ OnlyG g w8 w') := HFL.out
      have HE0 : (oneX none (txtsK TL)).2 = .error (r.length, 3) := by rw [HXO.out]; show (if r.length = 0 then (.ok r : RS) else .error (r.length, 3)) = _; rw [if_neg h0]
      clear HFL HCM hjl hr8 hAB8
      go_wp2_with fail
      refine HFL2.out.mono ?_
      rintro e w9 ⟨rfl, hr9, hk9⟩
      have hRB9 := hk9.cel hRB8 hne.out
      have hS9 := hk9.since hS8 (fun x hx => by rw [hx]; exact HLO.out)
      clear HFL2 hk9 hRB8 hS8 c4 c1 hcnd
      have hpl : oneL none s = (zeroA, placeK TL s.length r.length, 3) := HPL.out.1 r.length 3 HE0
      obtain ⟨jx, hrx⟩ : ∃ j, Rdr w9 g lv TL s.length (.error (r.length, 3)) j := ⟨_, hr9⟩
      have he : ¬ (3 : Int) = 0 := hrx.bad _ rfl
      have hRB : Cel w9 g #[lv, .int .i64 (jx : Int), .int .i64 (s.length : Int), .int .i64 (placeK TL s.length r.length : Int), .int .i64 3] 95 := hrx.cel
      have c4 : w9.cell? ⟨g, 4, none⟩ = some (.int .i64 3) := hrx.cel.cell 4
      have hR6 := hRB9
      have hSS := hS9
      have hne2 : ¬ g = rb := fun e => cel_cel_ne hRB hR6 (by decide) e
      clear hrx HF HPL HE0 HXO hr9 hRB9 hS9
      go_upto_region 11 with (fail)
      clear c4
      have hSd : Since w9 w9.drew := (Since.refl _).drew
      replace hRB := hRB.next hSd
      replace hR6 := hR6.next hSd
      replace hSS := hSS.trans hSd
      clear hSd
      refine hx_begin (S := fun W => Cel W g #[lv, .int .i64 (jx : Int), .int .i64 (s.length : Int), .int .i64 (placeK TL s.length r.length : Int), .int .i64 3] 95) (by kernel_rfl) hRB (by kernel_rfl) (fun _ _ _ _ _ h => h) (fun hns hQ => ?_)
      refine hx_take (i := 0) (oi := _) (v := .agg #[.string ⟨#[]⟩, .string ⟨#[]⟩, .int .i64 0, .bool false, .string ⟨#[]⟩, .bool false, .string ⟨#[]⟩, .bool false, .string ⟨#[]⟩, .bool false, .string ⟨#[]⟩]) rfl rfl hns (by kernel_rfl) (by kernel_rfl) hQ (by kernel_rfl) (fun _ _ => by kernel_rfl) hRB ?_
      refine hx_take (i := 1) (oi := _) (v := .pointer (some ⟨g, 0, none⟩)) rfl rfl hns (by kernel_rfl) (by kernel_rfl) hQ (by kernel_rfl) (fun _ _ => by kernel_rfl) hRB ?_
      refine hx_take (i := 2) (oi := _) (v := .pointer (some ⟨g, 0, none⟩)) rfl rfl hns (by kernel_rfl) (by kernel_rfl) hQ (by kernel_rfl) (fun _ _ => by kernel_rfl) hRB ?_
      refine hx_take (i := 3) (oi := _) (v := .pointer (some ⟨g, 3, none⟩)) rfl rfl hns (by kernel_rfl) (by kernel_rfl) hQ (by kernel_rfl) (fun _ _ => by kernel_rfl) hRB ?_
      refine hx_take (i := 4) (oi := _) (v := .int .i64 (placeK TL s.length r.length : Int)) rfl rfl hns (by kernel_rfl) (by kernel_rfl) hQ (by kernel_rfl) (fun W hW => ld_one rfl (by kernel_rfl) (by kernel_rfl) W (Cel.cell hW 3)) hRB ?_
      refine hx_take (i := 5) (oi := _) (v := .pointer (some ⟨g, 0, none⟩)) rfl rfl hns (by kernel_rfl) (by kernel_rfl) hQ (by kernel_rfl) (fun _ _ => by kernel_rfl) hRB ?_
      refine hx_take (i := 6) (oi := _) (v := .pointer (some ⟨g, 0, none⟩)) rfl rfl hns (by kernel_rfl) (by kernel_rfl) hQ (by kernel_rfl) (fun _ _ => by kernel_rfl) hRB ?_
      refine hx_take (i := 7) (oi := _) (v := .pointer (some ⟨g, 4, none⟩)) rfl rfl hns (by kernel_rfl) (by kernel_rfl) hQ (by kernel_rfl) (fun _ _ => by kernel_rfl) hRB ?_
      refine hx_take (i := 8) (oi := _) (v := .int .i64 3) rfl rfl hns (by kernel_rfl) (by kernel_rfl) hQ (by kernel_rfl) (fun W hW => ld_one rfl (by kernel_rfl) (by kernel_rfl) W (Cel.cell hW 4)) hRB ?_
      have hTH : w9.drew.there rb 0 11 := cel_there hR6 (by show 0 + 11 ≤ 11; decide)
      have hNN : Cel (w9.drew.setCells rb 0 (#[.string ⟨#[]⟩, .string ⟨#[]⟩, .int .i64 0, .bool false, .string ⟨#[]⟩, .bool false, .string ⟨#[]⟩, .bool false, .string ⟨#[]⟩, .bool false, .string ⟨#[]⟩] : Array Value).toList) rb #[.string ⟨#[]⟩, .string ⟨#[]⟩, .int .i64 0, .bool false, .string ⟨#[]⟩, .bool false, .string ⟨#[]⟩, .bool false, .string ⟨#[]⟩, .bool false, .string ⟨#[]⟩] 44 := cel_setsV hR6 _ 0 (by simp [setsV])
      have hZN := only_sets w9.drew rb 0 (#[.string ⟨#[]⟩, .string ⟨#[]⟩, .int .i64 0, .bool false, .string ⟨#[]⟩, .bool false, .string ⟨#[]⟩, .bool false, .string ⟨#[]⟩, .bool false, .string ⟨#[]⟩] : Array Value).toList
      have hfin := Lib.hid (hgood.out _ _ _ (w9.drew.setCells rb 0 (#[.string ⟨#[]⟩, .string ⟨#[]⟩, .int .i64 0, .bool false, .string ⟨#[]⟩, .bool false, .string ⟨#[]⟩, .bool false, .string ⟨#[]⟩, .bool false, .string ⟨#[]⟩] : Array Value).toList) hpl (hZN.since hSS (fun x hx => by rw [hx]; exact HRL2.out)))
      refine hx_store (i := 9) (oi := _) (w9.drew.setCells rb 0 (#[.string ⟨#[]⟩, .string ⟨#[]⟩, .int .i64 0, .bool false, .string ⟨#[]⟩, .bool false, .string ⟨#[]⟩, .bool false, .string ⟨#[]⟩, .bool false, .string ⟨#[]⟩] : Array Value).toList) rfl rfl (by kernel_rfl) (by kernel_rfl) (st_atmZ rfl (by kernel_rfl) (by kernel_rfl) _ hTH rfl (by simp [Value.oneCell'])) (hZN.cel hRB hne2) ?_
      replace hRB := hZN.cel hRB hne2
      refine hx_take (i := 10) (oi := _) (v := .int .i64 (placeK TL s.length r.length : Int)) rfl rfl hns (by kernel_rfl) (by kernel_rfl) hQ (by kernel_rfl) (fun _ _ => by kernel_rfl) hRB ?_
      refine hx_take (i := 11) (oi := _) (v := .int .i64 3) rfl rfl hns (by kernel_rfl) (by kernel_rfl) hQ (by kernel_rfl) (fun _ _ => by kernel_rfl) hRB ?_
      refine wpAnyH_done (by kernel_rfl) ?_ _
      clear hns hQ
      simp only [List.set_cons_zero, List.set_cons_succ]
      clear hRB hR6 hSS hTH hZN
      generalize (w9.drew.setCells rb 0 (#[.string ⟨#[]⟩, .string ⟨#[]⟩, .int .i64 0, .bool false, .string ⟨#[]⟩, .bool false, .string ⟨#[]⟩, .bool false, .string ⟨#[]⟩, .bool false, .string ⟨#[]⟩] : Array Value).toList) = wq at *
      go_wp2_with fail
      have q0 : wq.cell? ⟨rb, 0, none⟩ = some (.string ⟨#[]⟩) := hNN.cell 0
      have q1 : wq.cell? ⟨rb, 1, none⟩ = some (.string ⟨#[]⟩) := hNN.cell 1
      have q2 : wq.cell? ⟨rb, 2, none⟩ = some (.int .i64 0) := hNN.cell 2
      have q3 : wq.cell? ⟨rb, 3, none⟩ = some (.bool false) := hNN.cell 3
      have q4 : wq.cell? ⟨rb, 4, none⟩ = some (.string ⟨#[]⟩) := hNN.cell 4
      have q5 : wq.cell? ⟨rb, 5, none⟩ = some (.bool false) := hNN.cell 5
      have q6 : wq.cell? ⟨rb, 6, none⟩ = some (.string ⟨#[]⟩) := hNN.cell 6
      have q7 : wq.cell? ⟨rb, 7, none⟩ = some (.bool false) := hNN.cell 7
      have q8 : wq.cell? ⟨rb, 8, none⟩ = some (.string ⟨#[]⟩) := hNN.cell 8
      have q9 : wq.cell? ⟨rb, 9, none⟩ = some (.bool false) := hNN.cell 9
      have q10 : wq.cell? ⟨rb, 10, none⟩ = some (.string ⟨#[]⟩) := hNN.cell 10
      refine bodyPost_ret (v := .tuple #[.agg #[.string ⟨#[]⟩, .string ⟨#[]⟩, .int .i64 0, .bool false, .string ⟨#[]⟩, .bool false, .string ⟨#[]⟩, .bool false, .string ⟨#[]⟩, .bool false, .string ⟨#[]⟩], .int .i64 (placeK TL s.length r.length : Int), .int .i64 3]) ?_ rfl hfin.out
      clear hfin hNN
      simp [results, Tryz.results56, go_sem, q0, q1, q2, q3, q4, q5, q6, q7, q8, q9, q10]
set_option maxHeartbeats 4000000 in
set_option maxRecDepth 100000 in
theorem rgoal_any (s : Txt) (hs : s.length ≤ 65536) (w : World) : Calls Tryz.prog 29 #[.string ⟨s.toArray⟩] w fun e w' => e = .returned (.tuple #[.agg (atmC (oneL (some [63]) s).1), .int .i64 ((oneL (some [63]) s).2.1 : Int), .int .i64 (oneL (some [63]) s).2.2]) ∧ Since w w' := by
  have hS1 : Since w (w.alloc (.cells #[.string ⟨#[]⟩, .string ⟨#[]⟩, .int .i64 0, .bool false, .string ⟨#[]⟩, .bool false, .string ⟨#[]⟩, .bool false, .string ⟨#[]⟩, .bool false, .string ⟨#[]⟩] 44)) := (Since.refl w).alloc _
  have hA1 : Cel (w.alloc (.cells #[.string ⟨#[]⟩, .string ⟨#[]⟩, .int .i64 0, .bool false, .string ⟨#[]⟩, .bool false, .string ⟨#[]⟩, .bool false, .string ⟨#[]⟩, .bool false, .string ⟨#[]⟩] 44)) w.heap.size #[.string ⟨#[]⟩, .string ⟨#[]⟩, .int .i64 0, .bool false, .string ⟨#[]⟩, .bool false, .string ⟨#[]⟩, .bool false, .string ⟨#[]⟩, .bool false, .string ⟨#[]⟩] 44 := heap_alloc_new w _
  have HG := Lib.hid (rone_stop s hs (w.alloc (.cells #[.string ⟨#[]⟩, .string ⟨#[]⟩, .int .i64 0, .bool false, .string ⟨#[]⟩, .bool false, .string ⟨#[]⟩, .bool false, .string ⟨#[]⟩, .bool false, .string ⟨#[]⟩] 44)))
  obtain ⟨⟨⟨a_s, a_p, a_n, ⟨a_v0, a_l0⟩, ⟨a_v1, a_l1⟩, ⟨a_v2, a_l2⟩, ⟨a_v3, a_l3⟩⟩, A, B⟩, hR⟩ : ∃ R, Hid (R = oneL (some [63]) s) := ⟨_, rfl⟩
  rw [← hR.out] at HG ⊢
  have HG2 : Hid (Calls Tryz.prog 56 #[.string ⟨s.toArray⟩, .string ⟨#[63]⟩] (w.alloc (.cells #[.string ⟨#[]⟩, .string ⟨#[]⟩, .int .i64 0, .bool false, .string ⟨#[]⟩, .bool false, .string ⟨#[]⟩, .bool false, .string ⟨#[]⟩, .bool false, .string ⟨#[]⟩] 44)) fun e w' => e = .returned (.tuple #[.agg #[.string ⟨a_s.toArray⟩, .string ⟨a_p.toArray⟩, .int .i64 a_n, .bool a_v0, .string ⟨a_l0.toArray⟩, .bool a_v1, .string ⟨a_l1.toArray⟩, .bool a_v2, .string ⟨a_l2.toArray⟩, .bool a_v3, .string ⟨a_l3.toArray⟩], .int .i64 (A : Int), .int .i64 B]) ∧ Since (w.alloc (.cells #[.string ⟨#[]⟩, .string ⟨#[]⟩, .int .i64 0, .bool false, .string ⟨#[]⟩, .bool false, .string ⟨#[]⟩, .bool false, .string ⟨#[]⟩, .bool false, .string ⟨#[]⟩] 44)) w') := HG.out
  obtain ⟨K, hK⟩ : ∃ K : Ending → World → Prop, Hid (K = fun e w' => e = .returned (.tuple #[.agg #[.string ⟨a_s.toArray⟩, .string ⟨a_p.toArray⟩, .int .i64 a_n, .bool a_v0, .string ⟨a_l0.toArray⟩, .bool a_v1, .string ⟨a_l1.toArray⟩, .bool a_v2, .string ⟨a_l2.toArray⟩, .bool a_v3, .string ⟨a_l3.toArray⟩], .int .i64 (A : Int), .int .i64 B]) ∧ Since w w') := ⟨_, rfl⟩
  have hgood : Hid (∀ w', Since w w' → K (.returned (.tuple #[.agg #[.string ⟨a_s.toArray⟩, .string ⟨a_p.toArray⟩, .int .i64 a_n, .bool a_v0, .string ⟨a_l0.toArray⟩, .bool a_v1, .string ⟨a_l1.toArray⟩, .bool a_v2, .string ⟨a_l2.toArray⟩, .bool a_v3, .string ⟨a_l3.toArray⟩], .int .i64 (A : Int), .int .i64 B])) w') := fun w' h => by rw [hK.out]; exact ⟨rfl, h⟩
  have hK2 : (fun e w' => e = .returned (.tuple #[.agg #[.string ⟨a_s.toArray⟩, .string ⟨a_p.toArray⟩, .int .i64 a_n, .bool a_v0, .string ⟨a_l0.toArray⟩, .bool a_v1, .string ⟨a_l1.toArray⟩, .bool a_v2, .string ⟨a_l2.toArray⟩, .bool a_v3, .string ⟨a_l3.toArray⟩], .int .i64 (A : Int), .int .i64 B]) ∧ Since w w') = K := hK.out.symm
  show Calls Tryz.prog _ _ w (fun e w' => e = .returned (.tuple #[.agg #[.string ⟨a_s.toArray⟩, .string ⟨a_p.toArray⟩, .int .i64 a_n, .bool a_v0, .string ⟨a_l0.toArray⟩, .bool a_v1, .string ⟨a_l1.toArray⟩, .bool a_v2, .string ⟨a_l2.toArray⟩, .bool a_v3, .string ⟨a_l3.toArray⟩], .int .i64 (A : Int), .int .i64 B]) ∧ Since w w')
  rw [hK2]
  have HA := Lib.hid hA1
  have HS := Lib.hid hS1
  clear hK hK2 hR HG hA1 hS1 hs
  go_enter Tryz.func29, Tryz.ntmps29
  go_wp2_with fail
  refine HG2.out.mono ?_
  rintro e w2 ⟨rfl, hS⟩
  have hC := HA.out.next hS
  have hone : Hid (((#[.string ⟨a_s.toArray⟩, .string ⟨a_p.toArray⟩, .int .i64 a_n, .bool a_v0, .string ⟨a_l0.toArray⟩, .bool a_v1, .string ⟨a_l1.toArray⟩, .bool a_v2, .string ⟨a_l2.toArray⟩, .bool a_v3, .string ⟨a_l3.toArray⟩] : Array Value).all (·.oneCell')) = true) := by show _ = _; simp [Value.oneCell']
  have hi2 : w2.heap[w.heap.size]? = some (.cells #[.string ⟨#[]⟩, .string ⟨#[]⟩, .int .i64 0, .bool false, .string ⟨#[]⟩, .bool false, .string ⟨#[]⟩, .bool false, .string ⟨#[]⟩, .bool false, .string ⟨#[]⟩] 44 (0, 0)) := hC
  have hN : Cel (w2.setRow w.heap.size #[.string ⟨a_s.toArray⟩, .string ⟨a_p.toArray⟩, .int .i64 a_n, .bool a_v0, .string ⟨a_l0.toArray⟩, .bool a_v1, .string ⟨a_l1.toArray⟩, .bool a_v2, .string ⟨a_l2.toArray⟩, .bool a_v3, .string ⟨a_l3.toArray⟩]) w.heap.size #[.string ⟨a_s.toArray⟩, .string ⟨a_p.toArray⟩, .int .i64 a_n, .bool a_v0, .string ⟨a_l0.toArray⟩, .bool a_v1, .string ⟨a_l1.toArray⟩, .bool a_v2, .string ⟨a_l2.toArray⟩, .bool a_v3, .string ⟨a_l3.toArray⟩] 44 := hC.row _
  have hf := Lib.hid (hgood.out (w2.setRow w.heap.size #[.string ⟨a_s.toArray⟩, .string ⟨a_p.toArray⟩, .int .i64 a_n, .bool a_v0, .string ⟨a_l0.toArray⟩, .bool a_v1, .string ⟨a_l1.toArray⟩, .bool a_v2, .string ⟨a_l2.toArray⟩, .bool a_v3, .string ⟨a_l3.toArray⟩]) ((row_setRow hC).since (HS.out.trans hS) (fun x hx => by rw [hx]; exact Nat.le_refl _)))
  clear HG2 hC hS hgood HA HS
  go_wp2_with (refine wpList_store_row rfl 44 (.tmp 2) (.tmp 7) rfl w.heap.size #[.string ⟨a_s.toArray⟩, .string ⟨a_p.toArray⟩, .int .i64 a_n, .bool a_v0, .string ⟨a_l0.toArray⟩, .bool a_v1, .string ⟨a_l1.toArray⟩, .bool a_v2, .string ⟨a_l2.toArray⟩, .bool a_v3, .string ⟨a_l3.toArray⟩] rfl rfl 44 #[.string ⟨#[]⟩, .string ⟨#[]⟩, .int .i64 0, .bool false, .string ⟨#[]⟩, .bool false, .string ⟨#[]⟩, .bool false, .string ⟨#[]⟩, .bool false, .string ⟨#[]⟩] hi2 ainfoC rfl hone.out ?_)
  generalize w2.setRow w.heap.size #[.string ⟨a_s.toArray⟩, .string ⟨a_p.toArray⟩, .int .i64 a_n, .bool a_v0, .string ⟨a_l0.toArray⟩, .bool a_v1, .string ⟨a_l1.toArray⟩, .bool a_v2, .string ⟨a_l2.toArray⟩, .bool a_v3, .string ⟨a_l3.toArray⟩] = wq at *
  have q0 : wq.cell? ⟨w.heap.size, 0, none⟩ = some (.string ⟨a_s.toArray⟩) := hN.cell 0
  have q1 : wq.cell? ⟨w.heap.size, 1, none⟩ = some (.string ⟨a_p.toArray⟩) := hN.cell 1
  have q2 : wq.cell? ⟨w.heap.size, 2, none⟩ = some (.int .i64 a_n) := hN.cell 2
  have q3 : wq.cell? ⟨w.heap.size, 3, none⟩ = some (.bool a_v0) := hN.cell 3
  have q4 : wq.cell? ⟨w.heap.size, 4, none⟩ = some (.string ⟨a_l0.toArray⟩) := hN.cell 4
  have q5 : wq.cell? ⟨w.heap.size, 5, none⟩ = some (.bool a_v1) := hN.cell 5
  have q6 : wq.cell? ⟨w.heap.size, 6, none⟩ = some (.string ⟨a_l1.toArray⟩) := hN.cell 6
  have q7 : wq.cell? ⟨w.heap.size, 7, none⟩ = some (.bool a_v2) := hN.cell 7
  have q8 : wq.cell? ⟨w.heap.size, 8, none⟩ = some (.string ⟨a_l2.toArray⟩) := hN.cell 8
  have q9 : wq.cell? ⟨w.heap.size, 9, none⟩ = some (.bool a_v3) := hN.cell 9
  have q10 : wq.cell? ⟨w.heap.size, 10, none⟩ = some (.string ⟨a_l3.toArray⟩) := hN.cell 10
  refine bodyPost_ret (v := .tuple #[.agg #[.string ⟨a_s.toArray⟩, .string ⟨a_p.toArray⟩, .int .i64 a_n, .bool a_v0, .string ⟨a_l0.toArray⟩, .bool a_v1, .string ⟨a_l1.toArray⟩, .bool a_v2, .string ⟨a_l2.toArray⟩, .bool a_v3, .string ⟨a_l3.toArray⟩], .int .i64 (A : Int), .int .i64 B]) ?_ rfl hf.out
  clear hf hN hi2 hone
  simp [results, Tryz.results29, go_sem, q0, q1, q2, q3, q4, q5, q6, q7, q8, q9, q10]
set_option maxHeartbeats 4000000 in
set_option maxRecDepth 100000 in
theorem rpatom_any (s : Txt) (hs : s.length ≤ 65536) (w : World) : Calls Tryz.prog 30 #[.string ⟨s.toArray⟩] w fun e w' => e = .returned (.tuple #[.agg (atmC (oneL none s).1), .int .i64 ((oneL none s).2.1 : Int), .int .i64 (oneL none s).2.2]) ∧ Since w w' := by
  have hS1 : Since w (w.alloc (.cells #[.string ⟨#[]⟩, .string ⟨#[]⟩, .int .i64 0, .bool false, .string ⟨#[]⟩, .bool false, .string ⟨#[]⟩, .bool false, .string ⟨#[]⟩, .bool false, .string ⟨#[]⟩] 44)) := (Since.refl w).alloc _
  have hA1 : Cel (w.alloc (.cells #[.string ⟨#[]⟩, .string ⟨#[]⟩, .int .i64 0, .bool false, .string ⟨#[]⟩, .bool false, .string ⟨#[]⟩, .bool false, .string ⟨#[]⟩, .bool false, .string ⟨#[]⟩] 44)) w.heap.size #[.string ⟨#[]⟩, .string ⟨#[]⟩, .int .i64 0, .bool false, .string ⟨#[]⟩, .bool false, .string ⟨#[]⟩, .bool false, .string ⟨#[]⟩, .bool false, .string ⟨#[]⟩] 44 := heap_alloc_new w _
  have HG := Lib.hid (rone_bare s hs (w.alloc (.cells #[.string ⟨#[]⟩, .string ⟨#[]⟩, .int .i64 0, .bool false, .string ⟨#[]⟩, .bool false, .string ⟨#[]⟩, .bool false, .string ⟨#[]⟩, .bool false, .string ⟨#[]⟩] 44)))
  obtain ⟨⟨⟨a_s, a_p, a_n, ⟨a_v0, a_l0⟩, ⟨a_v1, a_l1⟩, ⟨a_v2, a_l2⟩, ⟨a_v3, a_l3⟩⟩, A, B⟩, hR⟩ : ∃ R, Hid (R = oneL none s) := ⟨_, rfl⟩
  rw [← hR.out] at HG ⊢
  have HG2 : Hid (Calls Tryz.prog 56 #[.string ⟨s.toArray⟩, .string ⟨#[]⟩] (w.alloc (.cells #[.string ⟨#[]⟩, .string ⟨#[]⟩, .int .i64 0, .bool false, .string ⟨#[]⟩, .bool false, .string ⟨#[]⟩, .bool false, .string ⟨#[]⟩, .bool false, .string ⟨#[]⟩] 44)) fun e w' => e = .returned (.tuple #[.agg #[.string ⟨a_s.toArray⟩, .string ⟨a_p.toArray⟩, .int .i64 a_n, .bool a_v0, .string ⟨a_l0.toArray⟩, .bool a_v1, .string ⟨a_l1.toArray⟩, .bool a_v2, .string ⟨a_l2.toArray⟩, .bool a_v3, .string ⟨a_l3.toArray⟩], .int .i64 (A : Int), .int .i64 B]) ∧ Since (w.alloc (.cells #[.string ⟨#[]⟩, .string ⟨#[]⟩, .int .i64 0, .bool false, .string ⟨#[]⟩, .bool false, .string ⟨#[]⟩, .bool false, .string ⟨#[]⟩, .bool false, .string ⟨#[]⟩] 44)) w') := HG.out
  obtain ⟨K, hK⟩ : ∃ K : Ending → World → Prop, Hid (K = fun e w' => e = .returned (.tuple #[.agg #[.string ⟨a_s.toArray⟩, .string ⟨a_p.toArray⟩, .int .i64 a_n, .bool a_v0, .string ⟨a_l0.toArray⟩, .bool a_v1, .string ⟨a_l1.toArray⟩, .bool a_v2, .string ⟨a_l2.toArray⟩, .bool a_v3, .string ⟨a_l3.toArray⟩], .int .i64 (A : Int), .int .i64 B]) ∧ Since w w') := ⟨_, rfl⟩
  have hgood : Hid (∀ w', Since w w' → K (.returned (.tuple #[.agg #[.string ⟨a_s.toArray⟩, .string ⟨a_p.toArray⟩, .int .i64 a_n, .bool a_v0, .string ⟨a_l0.toArray⟩, .bool a_v1, .string ⟨a_l1.toArray⟩, .bool a_v2, .string ⟨a_l2.toArray⟩, .bool a_v3, .string ⟨a_l3.toArray⟩], .int .i64 (A : Int), .int .i64 B])) w') := fun w' h => by rw [hK.out]; exact ⟨rfl, h⟩
  have hK2 : (fun e w' => e = .returned (.tuple #[.agg #[.string ⟨a_s.toArray⟩, .string ⟨a_p.toArray⟩, .int .i64 a_n, .bool a_v0, .string ⟨a_l0.toArray⟩, .bool a_v1, .string ⟨a_l1.toArray⟩, .bool a_v2, .string ⟨a_l2.toArray⟩, .bool a_v3, .string ⟨a_l3.toArray⟩], .int .i64 (A : Int), .int .i64 B]) ∧ Since w w') = K := hK.out.symm
  show Calls Tryz.prog _ _ w (fun e w' => e = .returned (.tuple #[.agg #[.string ⟨a_s.toArray⟩, .string ⟨a_p.toArray⟩, .int .i64 a_n, .bool a_v0, .string ⟨a_l0.toArray⟩, .bool a_v1, .string ⟨a_l1.toArray⟩, .bool a_v2, .string ⟨a_l2.toArray⟩, .bool a_v3, .string ⟨a_l3.toArray⟩], .int .i64 (A : Int), .int .i64 B]) ∧ Since w w')
  rw [hK2]
  have HA := Lib.hid hA1
  have HS := Lib.hid hS1
  clear hK hK2 hR HG hA1 hS1 hs
  go_enter Tryz.func30, Tryz.ntmps30
  go_wp2_with fail
  refine HG2.out.mono ?_
  rintro e w2 ⟨rfl, hS⟩
  have hC := HA.out.next hS
  have hone : Hid (((#[.string ⟨a_s.toArray⟩, .string ⟨a_p.toArray⟩, .int .i64 a_n, .bool a_v0, .string ⟨a_l0.toArray⟩, .bool a_v1, .string ⟨a_l1.toArray⟩, .bool a_v2, .string ⟨a_l2.toArray⟩, .bool a_v3, .string ⟨a_l3.toArray⟩] : Array Value).all (·.oneCell')) = true) := by show _ = _; simp [Value.oneCell']
  have hi2 : w2.heap[w.heap.size]? = some (.cells #[.string ⟨#[]⟩, .string ⟨#[]⟩, .int .i64 0, .bool false, .string ⟨#[]⟩, .bool false, .string ⟨#[]⟩, .bool false, .string ⟨#[]⟩, .bool false, .string ⟨#[]⟩] 44 (0, 0)) := hC
  have hN : Cel (w2.setRow w.heap.size #[.string ⟨a_s.toArray⟩, .string ⟨a_p.toArray⟩, .int .i64 a_n, .bool a_v0, .string ⟨a_l0.toArray⟩, .bool a_v1, .string ⟨a_l1.toArray⟩, .bool a_v2, .string ⟨a_l2.toArray⟩, .bool a_v3, .string ⟨a_l3.toArray⟩]) w.heap.size #[.string ⟨a_s.toArray⟩, .string ⟨a_p.toArray⟩, .int .i64 a_n, .bool a_v0, .string ⟨a_l0.toArray⟩, .bool a_v1, .string ⟨a_l1.toArray⟩, .bool a_v2, .string ⟨a_l2.toArray⟩, .bool a_v3, .string ⟨a_l3.toArray⟩] 44 := hC.row _
  have hf := Lib.hid (hgood.out (w2.setRow w.heap.size #[.string ⟨a_s.toArray⟩, .string ⟨a_p.toArray⟩, .int .i64 a_n, .bool a_v0, .string ⟨a_l0.toArray⟩, .bool a_v1, .string ⟨a_l1.toArray⟩, .bool a_v2, .string ⟨a_l2.toArray⟩, .bool a_v3, .string ⟨a_l3.toArray⟩]) ((row_setRow hC).since (HS.out.trans hS) (fun x hx => by rw [hx]; exact Nat.le_refl _)))
  clear HG2 hC hS hgood HA HS
  go_wp2_with (refine wpList_store_row rfl 44 (.tmp 2) (.tmp 7) rfl w.heap.size #[.string ⟨a_s.toArray⟩, .string ⟨a_p.toArray⟩, .int .i64 a_n, .bool a_v0, .string ⟨a_l0.toArray⟩, .bool a_v1, .string ⟨a_l1.toArray⟩, .bool a_v2, .string ⟨a_l2.toArray⟩, .bool a_v3, .string ⟨a_l3.toArray⟩] rfl rfl 44 #[.string ⟨#[]⟩, .string ⟨#[]⟩, .int .i64 0, .bool false, .string ⟨#[]⟩, .bool false, .string ⟨#[]⟩, .bool false, .string ⟨#[]⟩, .bool false, .string ⟨#[]⟩] hi2 ainfoC rfl hone.out ?_)
  generalize w2.setRow w.heap.size #[.string ⟨a_s.toArray⟩, .string ⟨a_p.toArray⟩, .int .i64 a_n, .bool a_v0, .string ⟨a_l0.toArray⟩, .bool a_v1, .string ⟨a_l1.toArray⟩, .bool a_v2, .string ⟨a_l2.toArray⟩, .bool a_v3, .string ⟨a_l3.toArray⟩] = wq at *
  have q0 : wq.cell? ⟨w.heap.size, 0, none⟩ = some (.string ⟨a_s.toArray⟩) := hN.cell 0
  have q1 : wq.cell? ⟨w.heap.size, 1, none⟩ = some (.string ⟨a_p.toArray⟩) := hN.cell 1
  have q2 : wq.cell? ⟨w.heap.size, 2, none⟩ = some (.int .i64 a_n) := hN.cell 2
  have q3 : wq.cell? ⟨w.heap.size, 3, none⟩ = some (.bool a_v0) := hN.cell 3
  have q4 : wq.cell? ⟨w.heap.size, 4, none⟩ = some (.string ⟨a_l0.toArray⟩) := hN.cell 4
  have q5 : wq.cell? ⟨w.heap.size, 5, none⟩ = some (.bool a_v1) := hN.cell 5
  have q6 : wq.cell? ⟨w.heap.size, 6, none⟩ = some (.string ⟨a_l1.toArray⟩) := hN.cell 6
  have q7 : wq.cell? ⟨w.heap.size, 7, none⟩ = some (.bool a_v2) := hN.cell 7
  have q8 : wq.cell? ⟨w.heap.size, 8, none⟩ = some (.string ⟨a_l2.toArray⟩) := hN.cell 8
  have q9 : wq.cell? ⟨w.heap.size, 9, none⟩ = some (.bool a_v3) := hN.cell 9
  have q10 : wq.cell? ⟨w.heap.size, 10, none⟩ = some (.string ⟨a_l3.toArray⟩) := hN.cell 10
  refine bodyPost_ret (v := .tuple #[.agg #[.string ⟨a_s.toArray⟩, .string ⟨a_p.toArray⟩, .int .i64 a_n, .bool a_v0, .string ⟨a_l0.toArray⟩, .bool a_v1, .string ⟨a_l1.toArray⟩, .bool a_v2, .string ⟨a_l2.toArray⟩, .bool a_v3, .string ⟨a_l3.toArray⟩], .int .i64 (A : Int), .int .i64 B]) ?_ rfl hf.out
  clear hf hN hi2 hone
  simp [results, Tryz.results30, go_sem, q0, q1, q2, q3, q4, q5, q6, q7, q8, q9, q10]
end Go.Proofs.YtnfjjckbgnieeaaGreatDoor
