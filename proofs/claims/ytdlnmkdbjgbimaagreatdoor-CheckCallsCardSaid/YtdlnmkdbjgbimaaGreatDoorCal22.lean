/- CheckCalls: the walk. -/
import Derived.Test.YtdlnmkdbjgbimaaGreatDoorRkB
namespace Go.Proofs.YtdlnmkdbjgbimaaGreatDoor
open Go.RowKit

theorem lightAs_len {m : Int} {L : List Atm} (h : lightAs m L = true) : (L.length : Int) ≤ m := by
  unfold lightAs at h
  split at h
  · cases h
  · omega
theorem lightC_len {L : List Cls} {F : List Atm} (h : lightCB L F = true) : L.length ≤ 6 ∧ F.length ≤ 12 ∧ ∀ c ∈ L, c.2.length ≤ 3 := by
  unfold lightCB at h
  split at h
  · cases h
  · rw [Bool.and_eq_true] at h
    have h1 := lightAs_len h.1
    refine ⟨by omega, by omega, fun c hc => ?_⟩
    have h2 := List.all_eq_true.1 h.2 c hc
    unfold lightC at h2
    rw [Bool.and_eq_true] at h2
    have h3 := lightAs_len h2.2
    omega
theorem lightS_len {T : List Stp} (h : lightSB T = true) : T.length ≤ 40 ∧ ∀ t ∈ T, t.2.2.length ≤ 20 := by
  unfold lightSB at h
  simp only [Bool.and_eq_true, Bool.not_eq_true', decide_eq_false_iff_not] at h
  refine ⟨by omega, fun t ht => ?_⟩
  have h2 := List.all_eq_true.1 h.2 t ht
  unfold lightX at h2
  simp only [Bool.and_eq_true, Bool.not_eq_true', decide_eq_false_iff_not] at h2
  omega
theorem ksame_eq (v1 v2 : Value) (L : List Int) (w : World) (h1 : IRow w v1 L) (h2 : IRow w v2 L) (hm : L.length ≤ 1000000) :
    Calls Tryz.prog 15 #[v1, v2] w fun e w' => e = .returned (.bool true) ∧ Since w w' :=
  (ksame_int v1 v2 L L w h1 h2 hm hm).mono fun e w' ⟨h, m, hm⟩ => ⟨by rw [h, decide_eq_true rfl], hm ▸ (Since.refl _).drewN m⟩
theorem cited_len (T : List Stp) : (citedS T).length = T.length := by rw [citedS, bumps_len, List.length_replicate]
theorem irow_cited {W : World} {q : Nat} {T : List Stp} (h : Cel W q (intsC (citedS T)) 3) : IRow W (.slice (some ⟨q, 0, none⟩) T.length T.length) (citedS T) := by
  have h1 := irow_cel (L := citedS T) (c := (citedS T).length) h (by rw [Nat.mul_one, List.take_of_length_le (by simp [intsC])]; exact List.map_eq_flatMap) (Nat.le_refl _)
  rwa [cited_len] at h1
set_option maxHeartbeats 8000000 in
set_option maxRecDepth 100000 in
theorem calls22_any (va : Option Addr) (lc : Nat) (L : List Cls) (vf : Option Addr) (fc : Nat) (G : List Atm) (vs : Option Addr) (tc : Nat) (T : List Stp) (vg : Option Addr) (gc : Nat) (K : List Atm) (a_s a_p : List UInt8) (a_n : Int) (a_v0 a_v1 a_v2 a_v3 : Bool) (a_l0 a_l1 a_l2 a_l3 : List UInt8) (w : World) (hv : RRow w (.slice va L.length lc) L) (hg : ARow w (.slice vf G.length fc) G) (ht : SRow w (.slice vs T.length tc) T) (hk : ARow w (.slice vg K.length gc) K)
    (hF : ∀ c ∈ L, FitsC c) (hG : ∀ a ∈ G, FitsN a) (hT : ∀ t ∈ T, FitsN t.1) (hK : ∀ a ∈ K, FitsN a) (_hfa : FitsN ((a_s, a_p, a_n, (a_v0, a_l0), (a_v1, a_l1), (a_v2, a_l2), (a_v3, a_l3)) : Atm)) (hE : Env w) :
    Calls Tryz.prog 3 #[.slice va L.length lc, .slice vf G.length fc, .slice vs T.length tc, .slice vg K.length gc, .agg #[.string ⟨a_s.toArray⟩, .string ⟨a_p.toArray⟩, .int .i64 a_n, .bool a_v0, .string ⟨a_l0.toArray⟩, .bool a_v1, .string ⟨a_l1.toArray⟩, .bool a_v2, .string ⟨a_l2.toArray⟩, .bool a_v3, .string ⟨a_l3.toArray⟩]] w fun e w' => e = .returned (.bool true) ∧ Since w w' := by
  have hS0 : Since w (w.alloc (.cells #[.string ⟨a_s.toArray⟩, .string ⟨a_p.toArray⟩, .int .i64 a_n, .bool a_v0, .string ⟨a_l0.toArray⟩, .bool a_v1, .string ⟨a_l1.toArray⟩, .bool a_v2, .string ⟨a_l2.toArray⟩, .bool a_v3, .string ⟨a_l3.toArray⟩] 29)) := (Since.refl w).alloc _
  have hb0 : Cel (w.alloc (.cells #[.string ⟨a_s.toArray⟩, .string ⟨a_p.toArray⟩, .int .i64 a_n, .bool a_v0, .string ⟨a_l0.toArray⟩, .bool a_v1, .string ⟨a_l1.toArray⟩, .bool a_v2, .string ⟨a_l2.toArray⟩, .bool a_v3, .string ⟨a_l3.toArray⟩] 29)) w.heap.size #[.string ⟨a_s.toArray⟩, .string ⟨a_p.toArray⟩, .int .i64 a_n, .bool a_v0, .string ⟨a_l0.toArray⟩, .bool a_v1, .string ⟨a_l1.toArray⟩, .bool a_v2, .string ⟨a_l2.toArray⟩, .bool a_v3, .string ⟨a_l3.toArray⟩] 29 := heap_alloc_new w _
  have ha0 := hb0.at
  have HE := Lib.hid (hE.next hS0)
  have HV := Lib.hid (rnext hv hS0)
  have HG := Lib.hid (anext hg hS0)
  have HT := Lib.hid (snext ht hS0)
  have HK := Lib.hid (anext hk hS0)
  have HFL := Lib.hid hF
  have HFG := Lib.hid hG
  have HFT := Lib.hid hT
  have HFK := Lib.hid hK
  clear hE hv hg ht hk hF hG hT hK hb0
  go_enter Tryz.func3, Tryz.ntmps3
  go_upto_region 1 with (fail)
  generalize hw1 : w.alloc (.cells #[.string ⟨a_s.toArray⟩, .string ⟨a_p.toArray⟩, .int .i64 a_n, .bool a_v0, .string ⟨a_l0.toArray⟩, .bool a_v1, .string ⟨a_l1.toArray⟩, .bool a_v2, .string ⟨a_l2.toArray⟩, .bool a_v3, .string ⟨a_l3.toArray⟩] 29) = w1 at *
  clear hw1
  obtain ⟨LC, hLC⟩ : ∃ B, Hid (B = lightCB L G) := ⟨_, rfl⟩
  obtain ⟨LS, hLS⟩ : ∃ B, Hid (B = lightSB T) := ⟨_, rfl⟩
  obtain ⟨LK, hLK⟩ : ∃ B, Hid (B = lightAs 6 K) := ⟨_, rfl⟩
  obtain ⟨LA, hLA⟩ : ∃ B, Hid (B = lightB ((a_s, a_p, a_n, (a_v0, a_l0), (a_v1, a_l1), (a_v2, a_l2), (a_v3, a_l3)) : Atm)) := ⟨_, rfl⟩
  have H1 := Lib.hid (fun W (h : Since w1 W) => lightclauses_any _ _ L G W (rnext HV.out h) (anext HG.out h))
  have H2 := Lib.hid (fun W (h : Since w1 W) => lightsteps_any _ T W (snext HT.out h))
  have H3 := Lib.hid (fun W (h : Since w1 W) => lightatoms_any _ 6 K W (anext HK.out h) (by omega))
  have H4 := Lib.hid (fun W => light_any a_s a_p a_n a_v0 a_v1 a_v2 a_v3 a_l0 a_l1 a_l2 a_l3 W)
  rw [← hLC.out] at H1
  rw [← hLS.out] at H2
  rw [← hLK.out] at H3
  rw [← hLA.out] at H4
  go_wp2_with fail
  refine (lives22_any _ HE.out).mono ?_
  rintro e w2 ⟨rfl, hb2⟩
  cases LC
  · clear ha0
    go_wp2_with fail
    refine (H1.out _ hb2).mono ?_
    rintro e w3 ⟨rfl, hb3⟩
    go_wp2_with fail
    go_ret
    exact ⟨rfl, (hS0.trans hb2).trans hb3⟩
  go_wp2_with fail
  refine (H1.out _ hb2).mono ?_
  rintro e w3 ⟨rfl, hb3⟩
  have hS3 := hb2.trans hb3
  cases LS
  · clear ha0
    go_wp2_with fail
    refine (H2.out _ hS3).mono ?_
    rintro e w4 ⟨rfl, hb4⟩
    go_wp2_with fail
    go_ret
    exact ⟨rfl, (hS0.trans hS3).trans hb4⟩
  go_wp2_with fail
  refine (H2.out _ hS3).mono ?_
  rintro e w4 ⟨rfl, hb4⟩
  have hS4 := hS3.trans hb4
  cases LK
  · clear ha0
    go_wp2_with fail
    refine (H3.out _ hS4).mono ?_
    rintro e w5 ⟨rfl, hb5⟩
    go_wp2_with fail
    go_ret
    exact ⟨rfl, (hS0.trans hS4).trans hb5⟩
  go_wp2_with fail
  refine (H3.out _ hS4).mono ?_
  rintro e w5 ⟨rfl, hb5⟩
  have hS5 := hS4.trans hb5
  have ha5 := ha0.next hS5
  have ce0 : w5.cell? ⟨w.heap.size, 0, none⟩ = some (.string ⟨a_s.toArray⟩) := ha5 0 _ rfl
  have ce1 : w5.cell? ⟨w.heap.size, 1, none⟩ = some (.string ⟨a_p.toArray⟩) := ha5 1 _ rfl
  have ce2 : w5.cell? ⟨w.heap.size, 2, none⟩ = some (.int .i64 a_n) := ha5 2 _ rfl
  have ce3 : w5.cell? ⟨w.heap.size, 3, none⟩ = some (.bool a_v0) := ha5 3 _ rfl
  have ce4 : w5.cell? ⟨w.heap.size, 4, none⟩ = some (.string ⟨a_l0.toArray⟩) := ha5 4 _ rfl
  have ce5 : w5.cell? ⟨w.heap.size, 5, none⟩ = some (.bool a_v1) := ha5 5 _ rfl
  have ce6 : w5.cell? ⟨w.heap.size, 6, none⟩ = some (.string ⟨a_l1.toArray⟩) := ha5 6 _ rfl
  have ce7 : w5.cell? ⟨w.heap.size, 7, none⟩ = some (.bool a_v2) := ha5 7 _ rfl
  have ce8 : w5.cell? ⟨w.heap.size, 8, none⟩ = some (.string ⟨a_l2.toArray⟩) := ha5 8 _ rfl
  have ce9 : w5.cell? ⟨w.heap.size, 9, none⟩ = some (.bool a_v3) := ha5 9 _ rfl
  have ce10 : w5.cell? ⟨w.heap.size, 10, none⟩ = some (.string ⟨a_l3.toArray⟩) := ha5 10 _ rfl
  cases LA
  · go_wp2_with fail
    refine (H4.out _).mono ?_
    rintro e w6 ⟨rfl, hb6⟩
    go_wp2_with fail
    go_ret
    exact ⟨rfl, (hS0.trans hS5).trans hb6⟩
  obtain ⟨l1, l2, l3⟩ := lightC_len hLC.out.symm
  obtain ⟨l4, l5⟩ := lightS_len hLS.out.symm
  have l6 := lightAs_len hLK.out.symm
  have hT2 : ∀ t ∈ T, FitsN t.1 ∧ t.2.2.length ≤ 100000 := fun t h => ⟨HFT.out t h, by have := l5 t h; omega⟩
  have HT3 : Hid (∀ t ∈ T, t.2.2.length ≤ 100000) := fun t h => (hT2 t h).2
  have hL9 : ∀ c ∈ L, c.2.length ≤ 100 := fun c h => by have := l3 c h; omega
  have HC1 := Lib.hid (fun W (h : Since w1 W) => kcheck_any va lc L vf fc G vs tc T vg gc K W (rnext HV.out h) (anext HG.out h) (snext HT.out h) (anext HK.out h) (by omega) (by omega) (by omega) (by omega) hL9 HFL.out HFG.out HFK.out hT2 (HE.out.next h))
  have HC2 := Lib.hid (fun W (h : Since w1 W) => rcheck_any22 va lc L vf fc G vs tc T vg gc K W (rnext HV.out h) (anext HG.out h) (snext HT.out h) (anext HK.out h) (by omega) (by omega) (by omega) (by omega) hL9 HFL.out HFG.out hT2 (HE.out.next h))
  have HO1 := Lib.hid (fun W (h : Since w1 W) => ksound_main va lc L vf fc G vs tc T W (rnext HV.out h) (anext HG.out h) (snext HT.out h) (by omega) (by omega) (by omega) hL9 HFL.out HFG.out hT2 (HE.out.next h))
  have HO2 := Lib.hid (fun W (h : Since w1 W) => rsound_any va lc L vf fc G vs tc T W (rnext HV.out h) (anext HG.out h) (snext HT.out h) (by omega) (by omega) hL9 HFL.out HFG.out hT2 (by omega) (HE.out.next h))
  have HA1 := Lib.hid (fun W (h : Since w1 W) => kaccepts_any va lc L vf fc G vs tc T a_s a_p a_n a_v0 a_v1 a_v2 a_v3 a_l0 a_l1 a_l2 a_l3 W (rnext HV.out h) (anext HG.out h) (snext HT.out h) (by omega) (by omega) (by omega) hL9 HFL.out HFG.out hT2 (HE.out.next h))
  have HA2 := Lib.hid (fun W (h : Since w1 W) => raccepts_any va lc L vf fc G vs tc T a_s a_p a_n a_v0 a_v1 a_v2 a_v3 a_l0 a_l1 a_l2 a_l3 W (rnext HV.out h) (anext HG.out h) (snext HT.out h) (by omega) (by omega) (by omega) hL9 HFL.out HFG.out hT2 (HE.out.next h))
  obtain ⟨c1, c2, hc⟩ : ∃ x y, Hid ((x, y) = checkS L G T K) := ⟨_, _, rfl⟩
  obtain ⟨s1, s2, hs⟩ : ∃ x y, Hid ((x, y) = soundS L G T) := ⟨_, _, rfl⟩
  obtain ⟨A1, hA⟩ : ∃ b, Hid (b = accB L G T ((a_s, a_p, a_n, (a_v0, a_l0), (a_v1, a_l1), (a_v2, a_l2), (a_v3, a_l3)) : Atm)) := ⟨_, rfl⟩
  rw [← hc.out] at HC1 HC2
  rw [← hs.out] at HO1 HO2
  rw [← hA.out] at HA1 HA2
  simp only at HC1 HC2 HO1 HO2
  clear hc hs hA hL9 hT2 l1 l2 l3 l5 hLC hLS hLK hLA H1 H2 H3
  go_wp2_with fail
  refine (H4.out _).mono ?_
  rintro e w6 ⟨rfl, hb6⟩
  have hS6 := hS5.trans hb6
  clear ce0 ce1 ce2 ce3 ce4 ce5 ce6 ce7 ce8 ce9 ce10 ha5 hb6 H4
  go_wp2_with fail
  refine (HC1.out _ hS6).mono ?_
  rintro e w7 ⟨rfl, hb7⟩
  have hS7 := hS6.trans hb7
  go_wp2_with fail
  refine (HC2.out _ hS7).mono ?_
  rintro e w8 ⟨rfl, hb8⟩
  have hS8 := hS7.trans hb8
  go_wp2_with fail
  refine (HO1.out _ hS8).mono ?_
  rintro e w9 ⟨rfl, hb9⟩
  have hS9 := hS8.trans hb9
  go_wp2_with fail
  refine (HO2.out _ hS9).mono ?_
  rintro e w10 ⟨rfl, hb10⟩
  have hS10 := hS9.trans hb10
  have aA := ha0.next hS10
  clear hb7 hb8 hb9 hb10 HC1 HC2 HO1 HO2 ha0
  go_upto_region 9 with (fail)
  have hd0 : Since w10 w10.drew := (Since.refl _).drew
  refine hx_begin (S := fun W => Since w10 W) (by kernel_rfl) hd0 (by kernel_rfl) (fun _ _ _ _ _ h => h) (fun hns hQ => ?_)
  refine hx_take (i := 0) (oi := _) (v := .int .i64 c1) rfl rfl hns (by kernel_rfl) (by kernel_rfl) hQ (by kernel_rfl) (fun _ _ => by kernel_rfl) hd0 ?_
  refine hx_take (i := 1) (oi := _) (v := .int .i64 c1) rfl rfl hns (by kernel_rfl) (by kernel_rfl) hQ (by kernel_rfl) (fun _ _ => by kernel_rfl) hd0 ?_
  refine hx_take (i := 2) (oi := _) (v := .bool true) rfl rfl hns (by kernel_rfl) (by kernel_rfl) hQ (by kernel_rfl) (fun W _ => eqs_int (s := c1) rfl (by kernel_rfl) (by kernel_rfl) W) hd0 ?_
  refine hx_take (i := 3) (oi := _) (v := .bool true) rfl rfl hns (by kernel_rfl) (by kernel_rfl) hQ (by kernel_rfl) (fun _ _ => by kernel_rfl) hd0 ?_
  refine hx_take (i := 4) (oi := _) (v := .int .i64 c2) rfl rfl hns (by kernel_rfl) (by kernel_rfl) hQ (by kernel_rfl) (fun _ _ => by kernel_rfl) hd0 ?_
  refine hx_take (i := 5) (oi := _) (v := .int .i64 c2) rfl rfl hns (by kernel_rfl) (by kernel_rfl) hQ (by kernel_rfl) (fun _ _ => by kernel_rfl) hd0 ?_
  refine hx_take (i := 6) (oi := _) (v := .bool true) rfl rfl hns (by kernel_rfl) (by kernel_rfl) hQ (by kernel_rfl) (fun W _ => eqs_intE (s := c2) rfl (by kernel_rfl) (by kernel_rfl) W) hd0 ?_
  refine hx_take (i := 7) (oi := _) (v := .bool true) rfl rfl hns (by kernel_rfl) (by kernel_rfl) hQ (by kernel_rfl) (fun _ _ => by kernel_rfl) hd0 ?_
  refine hx_take (i := 8) (oi := _) (v := .bool true) rfl rfl hns (by kernel_rfl) (by kernel_rfl) hQ (by kernel_rfl) (fun _ _ => by kernel_rfl) hd0 ?_
  refine hx_take (i := 9) (oi := _) (v := .int .i64 s1) rfl rfl hns (by kernel_rfl) (by kernel_rfl) hQ (by kernel_rfl) (fun _ _ => by kernel_rfl) hd0 ?_
  refine hx_take (i := 10) (oi := _) (v := .int .i64 s1) rfl rfl hns (by kernel_rfl) (by kernel_rfl) hQ (by kernel_rfl) (fun _ _ => by kernel_rfl) hd0 ?_
  refine hx_take (i := 11) (oi := _) (v := .bool true) rfl rfl hns (by kernel_rfl) (by kernel_rfl) hQ (by kernel_rfl) (fun W _ => eqs_int (s := s1) rfl (by kernel_rfl) (by kernel_rfl) W) hd0 ?_
  refine hx_take (i := 12) (oi := _) (v := .bool true) rfl rfl hns (by kernel_rfl) (by kernel_rfl) hQ (by kernel_rfl) (fun _ _ => by kernel_rfl) hd0 ?_
  refine hx_take (i := 13) (oi := _) (v := .bool true) rfl rfl hns (by kernel_rfl) (by kernel_rfl) hQ (by kernel_rfl) (fun _ _ => by kernel_rfl) hd0 ?_
  refine hx_take (i := 14) (oi := _) (v := .int .i64 s2) rfl rfl hns (by kernel_rfl) (by kernel_rfl) hQ (by kernel_rfl) (fun _ _ => by kernel_rfl) hd0 ?_
  refine hx_take (i := 15) (oi := _) (v := .int .i64 s2) rfl rfl hns (by kernel_rfl) (by kernel_rfl) hQ (by kernel_rfl) (fun _ _ => by kernel_rfl) hd0 ?_
  refine hx_take (i := 16) (oi := _) (v := .bool true) rfl rfl hns (by kernel_rfl) (by kernel_rfl) hQ (by kernel_rfl) (fun W _ => eqs_intE (s := s2) rfl (by kernel_rfl) (by kernel_rfl) W) hd0 ?_
  refine hx_take (i := 17) (oi := _) (v := .bool true) rfl rfl hns (by kernel_rfl) (by kernel_rfl) hQ (by kernel_rfl) (fun _ _ => by kernel_rfl) hd0 ?_
  refine hx_take (i := 18) (oi := _) (v := .bool true) rfl rfl hns (by kernel_rfl) (by kernel_rfl) hQ (by kernel_rfl) (fun _ _ => by kernel_rfl) hd0 ?_
  refine hx_take (i := 19) (oi := _) (v := .slice va L.length lc) rfl rfl hns (by kernel_rfl) (by kernel_rfl) hQ (by kernel_rfl) (fun _ _ => by kernel_rfl) hd0 ?_
  refine hx_take (i := 20) (oi := _) (v := .slice vf G.length fc) rfl rfl hns (by kernel_rfl) (by kernel_rfl) hQ (by kernel_rfl) (fun _ _ => by kernel_rfl) hd0 ?_
  refine hx_take (i := 21) (oi := _) (v := .slice vs T.length tc) rfl rfl hns (by kernel_rfl) (by kernel_rfl) hQ (by kernel_rfl) (fun _ _ => by kernel_rfl) hd0 ?_
  refine hx_take (i := 22) (oi := _) (v := .agg #[.string ⟨a_s.toArray⟩, .string ⟨a_p.toArray⟩, .int .i64 a_n, .bool a_v0, .string ⟨a_l0.toArray⟩, .bool a_v1, .string ⟨a_l1.toArray⟩, .bool a_v2, .string ⟨a_l2.toArray⟩, .bool a_v3, .string ⟨a_l3.toArray⟩]) rfl rfl hns (by kernel_rfl) (by kernel_rfl) hQ (by kernel_rfl) (fun W hW => ld_at rfl (by kernel_rfl) (by kernel_rfl) (by kernel_rfl) W (aA.next hW)) hd0 ?_
  refine hx_take (i := 24) (oi := _) (v := .slice va L.length lc) rfl rfl hns (by kernel_rfl) (by kernel_rfl) hQ (by kernel_rfl) (fun _ _ => by kernel_rfl) hd0 ?_
  refine hx_take (i := 25) (oi := _) (v := .slice vf G.length fc) rfl rfl hns (by kernel_rfl) (by kernel_rfl) hQ (by kernel_rfl) (fun _ _ => by kernel_rfl) hd0 ?_
  refine hx_take (i := 26) (oi := _) (v := .slice vs T.length tc) rfl rfl hns (by kernel_rfl) (by kernel_rfl) hQ (by kernel_rfl) (fun _ _ => by kernel_rfl) hd0 ?_
  refine hx_take (i := 27) (oi := _) (v := .agg #[.string ⟨a_s.toArray⟩, .string ⟨a_p.toArray⟩, .int .i64 a_n, .bool a_v0, .string ⟨a_l0.toArray⟩, .bool a_v1, .string ⟨a_l1.toArray⟩, .bool a_v2, .string ⟨a_l2.toArray⟩, .bool a_v3, .string ⟨a_l3.toArray⟩]) rfl rfl hns (by kernel_rfl) (by kernel_rfl) hQ (by kernel_rfl) (fun W hW => ld_at rfl (by kernel_rfl) (by kernel_rfl) (by kernel_rfl) W (aA.next hW)) hd0 ?_
  refine hx_call (i := 23) (oi := _) 13 #[.slice va L.length lc, .slice vf G.length fc, .slice vs T.length tc, .agg #[.string ⟨a_s.toArray⟩, .string ⟨a_p.toArray⟩, .int .i64 a_n, .bool a_v0, .string ⟨a_l0.toArray⟩, .bool a_v1, .string ⟨a_l1.toArray⟩, .bool a_v2, .string ⟨a_l2.toArray⟩, .bool a_v3, .string ⟨a_l3.toArray⟩]] rfl rfl (by kernel_rfl) (by kernel_rfl) (by kernel_rfl) (HA1.out _ (hS10.trans hd0)) ?_
  rintro e wx61 ⟨rfl, hb⟩
  have hd1 : Since w10 wx61 := hd0.trans hb
  clear hb
  refine ⟨_, rfl, hd1, ?_⟩
  refine hx_call (i := 28) (oi := _) 14 #[.slice va L.length lc, .slice vf G.length fc, .slice vs T.length tc, .agg #[.string ⟨a_s.toArray⟩, .string ⟨a_p.toArray⟩, .int .i64 a_n, .bool a_v0, .string ⟨a_l0.toArray⟩, .bool a_v1, .string ⟨a_l1.toArray⟩, .bool a_v2, .string ⟨a_l2.toArray⟩, .bool a_v3, .string ⟨a_l3.toArray⟩]] rfl rfl (by kernel_rfl) (by kernel_rfl) (by kernel_rfl) (HA2.out _ (hS10.trans hd1)) ?_
  rintro e wx62 ⟨rfl, hb⟩
  have hd2 : Since w10 wx62 := hd1.trans hb
  clear hb
  refine ⟨_, rfl, hd2, ?_⟩
  refine hx_take (i := 29) (oi := _) (v := .bool true) rfl rfl hns (by kernel_rfl) (by kernel_rfl) hQ (by kernel_rfl) (fun W _ => eqs_bool (s := A1) rfl (by kernel_rfl) (by kernel_rfl) W) hd2 ?_
  refine hx_take (i := 30) (oi := _) (v := .bool true) rfl rfl hns (by kernel_rfl) (by kernel_rfl) hQ (by kernel_rfl) (fun _ _ => by kernel_rfl) hd2 ?_
  refine hx_take (i := 31) (oi := _) (v := .bool true) rfl rfl hns (by kernel_rfl) (by kernel_rfl) hQ (by kernel_rfl) (fun _ _ => by kernel_rfl) hd2 ?_
  refine hx_take (i := 32) (oi := _) (v := .slice vs T.length tc) rfl rfl hns (by kernel_rfl) (by kernel_rfl) hQ (by kernel_rfl) (fun _ _ => by kernel_rfl) hd2 ?_
  refine hx_take (i := 34) (oi := _) (v := .slice vs T.length tc) rfl rfl hns (by kernel_rfl) (by kernel_rfl) hQ (by kernel_rfl) (fun _ _ => by kernel_rfl) hd2 ?_
  refine hx_call (i := 33) (oi := _) 16 #[.slice vs T.length tc] rfl rfl (by kernel_rfl) (by kernel_rfl) (by kernel_rfl) (kcited_any vs tc T _ (snext HT.out (hS10.trans hd2)) (by omega) HT3.out) ?_
  rintro e wx63 ⟨q1, rfl, hq1, -, hb⟩
  have hd3 : Since w10 wx63 := hd2.trans hb
  clear hb
  refine ⟨_, rfl, hd3, ?_⟩
  refine hx_call (i := 35) (oi := _) 17 #[.slice vs T.length tc] rfl rfl (by kernel_rfl) (by kernel_rfl) (by kernel_rfl) (rcited_any vs tc T _ (snext HT.out (hS10.trans hd3)) (by omega) HT3.out) ?_
  rintro e wx64 ⟨q2, rfl, hq2, -, hb⟩
  have hd4 : Since w10 wx64 := hd3.trans hb
  replace hq1 := hq1.next hb
  clear hb
  refine ⟨_, rfl, hd4, ?_⟩
  refine hx_call (i := 36) (oi := _) 15 #[.slice (some ⟨q1, 0, none⟩) T.length T.length, .slice (some ⟨q2, 0, none⟩) T.length T.length] rfl rfl (by kernel_rfl) (by kernel_rfl) (by kernel_rfl) (ksame_eq _ _ (citedS T) _ (irow_cited hq1) (irow_cited hq2) (by rw [cited_len]; omega)) ?_
  rintro e wx65 ⟨rfl, hb⟩
  have hd5 : Since w10 wx65 := hd4.trans hb
  replace hq1 := hq1.next hb
  replace hq2 := hq2.next hb
  clear hb
  refine ⟨_, rfl, hd5, ?_⟩
  refine hx_take (i := 37) (oi := _) (v := .bool true) rfl rfl hns (by kernel_rfl) (by kernel_rfl) hQ (by kernel_rfl) (fun _ _ => by kernel_rfl) hd5 ?_
  refine hx_take (i := 38) (oi := _) (v := .bool true) rfl rfl hns (by kernel_rfl) (by kernel_rfl) hQ (by kernel_rfl) (fun _ _ => by kernel_rfl) hd5 ?_
  refine wpAnyH_done (by kernel_rfl) ?_ _
  clear hns hQ
  simp only [List.set_cons_zero, List.set_cons_succ]
  go_wp2_with fail
  go_ret
  exact ⟨rfl, hS0.trans (hS10.trans hd5)⟩
end Go.Proofs.YtdlnmkdbjgbimaaGreatDoor
