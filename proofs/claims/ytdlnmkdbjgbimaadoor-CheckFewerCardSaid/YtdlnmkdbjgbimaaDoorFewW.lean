/- CheckFewer: the walk. -/
import Derived.Test.YtdlnmkdbjgbimaaDoorFewP
import Derived.Test.YtdlnmkdbjgbimaaDoorCkS
import Derived.Test.YtdlnmkdbjgbimaaDoorPick
namespace Go.Proofs.YtdlnmkdbjgbimaaDoor
open Go.RowKit

theorem krow_take {α : Type} {K : Nat} {R : World → Nat → Nat → α → Prop} {W : World} {a : Option Addr} {n c : Nat} {L : List α} (h : KRow K R W (.slice a n c) L) {k : Nat} (hk : k ≤ L.length) : KRow K R W (.slice a (L.take k).length c) (L.take k) := by
  obtain ⟨a', c', h1, h2, h3⟩ := h
  cases h1
  have hl : (L.take k).length = k := by rw [List.length_take]; omega
  refine ⟨a, c, rfl, by omega, fun h0 => ?_⟩
  obtain ⟨b, o, h4, h5⟩ := h3 (by omega)
  refine ⟨b, o, h4, fun j hj => ?_⟩
  rw [List.getElem_take]
  exact h5 j (by omega)
theorem slh_Atom {o : Oper} {x y : Operand} {ev : Operand → Value} {b p n c k : Nat} (ho : o.op = Op.slice 23 x none (some y) none) (hx : ev x = .slice (some ⟨b, p, none⟩) n c) (hy : ev y = .int .i64 (k : Int)) (hk : k ≤ c) (W : World) :
    (execOp ev o).run Tryd.prog W = .ok (.value (.slice (some ⟨b, p, none⟩) k c)) W := by
  have h1 : (k : Int) ≤ (c : Int) := by omega
  have h0 : (0 : Int) ≤ (k : Int) := by omega
  have hn : (k : Int).toNat = k := by omega
  simp only [execOp, ho]
  go_simp
theorem run_slhS (vs : Option Addr) (m tc n : Nat) (h : n ≤ tc) (W : World) : (Instr.sliceAt 24 (.slice vs m tc) none (some (.int .i64 (n : Int))) none).run Tryd.prog W = .ok (.slice vs n tc) W := by
  have h1 : (n : Int) ≤ (tc : Int) := by omega
  have h0 : (0 : Int) ≤ (n : Int) := by omega
  have hn : (n : Int).toNat = n := by omega
  have e : (if tc = 0 then vs else vs.map (fun x : Addr => x.add 0)) = vs := by
    split
    · rfl
    · cases vs <;> rfl
  go_simp
  first | exact e | simpa [Addr.add] using e | skip
theorem lightAs_len {m : Int} {L : List Atm} (h : lightAs m L = true) : (L.length : Int) ≤ m := by
  unfold lightAs at h
  split at h
  · cases h
  · omega
theorem lightC_len {L : List Cls} {F : List Atm} (h : lightCB L F = true) : L.length ≤ 6 ∧ F.length ≤ 12 ∧ ∀ c ∈ L, c.2.length ≤ 3 := by
  unfold lightCB at h
  split at h
  · cases h
  · rw [Bool.and_eq_true] at h
    have h1 := lightAs_len h.1
    refine ⟨by omega, by omega, fun c hc => ?_⟩
    have h2 := List.all_eq_true.1 h.2 c hc
    unfold lightC at h2
    rw [Bool.and_eq_true] at h2
    have h3 := lightAs_len h2.2
    omega
theorem lightS_len {T : List Stp} (h : lightSB T = true) : T.length ≤ 40 ∧ ∀ t ∈ T, t.2.2.length ≤ 20 := by
  unfold lightSB at h
  simp only [Bool.and_eq_true, Bool.not_eq_true', decide_eq_false_iff_not] at h
  refine ⟨by omega, fun t ht => ?_⟩
  have h2 := List.all_eq_true.1 h.2 t ht
  unfold lightX at h2
  simp only [Bool.and_eq_true, Bool.not_eq_true', decide_eq_false_iff_not] at h2
  omega
/-- How a run of Sound, Accepts, May may be called. -/
def Good (w : World) (L : List Cls) (F : List Atm) (T : List Stp) : Prop := Env w ∧ L.length ≤ 100000 ∧ F.length ≤ 100000 ∧ T.length ≤ 1000000 ∧ (∀ c ∈ L, c.2.length ≤ 100) ∧ (∀ c ∈ L, FitsC c) ∧ (∀ a ∈ F, FitsN a) ∧ (∀ t ∈ T, FitsN t.1 ∧ t.2.2.length ≤ 100000)
set_option maxHeartbeats 8000000 in
set_option maxRecDepth 100000 in
theorem fewer_any (va : Option Addr) (lc : Nat) (L : List Cls) (vf : Option Addr) (fc : Nat) (G : List Atm) (vs : Option Addr) (tc : Nat) (T : List Stp) (a_s a_p : List UInt8) (a_n : Int) (a_v0 a_v1 a_v2 a_v3 : Bool) (a_l0 a_l1 a_l2 a_l3 : List UInt8) (cut : Int) (w : World) (hv : RRow w (.slice va L.length lc) L) (hg : ARow w (.slice vf G.length fc) G) (ht : SRow w (.slice vs T.length tc) T)
    (hF : ∀ c ∈ L, FitsC c) (hG : ∀ a ∈ G, FitsN a) (hT : ∀ t ∈ T, FitsN t.1) (_hfa : FitsN ((a_s, a_p, a_n, (a_v0, a_l0), (a_v1, a_l1), (a_v2, a_l2), (a_v3, a_l3)) : Atm)) (c1 : -9223372036854775808 ≤ cut) (c2 : cut ≤ 9223372036854775807) (hE : Env w) :
    Calls Tryd.prog 5 #[.slice va L.length lc, .slice vf G.length fc, .slice vs T.length tc, .agg #[.string ⟨a_s.toArray⟩, .string ⟨a_p.toArray⟩, .int .i64 a_n, .bool a_v0, .string ⟨a_l0.toArray⟩, .bool a_v1, .string ⟨a_l1.toArray⟩, .bool a_v2, .string ⟨a_l2.toArray⟩, .bool a_v3, .string ⟨a_l3.toArray⟩], .int .i64 cut] w fun e w' => e = .returned (.bool true) ∧ Since w w' := by
  have hS0 : Since w (w.alloc (.cells #[.string ⟨a_s.toArray⟩, .string ⟨a_p.toArray⟩, .int .i64 a_n, .bool a_v0, .string ⟨a_l0.toArray⟩, .bool a_v1, .string ⟨a_l1.toArray⟩, .bool a_v2, .string ⟨a_l2.toArray⟩, .bool a_v3, .string ⟨a_l3.toArray⟩] 29)) := (Since.refl w).alloc _
  have hb0 : Cel (w.alloc (.cells #[.string ⟨a_s.toArray⟩, .string ⟨a_p.toArray⟩, .int .i64 a_n, .bool a_v0, .string ⟨a_l0.toArray⟩, .bool a_v1, .string ⟨a_l1.toArray⟩, .bool a_v2, .string ⟨a_l2.toArray⟩, .bool a_v3, .string ⟨a_l3.toArray⟩] 29)) w.heap.size #[.string ⟨a_s.toArray⟩, .string ⟨a_p.toArray⟩, .int .i64 a_n, .bool a_v0, .string ⟨a_l0.toArray⟩, .bool a_v1, .string ⟨a_l1.toArray⟩, .bool a_v2, .string ⟨a_l2.toArray⟩, .bool a_v3, .string ⟨a_l3.toArray⟩] 29 := heap_alloc_new w _
  have ha0 := hb0.at
  have HE := Lib.hid (hE.next hS0)
  have HV := Lib.hid (rnext hv hS0)
  have HG := Lib.hid (anext hg hS0)
  have HT := Lib.hid (snext ht hS0)
  have HFL := Lib.hid hF
  have HFG := Lib.hid hG
  have HFT := Lib.hid hT
  have HC1 := Lib.hid c1
  have HC2 := Lib.hid c2
  clear hE hv hg ht hF hG hT c1 c2 hb0
  go_enter Tryd.func5, Tryd.ntmps5
  go_upto_region 1 with (fail)
  generalize hw1 : w.alloc (.cells #[.string ⟨a_s.toArray⟩, .string ⟨a_p.toArray⟩, .int .i64 a_n, .bool a_v0, .string ⟨a_l0.toArray⟩, .bool a_v1, .string ⟨a_l1.toArray⟩, .bool a_v2, .string ⟨a_l2.toArray⟩, .bool a_v3, .string ⟨a_l3.toArray⟩] 29) = w1 at *
  clear hw1
  obtain ⟨LC, hLC⟩ : ∃ B, Hid (B = lightCB L G) := ⟨_, rfl⟩
  obtain ⟨LS, hLS⟩ : ∃ B, Hid (B = lightSB T) := ⟨_, rfl⟩
  obtain ⟨LA, hLA⟩ : ∃ B, Hid (B = lightB ((a_s, a_p, a_n, (a_v0, a_l0), (a_v1, a_l1), (a_v2, a_l2), (a_v3, a_l3)) : Atm)) := ⟨_, rfl⟩
  have H1 := Lib.hid (fun W (h : Since w1 W) => lightclauses_any _ _ L G W (rnext HV.out h) (anext HG.out h))
  have H2 := Lib.hid (fun W (h : Since w1 W) => lightsteps_any _ T W (snext HT.out h))
  have H3 := Lib.hid (fun W => light_any a_s a_p a_n a_v0 a_v1 a_v2 a_v3 a_l0 a_l1 a_l2 a_l3 W)
  rw [← hLC.out] at H1
  rw [← hLS.out] at H2
  rw [← hLA.out] at H3
  go_wp2_with fail
  refine (lives22_any _ HE.out).mono ?_
  rintro e w2 ⟨rfl, hb2⟩
  cases LC
  · clear ha0
    go_wp2_with fail
    refine (H1.out _ hb2).mono ?_
    rintro e w3 ⟨rfl, hb3⟩
    go_wp2_with fail
    go_ret
    exact ⟨rfl, (hS0.trans hb2).trans hb3⟩
  cases LS
  · clear ha0
    go_wp2_with fail
    refine (H1.out _ hb2).mono ?_
    rintro e w3 ⟨rfl, hb3⟩
    go_wp2_with fail
    refine (H2.out _ (hb2.trans hb3)).mono ?_
    rintro e w4 ⟨rfl, hb4⟩
    go_wp2_with fail
    go_ret
    exact ⟨rfl, ((hS0.trans hb2).trans hb3).trans hb4⟩
  go_wp2_with fail
  refine (H1.out _ hb2).mono ?_
  rintro e w3 ⟨rfl, hb3⟩
  go_wp2_with fail
  refine (H2.out _ (hb2.trans hb3)).mono ?_
  rintro e w4 ⟨rfl, hb4⟩
  have hS4 := (hb2.trans hb3).trans hb4
  have ha4 := ha0.next hS4
  have s0 : w4.cell? ⟨w.heap.size, 0, none⟩ = some (.string ⟨a_s.toArray⟩) := ha4 0 _ rfl
  have s1 : w4.cell? ⟨w.heap.size, 1, none⟩ = some (.string ⟨a_p.toArray⟩) := ha4 1 _ rfl
  have s2 : w4.cell? ⟨w.heap.size, 2, none⟩ = some (.int .i64 a_n) := ha4 2 _ rfl
  have s3 : w4.cell? ⟨w.heap.size, 3, none⟩ = some (.bool a_v0) := ha4 3 _ rfl
  have s4 : w4.cell? ⟨w.heap.size, 4, none⟩ = some (.string ⟨a_l0.toArray⟩) := ha4 4 _ rfl
  have s5 : w4.cell? ⟨w.heap.size, 5, none⟩ = some (.bool a_v1) := ha4 5 _ rfl
  have s6 : w4.cell? ⟨w.heap.size, 6, none⟩ = some (.string ⟨a_l1.toArray⟩) := ha4 6 _ rfl
  have s7 : w4.cell? ⟨w.heap.size, 7, none⟩ = some (.bool a_v2) := ha4 7 _ rfl
  have s8 : w4.cell? ⟨w.heap.size, 8, none⟩ = some (.string ⟨a_l2.toArray⟩) := ha4 8 _ rfl
  have s9 : w4.cell? ⟨w.heap.size, 9, none⟩ = some (.bool a_v3) := ha4 9 _ rfl
  have s10 : w4.cell? ⟨w.heap.size, 10, none⟩ = some (.string ⟨a_l3.toArray⟩) := ha4 10 _ rfl
  cases LA
  · go_wp2_with fail
    refine (H3.out _).mono ?_
    rintro e w5 ⟨rfl, hb5⟩
    go_wp2_with fail
    go_ret
    exact ⟨rfl, (hS0.trans hS4).trans hb5⟩
  by_cases hG0 : G.length = 0
  · have hG1 : (G.length : Int) = 0 := by omega
    go_wp2_with fail
    refine (H3.out _).mono ?_
    rintro e w5 ⟨rfl, hb5⟩
    go_wp2_with fail
    go_ret
    exact ⟨rfl, (hS0.trans hS4).trans hb5⟩
  have hG1 : ((G.length : Int) == 0) = false := by simpa using (by omega : ¬ (G.length : Int) = 0)
  obtain ⟨l1, l2, l3⟩ := lightC_len hLC.out.symm
  obtain ⟨l4, l5⟩ := lightS_len hLS.out.symm
  have hT2 : ∀ t ∈ T, FitsN t.1 ∧ t.2.2.length ≤ 100000 := fun t h => ⟨HFT.out t h, by have := l5 t h; omega⟩
  have hL9 : ∀ c ∈ L, c.2.length ≤ 100 := fun c h => by have := l3 c h; omega
  have hm1 : 1 ≤ (G.length : Int) + 1 := by omega
  obtain ⟨k, hk, hkl⟩ : ∃ k : Nat, cut % ((G.length : Int) + 1) = (k : Int) ∧ k ≤ G.length := by
    have h1 := Int.emod_nonneg cut (show (G.length : Int) + 1 ≠ 0 by omega)
    have h2 := Int.emod_lt_of_pos cut (show 0 < (G.length : Int) + 1 by omega)
    exact ⟨(cut % ((G.length : Int) + 1)).toNat, by omega, by omega⟩
  obtain ⟨n, hn, hnl⟩ : ∃ k : Nat, cut % ((T.length : Int) + 1) = (k : Int) ∧ k ≤ T.length := by
    have h1 := Int.emod_nonneg cut (show (T.length : Int) + 1 ≠ 0 by omega)
    have h2 := Int.emod_lt_of_pos cut (show 0 < (T.length : Int) + 1 by omega)
    exact ⟨(cut % ((T.length : Int) + 1)).toNat, by omega, by omega⟩
  have HP1 := Lib.hid (fun W => pick_any cut ((G.length : Int) + 1) W HC1.out HC2.out (by omega) (by omega))
  have HP2 := Lib.hid (fun W => pick_any cut ((T.length : Int) + 1) W HC1.out HC2.out (by omega) (by omega))
  rw [hk] at HP1
  rw [hn] at HP2
  obtain ⟨bf, of, rfl, hcf, -⟩ := HG.out.get (by omega)
  have hkc : k ≤ fc := by omega
  have HACC1 := Lib.hid (fun W (h : Since w1 W) => kaccepts_any va lc L (some ⟨bf, of, none⟩) fc (G.take k) vs tc T a_s a_p a_n a_v0 a_v1 a_v2 a_v3 a_l0 a_l1 a_l2 a_l3 W (rnext HV.out h) (anext (krow_take HG.out hkl) h) (snext HT.out h) (by omega) (by rw [List.length_take]; omega) (by omega) hL9 HFL.out (fun a h => HFG.out a (List.mem_of_mem_take h)) hT2 (HE.out.next h))
  have HACC2 := Lib.hid (fun W (h : Since w1 W) => kaccepts_any va lc L (some ⟨bf, of, none⟩) fc G vs tc T a_s a_p a_n a_v0 a_v1 a_v2 a_v3 a_l0 a_l1 a_l2 a_l3 W (rnext HV.out h) (anext HG.out h) (snext HT.out h) (by omega) (by omega) (by omega) hL9 HFL.out HFG.out hT2 (HE.out.next h))
  have HMAY := Lib.hid (fun W (h : Since w1 W) => r16may_any _ _ L G W (rnext HV.out h) (anext HG.out h) (by omega) (by omega) (fun c h => by have := hL9 c h; omega) HFL.out HFG.out (HE.out.next h))
  have HSO1 := Lib.hid (fun W (h : Since w1 W) => ksound_main va lc L (some ⟨bf, of, none⟩) fc G vs tc T W (rnext HV.out h) (anext HG.out h) (snext HT.out h) (by omega) (by omega) (by omega) hL9 HFL.out HFG.out hT2 (HE.out.next h))
  have HSO2 := Lib.hid (fun W (h : Since w1 W) => ksound_main va lc L (some ⟨bf, of, none⟩) fc G vs tc (T.take n) W (rnext HV.out h) (anext HG.out h) (snext (krow_take HT.out hnl) h) (by omega) (by omega) (by rw [List.length_take]; omega) hL9 HFL.out HFG.out (fun t h => hT2 t (List.mem_of_mem_take h)) (HE.out.next h))
  obtain ⟨A1, hA1⟩ : ∃ B, Hid (B = accB L (G.take k) T ((a_s, a_p, a_n, (a_v0, a_l0), (a_v1, a_l1), (a_v2, a_l2), (a_v3, a_l3)) : Atm)) := ⟨_, rfl⟩
  obtain ⟨A2, hA2⟩ : ∃ B, Hid (B = accB L G T ((a_s, a_p, a_n, (a_v0, a_l0), (a_v1, a_l1), (a_v2, a_l2), (a_v3, a_l3)) : Atm)) := ⟨_, rfl⟩
  obtain ⟨MB, hMB⟩ : ∃ B, Hid (B = mayC L G) := ⟨_, rfl⟩
  obtain ⟨at1, er1, hs1⟩ : ∃ x y, Hid ((x, y) = soundS L G T) := ⟨_, _, rfl⟩
  obtain ⟨at2, er2, hs2⟩ : ∃ x y, Hid ((x, y) = soundS L G (T.take n)) := ⟨_, _, rfl⟩
  have hf1 : Hid (A1 = true → MB = true → A2 = true) := by
    intro h1 h2
    rw [hA2.out]
    exact few_acc k (hA1.out.symm.trans h1) (hMB.out.symm.trans h2)
  have hf2 : Hid (er1 = 0 → er2 = 0 ∧ at1 = 0) := by
    intro h
    have h1 : (soundS L G T).2 = 0 := by rw [← hs1.out]; exact h
    refine ⟨?_, ?_⟩
    · have h2 := few_ok n h1; rw [← hs2.out] at h2; exact h2
    · have h2 := sound_at h1; rw [← hs1.out] at h2; exact h2
  have hf3 : Hid (er1 = 15 → (er2 = 0 ↔ (n : Int) ≤ at1)) := by
    intro h
    have h1 : (soundS L G T).2 = 15 := by rw [← hs1.out]; exact h
    have h2 := few_bad n hnl h1
    rw [← hs1.out, ← hs2.out] at h2
    exact h2
  rw [← hA1.out, show (G.take k).length = k by rw [List.length_take]; omega] at HACC1
  rw [← hA2.out] at HACC2
  rw [← hMB.out] at HMAY
  rw [← hs1.out] at HSO1
  rw [← hs2.out, show (T.take n).length = n by rw [List.length_take]; omega] at HSO2
  have hntc : n ≤ tc := by obtain ⟨_, _, h1, h2, _⟩ := HT.out; cases h1; omega
  simp only at HSO1 HSO2
  have hwz1 : wrap64 ((G.length : Int) + 1) = (G.length : Int) + 1 := IntWalk.wrap64_in _ (by omega)
  have hwz2 : wrap64 ((T.length : Int) + 1) = (T.length : Int) + 1 := IntWalk.wrap64_in _ (by omega)
  have hslc := fun W => run_slhS vs T.length tc n hntc W
  clear hA1 hA2 hMB hs1 hs2 hT2 hL9 l1 l2 l3 l5 hLC hLS hLA hk hn H1 H2 hm1
  go_wp2_with fail
  refine (H3.out _).mono ?_
  rintro e w5 ⟨rfl, hb5⟩
  have hS5 := hS4.trans hb5
  have ha5 := ha0.next hS5
  clear s0 s1 s2 s3 s4 s5 s6 s7 s8 s9 s10 ha4 ha0
  go_wp2_with fail
  refine (HP1.out _).mono ?_
  rintro e w5 ⟨rfl, rfl⟩
  go_upto_region 6 with (fail)
  have hS9 := hS5
  cases A1
  case false =>
    replace hS5 := hS5.trans ((Since.refl w5).drew)
    replace ha5 := ha5.next ((Since.refl w5).drew)
    refine hx_begin (S := fun W => (Since w1 W) ∧ (At W w.heap.size 0 #[.string ⟨a_s.toArray⟩, .string ⟨a_p.toArray⟩, .int .i64 a_n, .bool a_v0, .string ⟨a_l0.toArray⟩, .bool a_v1, .string ⟨a_l1.toArray⟩, .bool a_v2, .string ⟨a_l2.toArray⟩, .bool a_v3, .string ⟨a_l3.toArray⟩])) (by kernel_rfl) ⟨hS5, ha5⟩ (by kernel_rfl) (fun _ _ _ _ _ h => h) (fun hns hQ => ?_)
    refine hx_take (i := 0) (oi := _) (v := .slice va L.length lc) rfl rfl hns (by kernel_rfl) (by kernel_rfl) hQ (by kernel_rfl) (fun _ _ => by kernel_rfl) ⟨hS5, ha5⟩ ?_
    refine hx_take (i := 1) (oi := _) (v := .slice (some ⟨bf, of, none⟩) G.length fc) rfl rfl hns (by kernel_rfl) (by kernel_rfl) hQ (by kernel_rfl) (fun _ _ => by kernel_rfl) ⟨hS5, ha5⟩ ?_
    refine hx_take (i := 2) (oi := _) (v := .int .i64 (k : Int)) rfl rfl hns (by kernel_rfl) (by kernel_rfl) hQ (by kernel_rfl) (fun _ _ => by kernel_rfl) ⟨hS5, ha5⟩ ?_
    refine hx_take (i := 3) (oi := _) (v := .slice (some ⟨bf, of, none⟩) k fc) rfl rfl hns (by kernel_rfl) (by kernel_rfl) hQ (by kernel_rfl) (fun W _ => slh_Atom (n := G.length) rfl (by kernel_rfl) (by kernel_rfl) hkc W) ⟨hS5, ha5⟩ ?_
    refine hx_take (i := 4) (oi := _) (v := .slice vs T.length tc) rfl rfl hns (by kernel_rfl) (by kernel_rfl) hQ (by kernel_rfl) (fun _ _ => by kernel_rfl) ⟨hS5, ha5⟩ ?_
    refine hx_take (i := 5) (oi := _) (v := .agg #[.string ⟨a_s.toArray⟩, .string ⟨a_p.toArray⟩, .int .i64 a_n, .bool a_v0, .string ⟨a_l0.toArray⟩, .bool a_v1, .string ⟨a_l1.toArray⟩, .bool a_v2, .string ⟨a_l2.toArray⟩, .bool a_v3, .string ⟨a_l3.toArray⟩]) rfl rfl hns (by kernel_rfl) (by kernel_rfl) hQ (by kernel_rfl) (fun W hW => ld_at rfl (by kernel_rfl) (by kernel_rfl) (by kernel_rfl) W (hW.2)) ⟨hS5, ha5⟩ ?_
    refine hx_call (i := 6) (oi := _) 18 #[.slice va L.length lc, .slice (some ⟨bf, of, none⟩) k fc, .slice vs T.length tc, .agg #[.string ⟨a_s.toArray⟩, .string ⟨a_p.toArray⟩, .int .i64 a_n, .bool a_v0, .string ⟨a_l0.toArray⟩, .bool a_v1, .string ⟨a_l1.toArray⟩, .bool a_v2, .string ⟨a_l2.toArray⟩, .bool a_v3, .string ⟨a_l3.toArray⟩]] rfl rfl (by kernel_rfl) (by kernel_rfl) (by kernel_rfl) (HACC1.out _ hS5) ?_
    rintro e wx61 ⟨rfl, hb⟩
    replace hS5 := hS5.trans hb
    replace ha5 := ha5.next hb
    clear hb
    refine ⟨_, rfl, ⟨hS5, ha5⟩, ?_⟩
    refine hx_take (i := 7) (oi := _) (v := .bool false) rfl rfl hns (by kernel_rfl) (by kernel_rfl) hQ (by kernel_rfl) (fun _ _ => by kernel_rfl) ⟨hS5, ha5⟩ ?_
    refine hx_off (i := 8) (oi := _) rfl rfl hns (by kernel_rfl) (by kernel_rfl) hQ (by kernel_rfl) ⟨hS5, ha5⟩ ?_
    refine hx_off (i := 9) (oi := _) rfl rfl hns (by kernel_rfl) (by kernel_rfl) hQ (by kernel_rfl) ⟨hS5, ha5⟩ ?_
    refine hx_off (i := 10) (oi := _) rfl rfl hns (by kernel_rfl) (by kernel_rfl) hQ (by kernel_rfl) ⟨hS5, ha5⟩ ?_
    refine hx_take (i := 11) (oi := _) (v := .bool false) rfl rfl hns (by kernel_rfl) (by kernel_rfl) hQ (by kernel_rfl) (fun _ _ => by kernel_rfl) ⟨hS5, ha5⟩ ?_
    refine hx_take (i := 12) (oi := _) (v := .bool false) rfl rfl hns (by kernel_rfl) (by kernel_rfl) hQ (by kernel_rfl) (fun _ _ => by kernel_rfl) ⟨hS5, ha5⟩ ?_
    refine hx_off (i := 13) (oi := _) rfl rfl hns (by kernel_rfl) (by kernel_rfl) hQ (by kernel_rfl) ⟨hS5, ha5⟩ ?_
    refine hx_off (i := 14) (oi := _) rfl rfl hns (by kernel_rfl) (by kernel_rfl) hQ (by kernel_rfl) ⟨hS5, ha5⟩ ?_
    refine hx_off (i := 15) (oi := _) rfl rfl hns (by kernel_rfl) (by kernel_rfl) hQ (by kernel_rfl) ⟨hS5, ha5⟩ ?_
    refine hx_off (i := 16) (oi := _) rfl rfl hns (by kernel_rfl) (by kernel_rfl) hQ (by kernel_rfl) ⟨hS5, ha5⟩ ?_
    refine hx_off (i := 17) (oi := _) rfl rfl hns (by kernel_rfl) (by kernel_rfl) hQ (by kernel_rfl) ⟨hS5, ha5⟩ ?_
    refine hx_off (i := 18) (oi := _) rfl rfl hns (by kernel_rfl) (by kernel_rfl) hQ (by kernel_rfl) ⟨hS5, ha5⟩ ?_
    refine hx_take (i := 19) (oi := _) (v := .bool false) rfl rfl hns (by kernel_rfl) (by kernel_rfl) hQ (by kernel_rfl) (fun _ _ => by kernel_rfl) ⟨hS5, ha5⟩ ?_
    refine wpAnyH_done (by kernel_rfl) ?_ _
    clear hns hQ
    simp only [List.set_cons_zero, List.set_cons_succ]
    go_wp2_with fail
    refine (HSO1.out _ hS5).mono ?_
    rintro e w7 ⟨rfl, hb7⟩
    have hS7 := hS5.trans hb7
    go_wp2_with fail
    refine (HP2.out _).mono ?_
    rintro e w8 ⟨rfl, rfl⟩
    go_wp2_with fail
    refine (HSO2.out _ hS7).mono ?_
    rintro e w9 ⟨rfl, hb9⟩
    have hSE := hS0.trans (hS7.trans hb9)
    clear HSO1 HSO2 HACC1 HACC2 HMAY HP1 HP2 hslc
    by_cases he1 : er1 = 0
    · obtain ⟨q1, q2⟩ := hf2.out he1
      subst he1; subst q1; subst q2
      go_wp2_with fail
      go_ret
      exact ⟨rfl, hSE⟩
    · have hz1 : (er1 == 0) = false := by simpa using he1
      by_cases he2 : er1 = 15
      · subst he2
        have hq := hf3.out rfl
        by_cases he3 : er2 = 0
        · subst he3
          have hle := hq.1 rfl
          clear hq
          go_wp2_with fail
          go_ret
          exact ⟨rfl, hSE⟩
        · have hle : ¬ (n : Int) ≤ at1 := fun h => he3 (hq.2 h)
          have hz3 : (er2 == 0) = false := by simpa using he3
          clear hq
          go_wp2_with fail
          go_ret
          exact ⟨ret_bool (by simp [hle]), hSE⟩
      · have hz2 : (er1 != 15) = true := by simpa using he2
        go_wp2_with fail
        go_ret
        exact ⟨rfl, hSE⟩
  case true =>
    cases MB
    case false =>
      replace hS5 := hS5.trans ((Since.refl w5).drew)
      replace ha5 := ha5.next ((Since.refl w5).drew)
      refine hx_begin (S := fun W => (Since w1 W) ∧ (At W w.heap.size 0 #[.string ⟨a_s.toArray⟩, .string ⟨a_p.toArray⟩, .int .i64 a_n, .bool a_v0, .string ⟨a_l0.toArray⟩, .bool a_v1, .string ⟨a_l1.toArray⟩, .bool a_v2, .string ⟨a_l2.toArray⟩, .bool a_v3, .string ⟨a_l3.toArray⟩])) (by kernel_rfl) ⟨hS5, ha5⟩ (by kernel_rfl) (fun _ _ _ _ _ h => h) (fun hns hQ => ?_)
      refine hx_take (i := 0) (oi := _) (v := .slice va L.length lc) rfl rfl hns (by kernel_rfl) (by kernel_rfl) hQ (by kernel_rfl) (fun _ _ => by kernel_rfl) ⟨hS5, ha5⟩ ?_
      refine hx_take (i := 1) (oi := _) (v := .slice (some ⟨bf, of, none⟩) G.length fc) rfl rfl hns (by kernel_rfl) (by kernel_rfl) hQ (by kernel_rfl) (fun _ _ => by kernel_rfl) ⟨hS5, ha5⟩ ?_
      refine hx_take (i := 2) (oi := _) (v := .int .i64 (k : Int)) rfl rfl hns (by kernel_rfl) (by kernel_rfl) hQ (by kernel_rfl) (fun _ _ => by kernel_rfl) ⟨hS5, ha5⟩ ?_
      refine hx_take (i := 3) (oi := _) (v := .slice (some ⟨bf, of, none⟩) k fc) rfl rfl hns (by kernel_rfl) (by kernel_rfl) hQ (by kernel_rfl) (fun W _ => slh_Atom (n := G.length) rfl (by kernel_rfl) (by kernel_rfl) hkc W) ⟨hS5, ha5⟩ ?_
      refine hx_take (i := 4) (oi := _) (v := .slice vs T.length tc) rfl rfl hns (by kernel_rfl) (by kernel_rfl) hQ (by kernel_rfl) (fun _ _ => by kernel_rfl) ⟨hS5, ha5⟩ ?_
      refine hx_take (i := 5) (oi := _) (v := .agg #[.string ⟨a_s.toArray⟩, .string ⟨a_p.toArray⟩, .int .i64 a_n, .bool a_v0, .string ⟨a_l0.toArray⟩, .bool a_v1, .string ⟨a_l1.toArray⟩, .bool a_v2, .string ⟨a_l2.toArray⟩, .bool a_v3, .string ⟨a_l3.toArray⟩]) rfl rfl hns (by kernel_rfl) (by kernel_rfl) hQ (by kernel_rfl) (fun W hW => ld_at rfl (by kernel_rfl) (by kernel_rfl) (by kernel_rfl) W (hW.2)) ⟨hS5, ha5⟩ ?_
      refine hx_call (i := 6) (oi := _) 18 #[.slice va L.length lc, .slice (some ⟨bf, of, none⟩) k fc, .slice vs T.length tc, .agg #[.string ⟨a_s.toArray⟩, .string ⟨a_p.toArray⟩, .int .i64 a_n, .bool a_v0, .string ⟨a_l0.toArray⟩, .bool a_v1, .string ⟨a_l1.toArray⟩, .bool a_v2, .string ⟨a_l2.toArray⟩, .bool a_v3, .string ⟨a_l3.toArray⟩]] rfl rfl (by kernel_rfl) (by kernel_rfl) (by kernel_rfl) (HACC1.out _ hS5) ?_
      rintro e wx61 ⟨rfl, hb⟩
      replace hS5 := hS5.trans hb
      replace ha5 := ha5.next hb
      clear hb
      refine ⟨_, rfl, ⟨hS5, ha5⟩, ?_⟩
      refine hx_take (i := 7) (oi := _) (v := .bool true) rfl rfl hns (by kernel_rfl) (by kernel_rfl) hQ (by kernel_rfl) (fun _ _ => by kernel_rfl) ⟨hS5, ha5⟩ ?_
      refine hx_take (i := 8) (oi := _) (v := .slice va L.length lc) rfl rfl hns (by kernel_rfl) (by kernel_rfl) hQ (by kernel_rfl) (fun _ _ => by kernel_rfl) ⟨hS5, ha5⟩ ?_
      refine hx_take (i := 9) (oi := _) (v := .slice (some ⟨bf, of, none⟩) G.length fc) rfl rfl hns (by kernel_rfl) (by kernel_rfl) hQ (by kernel_rfl) (fun _ _ => by kernel_rfl) ⟨hS5, ha5⟩ ?_
      refine hx_call (i := 10) (oi := _) 9 #[.slice va L.length lc, .slice (some ⟨bf, of, none⟩) G.length fc] rfl rfl (by kernel_rfl) (by kernel_rfl) (by kernel_rfl) (HMAY.out _ hS5) ?_
      rintro e wx62 ⟨rfl, hb⟩
      replace hS5 := hS5.trans hb
      replace ha5 := ha5.next hb
      clear hb
      refine ⟨_, rfl, ⟨hS5, ha5⟩, ?_⟩
      refine hx_take (i := 11) (oi := _) (v := .bool false) rfl rfl hns (by kernel_rfl) (by kernel_rfl) hQ (by kernel_rfl) (fun _ _ => by kernel_rfl) ⟨hS5, ha5⟩ ?_
      refine hx_take (i := 12) (oi := _) (v := .bool false) rfl rfl hns (by kernel_rfl) (by kernel_rfl) hQ (by kernel_rfl) (fun _ _ => by kernel_rfl) ⟨hS5, ha5⟩ ?_
      refine hx_off (i := 13) (oi := _) rfl rfl hns (by kernel_rfl) (by kernel_rfl) hQ (by kernel_rfl) ⟨hS5, ha5⟩ ?_
      refine hx_off (i := 14) (oi := _) rfl rfl hns (by kernel_rfl) (by kernel_rfl) hQ (by kernel_rfl) ⟨hS5, ha5⟩ ?_
      refine hx_off (i := 15) (oi := _) rfl rfl hns (by kernel_rfl) (by kernel_rfl) hQ (by kernel_rfl) ⟨hS5, ha5⟩ ?_
      refine hx_off (i := 16) (oi := _) rfl rfl hns (by kernel_rfl) (by kernel_rfl) hQ (by kernel_rfl) ⟨hS5, ha5⟩ ?_
      refine hx_off (i := 17) (oi := _) rfl rfl hns (by kernel_rfl) (by kernel_rfl) hQ (by kernel_rfl) ⟨hS5, ha5⟩ ?_
      refine hx_off (i := 18) (oi := _) rfl rfl hns (by kernel_rfl) (by kernel_rfl) hQ (by kernel_rfl) ⟨hS5, ha5⟩ ?_
      refine hx_take (i := 19) (oi := _) (v := .bool false) rfl rfl hns (by kernel_rfl) (by kernel_rfl) hQ (by kernel_rfl) (fun _ _ => by kernel_rfl) ⟨hS5, ha5⟩ ?_
      refine wpAnyH_done (by kernel_rfl) ?_ _
      clear hns hQ
      simp only [List.set_cons_zero, List.set_cons_succ]
      go_wp2_with fail
      refine (HSO1.out _ hS5).mono ?_
      rintro e w7 ⟨rfl, hb7⟩
      have hS7 := hS5.trans hb7
      go_wp2_with fail
      refine (HP2.out _).mono ?_
      rintro e w8 ⟨rfl, rfl⟩
      go_wp2_with fail
      refine (HSO2.out _ hS7).mono ?_
      rintro e w9 ⟨rfl, hb9⟩
      have hSE := hS0.trans (hS7.trans hb9)
      clear HSO1 HSO2 HACC1 HACC2 HMAY HP1 HP2 hslc
      by_cases he1 : er1 = 0
      · obtain ⟨q1, q2⟩ := hf2.out he1
        subst he1; subst q1; subst q2
        go_wp2_with fail
        go_ret
        exact ⟨rfl, hSE⟩
      · have hz1 : (er1 == 0) = false := by simpa using he1
        by_cases he2 : er1 = 15
        · subst he2
          have hq := hf3.out rfl
          by_cases he3 : er2 = 0
          · subst he3
            have hle := hq.1 rfl
            clear hq
            go_wp2_with fail
            go_ret
            exact ⟨rfl, hSE⟩
          · have hle : ¬ (n : Int) ≤ at1 := fun h => he3 (hq.2 h)
            have hz3 : (er2 == 0) = false := by simpa using he3
            clear hq
            go_wp2_with fail
            go_ret
            exact ⟨ret_bool (by simp [hle]), hSE⟩
        · have hz2 : (er1 != 15) = true := by simpa using he2
          go_wp2_with fail
          go_ret
          exact ⟨rfl, hSE⟩
    case true =>
      have hA2t := hf1.out rfl rfl
      subst hA2t
      replace hS5 := hS5.trans ((Since.refl w5).drew)
      replace ha5 := ha5.next ((Since.refl w5).drew)
      refine hx_begin (S := fun W => (Since w1 W) ∧ (At W w.heap.size 0 #[.string ⟨a_s.toArray⟩, .string ⟨a_p.toArray⟩, .int .i64 a_n, .bool a_v0, .string ⟨a_l0.toArray⟩, .bool a_v1, .string ⟨a_l1.toArray⟩, .bool a_v2, .string ⟨a_l2.toArray⟩, .bool a_v3, .string ⟨a_l3.toArray⟩])) (by kernel_rfl) ⟨hS5, ha5⟩ (by kernel_rfl) (fun _ _ _ _ _ h => h) (fun hns hQ => ?_)
      refine hx_take (i := 0) (oi := _) (v := .slice va L.length lc) rfl rfl hns (by kernel_rfl) (by kernel_rfl) hQ (by kernel_rfl) (fun _ _ => by kernel_rfl) ⟨hS5, ha5⟩ ?_
      refine hx_take (i := 1) (oi := _) (v := .slice (some ⟨bf, of, none⟩) G.length fc) rfl rfl hns (by kernel_rfl) (by kernel_rfl) hQ (by kernel_rfl) (fun _ _ => by kernel_rfl) ⟨hS5, ha5⟩ ?_
      refine hx_take (i := 2) (oi := _) (v := .int .i64 (k : Int)) rfl rfl hns (by kernel_rfl) (by kernel_rfl) hQ (by kernel_rfl) (fun _ _ => by kernel_rfl) ⟨hS5, ha5⟩ ?_
      refine hx_take (i := 3) (oi := _) (v := .slice (some ⟨bf, of, none⟩) k fc) rfl rfl hns (by kernel_rfl) (by kernel_rfl) hQ (by kernel_rfl) (fun W _ => slh_Atom (n := G.length) rfl (by kernel_rfl) (by kernel_rfl) hkc W) ⟨hS5, ha5⟩ ?_
      refine hx_take (i := 4) (oi := _) (v := .slice vs T.length tc) rfl rfl hns (by kernel_rfl) (by kernel_rfl) hQ (by kernel_rfl) (fun _ _ => by kernel_rfl) ⟨hS5, ha5⟩ ?_
      refine hx_take (i := 5) (oi := _) (v := .agg #[.string ⟨a_s.toArray⟩, .string ⟨a_p.toArray⟩, .int .i64 a_n, .bool a_v0, .string ⟨a_l0.toArray⟩, .bool a_v1, .string ⟨a_l1.toArray⟩, .bool a_v2, .string ⟨a_l2.toArray⟩, .bool a_v3, .string ⟨a_l3.toArray⟩]) rfl rfl hns (by kernel_rfl) (by kernel_rfl) hQ (by kernel_rfl) (fun W hW => ld_at rfl (by kernel_rfl) (by kernel_rfl) (by kernel_rfl) W (hW.2)) ⟨hS5, ha5⟩ ?_
      refine hx_call (i := 6) (oi := _) 18 #[.slice va L.length lc, .slice (some ⟨bf, of, none⟩) k fc, .slice vs T.length tc, .agg #[.string ⟨a_s.toArray⟩, .string ⟨a_p.toArray⟩, .int .i64 a_n, .bool a_v0, .string ⟨a_l0.toArray⟩, .bool a_v1, .string ⟨a_l1.toArray⟩, .bool a_v2, .string ⟨a_l2.toArray⟩, .bool a_v3, .string ⟨a_l3.toArray⟩]] rfl rfl (by kernel_rfl) (by kernel_rfl) (by kernel_rfl) (HACC1.out _ hS5) ?_
      rintro e wx61 ⟨rfl, hb⟩
      replace hS5 := hS5.trans hb
      replace ha5 := ha5.next hb
      clear hb
      refine ⟨_, rfl, ⟨hS5, ha5⟩, ?_⟩
      refine hx_take (i := 7) (oi := _) (v := .bool true) rfl rfl hns (by kernel_rfl) (by kernel_rfl) hQ (by kernel_rfl) (fun _ _ => by kernel_rfl) ⟨hS5, ha5⟩ ?_
      refine hx_take (i := 8) (oi := _) (v := .slice va L.length lc) rfl rfl hns (by kernel_rfl) (by kernel_rfl) hQ (by kernel_rfl) (fun _ _ => by kernel_rfl) ⟨hS5, ha5⟩ ?_
      refine hx_take (i := 9) (oi := _) (v := .slice (some ⟨bf, of, none⟩) G.length fc) rfl rfl hns (by kernel_rfl) (by kernel_rfl) hQ (by kernel_rfl) (fun _ _ => by kernel_rfl) ⟨hS5, ha5⟩ ?_
      refine hx_call (i := 10) (oi := _) 9 #[.slice va L.length lc, .slice (some ⟨bf, of, none⟩) G.length fc] rfl rfl (by kernel_rfl) (by kernel_rfl) (by kernel_rfl) (HMAY.out _ hS5) ?_
      rintro e wx62 ⟨rfl, hb⟩
      replace hS5 := hS5.trans hb
      replace ha5 := ha5.next hb
      clear hb
      refine ⟨_, rfl, ⟨hS5, ha5⟩, ?_⟩
      refine hx_take (i := 11) (oi := _) (v := .bool true) rfl rfl hns (by kernel_rfl) (by kernel_rfl) hQ (by kernel_rfl) (fun _ _ => by kernel_rfl) ⟨hS5, ha5⟩ ?_
      refine hx_take (i := 12) (oi := _) (v := .bool true) rfl rfl hns (by kernel_rfl) (by kernel_rfl) hQ (by kernel_rfl) (fun _ _ => by kernel_rfl) ⟨hS5, ha5⟩ ?_
      refine hx_take (i := 13) (oi := _) (v := .slice va L.length lc) rfl rfl hns (by kernel_rfl) (by kernel_rfl) hQ (by kernel_rfl) (fun _ _ => by kernel_rfl) ⟨hS5, ha5⟩ ?_
      refine hx_take (i := 14) (oi := _) (v := .slice (some ⟨bf, of, none⟩) G.length fc) rfl rfl hns (by kernel_rfl) (by kernel_rfl) hQ (by kernel_rfl) (fun _ _ => by kernel_rfl) ⟨hS5, ha5⟩ ?_
      refine hx_take (i := 15) (oi := _) (v := .slice vs T.length tc) rfl rfl hns (by kernel_rfl) (by kernel_rfl) hQ (by kernel_rfl) (fun _ _ => by kernel_rfl) ⟨hS5, ha5⟩ ?_
      refine hx_take (i := 16) (oi := _) (v := .agg #[.string ⟨a_s.toArray⟩, .string ⟨a_p.toArray⟩, .int .i64 a_n, .bool a_v0, .string ⟨a_l0.toArray⟩, .bool a_v1, .string ⟨a_l1.toArray⟩, .bool a_v2, .string ⟨a_l2.toArray⟩, .bool a_v3, .string ⟨a_l3.toArray⟩]) rfl rfl hns (by kernel_rfl) (by kernel_rfl) hQ (by kernel_rfl) (fun W hW => ld_at rfl (by kernel_rfl) (by kernel_rfl) (by kernel_rfl) W (hW.2)) ⟨hS5, ha5⟩ ?_
      refine hx_call (i := 17) (oi := _) 18 #[.slice va L.length lc, .slice (some ⟨bf, of, none⟩) G.length fc, .slice vs T.length tc, .agg #[.string ⟨a_s.toArray⟩, .string ⟨a_p.toArray⟩, .int .i64 a_n, .bool a_v0, .string ⟨a_l0.toArray⟩, .bool a_v1, .string ⟨a_l1.toArray⟩, .bool a_v2, .string ⟨a_l2.toArray⟩, .bool a_v3, .string ⟨a_l3.toArray⟩]] rfl rfl (by kernel_rfl) (by kernel_rfl) (by kernel_rfl) (HACC2.out _ hS5) ?_
      rintro e wx63 ⟨rfl, hb⟩
      replace hS5 := hS5.trans hb
      replace ha5 := ha5.next hb
      clear hb
      refine ⟨_, rfl, ⟨hS5, ha5⟩, ?_⟩
      refine hx_take (i := 18) (oi := _) (v := .bool false) rfl rfl hns (by kernel_rfl) (by kernel_rfl) hQ (by kernel_rfl) (fun _ _ => by kernel_rfl) ⟨hS5, ha5⟩ ?_
      refine hx_take (i := 19) (oi := _) (v := .bool false) rfl rfl hns (by kernel_rfl) (by kernel_rfl) hQ (by kernel_rfl) (fun _ _ => by kernel_rfl) ⟨hS5, ha5⟩ ?_
      refine wpAnyH_done (by kernel_rfl) ?_ _
      clear hns hQ
      simp only [List.set_cons_zero, List.set_cons_succ]
      go_wp2_with fail
      refine (HSO1.out _ hS5).mono ?_
      rintro e w7 ⟨rfl, hb7⟩
      have hS7 := hS5.trans hb7
      go_wp2_with fail
      refine (HP2.out _).mono ?_
      rintro e w8 ⟨rfl, rfl⟩
      go_wp2_with fail
      refine (HSO2.out _ hS7).mono ?_
      rintro e w9 ⟨rfl, hb9⟩
      have hSE := hS0.trans (hS7.trans hb9)
      clear HSO1 HSO2 HACC1 HACC2 HMAY HP1 HP2 hslc
      by_cases he1 : er1 = 0
      · obtain ⟨q1, q2⟩ := hf2.out he1
        subst he1; subst q1; subst q2
        go_wp2_with fail
        go_ret
        exact ⟨rfl, hSE⟩
      · have hz1 : (er1 == 0) = false := by simpa using he1
        by_cases he2 : er1 = 15
        · subst he2
          have hq := hf3.out rfl
          by_cases he3 : er2 = 0
          · subst he3
            have hle := hq.1 rfl
            clear hq
            go_wp2_with fail
            go_ret
            exact ⟨rfl, hSE⟩
          · have hle : ¬ (n : Int) ≤ at1 := fun h => he3 (hq.2 h)
            have hz3 : (er2 == 0) = false := by simpa using he3
            clear hq
            go_wp2_with fail
            go_ret
            exact ⟨ret_bool (by simp [hle]), hSE⟩
        · have hz2 : (er1 != 15) = true := by simpa using he2
          go_wp2_with fail
          go_ret
          exact ⟨rfl, hSE⟩
end Go.Proofs.YtdlnmkdbjgbimaaDoor
