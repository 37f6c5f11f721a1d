/- FormedNames returns true. -/
import Derived.Test.YtpkggopaigledaaDoorFpP
import Derived.Test.YtpkggopaigledaaDoorFoD
namespace Go.Proofs.YtpkggopaigledaaDoor
open Go.RowKit

def wantL : List Int := [3, 5, 5, 4, 6, 11, 5, 4, 4, 6, 7, 8, 6, 11, 0, 9]
theorem bent_any (i : Nat) (hi : i < 16) (w : World) (hE : Env w) : Calls Tryd.prog 23 #[.int .i64 (i : Int)] w fun e w' => e = .returned (.int .i64 (wantL.getD i 0)) ∧ Since w w' := by
  match i, hi with
  | 0, _ => exact bent0_any w hE
  | 1, _ => exact bent1_any w hE
  | 2, _ => exact bent2_any w hE
  | 3, _ => exact bent3_any w hE
  | 4, _ => exact bent4_any w hE
  | 5, _ => exact bent5_any w hE
  | 6, _ => exact bent6_any w hE
  | 7, _ => exact bent7_any w hE
  | 8, _ => exact bent8_any w hE
  | 9, _ => exact bent9_any w hE
  | 10, _ => exact bent10_any w hE
  | 11, _ => exact bent11_any w hE
  | 12, _ => exact bent12_any w hE
  | 13, _ => exact bent13_any w hE
  | 14, _ => exact bent14_any w hE
  | 15, _ => exact bent15_any w hE
  | k + 16, hk => exact absurd hk (by omega)
theorem run_bent (args : Array Value) (w : World) : (callFunc 23 args).run Tryd.prog w = .ok (.enter 23 args) w := by kernel_rfl
set_option maxHeartbeats 0 in
set_option maxRecDepth 100000 in
theorem fnames_any (w : World) (hE : Env w) : Calls Tryd.prog 7 #[] w fun e w' => e = .returned (.bool true) ∧ Since w w' := by
  have HE := Lib.hid hE
  clear hE
  go_enter Tryd.func7, Tryd.ntmps7
  go_wp2_with fail
  refine (lives12_any w HE.out).mono ?_
  rintro e w1 ⟨rfl, HS⟩
  go_wp2_with fail
  have hW : Cel (w1.alloc (.cells #[.int .i64 3, .int .i64 5, .int .i64 5, .int .i64 4, .int .i64 6, .int .i64 11, .int .i64 5, .int .i64 4, .int .i64 4, .int .i64 6, .int .i64 7, .int .i64 8, .int .i64 6, .int .i64 11, .int .i64 0, .int .i64 9] 31)) w1.heap.size #[.int .i64 3, .int .i64 5, .int .i64 5, .int .i64 4, .int .i64 6, .int .i64 11, .int .i64 5, .int .i64 4, .int .i64 4, .int .i64 6, .int .i64 7, .int .i64 8, .int .i64 6, .int .i64 11, .int .i64 0, .int .i64 9] 31 := heap_alloc_new _ _
  replace HS := HS.alloc (.cells #[.int .i64 3, .int .i64 5, .int .i64 5, .int .i64 4, .int .i64 6, .int .i64 11, .int .i64 5, .int .i64 4, .int .i64 4, .int .i64 6, .int .i64 7, .int .i64 8, .int .i64 6, .int .i64 11, .int .i64 0, .int .i64 9] 31)
  generalize (w1.alloc (.cells #[.int .i64 3, .int .i64 5, .int .i64 5, .int .i64 4, .int .i64 6, .int .i64 11, .int .i64 5, .int .i64 4, .int .i64 4, .int .i64 6, .int .i64 7, .int .i64 8, .int .i64 6, .int .i64 11, .int .i64 0, .int .i64 9] 31)) = w2 at *
  generalize w1.heap.size = gw at *
  have hwc : ∀ i, i < 16 → w2.cell? ⟨gw, i, none⟩ = some (.int .i64 (wantL.getD i 0)) := by
    intro i hi
    rw [hW.cell i]
    match i, hi with
    | 0, _ => rfl
    | 1, _ => rfl
    | 2, _ => rfl
    | 3, _ => rfl
    | 4, _ => rfl
    | 5, _ => rfl
    | 6, _ => rfl
    | 7, _ => rfl
    | 8, _ => rfl
    | 9, _ => rfl
    | 10, _ => rfl
    | 11, _ => rfl
    | 12, _ => rfl
    | 13, _ => rfl
    | 14, _ => rfl
    | 15, _ => rfl
    | k + 16, hk => exact absurd hk (by omega)
  have HW := Lib.hid hwc
  clear hwc hW
  go_loopw [3] (fun m wr => ∃ i : Nat, i ≤ 16 ∧ m = .int .i64 (i : Int) ∧ Since w2 wr) (fun m _ => 16 - (intOf m).toNat)
  case atStart => exact ⟨0, by omega, rfl, Since.refl _⟩
  case round =>
  obtain ⟨i, hi, rfl, hs⟩ := hrel
  by_cases hlt : i < 16
  · have hlt2 : (i : Int) < 16 := by omega
    have hlt0 : (0 : Int) ≤ (i : Int) := by omega
    have HB := Lib.hid (bent_any i hlt)
    have hc := HW.out i hlt
    obtain ⟨x, hx⟩ : ∃ x, Hid (x = wantL.getD i 0) := ⟨_, rfl⟩
    rw [← hx.out] at hc HB
    have HC := Lib.hid hc
    clear hc hx
    go_wp2_with fail
    have h0 := (Since.refl wr).drew
    refine hx_begin (S := fun W => Since wr W) (by kernel_rfl) h0 (by kernel_rfl) (fun _ _ _ _ _ h => h) (fun hns hQ => ?_)
    refine hx_take (i := 0) (oi := _) (v := .func (.func 23) #[] #[]) rfl rfl hns (by kernel_rfl) (by kernel_rfl) hQ (by kernel_rfl) (fun _ _ => by kernel_rfl) h0 ?_
    refine hx_take (i := 1) (oi := _) (v := .int .i64 (i : Int)) rfl rfl hns (by kernel_rfl) (by kernel_rfl) hQ (by kernel_rfl) (fun _ _ => by kernel_rfl) h0 ?_
    refine hx_take (i := 3) (oi := _) (v := .slice (some ⟨gw, 0, none⟩) 16 16) rfl rfl hns (by kernel_rfl) (by kernel_rfl) hQ (by kernel_rfl) (fun _ _ => by kernel_rfl) h0 ?_
    refine hx_take (i := 4) (oi := _) (v := .int .i64 (i : Int)) rfl rfl hns (by kernel_rfl) (by kernel_rfl) hQ (by kernel_rfl) (fun _ _ => by kernel_rfl) h0 ?_
    refine hx_take (i := 5) (oi := _) (v := .pointer (some ⟨gw, 0 + i, none⟩)) rfl rfl hns (by kernel_rfl) (by kernel_rfl) hQ (by kernel_rfl) (fun W _ => ix_sl1 (n := 16) (c := 16) rfl (by kernel_rfl) (by kernel_rfl) (by kernel_rfl) rfl hlt W) h0 ?_
    have hz : 0 + i = i := Nat.zero_add i
    rw [hz]
    refine hx_take (i := 6) (oi := _) (v := .int .i64 x) rfl rfl hns (by kernel_rfl) (by kernel_rfl) hQ (by kernel_rfl) (fun W hW => ld_one rfl (by kernel_rfl) (by kernel_rfl) W (hW.cell (hs.cell HC.out))) h0 ?_
    refine hx_call (i := 2) (oi := _) 23 #[.int .i64 (i : Int)] rfl rfl (by kernel_rfl) (by kernel_rfl) (by kernel_rfl) (HB.out _ (HE.out.next (HS.trans (hs.trans h0)))) ?_
    rintro e w4 ⟨rfl, hb⟩
    have h1 := h0.trans hb
    clear hb
    refine ⟨_, rfl, h1, ?_⟩
    refine hx_take (i := 7) (oi := _) (v := .bool (x != x)) rfl rfl hns (by kernel_rfl) (by kernel_rfl) hQ (by kernel_rfl) (fun W _ => neq_intE rfl (by kernel_rfl) (by kernel_rfl) W) h1 ?_
    refine wpAnyH_done (by kernel_rfl) ?_ _
    clear hns hQ hz
    simp only [List.set_cons_zero, List.set_cons_succ, bne_self_eq_false]
    go_wp2_with fail
    go_roundw
    case rel => exact ⟨i + 1, by omega, by go_num, hs.trans h1⟩
    case measure => simp [intOf]; omega
  have hlt2 : ¬ (i : Int) < 16 := by omega
  replace HS := HS.trans hs
  clear hs HW
  go_wp2_with fail
  refine (ksmall_any wr).mono ?_
  rintro e w5 ⟨ap, ad, ac, ar, ag, rfl, hp, hb⟩
  have hC : Cel (w5.alloc (.cells #[.slice ap 3 3, .slice ad 3 3, .slice ac 1 1, .int .i64 3, .int .i64 100, .slice ar 1 1, .slice ag 1 1] 28)) w5.heap.size #[.slice ap 3 3, .slice ad 3 3, .slice ac 1 1, .int .i64 3, .int .i64 100, .slice ar 1 1, .slice ag 1 1] 28 := heap_alloc_new _ _
  replace HS := (HS.trans hb).alloc (.cells #[.slice ap 3 3, .slice ad 3 3, .slice ac 1 1, .int .i64 3, .int .i64 100, .slice ar 1 1, .slice ag 1 1] 28)
  replace hp := hp.next ((Since.refl _).alloc (.cells #[.slice ap 3 3, .slice ad 3 3, .slice ac 1 1, .int .i64 3, .int .i64 100, .slice ar 1 1, .slice ag 1 1] 28))
  have HP := Lib.hid hp
  clear hb hp
  have p_c0 : (w5.alloc (.cells #[.slice ap 3 3, .slice ad 3 3, .slice ac 1 1, .int .i64 3, .int .i64 100, .slice ar 1 1, .slice ag 1 1] 28)).cell? ⟨w5.heap.size, 0, none⟩ = some (.slice ap 3 3) := hC.cell 0
  have p_c1 : (w5.alloc (.cells #[.slice ap 3 3, .slice ad 3 3, .slice ac 1 1, .int .i64 3, .int .i64 100, .slice ar 1 1, .slice ag 1 1] 28)).cell? ⟨w5.heap.size, 1, none⟩ = some (.slice ad 3 3) := hC.cell 1
  have p_c2 : (w5.alloc (.cells #[.slice ap 3 3, .slice ad 3 3, .slice ac 1 1, .int .i64 3, .int .i64 100, .slice ar 1 1, .slice ag 1 1] 28)).cell? ⟨w5.heap.size, 2, none⟩ = some (.slice ac 1 1) := hC.cell 2
  have p_c3 : (w5.alloc (.cells #[.slice ap 3 3, .slice ad 3 3, .slice ac 1 1, .int .i64 3, .int .i64 100, .slice ar 1 1, .slice ag 1 1] 28)).cell? ⟨w5.heap.size, 3, none⟩ = some (.int .i64 3) := hC.cell 3
  have p_c4 : (w5.alloc (.cells #[.slice ap 3 3, .slice ad 3 3, .slice ac 1 1, .int .i64 3, .int .i64 100, .slice ar 1 1, .slice ag 1 1] 28)).cell? ⟨w5.heap.size, 4, none⟩ = some (.int .i64 100) := hC.cell 4
  have p_c5 : (w5.alloc (.cells #[.slice ap 3 3, .slice ad 3 3, .slice ac 1 1, .int .i64 3, .int .i64 100, .slice ar 1 1, .slice ag 1 1] 28)).cell? ⟨w5.heap.size, 5, none⟩ = some (.slice ar 1 1) := hC.cell 5
  have p_c6 : (w5.alloc (.cells #[.slice ap 3 3, .slice ad 3 3, .slice ac 1 1, .int .i64 3, .int .i64 100, .slice ar 1 1, .slice ag 1 1] 28)).cell? ⟨w5.heap.size, 6, none⟩ = some (.slice ag 1 1) := hC.cell 6
  have HC := Lib.hid (farity_any ap ad ac ar ag 3 3 3 3 1 1 1 1 1 1 3 100 smallP.pd [113] (w5.alloc (.cells #[.slice ap 3 3, .slice ad 3 3, .slice ac 1 1, .int .i64 3, .int .i64 100, .slice ar 1 1, .slice ag 1 1] 28)) HP.out.2.1 (by decide))
  rw [show (arityF smallP.pd [113]).getD 0 = 2 by kernel_rfl, show (arityF smallP.pd [113]).isSome = true by kernel_rfl] at HC
  go_wp2_with fail
  clear p_c0 p_c1 p_c2 p_c3 p_c4 p_c5 p_c6
  refine HC.out.mono ?_
  clear HC
  rintro e w11 ⟨rfl, hb⟩
  generalize (w5.alloc (.cells #[.slice ap 3 3, .slice ad 3 3, .slice ac 1 1, .int .i64 3, .int .i64 100, .slice ar 1 1, .slice ag 1 1] 28)) = w6 at *
  generalize w5.heap.size = g0 at *
  have hz := hb
  replace HS := HS.trans hz
  replace hC := hC.next hz
  have HP := Lib.hid (HP.out.next hz)
  clear hz hb
  have p_c0 : w11.cell? ⟨g0, 0, none⟩ = some (.slice ap 3 3) := hC.cell 0
  have p_c1 : w11.cell? ⟨g0, 1, none⟩ = some (.slice ad 3 3) := hC.cell 1
  have p_c2 : w11.cell? ⟨g0, 2, none⟩ = some (.slice ac 1 1) := hC.cell 2
  have p_c3 : w11.cell? ⟨g0, 3, none⟩ = some (.int .i64 3) := hC.cell 3
  have p_c4 : w11.cell? ⟨g0, 4, none⟩ = some (.int .i64 100) := hC.cell 4
  have p_c5 : w11.cell? ⟨g0, 5, none⟩ = some (.slice ar 1 1) := hC.cell 5
  have p_c6 : w11.cell? ⟨g0, 6, none⟩ = some (.slice ag 1 1) := hC.cell 6
  have HC := Lib.hid (farity_any ap ad ac ar ag 3 3 3 3 1 1 1 1 1 1 3 100 smallP.pd [114] w11 HP.out.2.1 (by decide))
  rw [show (arityF smallP.pd [114]).getD 0 = 0 by kernel_rfl, show (arityF smallP.pd [114]).isSome = false by kernel_rfl] at HC
  go_wp2_with fail
  clear p_c0 p_c1 p_c2 p_c3 p_c4 p_c5 p_c6
  refine HC.out.mono ?_
  clear HC
  rintro e w12 ⟨rfl, hb⟩
  have hz := hb
  replace HS := HS.trans hz
  replace hC := hC.next hz
  have HP := Lib.hid (HP.out.next hz)
  clear hz hb
  have p_c0 : w12.cell? ⟨g0, 0, none⟩ = some (.slice ap 3 3) := hC.cell 0
  have p_c1 : w12.cell? ⟨g0, 1, none⟩ = some (.slice ad 3 3) := hC.cell 1
  have p_c2 : w12.cell? ⟨g0, 2, none⟩ = some (.slice ac 1 1) := hC.cell 2
  have p_c3 : w12.cell? ⟨g0, 3, none⟩ = some (.int .i64 3) := hC.cell 3
  have p_c4 : w12.cell? ⟨g0, 4, none⟩ = some (.int .i64 100) := hC.cell 4
  have p_c5 : w12.cell? ⟨g0, 5, none⟩ = some (.slice ar 1 1) := hC.cell 5
  have p_c6 : w12.cell? ⟨g0, 6, none⟩ = some (.slice ag 1 1) := hC.cell 6
  go_wp2_with fail
  have pA : At w12 g0 0 #[.slice ap 3 3, .slice ad 3 3, .slice ac 1 1, .int .i64 3, .int .i64 100, .slice ar 1 1, .slice ag 1 1] := PBox.at ⟨p_c0, p_c1, p_c2, p_c3, p_c4, p_c5, p_c6⟩
  clear p_c0 p_c1 p_c2 p_c3 p_c4 p_c5 p_c6
  have HF1 : Hid (∀ W, Since w12 W → Calls Tryd.prog 18 #[.agg #[.slice ap 3 3, .slice ad 3 3, .slice ac 1 1, .int .i64 3, .int .i64 100, .slice ar 1 1, .slice ag 1 1], .string ⟨#[98, 111, 98]⟩] W fun e w' => e = .returned (.bool true) ∧ Since W w') := fun W hW => by
    have h := fprin_any ap ad ac ar ag 3 3 3 3 1 1 1 1 1 1 3 100 smallP.pr [98, 111, 98] W (HP.out.next hW).1 (by decide); rwa [show smallP.pr.contains [98, 111, 98] = true by kernel_rfl] at h
  have HF2 : Hid (∀ W, Since w12 W → Calls Tryd.prog 18 #[.agg #[.slice ap 3 3, .slice ad 3 3, .slice ac 1 1, .int .i64 3, .int .i64 100, .slice ar 1 1, .slice ag 1 1], .string ⟨#[100, 97, 118, 101]⟩] W fun e w' => e = .returned (.bool false) ∧ Since W w') := fun W hW => by
    have h := fprin_any ap ad ac ar ag 3 3 3 3 1 1 1 1 1 1 3 100 smallP.pr [100, 97, 118, 101] W (HP.out.next hW).1 (by decide); rwa [show smallP.pr.contains [100, 97, 118, 101] = false by kernel_rfl] at h
  have HF3 : Hid (∀ W, Since w12 W → Calls Tryd.prog 20 #[.agg #[.slice ap 3 3, .slice ad 3 3, .slice ac 1 1, .int .i64 3, .int .i64 100, .slice ar 1 1, .slice ag 1 1], .string ⟨#[98, 111, 98]⟩, .agg #[.string ⟨#[98, 111, 98]⟩, .string ⟨#[112]⟩, .int .i64 1, .bool false, .string ⟨#[97]⟩, .bool false, .string ⟨#[]⟩, .bool false, .string ⟨#[]⟩, .bool false, .string ⟨#[]⟩]] W fun e w' => e = .returned (.int .i64 0) ∧ Since W w') := fun W hW => by
    have h := ffact_any ap ad ac ar ag 3 3 3 3 1 1 1 1 1 1 3 100 smallP.pr smallP.pd [98, 111, 98] [98, 111, 98] [112] 1 false false false false [97] [] [] [] W (HP.out.next hW).1 (HP.out.next hW).2.1 (by decide) (by decide) (fits_lit (by kernel_rfl)) (HE.out.next (HS.trans hW)); rwa [show factE smallP.pr smallP.pd [98, 111, 98] ([98, 111, 98], [112], (1 : Int), (false, [97]), (false, []), (false, []), (false, [])) = 0 by kernel_rfl] at h
  have HF4 : Hid (∀ W, Since w12 W → Calls Tryd.prog 20 #[.agg #[.slice ap 3 3, .slice ad 3 3, .slice ac 1 1, .int .i64 3, .int .i64 100, .slice ar 1 1, .slice ag 1 1], .string ⟨#[100, 97, 118, 101]⟩, .agg #[.string ⟨#[66, 111, 98]⟩, .string ⟨#[112]⟩, .int .i64 0, .bool false, .string ⟨#[]⟩, .bool false, .string ⟨#[]⟩, .bool false, .string ⟨#[]⟩, .bool false, .string ⟨#[]⟩]] W fun e w' => e = .returned (.int .i64 6) ∧ Since W w') := fun W hW => by
    have h := ffact_any ap ad ac ar ag 3 3 3 3 1 1 1 1 1 1 3 100 smallP.pr smallP.pd [100, 97, 118, 101] [66, 111, 98] [112] 0 false false false false [] [] [] [] W (HP.out.next hW).1 (HP.out.next hW).2.1 (by decide) (by decide) (fits_lit (by kernel_rfl)) (HE.out.next (HS.trans hW)); rwa [show factE smallP.pr smallP.pd [100, 97, 118, 101] ([66, 111, 98], [112], (0 : Int), (false, []), (false, []), (false, []), (false, [])) = 6 by kernel_rfl] at h
  have HF5 : Hid (∀ W, Since w12 W → Calls Tryd.prog 20 #[.agg #[.slice ap 3 3, .slice ad 3 3, .slice ac 1 1, .int .i64 3, .int .i64 100, .slice ar 1 1, .slice ag 1 1], .string ⟨#[98, 111, 98]⟩, .agg #[.string ⟨#[98, 111, 98]⟩, .string ⟨#[112]⟩, .int .i64 1, .bool true, .string ⟨#[88]⟩, .bool false, .string ⟨#[]⟩, .bool false, .string ⟨#[]⟩, .bool false, .string ⟨#[]⟩]] W fun e w' => e = .returned (.int .i64 10) ∧ Since W w') := fun W hW => by
    have h := ffact_any ap ad ac ar ag 3 3 3 3 1 1 1 1 1 1 3 100 smallP.pr smallP.pd [98, 111, 98] [98, 111, 98] [112] 1 true false false false [88] [] [] [] W (HP.out.next hW).1 (HP.out.next hW).2.1 (by decide) (by decide) (fits_lit (by kernel_rfl)) (HE.out.next (HS.trans hW)); rwa [show factE smallP.pr smallP.pd [98, 111, 98] ([98, 111, 98], [112], (1 : Int), (true, [88]), (false, []), (false, []), (false, [])) = 10 by kernel_rfl] at h
  have HF6 : Hid (∀ W, Since w12 W → Calls Tryd.prog 20 #[.agg #[.slice ap 3 3, .slice ad 3 3, .slice ac 1 1, .int .i64 3, .int .i64 100, .slice ar 1 1, .slice ag 1 1], .string ⟨#[98, 111, 98]⟩, .agg #[.string ⟨#[97, 108, 105, 99, 101]⟩, .string ⟨#[112]⟩, .int .i64 1, .bool false, .string ⟨#[97]⟩, .bool false, .string ⟨#[]⟩, .bool false, .string ⟨#[]⟩, .bool false, .string ⟨#[]⟩]] W fun e w' => e = .returned (.int .i64 11) ∧ Since W w') := fun W hW => by
    have h := ffact_any ap ad ac ar ag 3 3 3 3 1 1 1 1 1 1 3 100 smallP.pr smallP.pd [98, 111, 98] [97, 108, 105, 99, 101] [112] 1 false false false false [97] [] [] [] W (HP.out.next hW).1 (HP.out.next hW).2.1 (by decide) (by decide) (fits_lit (by kernel_rfl)) (HE.out.next (HS.trans hW)); rwa [show factE smallP.pr smallP.pd [98, 111, 98] ([97, 108, 105, 99, 101], [112], (1 : Int), (false, [97]), (false, []), (false, []), (false, [])) = 11 by kernel_rfl] at h
  have HF7 : Hid (∀ W, Since w12 W → Calls Tryd.prog 20 #[.agg #[.slice ap 3 3, .slice ad 3 3, .slice ac 1 1, .int .i64 3, .int .i64 100, .slice ar 1 1, .slice ag 1 1], .string ⟨#[98, 111, 98]⟩, .agg #[.string ⟨#[97, 108, 105, 99, 101]⟩, .string ⟨#[112]⟩, .int .i64 1, .bool true, .string ⟨#[88]⟩, .bool false, .string ⟨#[]⟩, .bool false, .string ⟨#[]⟩, .bool false, .string ⟨#[]⟩]] W fun e w' => e = .returned (.int .i64 10) ∧ Since W w') := fun W hW => by
    have h := ffact_any ap ad ac ar ag 3 3 3 3 1 1 1 1 1 1 3 100 smallP.pr smallP.pd [98, 111, 98] [97, 108, 105, 99, 101] [112] 1 true false false false [88] [] [] [] W (HP.out.next hW).1 (HP.out.next hW).2.1 (by decide) (by decide) (fits_lit (by kernel_rfl)) (HE.out.next (HS.trans hW)); rwa [show factE smallP.pr smallP.pd [98, 111, 98] ([97, 108, 105, 99, 101], [112], (1 : Int), (true, [88]), (false, []), (false, []), (false, [])) = 10 by kernel_rfl] at h
  have HF8 : Hid (∀ W, Since w12 W → Calls Tryd.prog 17 #[.agg #[.slice ap 3 3, .slice ad 3 3, .slice ac 1 1, .int .i64 3, .int .i64 100, .slice ar 1 1, .slice ag 1 1], .agg #[.string ⟨#[98, 111, 98]⟩, .string ⟨#[112]⟩, .int .i64 1, .bool true, .string ⟨#[88]⟩, .bool false, .string ⟨#[]⟩, .bool false, .string ⟨#[]⟩, .bool false, .string ⟨#[]⟩]] W fun e w' => e = .returned (.int .i64 0) ∧ Since W w') := fun W hW => by
    have h := fgoal_any ap ad ac ar ag 3 3 3 3 1 1 1 1 1 1 3 100 smallP.pr smallP.pd [98, 111, 98] [112] 1 true false false false [88] [] [] [] W (HP.out.next hW).1 (HP.out.next hW).2.1 (by decide) (by decide) (fits_lit (by kernel_rfl)) (HE.out.next (HS.trans hW)); rwa [show atomE smallP.pr smallP.pd ([98, 111, 98], [112], (1 : Int), (true, [88]), (false, []), (false, []), (false, [])) = 0 by kernel_rfl] at h
  have HF9 : Hid (∀ W, Since w12 W → Calls Tryd.prog 17 #[.agg #[.slice ap 3 3, .slice ad 3 3, .slice ac 1 1, .int .i64 3, .int .i64 100, .slice ar 1 1, .slice ag 1 1], .agg #[.string ⟨#[98, 111, 98]⟩, .string ⟨#[113]⟩, .int .i64 1, .bool true, .string ⟨#[88]⟩, .bool false, .string ⟨#[]⟩, .bool false, .string ⟨#[]⟩, .bool false, .string ⟨#[]⟩]] W fun e w' => e = .returned (.int .i64 8) ∧ Since W w') := fun W hW => by
    have h := fgoal_any ap ad ac ar ag 3 3 3 3 1 1 1 1 1 1 3 100 smallP.pr smallP.pd [98, 111, 98] [113] 1 true false false false [88] [] [] [] W (HP.out.next hW).1 (HP.out.next hW).2.1 (by decide) (by decide) (fits_lit (by kernel_rfl)) (HE.out.next (HS.trans hW)); rwa [show atomE smallP.pr smallP.pd ([98, 111, 98], [113], (1 : Int), (true, [88]), (false, []), (false, []), (false, [])) = 8 by kernel_rfl] at h
  have HF10 : Hid (∀ W, Since w12 W → Calls Tryd.prog 15 #[.agg #[.slice ap 3 3, .slice ad 3 3, .slice ac 1 1, .int .i64 3, .int .i64 100, .slice ar 1 1, .slice ag 1 1], .agg #[.string ⟨#[98, 111, 98]⟩, .string ⟨#[112]⟩, .int .i64 1, .bool false, .string ⟨#[120, 45]⟩, .bool false, .string ⟨#[]⟩, .bool false, .string ⟨#[]⟩, .bool false, .string ⟨#[]⟩]] W fun e w' => e = .returned (.int .i64 3) ∧ Since W w') := fun W hW => by
    have h := fatom_any ap ad ac ar ag 3 3 3 3 1 1 1 1 1 1 3 100 smallP.pr smallP.pd [98, 111, 98] [112] 1 false false false false [120, 45] [] [] [] W (HP.out.next hW).1 (HP.out.next hW).2.1 (by decide) (by decide) (fits_lit (by kernel_rfl)) (HE.out.next (HS.trans hW)); rwa [show atomE smallP.pr smallP.pd ([98, 111, 98], [112], (1 : Int), (false, [120, 45]), (false, []), (false, []), (false, [])) = 3 by kernel_rfl] at h
  have ha0 : Since w12 w12.drew := (Since.refl _).drew
  refine hx_begin (S := fun W => Since w12 W) (by kernel_rfl) ha0 (by kernel_rfl) (fun _ _ _ _ _ h => h) (fun hns hQ => ?_)
  refine hx_take (i := 0) (oi := _) (v := .bool true) rfl rfl hns (by kernel_rfl) (by kernel_rfl) hQ (by kernel_rfl) (fun _ _ => by kernel_rfl) ha0 ?_
  refine hx_take (i := 1) (oi := _) (v := .bool true) rfl rfl hns (by kernel_rfl) (by kernel_rfl) hQ (by kernel_rfl) (fun _ _ => by kernel_rfl) ha0 ?_
  refine hx_take (i := 2) (oi := _) (v := .int .i64 2) rfl rfl hns (by kernel_rfl) (by kernel_rfl) hQ (by kernel_rfl) (fun _ _ => by kernel_rfl) ha0 ?_
  refine hx_take (i := 3) (oi := _) (v := .bool true) rfl rfl hns (by kernel_rfl) (by kernel_rfl) hQ (by kernel_rfl) (fun W _ => eqs_int (s := 2) rfl (by kernel_rfl) (by kernel_rfl) W) ha0 ?_
  refine hx_take (i := 4) (oi := _) (v := .bool true) rfl rfl hns (by kernel_rfl) (by kernel_rfl) hQ (by kernel_rfl) (fun _ _ => by kernel_rfl) ha0 ?_
  refine hx_take (i := 5) (oi := _) (v := .bool true) rfl rfl hns (by kernel_rfl) (by kernel_rfl) hQ (by kernel_rfl) (fun _ _ => by kernel_rfl) ha0 ?_
  refine hx_take (i := 6) (oi := _) (v := .bool false) rfl rfl hns (by kernel_rfl) (by kernel_rfl) hQ (by kernel_rfl) (fun _ _ => by kernel_rfl) ha0 ?_
  refine hx_take (i := 7) (oi := _) (v := .bool true) rfl rfl hns (by kernel_rfl) (by kernel_rfl) hQ (by kernel_rfl) (fun _ _ => by kernel_rfl) ha0 ?_
  refine hx_take (i := 8) (oi := _) (v := .bool true) rfl rfl hns (by kernel_rfl) (by kernel_rfl) hQ (by kernel_rfl) (fun _ _ => by kernel_rfl) ha0 ?_
  refine hx_take (i := 9) (oi := _) (v := .bool true) rfl rfl hns (by kernel_rfl) (by kernel_rfl) hQ (by kernel_rfl) (fun _ _ => by kernel_rfl) ha0 ?_
  refine hx_take (i := 10) (oi := _) (v := .agg #[.slice ap 3 3, .slice ad 3 3, .slice ac 1 1, .int .i64 3, .int .i64 100, .slice ar 1 1, .slice ag 1 1]) rfl rfl hns (by kernel_rfl) (by kernel_rfl) hQ (by kernel_rfl) (fun W hW => ld_at rfl (by kernel_rfl) (by kernel_rfl) (by kernel_rfl) W (pA.next hW)) ha0 ?_
  refine hx_call (i := 11) (oi := _) 18 #[.agg #[.slice ap 3 3, .slice ad 3 3, .slice ac 1 1, .int .i64 3, .int .i64 100, .slice ar 1 1, .slice ag 1 1], .string ⟨#[98, 111, 98]⟩] rfl rfl (by kernel_rfl) (by kernel_rfl) (by kernel_rfl) (HF1.out _ ha0) ?_
  rintro e wx61 ⟨rfl, hb⟩
  have ha1 : Since w12 wx61 := ha0.trans hb
  clear hb
  refine ⟨_, rfl, ha1, ?_⟩
  refine hx_take (i := 12) (oi := _) (v := .bool true) rfl rfl hns (by kernel_rfl) (by kernel_rfl) hQ (by kernel_rfl) (fun _ _ => by kernel_rfl) ha1 ?_
  refine hx_take (i := 13) (oi := _) (v := .bool true) rfl rfl hns (by kernel_rfl) (by kernel_rfl) hQ (by kernel_rfl) (fun _ _ => by kernel_rfl) ha1 ?_
  refine hx_take (i := 14) (oi := _) (v := .agg #[.slice ap 3 3, .slice ad 3 3, .slice ac 1 1, .int .i64 3, .int .i64 100, .slice ar 1 1, .slice ag 1 1]) rfl rfl hns (by kernel_rfl) (by kernel_rfl) hQ (by kernel_rfl) (fun W hW => ld_at rfl (by kernel_rfl) (by kernel_rfl) (by kernel_rfl) W (pA.next hW)) ha1 ?_
  refine hx_call (i := 15) (oi := _) 18 #[.agg #[.slice ap 3 3, .slice ad 3 3, .slice ac 1 1, .int .i64 3, .int .i64 100, .slice ar 1 1, .slice ag 1 1], .string ⟨#[100, 97, 118, 101]⟩] rfl rfl (by kernel_rfl) (by kernel_rfl) (by kernel_rfl) (HF2.out _ ha1) ?_
  rintro e wx62 ⟨rfl, hb⟩
  have ha2 : Since w12 wx62 := ha1.trans hb
  clear hb
  refine ⟨_, rfl, ha2, ?_⟩
  refine hx_take (i := 16) (oi := _) (v := .bool true) rfl rfl hns (by kernel_rfl) (by kernel_rfl) hQ (by kernel_rfl) (fun _ _ => by kernel_rfl) ha2 ?_
  refine hx_take (i := 17) (oi := _) (v := .bool true) rfl rfl hns (by kernel_rfl) (by kernel_rfl) hQ (by kernel_rfl) (fun _ _ => by kernel_rfl) ha2 ?_
  refine hx_take (i := 18) (oi := _) (v := .bool true) rfl rfl hns (by kernel_rfl) (by kernel_rfl) hQ (by kernel_rfl) (fun _ _ => by kernel_rfl) ha2 ?_
  refine hx_take (i := 19) (oi := _) (v := .agg #[.slice ap 3 3, .slice ad 3 3, .slice ac 1 1, .int .i64 3, .int .i64 100, .slice ar 1 1, .slice ag 1 1]) rfl rfl hns (by kernel_rfl) (by kernel_rfl) hQ (by kernel_rfl) (fun W hW => ld_at rfl (by kernel_rfl) (by kernel_rfl) (by kernel_rfl) W (pA.next hW)) ha2 ?_
  have ha3 : Since w12 (wx62.alloc (.cells #[.string ⟨#[97]⟩] 9)) := ha2.alloc _
  refine hx_make (i := 20) (oi := _) (.slice (some ⟨wx62.heap.size, 0, none⟩) 1 1) (wx62.alloc (.cells #[.string ⟨#[97]⟩] 9)) rfl rfl (by kernel_rfl) (by kernel_rfl) (by kernel_rfl) ha3 ?_
  refine hx_call (i := 21) (oi := _) 25 #[.string ⟨#[98, 111, 98]⟩, .string ⟨#[112]⟩, .slice (some ⟨wx62.heap.size, 0, none⟩) 1 1] rfl rfl (by kernel_rfl) (by kernel_rfl) (by kernel_rfl) (kA_a [98, 111, 98] [112] _ 0 _ _ ((cel_new _ _ _).cell 0)) ?_
  rintro e wx63 ⟨rfl, hb⟩
  have ha4 : Since w12 wx63 := ha3.trans hb
  clear hb
  refine ⟨_, rfl, ha4, ?_⟩
  refine hx_call (i := 22) (oi := _) 20 #[.agg #[.slice ap 3 3, .slice ad 3 3, .slice ac 1 1, .int .i64 3, .int .i64 100, .slice ar 1 1, .slice ag 1 1], .string ⟨#[98, 111, 98]⟩, .agg #[.string ⟨#[98, 111, 98]⟩, .string ⟨#[112]⟩, .int .i64 1, .bool false, .string ⟨#[97]⟩, .bool false, .string ⟨#[]⟩, .bool false, .string ⟨#[]⟩, .bool false, .string ⟨#[]⟩]] rfl rfl (by kernel_rfl) (by kernel_rfl) (by kernel_rfl) (HF3.out _ ha4) ?_
  rintro e wx64 ⟨rfl, hb⟩
  have ha5 : Since w12 wx64 := ha4.trans hb
  clear hb
  refine ⟨_, rfl, ha5, ?_⟩
  refine hx_take (i := 23) (oi := _) (v := .bool true) rfl rfl hns (by kernel_rfl) (by kernel_rfl) hQ (by kernel_rfl) (fun W _ => eqs_intE (s := 0) rfl (by kernel_rfl) (by kernel_rfl) W) ha5 ?_
  refine hx_take (i := 24) (oi := _) (v := .bool true) rfl rfl hns (by kernel_rfl) (by kernel_rfl) hQ (by kernel_rfl) (fun _ _ => by kernel_rfl) ha5 ?_
  refine hx_take (i := 25) (oi := _) (v := .bool true) rfl rfl hns (by kernel_rfl) (by kernel_rfl) hQ (by kernel_rfl) (fun _ _ => by kernel_rfl) ha5 ?_
  refine hx_take (i := 26) (oi := _) (v := .agg #[.slice ap 3 3, .slice ad 3 3, .slice ac 1 1, .int .i64 3, .int .i64 100, .slice ar 1 1, .slice ag 1 1]) rfl rfl hns (by kernel_rfl) (by kernel_rfl) hQ (by kernel_rfl) (fun W hW => ld_at rfl (by kernel_rfl) (by kernel_rfl) (by kernel_rfl) W (pA.next hW)) ha5 ?_
  refine hx_call (i := 27) (oi := _) 25 #[.string ⟨#[66, 111, 98]⟩, .string ⟨#[112]⟩, .slice none 0 0] rfl rfl (by kernel_rfl) (by kernel_rfl) (by kernel_rfl) (kA_none [66, 111, 98] [112] _) ?_
  rintro e wx65 ⟨rfl, hb⟩
  have ha6 : Since w12 wx65 := ha5.trans hb
  clear hb
  refine ⟨_, rfl, ha6, ?_⟩
  refine hx_call (i := 28) (oi := _) 20 #[.agg #[.slice ap 3 3, .slice ad 3 3, .slice ac 1 1, .int .i64 3, .int .i64 100, .slice ar 1 1, .slice ag 1 1], .string ⟨#[100, 97, 118, 101]⟩, .agg #[.string ⟨#[66, 111, 98]⟩, .string ⟨#[112]⟩, .int .i64 0, .bool false, .string ⟨#[]⟩, .bool false, .string ⟨#[]⟩, .bool false, .string ⟨#[]⟩, .bool false, .string ⟨#[]⟩]] rfl rfl (by kernel_rfl) (by kernel_rfl) (by kernel_rfl) (HF4.out _ ha6) ?_
  rintro e wx66 ⟨rfl, hb⟩
  have ha7 : Since w12 wx66 := ha6.trans hb
  clear hb
  refine ⟨_, rfl, ha7, ?_⟩
  refine hx_take (i := 29) (oi := _) (v := .bool true) rfl rfl hns (by kernel_rfl) (by kernel_rfl) hQ (by kernel_rfl) (fun W _ => eqs_intE (s := 6) rfl (by kernel_rfl) (by kernel_rfl) W) ha7 ?_
  refine hx_take (i := 30) (oi := _) (v := .bool true) rfl rfl hns (by kernel_rfl) (by kernel_rfl) hQ (by kernel_rfl) (fun _ _ => by kernel_rfl) ha7 ?_
  refine hx_take (i := 31) (oi := _) (v := .bool true) rfl rfl hns (by kernel_rfl) (by kernel_rfl) hQ (by kernel_rfl) (fun _ _ => by kernel_rfl) ha7 ?_
  refine hx_take (i := 32) (oi := _) (v := .agg #[.slice ap 3 3, .slice ad 3 3, .slice ac 1 1, .int .i64 3, .int .i64 100, .slice ar 1 1, .slice ag 1 1]) rfl rfl hns (by kernel_rfl) (by kernel_rfl) hQ (by kernel_rfl) (fun W hW => ld_at rfl (by kernel_rfl) (by kernel_rfl) (by kernel_rfl) W (pA.next hW)) ha7 ?_
  have ha8 : Since w12 (wx66.alloc (.cells #[.string ⟨#[88]⟩] 9)) := ha7.alloc _
  refine hx_make (i := 33) (oi := _) (.slice (some ⟨wx66.heap.size, 0, none⟩) 1 1) (wx66.alloc (.cells #[.string ⟨#[88]⟩] 9)) rfl rfl (by kernel_rfl) (by kernel_rfl) (by kernel_rfl) ha8 ?_
  refine hx_call (i := 34) (oi := _) 25 #[.string ⟨#[98, 111, 98]⟩, .string ⟨#[112]⟩, .slice (some ⟨wx66.heap.size, 0, none⟩) 1 1] rfl rfl (by kernel_rfl) (by kernel_rfl) (by kernel_rfl) (kA_X [98, 111, 98] [112] _ 0 _ _ ((cel_new _ _ _).cell 0)) ?_
  rintro e wx67 ⟨rfl, hb⟩
  have ha9 : Since w12 wx67 := ha8.trans hb
  clear hb
  refine ⟨_, rfl, ha9, ?_⟩
  refine hx_call (i := 35) (oi := _) 20 #[.agg #[.slice ap 3 3, .slice ad 3 3, .slice ac 1 1, .int .i64 3, .int .i64 100, .slice ar 1 1, .slice ag 1 1], .string ⟨#[98, 111, 98]⟩, .agg #[.string ⟨#[98, 111, 98]⟩, .string ⟨#[112]⟩, .int .i64 1, .bool true, .string ⟨#[88]⟩, .bool false, .string ⟨#[]⟩, .bool false, .string ⟨#[]⟩, .bool false, .string ⟨#[]⟩]] rfl rfl (by kernel_rfl) (by kernel_rfl) (by kernel_rfl) (HF5.out _ ha9) ?_
  rintro e wx68 ⟨rfl, hb⟩
  have ha10 : Since w12 wx68 := ha9.trans hb
  clear hb
  refine ⟨_, rfl, ha10, ?_⟩
  refine hx_take (i := 36) (oi := _) (v := .bool true) rfl rfl hns (by kernel_rfl) (by kernel_rfl) hQ (by kernel_rfl) (fun W _ => eqs_intE (s := 10) rfl (by kernel_rfl) (by kernel_rfl) W) ha10 ?_
  refine hx_take (i := 37) (oi := _) (v := .bool true) rfl rfl hns (by kernel_rfl) (by kernel_rfl) hQ (by kernel_rfl) (fun _ _ => by kernel_rfl) ha10 ?_
  refine hx_take (i := 38) (oi := _) (v := .bool true) rfl rfl hns (by kernel_rfl) (by kernel_rfl) hQ (by kernel_rfl) (fun _ _ => by kernel_rfl) ha10 ?_
  refine hx_take (i := 39) (oi := _) (v := .agg #[.slice ap 3 3, .slice ad 3 3, .slice ac 1 1, .int .i64 3, .int .i64 100, .slice ar 1 1, .slice ag 1 1]) rfl rfl hns (by kernel_rfl) (by kernel_rfl) hQ (by kernel_rfl) (fun W hW => ld_at rfl (by kernel_rfl) (by kernel_rfl) (by kernel_rfl) W (pA.next hW)) ha10 ?_
  have ha11 : Since w12 (wx68.alloc (.cells #[.string ⟨#[97]⟩] 9)) := ha10.alloc _
  refine hx_make (i := 40) (oi := _) (.slice (some ⟨wx68.heap.size, 0, none⟩) 1 1) (wx68.alloc (.cells #[.string ⟨#[97]⟩] 9)) rfl rfl (by kernel_rfl) (by kernel_rfl) (by kernel_rfl) ha11 ?_
  refine hx_call (i := 41) (oi := _) 25 #[.string ⟨#[97, 108, 105, 99, 101]⟩, .string ⟨#[112]⟩, .slice (some ⟨wx68.heap.size, 0, none⟩) 1 1] rfl rfl (by kernel_rfl) (by kernel_rfl) (by kernel_rfl) (kA_a [97, 108, 105, 99, 101] [112] _ 0 _ _ ((cel_new _ _ _).cell 0)) ?_
  rintro e wx69 ⟨rfl, hb⟩
  have ha12 : Since w12 wx69 := ha11.trans hb
  clear hb
  refine ⟨_, rfl, ha12, ?_⟩
  refine hx_call (i := 42) (oi := _) 20 #[.agg #[.slice ap 3 3, .slice ad 3 3, .slice ac 1 1, .int .i64 3, .int .i64 100, .slice ar 1 1, .slice ag 1 1], .string ⟨#[98, 111, 98]⟩, .agg #[.string ⟨#[97, 108, 105, 99, 101]⟩, .string ⟨#[112]⟩, .int .i64 1, .bool false, .string ⟨#[97]⟩, .bool false, .string ⟨#[]⟩, .bool false, .string ⟨#[]⟩, .bool false, .string ⟨#[]⟩]] rfl rfl (by kernel_rfl) (by kernel_rfl) (by kernel_rfl) (HF6.out _ ha12) ?_
  rintro e wx70 ⟨rfl, hb⟩
  have ha13 : Since w12 wx70 := ha12.trans hb
  clear hb
  refine ⟨_, rfl, ha13, ?_⟩
  refine hx_take (i := 43) (oi := _) (v := .bool true) rfl rfl hns (by kernel_rfl) (by kernel_rfl) hQ (by kernel_rfl) (fun W _ => eqs_intE (s := 11) rfl (by kernel_rfl) (by kernel_rfl) W) ha13 ?_
  refine hx_take (i := 44) (oi := _) (v := .bool true) rfl rfl hns (by kernel_rfl) (by kernel_rfl) hQ (by kernel_rfl) (fun _ _ => by kernel_rfl) ha13 ?_
  refine hx_take (i := 45) (oi := _) (v := .bool true) rfl rfl hns (by kernel_rfl) (by kernel_rfl) hQ (by kernel_rfl) (fun _ _ => by kernel_rfl) ha13 ?_
  refine hx_take (i := 46) (oi := _) (v := .agg #[.slice ap 3 3, .slice ad 3 3, .slice ac 1 1, .int .i64 3, .int .i64 100, .slice ar 1 1, .slice ag 1 1]) rfl rfl hns (by kernel_rfl) (by kernel_rfl) hQ (by kernel_rfl) (fun W hW => ld_at rfl (by kernel_rfl) (by kernel_rfl) (by kernel_rfl) W (pA.next hW)) ha13 ?_
  have ha14 : Since w12 (wx70.alloc (.cells #[.string ⟨#[88]⟩] 9)) := ha13.alloc _
  refine hx_make (i := 47) (oi := _) (.slice (some ⟨wx70.heap.size, 0, none⟩) 1 1) (wx70.alloc (.cells #[.string ⟨#[88]⟩] 9)) rfl rfl (by kernel_rfl) (by kernel_rfl) (by kernel_rfl) ha14 ?_
  refine hx_call (i := 48) (oi := _) 25 #[.string ⟨#[97, 108, 105, 99, 101]⟩, .string ⟨#[112]⟩, .slice (some ⟨wx70.heap.size, 0, none⟩) 1 1] rfl rfl (by kernel_rfl) (by kernel_rfl) (by kernel_rfl) (kA_X [97, 108, 105, 99, 101] [112] _ 0 _ _ ((cel_new _ _ _).cell 0)) ?_
  rintro e wx71 ⟨rfl, hb⟩
  have ha15 : Since w12 wx71 := ha14.trans hb
  clear hb
  refine ⟨_, rfl, ha15, ?_⟩
  refine hx_call (i := 49) (oi := _) 20 #[.agg #[.slice ap 3 3, .slice ad 3 3, .slice ac 1 1, .int .i64 3, .int .i64 100, .slice ar 1 1, .slice ag 1 1], .string ⟨#[98, 111, 98]⟩, .agg #[.string ⟨#[97, 108, 105, 99, 101]⟩, .string ⟨#[112]⟩, .int .i64 1, .bool true, .string ⟨#[88]⟩, .bool false, .string ⟨#[]⟩, .bool false, .string ⟨#[]⟩, .bool false, .string ⟨#[]⟩]] rfl rfl (by kernel_rfl) (by kernel_rfl) (by kernel_rfl) (HF7.out _ ha15) ?_
  rintro e wx72 ⟨rfl, hb⟩
  have ha16 : Since w12 wx72 := ha15.trans hb
  clear hb
  refine ⟨_, rfl, ha16, ?_⟩
  refine hx_take (i := 50) (oi := _) (v := .bool true) rfl rfl hns (by kernel_rfl) (by kernel_rfl) hQ (by kernel_rfl) (fun W _ => eqs_intE (s := 10) rfl (by kernel_rfl) (by kernel_rfl) W) ha16 ?_
  refine hx_take (i := 51) (oi := _) (v := .bool true) rfl rfl hns (by kernel_rfl) (by kernel_rfl) hQ (by kernel_rfl) (fun _ _ => by kernel_rfl) ha16 ?_
  refine hx_take (i := 52) (oi := _) (v := .bool true) rfl rfl hns (by kernel_rfl) (by kernel_rfl) hQ (by kernel_rfl) (fun _ _ => by kernel_rfl) ha16 ?_
  refine hx_take (i := 53) (oi := _) (v := .agg #[.slice ap 3 3, .slice ad 3 3, .slice ac 1 1, .int .i64 3, .int .i64 100, .slice ar 1 1, .slice ag 1 1]) rfl rfl hns (by kernel_rfl) (by kernel_rfl) hQ (by kernel_rfl) (fun W hW => ld_at rfl (by kernel_rfl) (by kernel_rfl) (by kernel_rfl) W (pA.next hW)) ha16 ?_
  have ha17 : Since w12 (wx72.alloc (.cells #[.string ⟨#[88]⟩] 9)) := ha16.alloc _
  refine hx_make (i := 54) (oi := _) (.slice (some ⟨wx72.heap.size, 0, none⟩) 1 1) (wx72.alloc (.cells #[.string ⟨#[88]⟩] 9)) rfl rfl (by kernel_rfl) (by kernel_rfl) (by kernel_rfl) ha17 ?_
  refine hx_call (i := 55) (oi := _) 25 #[.string ⟨#[98, 111, 98]⟩, .string ⟨#[112]⟩, .slice (some ⟨wx72.heap.size, 0, none⟩) 1 1] rfl rfl (by kernel_rfl) (by kernel_rfl) (by kernel_rfl) (kA_X [98, 111, 98] [112] _ 0 _ _ ((cel_new _ _ _).cell 0)) ?_
  rintro e wx73 ⟨rfl, hb⟩
  have ha18 : Since w12 wx73 := ha17.trans hb
  clear hb
  refine ⟨_, rfl, ha18, ?_⟩
  refine hx_call (i := 56) (oi := _) 17 #[.agg #[.slice ap 3 3, .slice ad 3 3, .slice ac 1 1, .int .i64 3, .int .i64 100, .slice ar 1 1, .slice ag 1 1], .agg #[.string ⟨#[98, 111, 98]⟩, .string ⟨#[112]⟩, .int .i64 1, .bool true, .string ⟨#[88]⟩, .bool false, .string ⟨#[]⟩, .bool false, .string ⟨#[]⟩, .bool false, .string ⟨#[]⟩]] rfl rfl (by kernel_rfl) (by kernel_rfl) (by kernel_rfl) (HF8.out _ ha18) ?_
  rintro e wx74 ⟨rfl, hb⟩
  have ha19 : Since w12 wx74 := ha18.trans hb
  clear hb
  refine ⟨_, rfl, ha19, ?_⟩
  refine hx_take (i := 57) (oi := _) (v := .bool true) rfl rfl hns (by kernel_rfl) (by kernel_rfl) hQ (by kernel_rfl) (fun W _ => eqs_intE (s := 0) rfl (by kernel_rfl) (by kernel_rfl) W) ha19 ?_
  refine hx_take (i := 58) (oi := _) (v := .bool true) rfl rfl hns (by kernel_rfl) (by kernel_rfl) hQ (by kernel_rfl) (fun _ _ => by kernel_rfl) ha19 ?_
  refine hx_take (i := 59) (oi := _) (v := .bool true) rfl rfl hns (by kernel_rfl) (by kernel_rfl) hQ (by kernel_rfl) (fun _ _ => by kernel_rfl) ha19 ?_
  refine hx_take (i := 60) (oi := _) (v := .agg #[.slice ap 3 3, .slice ad 3 3, .slice ac 1 1, .int .i64 3, .int .i64 100, .slice ar 1 1, .slice ag 1 1]) rfl rfl hns (by kernel_rfl) (by kernel_rfl) hQ (by kernel_rfl) (fun W hW => ld_at rfl (by kernel_rfl) (by kernel_rfl) (by kernel_rfl) W (pA.next hW)) ha19 ?_
  have ha20 : Since w12 (wx74.alloc (.cells #[.string ⟨#[88]⟩] 9)) := ha19.alloc _
  refine hx_make (i := 61) (oi := _) (.slice (some ⟨wx74.heap.size, 0, none⟩) 1 1) (wx74.alloc (.cells #[.string ⟨#[88]⟩] 9)) rfl rfl (by kernel_rfl) (by kernel_rfl) (by kernel_rfl) ha20 ?_
  refine hx_call (i := 62) (oi := _) 25 #[.string ⟨#[98, 111, 98]⟩, .string ⟨#[113]⟩, .slice (some ⟨wx74.heap.size, 0, none⟩) 1 1] rfl rfl (by kernel_rfl) (by kernel_rfl) (by kernel_rfl) (kA_X [98, 111, 98] [113] _ 0 _ _ ((cel_new _ _ _).cell 0)) ?_
  rintro e wx75 ⟨rfl, hb⟩
  have ha21 : Since w12 wx75 := ha20.trans hb
  clear hb
  refine ⟨_, rfl, ha21, ?_⟩
  refine hx_call (i := 63) (oi := _) 17 #[.agg #[.slice ap 3 3, .slice ad 3 3, .slice ac 1 1, .int .i64 3, .int .i64 100, .slice ar 1 1, .slice ag 1 1], .agg #[.string ⟨#[98, 111, 98]⟩, .string ⟨#[113]⟩, .int .i64 1, .bool true, .string ⟨#[88]⟩, .bool false, .string ⟨#[]⟩, .bool false, .string ⟨#[]⟩, .bool false, .string ⟨#[]⟩]] rfl rfl (by kernel_rfl) (by kernel_rfl) (by kernel_rfl) (HF9.out _ ha21) ?_
  rintro e wx76 ⟨rfl, hb⟩
  have ha22 : Since w12 wx76 := ha21.trans hb
  clear hb
  refine ⟨_, rfl, ha22, ?_⟩
  refine hx_take (i := 64) (oi := _) (v := .bool true) rfl rfl hns (by kernel_rfl) (by kernel_rfl) hQ (by kernel_rfl) (fun W _ => eqs_intE (s := 8) rfl (by kernel_rfl) (by kernel_rfl) W) ha22 ?_
  refine hx_take (i := 65) (oi := _) (v := .bool true) rfl rfl hns (by kernel_rfl) (by kernel_rfl) hQ (by kernel_rfl) (fun _ _ => by kernel_rfl) ha22 ?_
  refine hx_take (i := 66) (oi := _) (v := .bool true) rfl rfl hns (by kernel_rfl) (by kernel_rfl) hQ (by kernel_rfl) (fun _ _ => by kernel_rfl) ha22 ?_
  refine hx_take (i := 67) (oi := _) (v := .agg #[.slice ap 3 3, .slice ad 3 3, .slice ac 1 1, .int .i64 3, .int .i64 100, .slice ar 1 1, .slice ag 1 1]) rfl rfl hns (by kernel_rfl) (by kernel_rfl) hQ (by kernel_rfl) (fun W hW => ld_at rfl (by kernel_rfl) (by kernel_rfl) (by kernel_rfl) W (pA.next hW)) ha22 ?_
  have ha23 : Since w12 (wx76.alloc (.cells #[.string ⟨#[120, 45]⟩] 9)) := ha22.alloc _
  refine hx_make (i := 68) (oi := _) (.slice (some ⟨wx76.heap.size, 0, none⟩) 1 1) (wx76.alloc (.cells #[.string ⟨#[120, 45]⟩] 9)) rfl rfl (by kernel_rfl) (by kernel_rfl) (by kernel_rfl) ha23 ?_
  refine hx_call (i := 69) (oi := _) 25 #[.string ⟨#[98, 111, 98]⟩, .string ⟨#[112]⟩, .slice (some ⟨wx76.heap.size, 0, none⟩) 1 1] rfl rfl (by kernel_rfl) (by kernel_rfl) (by kernel_rfl) (kA_xz45 [98, 111, 98] [112] _ 0 _ _ ((cel_new _ _ _).cell 0)) ?_
  rintro e wx77 ⟨rfl, hb⟩
  have ha24 : Since w12 wx77 := ha23.trans hb
  clear hb
  refine ⟨_, rfl, ha24, ?_⟩
  refine hx_call (i := 70) (oi := _) 15 #[.agg #[.slice ap 3 3, .slice ad 3 3, .slice ac 1 1, .int .i64 3, .int .i64 100, .slice ar 1 1, .slice ag 1 1], .agg #[.string ⟨#[98, 111, 98]⟩, .string ⟨#[112]⟩, .int .i64 1, .bool false, .string ⟨#[120, 45]⟩, .bool false, .string ⟨#[]⟩, .bool false, .string ⟨#[]⟩, .bool false, .string ⟨#[]⟩]] rfl rfl (by kernel_rfl) (by kernel_rfl) (by kernel_rfl) (HF10.out _ ha24) ?_
  rintro e wx78 ⟨rfl, hb⟩
  have ha25 : Since w12 wx78 := ha24.trans hb
  clear hb
  refine ⟨_, rfl, ha25, ?_⟩
  refine hx_take (i := 71) (oi := _) (v := .bool true) rfl rfl hns (by kernel_rfl) (by kernel_rfl) hQ (by kernel_rfl) (fun W _ => eqs_intE (s := 3) rfl (by kernel_rfl) (by kernel_rfl) W) ha25 ?_
  refine hx_take (i := 72) (oi := _) (v := .bool true) rfl rfl hns (by kernel_rfl) (by kernel_rfl) hQ (by kernel_rfl) (fun _ _ => by kernel_rfl) ha25 ?_
  refine hx_take (i := 73) (oi := _) (v := .bool true) rfl rfl hns (by kernel_rfl) (by kernel_rfl) hQ (by kernel_rfl) (fun _ _ => by kernel_rfl) ha25 ?_
  refine wpAnyH_done (by kernel_rfl) ?_ _
  clear hns hQ
  simp only [List.set_cons_zero, List.set_cons_succ]
  replace HS := HS.trans ha25
  go_wp2_with fail
  go_ret
  exact ⟨rfl, HS⟩
end Go.Proofs.YtpkggopaigledaaDoor
