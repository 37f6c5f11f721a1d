/- The reference's Response. The reference's Refused, Same. -/
import Derived.Test.YtkdeokgkjmboeaaGreatDoorR24B
import Derived.Test.YtkdeokgkjmboeaaGreatDoorFrF
namespace Go.Proofs.YtkdeokgkjmboeaaGreatDoor
open Go.RowKit

set_option maxHeartbeats 4000000 in
theorem rresponse_no (code : Int) (ch : Bool) (v : Value) (L : List Atm) (ct : List UInt8) (w : World) (hv : AtmRow w v L) (hl : ∀ x ∈ L, FitsA x) (hg : ∀ x ∈ L, Light x) (hm : L.length ≤ 1000000) (hr : mayRs (code, ch, L, ct) = false) :
    Calls Tryz.prog 12 #[.agg #[.int .i64 code, .bool ch, v, .string ⟨ct.toArray⟩]] w fun e w' => e = .returned (.tuple #[.string ⟨#[]⟩, .int .i64 2]) ∧ Since w w' := by
  obtain ⟨a, c, rfl⟩ := hv.form
  have hA : Since w (w.alloc (.cells #[.int .i64 code, .bool ch, .slice a L.length c, .string ⟨ct.toArray⟩] 32)) := (Since.refl _).alloc _
  have HM := Lib.hid (rmayRs_any code ch (.slice a L.length c) L ct _ (hv.next hA) hl hg hm)
  rw [hr] at HM
  clear hr hv hl hg
  go_enter Tryz.func12, Tryz.ntmps12
  go_wp2_with fail
  refine HM.out.mono ?_
  rintro e w1 ⟨rfl, hb⟩
  go_wp2_with fail
  go_ret2
  exact ⟨rfl, hA.trans hb⟩
theorem row_one (n : Nat) (h : n < 256) (W : World) : Row (W.alloc (.cells #[.int .u8 (n : Int)] 5)) (.slice (some ⟨W.heap.size, 0, none⟩) 1 1) 1 ([UInt8.ofNat n].map u8V) := by
  refine .inr ⟨W.heap.size, 0, 1, rfl, Nat.le_refl _, fun j hj => ?_⟩
  have hj1 : j < 1 := hj
  obtain rfl : j = 0 := by omega
  rw [World.cell?_alloc_new, u8_of h]; rfl
theorem row_zero (W : World) : Row (W.alloc (.cells #[.int .u8 0] 5)) (.slice (some ⟨W.heap.size, 0, none⟩) 1 1) 1 ([0].map u8V) := row_one 0 (by omega) W
set_option maxHeartbeats 4000000 in
set_option maxRecDepth 100000 in
theorem rresponse_err (code : Nat) (a : Option Addr) (c : Nat) (w : World) (h0 : 0 < code) (h16 : code ≤ 16) (hr : mayRs ((code : Int), false, [], []) = true) :
    Calls Tryz.prog 12 #[.agg #[.int .i64 (code : Int), .bool false, .slice a 0 c, .string ⟨#[]⟩]] w fun e w' => e = .returned (.tuple #[.string ⟨#[UInt8.ofNat code]⟩, .int .i64 0]) ∧ Since w w' := by
  have hv : AtmRow w (.slice a 0 c) [] := ⟨a, c, rfl, fun h => absurd h (Nat.lt_irrefl 0)⟩
  have hA : Since w (w.alloc (.cells #[.int .i64 (code : Int), .bool false, .slice a 0 c, .string ⟨#[]⟩] 32)) := (Since.refl _).alloc _
  have HM := Lib.hid (rmayRs_any (code : Int) false (.slice a 0 c) [] [] _ (hv.next hA) (by simp) (by simp) (by simp))
  rw [hr] at HM
  have r0 : (w.alloc (.cells #[.int .i64 (code : Int), .bool false, .slice a 0 c, .string ⟨#[]⟩] 32)).cell? ⟨w.heap.size, 0, none⟩ = some (.int .i64 (code : Int)) := by rw [World.cell?_alloc_new]; rfl
  have hne : ((code : Int) != 0) = true := by simp; omega
  have ew : IntKind.u8.wrap (code : Int) = (code : Int) := IntWalk.u8_in _ (by omega)
  clear hr hv
  go_enter Tryz.func12, Tryz.ntmps12
  go_wp2_with fail
  refine HM.out.mono ?_
  rintro e w1 ⟨rfl, hb⟩
  replace r0 := hb.cell r0
  have hconv := conv_row (row_one code (by omega) w1) rfl
  replace hA := hA.trans hb
  clear hb
  have r1 : (w1.alloc (.cells #[.int .u8 (code : Int)] 5)).cell? ⟨w.heap.size, 0, none⟩ = some (.int .i64 (code : Int)) := Since.cell ((Since.refl _).alloc _) r0
  go_wp2_with fail
  go_ret2
  exact ⟨rfl, hA.alloc _⟩
set_option maxHeartbeats 8000000 in
set_option maxRecDepth 100000 in
theorem rresponse_yes (ch : Bool) (v : Value) (L : List Atm) (ct : List UInt8) (w : World) (hv : AtmRow w v L) (hg : ∀ x ∈ L, lightB x = true) (hm : L.length ≤ 10000) (hr : mayRs (0, ch, L, ct) = true) (hT : (rsB (0, ch, L, ct)).length ≤ 500000) :
    Calls Tryz.prog 12 #[.agg #[.int .i64 0, .bool ch, v, .string ⟨ct.toArray⟩]] w fun e w' => e = .returned (.tuple #[.string ⟨(rsB (0, ch, L, ct)).toArray⟩, .int .i64 0]) ∧ Since w w' := by
  obtain ⟨a, c, rfl⟩ := hv.form
  have hfit : ∀ x ∈ L, FitsA x := fun x hx => light_fits (hg x hx)
  have hli : ∀ x ∈ L, Light x := fun x hx => light_light (hg x hx)
  have hval : ∀ x ∈ L, checkA x = 0 ∧ groundA x = true := by
    rcases mayRs_cases hr with ⟨h, _⟩ | ⟨_, _, h, _⟩
    · exact absurd rfl h
    · exact h
  have hA : Since w (w.alloc (.cells #[.int .i64 0, .bool ch, .slice a L.length c, .string ⟨ct.toArray⟩] 32)) := (Since.refl _).alloc _
  have hC : Cel (w.alloc (.cells #[.int .i64 0, .bool ch, .slice a L.length c, .string ⟨ct.toArray⟩] 32)) w.heap.size #[.int .i64 0, .bool ch, .slice a L.length c, .string ⟨ct.toArray⟩] 32 := heap_alloc_new w _
  have HM := Lib.hid (rmayRs_any 0 ch (.slice a L.length c) L ct _ (hv.next hA) hfit hli (by omega))
  rw [hr] at HM
  have hTd : rsB (0, ch, L, ct) = (([0] ++ [chB ch]) ++ numL L.length) ++ (L.flatMap atomB ++ (numL ct.length ++ ct)) := by
    show [0] ++ ([chB ch] ++ (numL L.length ++ (L.flatMap atomB ++ (numL ct.length ++ ct)))) = _
    simp only [List.append_assoc]
  obtain ⟨T, hTT⟩ : ∃ T, Hid (T = rsB (0, ch, L, ct)) := ⟨_, rfl⟩
  rw [← hTT.out] at hTd hT ⊢
  have hTl := hT
  have hLl := congrArg List.length hTd
  simp only [List.length_append, List.length_cons, List.length_nil] at hLl
  have HN1 := Lib.hid (fun W => rnumber_any L.length W (by omega))
  have HN2 := Lib.hid (fun W => rnumber_any ct.length W (by omega))
  obtain ⟨N1, hN1⟩ : ∃ N, Hid (N = numL L.length) := ⟨_, rfl⟩
  obtain ⟨N2, hN2⟩ : ∃ N, Hid (N = numL ct.length) := ⟨_, rfl⟩
  rw [← hN1.out] at HN1 hTd hLl
  rw [← hN2.out] at HN2 hTd hLl
  have e1 : IntKind.u32.wrap (L.length : Int) = (L.length : Int) := IntWalk.u32_in _ (by omega)
  have e2 : IntKind.u32.wrap (ct.length : Int) = (ct.length : Int) := IntWalk.u32_in _ (by omega)
  have HTD : Hid (T = (([0] ++ [chB ch]) ++ N1) ++ ((L.drop 0).flatMap atomB ++ (N2 ++ ct))) := hTd
  have HV := Lib.hid (hv.next hA)
  have HVL := Lib.hid hval
  have HF := Lib.hid hfit
  have HG := Lib.hid hg
  have c0 : (w.alloc (.cells #[.int .i64 0, .bool ch, .slice a L.length c, .string ⟨ct.toArray⟩] 32)).cell? ⟨w.heap.size, 0, none⟩ = some (.int .i64 0) := hC.cell 0
  have c1 : (w.alloc (.cells #[.int .i64 0, .bool ch, .slice a L.length c, .string ⟨ct.toArray⟩] 32)).cell? ⟨w.heap.size, 1, none⟩ = some (.bool ch) := hC.cell 1
  have c2 : (w.alloc (.cells #[.int .i64 0, .bool ch, .slice a L.length c, .string ⟨ct.toArray⟩] 32)).cell? ⟨w.heap.size, 2, none⟩ = some (.slice a L.length c) := hC.cell 2
  have c3 : (w.alloc (.cells #[.int .i64 0, .bool ch, .slice a L.length c, .string ⟨ct.toArray⟩] 32)).cell? ⟨w.heap.size, 3, none⟩ = some (.string ⟨ct.toArray⟩) := hC.cell 3
  have hF0 : (L.flatMap atomB).length ≤ 500000 := by omega
  have HFL := Lib.hid hF0
  have q1 : (ByteArray.mk #[0]) ++ (ByteArray.mk #[1]) = ByteArray.mk #[0, 1] := cat_bytes [0] [1]
  have q2 : (ByteArray.mk #[0]) ++ (ByteArray.mk #[0]) = ByteArray.mk #[0, 0] := cat_bytes [0] [0]
  have q3 : (ByteArray.mk #[0, 1]) ++ (ByteArray.mk N1.toArray) = ByteArray.mk (0 :: 1 :: N1).toArray := cat_bytes [0, 1] N1
  have q4 : (ByteArray.mk #[0, 0]) ++ (ByteArray.mk N1.toArray) = ByteArray.mk (0 :: 0 :: N1).toArray := cat_bytes [0, 0] N1
  have z8 : IntKind.u8.wrap (0 : Int) = 0 := by decide
  have lN1 : N1.length ≤ 500000 := by omega
  clear hr hv hval hfit hli hg hC hTd hTT hF0 hN1 hN2 hT
  go_enter Tryz.func12, Tryz.ntmps12
  go_wp2_with fail
  refine HM.out.mono ?_
  rintro e w1 ⟨rfl, hb⟩
  replace c0 := hb.cell c0
  replace c1 := hb.cell c1
  replace c2 := hb.cell c2
  replace c3 := hb.cell c3
  have hconv := conv_row (row_zero w1) rfl
  have hB1 : Since w1 (w1.alloc (.cells #[.int .u8 0] 5)) := (Since.refl _).alloc _
  have HV1 := Lib.hid (HV.out.next (hb.trans hB1))
  have d0 := hB1.cell c0
  have d1 := hB1.cell c1
  have d2 := hB1.cell c2
  have d3 := hB1.cell c3
  replace hA := (hA.trans hb).trans hB1
  clear hb HM HV
  cases ch
  all_goals
    go_wp2_with fail
    generalize w1.alloc (.cells #[.int .u8 0] 5) = w2 at *
    refine (HN1.out _).mono ?_
    rintro e w3 ⟨rfl, hb⟩
    have hS3 := hA.trans hb
    have c2' := hb.cell d2
    have c3' := hb.cell d3
    have HV3 := Lib.hid (HV1.out.next hb)
    clear hb HN1 hB1 c0 c1 c2 c3 d0 d1 d2 d3 HV1 hconv
    go_wp2_with fail
    go_loopw [4, 5, 6, 7] (fun o i _ _ wr => ∃ (k : Nat) (acc : List UInt8), k ≤ L.length ∧ i = .int .i64 (k : Int) ∧ o = .string ⟨acc.toArray⟩ ∧ acc.length ≤ 500000 ∧ Since w3 wr ∧ Hid (T = acc ++ ((L.drop k).flatMap atomB ++ (N2 ++ ct)))) (fun _ i _ _ _ => L.length - (intOf i).toNat)
    case atStart => exact ⟨0, _, by omega, rfl, rfl, by simp; omega, Since.refl _, HTD.out⟩
    case round =>
      obtain ⟨k, acc, hk, rfl, rfl, hacc, hSr, hres⟩ := hrel
      have r2 := hSr.cell c2'
      have r3 := hSr.cell c3'
      by_cases hlt : k < L.length
      · obtain ⟨_, b, o, he, hc, hat⟩ := (HV3.out.next hSr).get (by omega)
        cases he
        have hx := hat k hlt
        have hvl := HVL.out _ (List.getElem_mem hlt)
        have hfl := HF.out _ (List.getElem_mem hlt)
        have hgl := HG.out _ (List.getElem_mem hlt)
        have hkl : (k : Int) < (L.length : Int) := by omega
        have hres' : T = (acc ++ atomB L[k]) ++ ((L.drop (k + 1)).flatMap atomB ++ (N2 ++ ct)) := by
          rw [hres.out, List.drop_eq_getElem_cons hlt, List.flatMap_cons]
          simp only [List.append_assoc]
        have hlen : (acc ++ atomB L[k]).length ≤ 500000 := by
          have h1 := congrArg List.length hres'
          rw [List.length_append] at h1
          omega
        have HN := Lib.hid hres'
        clear hres hres' hat
        generalize L[k] = x at *
        obtain ⟨x_s, x_p, x_n, ⟨x_v0, x_l0⟩, ⟨x_v1, x_l1⟩, ⟨x_v2, x_l2⟩, ⟨x_v3, x_l3⟩⟩ := x
        obtain ⟨x_c0, x_c1, x_c2, x_c3, x_c4, x_c5, x_c6, x_c7, x_c8, x_c9, x_c10⟩ := hx.all
        have HAT := Lib.hid (fun W => ratom23_yes x_s x_p x_n x_v0 x_v1 x_v2 x_v3 x_l0 x_l1 x_l2 x_l3 W hfl hgl hvl.1)
        obtain ⟨B, hB⟩ : ∃ B, Hid (B = atomB ((x_s, x_p, x_n, (x_v0, x_l0), (x_v1, x_l1), (x_v2, x_l2), (x_v3, x_l3)) : Atm)) := ⟨_, rfl⟩
        rw [← hB.out] at HAT HN hlen
        have qc := cat_bytes acc B
        have hl5 : acc.length + B.length ≤ 500000 := by rw [List.length_append] at hlen; omega
        clear hB hx hvl hfl hgl
        go_wp2_with fail
        refine (HAT.out _).mono ?_
        rintro e w5 ⟨rfl, hb⟩
        clear x_c0 x_c1 x_c2 x_c3 x_c4 x_c5 x_c6 x_c7 x_c8 x_c9 x_c10
        go_wp2_with fail
        go_roundw
        case rel => exact ⟨k + 1, acc ++ B, by omega, by go_num, rfl, hlen, hSr.trans hb, HN.out⟩
        case measure => simp [intOf]; omega
      · have hkl : ¬ (k : Int) < (L.length : Int) := by omega
        have hT9 : T = acc ++ (N2 ++ ct) := by rw [hres.out, List.drop_eq_nil_of_le (by omega)]; simp
        have hl9 : acc.length + N2.length + ct.length ≤ 500000 := by
          have h1 := congrArg List.length hT9
          simp only [List.length_append] at h1
          omega
        have HT9 := Lib.hid hT9
        have QA := fun W => runcat (cat_bytes acc N2) (by show acc.length + N2.length ≤ 1000000; omega) W
        have QB := fun W => runcat (cat_bytes (acc ++ N2) ct) (by show (acc ++ N2).length + ct.length ≤ 1000000; rw [List.length_append]; omega) W
        clear hres hT9
        go_wp2_with fail
        go_region_held3 (fun w' => w'.cell? ⟨w.heap.size, 3, none⟩ = some (.string ⟨ct.toArray⟩) ∧ Since wr w')
          ((go_split_ands; (refine ⟨?_, ?_⟩) <;> (first | assumption | (refine Since.drew ?_; assumption) | (refine Since.cell hb ?_; assumption) | (refine Since.trans ?_ hb; assumption) | exact Since.refl _ | exact (Since.refl _).drew)))
          (first | (go_at_call 33; ((with_reducible refine (HN2.out _).mono ?_); rintro e w6 ⟨rfl, hb⟩)))
        go_split_ands
        go_wp2_with fail
        go_ret2
        refine ⟨?_, (hS3.trans hSr).trans (by assumption)⟩
        rw [HT9.out]; rfl
end Go.Proofs.YtkdeokgkjmboeaaGreatDoor

namespace Go.Proofs.YtkdeokgkjmboeaaGreatDoor
open Go.RowKit
attribute [local go_sem ↓] run_atomEq

set_option maxHeartbeats 1000000 in
theorem rrefused_any (k : Int) (w : World) :
    Calls Tryz.prog 18 #[.int .i64 k] w fun e w' => e = .returned (.agg #[.int .i64 k, .bool false, .slice none 0 0, .string ⟨#[]⟩]) ∧ Since w w' := by
  go_enter Tryz.func18, Tryz.ntmps18
  go_wp2_with fail
  refine bodyPost_ret (v := .agg #[.int .i64 k, .bool false, .slice none 0 0, .string ⟨#[]⟩]) (by simp [results, Tryz.results18, go_sem]) rfl ?_
  exact ⟨rfl, (Since.refl _).alloc _⟩
set_option maxHeartbeats 4000000 in
set_option maxRecDepth 100000 in
theorem rsame24_any (k1 k2 : Int) (ch1 ch2 : Bool) (v1 v2 : Value) (L1 L2 : List Atm) (t1 t2 : List UInt8) (w : World) (h1 : AtmRow w v1 L1) (h2 : AtmRow w v2 L2) (hm1 : L1.length ≤ 1000000) (hm2 : L2.length ≤ 1000000) :
    Calls Tryz.prog 15 #[.agg #[.int .i64 k1, .bool ch1, v1, .string ⟨t1.toArray⟩], .agg #[.int .i64 k2, .bool ch2, v2, .string ⟨t2.toArray⟩]] w fun e w' => e = .returned (.bool (sameR (k1, ch1, L1, t1) (k2, ch2, L2, t2))) ∧ Since w w' := by
  obtain ⟨a1, c1, rfl⟩ := h1.form
  obtain ⟨a2, c2, rfl⟩ := h2.form
  have hA : Since w ((w.alloc (.cells #[.int .i64 k1, .bool ch1, .slice a1 L1.length c1, .string ⟨t1.toArray⟩] 32)).alloc (.cells #[.int .i64 k2, .bool ch2, .slice a2 L2.length c2, .string ⟨t2.toArray⟩] 32)) := ((Since.refl _).alloc _).alloc _
  have b_C : Cel ((w.alloc (.cells #[.int .i64 k1, .bool ch1, .slice a1 L1.length c1, .string ⟨t1.toArray⟩] 32)).alloc (.cells #[.int .i64 k2, .bool ch2, .slice a2 L2.length c2, .string ⟨t2.toArray⟩] 32)) w.heap.size #[.int .i64 k1, .bool ch1, .slice a1 L1.length c1, .string ⟨t1.toArray⟩] 32 := Cel.next (W := w.alloc (.cells #[.int .i64 k1, .bool ch1, .slice a1 L1.length c1, .string ⟨t1.toArray⟩] 32)) (heap_alloc_new w _) ((Since.refl _).alloc _)
  have d_C : Cel ((w.alloc (.cells #[.int .i64 k1, .bool ch1, .slice a1 L1.length c1, .string ⟨t1.toArray⟩] 32)).alloc (.cells #[.int .i64 k2, .bool ch2, .slice a2 L2.length c2, .string ⟨t2.toArray⟩] 32)) (w.heap.size + 1) #[.int .i64 k2, .bool ch2, .slice a2 L2.length c2, .string ⟨t2.toArray⟩] 32 := by
    have h := heap_alloc_new (w.alloc (.cells #[.int .i64 k1, .bool ch1, .slice a1 L1.length c1, .string ⟨t1.toArray⟩] 32)) (.cells #[.int .i64 k2, .bool ch2, .slice a2 L2.length c2, .string ⟨t2.toArray⟩] 32)
    rw [World.size_alloc] at h
    exact h
  have H1 := Lib.hid (h1.next hA)
  have H2 := Lib.hid (h2.next hA)
  have x0 : ((w.alloc (.cells #[.int .i64 k1, .bool ch1, .slice a1 L1.length c1, .string ⟨t1.toArray⟩] 32)).alloc (.cells #[.int .i64 k2, .bool ch2, .slice a2 L2.length c2, .string ⟨t2.toArray⟩] 32)).cell? ⟨w.heap.size, 0, none⟩ = some (.int .i64 k1) := b_C.cell 0
  have x1 : ((w.alloc (.cells #[.int .i64 k1, .bool ch1, .slice a1 L1.length c1, .string ⟨t1.toArray⟩] 32)).alloc (.cells #[.int .i64 k2, .bool ch2, .slice a2 L2.length c2, .string ⟨t2.toArray⟩] 32)).cell? ⟨w.heap.size, 1, none⟩ = some (.bool ch1) := b_C.cell 1
  have x2 : ((w.alloc (.cells #[.int .i64 k1, .bool ch1, .slice a1 L1.length c1, .string ⟨t1.toArray⟩] 32)).alloc (.cells #[.int .i64 k2, .bool ch2, .slice a2 L2.length c2, .string ⟨t2.toArray⟩] 32)).cell? ⟨w.heap.size, 2, none⟩ = some (.slice a1 L1.length c1) := b_C.cell 2
  have x3 : ((w.alloc (.cells #[.int .i64 k1, .bool ch1, .slice a1 L1.length c1, .string ⟨t1.toArray⟩] 32)).alloc (.cells #[.int .i64 k2, .bool ch2, .slice a2 L2.length c2, .string ⟨t2.toArray⟩] 32)).cell? ⟨w.heap.size, 3, none⟩ = some (.string ⟨t1.toArray⟩) := b_C.cell 3
  have y0 : ((w.alloc (.cells #[.int .i64 k1, .bool ch1, .slice a1 L1.length c1, .string ⟨t1.toArray⟩] 32)).alloc (.cells #[.int .i64 k2, .bool ch2, .slice a2 L2.length c2, .string ⟨t2.toArray⟩] 32)).cell? ⟨w.heap.size + 1, 0, none⟩ = some (.int .i64 k2) := d_C.cell 0
  have y1 : ((w.alloc (.cells #[.int .i64 k1, .bool ch1, .slice a1 L1.length c1, .string ⟨t1.toArray⟩] 32)).alloc (.cells #[.int .i64 k2, .bool ch2, .slice a2 L2.length c2, .string ⟨t2.toArray⟩] 32)).cell? ⟨w.heap.size + 1, 1, none⟩ = some (.bool ch2) := d_C.cell 1
  have y2 : ((w.alloc (.cells #[.int .i64 k1, .bool ch1, .slice a1 L1.length c1, .string ⟨t1.toArray⟩] 32)).alloc (.cells #[.int .i64 k2, .bool ch2, .slice a2 L2.length c2, .string ⟨t2.toArray⟩] 32)).cell? ⟨w.heap.size + 1, 2, none⟩ = some (.slice a2 L2.length c2) := d_C.cell 2
  have y3 : ((w.alloc (.cells #[.int .i64 k1, .bool ch1, .slice a1 L1.length c1, .string ⟨t1.toArray⟩] 32)).alloc (.cells #[.int .i64 k2, .bool ch2, .slice a2 L2.length c2, .string ⟨t2.toArray⟩] 32)).cell? ⟨w.heap.size + 1, 3, none⟩ = some (.string ⟨t2.toArray⟩) := d_C.cell 3
  have hR : Hid (sameR (k1, ch1, L1, t1) (k2, ch2, L2, t2) = ((k1 == k2) && ((ch1 == ch2) && ((t1 == t2) && sameA L1 L2)))) := rfl
  generalize sameR (k1, ch1, L1, t1) (k2, ch2, L2, t2) = R at *
  clear h1 h2 b_C d_C
  cases e1 : (k1 == k2)
  · have hRv : Hid (R = false) := by show _ = _; rw [hR.out, e1]; rfl
    have g1 : (k1 != k2) = true := by rw [bne, e1]; rfl
    clear hR
    go_enter Tryz.func15, Tryz.ntmps15
    go_wp2_with fail
    go_ret
    exact ⟨ret_bool hRv.out.symm, hA⟩
  have g1 : (k1 != k2) = false := by rw [bne, e1]; rfl
  cases e2 : (ch1 == ch2)
  · have hRv : Hid (R = false) := by show _ = _; rw [hR.out, e1, e2]; rfl
    have g2 : (ch1 != ch2) = true := by rw [bne, e2]; rfl
    clear hR
    go_enter Tryz.func15, Tryz.ntmps15
    go_wp2_with fail
    go_ret
    exact ⟨ret_bool hRv.out.symm, hA⟩
  have g2 : (ch1 != ch2) = false := by rw [bne, e2]; rfl
  cases e3 : (t1 == t2)
  · have hRv : Hid (R = false) := by show _ = _; rw [hR.out, e1, e2, e3]; rfl
    clear hR
    go_enter Tryz.func15, Tryz.ntmps15
    go_wp2_with fail
    go_ret
    exact ⟨ret_bool hRv.out.symm, hA⟩
  have hRD : Hid (R = sameA L1 L2) := by show _ = _; rw [hR.out, e1, e2, e3]; rfl
  clear hR
  by_cases hl : L1.length = L2.length
  case neg =>
    have hq : ((L1.length : Int) != (L2.length : Int)) = true := by simp; omega
    have hRv : Hid (R = false) := by show _ = _; rw [hRD.out]; exact sameA_len hl
    clear hRD hl
    go_enter Tryz.func15, Tryz.ntmps15
    go_wp2_with fail
    go_ret
    exact ⟨ret_bool hRv.out.symm, hA⟩
  case pos =>
    have hq : ((L1.length : Int) != (L2.length : Int)) = false := by simp [hl]
    have HL := Lib.hid hl
    have hRD0 : Hid (R = sameA (L1.drop 0) (L2.drop 0)) := hRD
    clear hl hRD
    go_enter Tryz.func15, Tryz.ntmps15
    go_wp2_with fail
    go_loopw [5] (fun i wr => ∃ k : Nat, k ≤ L1.length ∧ i = .int .i64 (k : Int) ∧ Since ((w.alloc (.cells #[.int .i64 k1, .bool ch1, .slice a1 L1.length c1, .string ⟨t1.toArray⟩] 32)).alloc (.cells #[.int .i64 k2, .bool ch2, .slice a2 L2.length c2, .string ⟨t2.toArray⟩] 32)) wr ∧ Hid (R = sameA (L1.drop k) (L2.drop k))) (fun i _ => L1.length - (intOf i).toNat)
    case atStart => exact ⟨0, Nat.zero_le _, rfl, Since.refl _, hRD0.out⟩
    case round =>
      clear hRD0
      obtain ⟨k, hk, rfl, hS, hres⟩ := hrel
      replace x2 := hS.cell x2
      replace y2 := hS.cell y2
      by_cases hlt : k < L1.length
      · have hlt2 : k < L2.length := by rw [← HL.out]; exact hlt
        obtain ⟨_, b1, o1, he1, _, hc1⟩ := (H1.out.next hS).get (by omega)
        cases he1
        obtain ⟨_, b2, o2, he2, _, hc2⟩ := (H2.out.next hS).get (by omega)
        cases he2
        have d1 := hc1 k hlt
        have d2 := hc2 k hlt2
        have HST := Lib.hid (drop_eqA hlt hlt2)
        clear hc1 hc2
        have hk2 : (k : Int) < (L2.length : Int) := by omega
        have hk1 : (k : Int) < (L1.length : Int) := by omega
        generalize L1[k] = x at *
        generalize L2[k] = y at *
        obtain ⟨a_s, a_p, a_n, ⟨a_v0, a_l0⟩, ⟨a_v1, a_l1⟩, ⟨a_v2, a_l2⟩, ⟨a_v3, a_l3⟩⟩ := x
        obtain ⟨b_s, b_p, b_n, ⟨b_v0, b_l0⟩, ⟨b_v1, b_l1⟩, ⟨b_v2, b_l2⟩, ⟨b_v3, b_l3⟩⟩ := y
        obtain ⟨a_c0, a_c1, a_c2, a_c3, a_c4, a_c5, a_c6, a_c7, a_c8, a_c9, a_c10⟩ := d1.all
        obtain ⟨b_c0, b_c1, b_c2, b_c3, b_c4, b_c5, b_c6, b_c7, b_c8, b_c9, b_c10⟩ := d2.all
        clear d1 d2
        cases he : eqA ((a_s, a_p, a_n, (a_v0, a_l0), (a_v1, a_l1), (a_v2, a_l2), (a_v3, a_l3)) : Atm) ((b_s, b_p, b_n, (b_v0, b_l0), (b_v1, b_l1), (b_v2, b_l2), (b_v3, b_l3)) : Atm)
        · rw [he] at HST
          have hnx : Hid (R = false) := by show _ = _; rw [hres.out, HST.out, Bool.false_and]
          clear hres HST
          go_wp2_with fail
          go_quiet (fail)
          go_wp2_with fail
          go_ret
          refine ⟨ret_bool hnx.out.symm, ?_⟩
          exact (hA.trans hS).drewN _
        · rw [he] at HST
          have hnx : Hid (R = sameA (L1.drop (k + 1)) (L2.drop (k + 1))) := by show _ = _; rw [hres.out, HST.out, Bool.true_and]
          clear hres HST
          go_wp2_with fail
          go_quiet (fail)
          go_wp2_with fail
          go_roundw
          case rel => exact ⟨k + 1, by omega, by go_num, hS.drewN _, hnx.out⟩
          case measure => simp [intOf]; omega
      · have hnx : Hid (R = true) := by
          show _ = _
          have := HL.out
          rw [hres.out, List.drop_eq_nil_of_le (by omega), List.drop_eq_nil_of_le (by omega)]; rfl
        have hk1 : ¬ (k : Int) < (L1.length : Int) := by omega
        clear hres
        go_wp2_with fail
        go_ret
        exact ⟨ret_bool hnx.out.symm, hA.trans hS⟩
end Go.Proofs.YtkdeokgkjmboeaaGreatDoor
