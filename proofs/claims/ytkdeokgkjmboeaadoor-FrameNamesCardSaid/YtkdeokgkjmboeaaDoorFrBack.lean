/- FrameBack returns true at every request, response and bytes, in every world in which the library's table strings.asciiSpace stands. -/
import Derived.Test.YtkdeokgkjmboeaaDoorFrM
namespace Go.Proofs.YtkdeokgkjmboeaaDoor
open Go.RowKit
attribute [local go_sem ↓] run_reqEq
attribute [local go_sem] eqRq_self
section
variable {W : World} {B : Nat} {T : TypeId} {c0 c1 c2 c3 c4 c5 c6 c7 c8 c9 c10 c11 : Value}
theorem Cel.rq (h : Cel W B #[c0, c1, c2, c3, c4, c5, c6, c7, c8, c9, c10, c11] T) : W.cell? ⟨B, 0, none⟩ = some c0 ∧ W.cell? ⟨B, 1, none⟩ = some c1 ∧ W.cell? ⟨B, 2, none⟩ = some c2 ∧ W.cell? ⟨B, 3, none⟩ = some c3 ∧ W.cell? ⟨B, 4, none⟩ = some c4 ∧ W.cell? ⟨B, 5, none⟩ = some c5 ∧ W.cell? ⟨B, 6, none⟩ = some c6 ∧ W.cell? ⟨B, 7, none⟩ = some c7 ∧ W.cell? ⟨B, 8, none⟩ = some c8 ∧ W.cell? ⟨B, 9, none⟩ = some c9 ∧ W.cell? ⟨B, 10, none⟩ = some c10 ∧ W.cell? ⟨B, 11, none⟩ = some c11 :=
  ⟨h.cell 0, h.cell 1, h.cell 2, h.cell 3, h.cell 4, h.cell 5, h.cell 6, h.cell 7, h.cell 8, h.cell 9, h.cell 10, h.cell 11⟩
theorem Cel.rs (h : Cel W B #[c0, c1, c2, c3] T) : W.cell? ⟨B, 0, none⟩ = some c0 ∧ W.cell? ⟨B, 1, none⟩ = some c1 ∧ W.cell? ⟨B, 2, none⟩ = some c2 ∧ W.cell? ⟨B, 3, none⟩ = some c3 :=
  ⟨h.cell 0, h.cell 1, h.cell 2, h.cell 3⟩
end
theorem readRq_fits {s : List UInt8} {k : Nat} {a : Atm} (h : readRq s = some (k, a)) : FitsA a := valid_fits (readRq_atom h)
set_option maxHeartbeats 8000000 in
set_option maxRecDepth 100000 in
theorem fback_any (k : Int) (a_s a_p : List UInt8) (a_n : Int) (a_v0 a_v1 a_v2 a_v3 : Bool) (a_l0 a_l1 a_l2 a_l3 : List UInt8) (code : Int) (ch : Bool) (v : Value) (L : List Atm) (ct s : List UInt8) (w : World) (hE : Env w) (hv : AtmRow w v L) (hFA : FitsA ((a_s, a_p, a_n, (a_v0, a_l0), (a_v1, a_l1), (a_v2, a_l2), (a_v3, a_l3)) : Atm)) (hFL : ∀ x ∈ L, FitsA x) :
    Calls Tryd.prog 4 #[.agg #[.int .i64 k, .string ⟨a_s.toArray⟩, .string ⟨a_p.toArray⟩, .int .i64 a_n, .bool a_v0, .string ⟨a_l0.toArray⟩, .bool a_v1, .string ⟨a_l1.toArray⟩, .bool a_v2, .string ⟨a_l2.toArray⟩, .bool a_v3, .string ⟨a_l3.toArray⟩], .agg #[.int .i64 code, .bool ch, v, .string ⟨ct.toArray⟩], .string ⟨s.toArray⟩] w fun e w' => e = .returned (.bool true) ∧ Since w w' := by
  obtain ⟨a1, c1, rfl⟩ := hv.form
  have hA : Since w ((w.alloc (.cells #[.int .i64 k, .string ⟨a_s.toArray⟩, .string ⟨a_p.toArray⟩, .int .i64 a_n, .bool a_v0, .string ⟨a_l0.toArray⟩, .bool a_v1, .string ⟨a_l1.toArray⟩, .bool a_v2, .string ⟨a_l2.toArray⟩, .bool a_v3, .string ⟨a_l3.toArray⟩] 28)).alloc (.cells #[.int .i64 code, .bool ch, .slice a1 L.length c1, .string ⟨ct.toArray⟩] 32)) := ((Since.refl _).alloc _).alloc _
  have HR : Hid (Cel ((w.alloc (.cells #[.int .i64 k, .string ⟨a_s.toArray⟩, .string ⟨a_p.toArray⟩, .int .i64 a_n, .bool a_v0, .string ⟨a_l0.toArray⟩, .bool a_v1, .string ⟨a_l1.toArray⟩, .bool a_v2, .string ⟨a_l2.toArray⟩, .bool a_v3, .string ⟨a_l3.toArray⟩] 28)).alloc (.cells #[.int .i64 code, .bool ch, .slice a1 L.length c1, .string ⟨ct.toArray⟩] 32)) w.heap.size #[.int .i64 k, .string ⟨a_s.toArray⟩, .string ⟨a_p.toArray⟩, .int .i64 a_n, .bool a_v0, .string ⟨a_l0.toArray⟩, .bool a_v1, .string ⟨a_l1.toArray⟩, .bool a_v2, .string ⟨a_l2.toArray⟩, .bool a_v3, .string ⟨a_l3.toArray⟩] 28) := (Cel.next (W := w.alloc (.cells #[.int .i64 k, .string ⟨a_s.toArray⟩, .string ⟨a_p.toArray⟩, .int .i64 a_n, .bool a_v0, .string ⟨a_l0.toArray⟩, .bool a_v1, .string ⟨a_l1.toArray⟩, .bool a_v2, .string ⟨a_l2.toArray⟩, .bool a_v3, .string ⟨a_l3.toArray⟩] 28)) (heap_alloc_new w _) ((Since.refl _).alloc _))
  have HX : Hid (Cel ((w.alloc (.cells #[.int .i64 k, .string ⟨a_s.toArray⟩, .string ⟨a_p.toArray⟩, .int .i64 a_n, .bool a_v0, .string ⟨a_l0.toArray⟩, .bool a_v1, .string ⟨a_l1.toArray⟩, .bool a_v2, .string ⟨a_l2.toArray⟩, .bool a_v3, .string ⟨a_l3.toArray⟩] 28)).alloc (.cells #[.int .i64 code, .bool ch, .slice a1 L.length c1, .string ⟨ct.toArray⟩] 32)) (w.heap.size + 1) #[.int .i64 code, .bool ch, .slice a1 L.length c1, .string ⟨ct.toArray⟩] 32) := by
    have h := heap_alloc_new (w.alloc (.cells #[.int .i64 k, .string ⟨a_s.toArray⟩, .string ⟨a_p.toArray⟩, .int .i64 a_n, .bool a_v0, .string ⟨a_l0.toArray⟩, .bool a_v1, .string ⟨a_l1.toArray⟩, .bool a_v2, .string ⟨a_l2.toArray⟩, .bool a_v3, .string ⟨a_l3.toArray⟩] 28)) (.cells #[.int .i64 code, .bool ch, .slice a1 L.length c1, .string ⟨ct.toArray⟩] 32)
    rw [World.size_alloc] at h
    exact h
  have hS := Since.refl ((w.alloc (.cells #[.int .i64 k, .string ⟨a_s.toArray⟩, .string ⟨a_p.toArray⟩, .int .i64 a_n, .bool a_v0, .string ⟨a_l0.toArray⟩, .bool a_v1, .string ⟨a_l1.toArray⟩, .bool a_v2, .string ⟨a_l2.toArray⟩, .bool a_v3, .string ⟨a_l3.toArray⟩] 28)).alloc (.cells #[.int .i64 code, .bool ch, .slice a1 L.length c1, .string ⟨ct.toArray⟩] 32))
  have HE := Lib.hid (hE.next hA)
  have HV := Lib.hid (hv.next hA)
  have HLA := Lib.hid (fun W => light_any a_s a_p a_n a_v0 a_v1 a_v2 a_v3 a_l0 a_l1 a_l2 a_l3 W)
  have HLS := Lib.hid (fun W hv => lightAs_any (.slice a1 L.length c1) L W hv)
  obtain ⟨r0, r1, r2, r3, r4, r5, r6, r7, r8, r9, r10, r11⟩ := (HR.out.next hS).rq
  obtain ⟨x0, x1, x2, x3⟩ := (HX.out.next hS).rs
  clear hE hv
  cases hla : lightB ((a_s, a_p, a_n, (a_v0, a_l0), (a_v1, a_l1), (a_v2, a_l2), (a_v3, a_l3)) : Atm)
  · rw [hla] at HLA
    go_enter Tryd.func4, Tryd.ntmps4
    go_wp2_with fail
    refine (lives24_any _ (HE.out.next hS)).mono ?_
    rintro e w1 ⟨rfl, hb⟩
    replace hS := hS.trans hb
    clear hb
    try clear r0 r1 r2 r3 r4 r5 r6 r7 r8 r9 r10 r11
    try clear x0 x1 x2 x3
    obtain ⟨r0, r1, r2, r3, r4, r5, r6, r7, r8, r9, r10, r11⟩ := (HR.out.next hS).rq
    obtain ⟨x0, x1, x2, x3⟩ := (HX.out.next hS).rs
    go_wp2_with fail
    refine (HLA.out _).mono ?_
    rintro e w2 ⟨rfl, hb⟩
    replace hS := hS.trans hb
    clear hb
    try clear r0 r1 r2 r3 r4 r5 r6 r7 r8 r9 r10 r11
    try clear x0 x1 x2 x3
    obtain ⟨r0, r1, r2, r3, r4, r5, r6, r7, r8, r9, r10, r11⟩ := (HR.out.next hS).rq
    obtain ⟨x0, x1, x2, x3⟩ := (HX.out.next hS).rs
    go_wp2_with fail
    go_ret
    exact ⟨rfl, hA.trans hS⟩
  rw [hla] at HLA
  cases hls : lightAs 20 L
  · rw [hls] at HLS
    go_enter Tryd.func4, Tryd.ntmps4
    go_wp2_with fail
    refine (lives24_any _ (HE.out.next hS)).mono ?_
    rintro e w1 ⟨rfl, hb⟩
    replace hS := hS.trans hb
    clear hb
    try clear r0 r1 r2 r3 r4 r5 r6 r7 r8 r9 r10 r11
    try clear x0 x1 x2 x3
    obtain ⟨r0, r1, r2, r3, r4, r5, r6, r7, r8, r9, r10, r11⟩ := (HR.out.next hS).rq
    obtain ⟨x0, x1, x2, x3⟩ := (HX.out.next hS).rs
    go_wp2_with fail
    refine (HLA.out _).mono ?_
    rintro e w2 ⟨rfl, hb⟩
    replace hS := hS.trans hb
    clear hb
    try clear r0 r1 r2 r3 r4 r5 r6 r7 r8 r9 r10 r11
    try clear x0 x1 x2 x3
    obtain ⟨r0, r1, r2, r3, r4, r5, r6, r7, r8, r9, r10, r11⟩ := (HR.out.next hS).rq
    obtain ⟨x0, x1, x2, x3⟩ := (HX.out.next hS).rs
    go_wp2_with fail
    refine (HLS.out _ (HV.out.next hS)).mono ?_
    rintro e w3 ⟨rfl, hb⟩
    replace hS := hS.trans hb
    clear hb
    try clear r0 r1 r2 r3 r4 r5 r6 r7 r8 r9 r10 r11
    try clear x0 x1 x2 x3
    obtain ⟨r0, r1, r2, r3, r4, r5, r6, r7, r8, r9, r10, r11⟩ := (HR.out.next hS).rq
    obtain ⟨x0, x1, x2, x3⟩ := (HX.out.next hS).rs
    go_wp2_with fail
    go_ret
    exact ⟨rfl, hA.trans hS⟩
  rw [hls] at HLS
  cases hct : decide ((2000 : Int) < (ct.length : Int))
  case true =>
    go_enter Tryd.func4, Tryd.ntmps4
    go_wp2_with fail
    refine (lives24_any _ (HE.out.next hS)).mono ?_
    rintro e w1 ⟨rfl, hb⟩
    replace hS := hS.trans hb
    clear hb
    try clear r0 r1 r2 r3 r4 r5 r6 r7 r8 r9 r10 r11
    try clear x0 x1 x2 x3
    obtain ⟨r0, r1, r2, r3, r4, r5, r6, r7, r8, r9, r10, r11⟩ := (HR.out.next hS).rq
    obtain ⟨x0, x1, x2, x3⟩ := (HX.out.next hS).rs
    go_wp2_with fail
    refine (HLA.out _).mono ?_
    rintro e w2 ⟨rfl, hb⟩
    replace hS := hS.trans hb
    clear hb
    try clear r0 r1 r2 r3 r4 r5 r6 r7 r8 r9 r10 r11
    try clear x0 x1 x2 x3
    obtain ⟨r0, r1, r2, r3, r4, r5, r6, r7, r8, r9, r10, r11⟩ := (HR.out.next hS).rq
    obtain ⟨x0, x1, x2, x3⟩ := (HX.out.next hS).rs
    go_wp2_with fail
    refine (HLS.out _ (HV.out.next hS)).mono ?_
    rintro e w3 ⟨rfl, hb⟩
    replace hS := hS.trans hb
    clear hb
    try clear r0 r1 r2 r3 r4 r5 r6 r7 r8 r9 r10 r11
    try clear x0 x1 x2 x3
    obtain ⟨r0, r1, r2, r3, r4, r5, r6, r7, r8, r9, r10, r11⟩ := (HR.out.next hS).rq
    obtain ⟨x0, x1, x2, x3⟩ := (HX.out.next hS).rs
    go_wp2_with fail
    go_ret
    exact ⟨rfl, hA.trans hS⟩
  cases hsl : decide ((5000 : Int) < (s.length : Int))
  case true =>
    go_enter Tryd.func4, Tryd.ntmps4
    go_wp2_with fail
    refine (lives24_any _ (HE.out.next hS)).mono ?_
    rintro e w1 ⟨rfl, hb⟩
    replace hS := hS.trans hb
    clear hb
    try clear r0 r1 r2 r3 r4 r5 r6 r7 r8 r9 r10 r11
    try clear x0 x1 x2 x3
    obtain ⟨r0, r1, r2, r3, r4, r5, r6, r7, r8, r9, r10, r11⟩ := (HR.out.next hS).rq
    obtain ⟨x0, x1, x2, x3⟩ := (HX.out.next hS).rs
    go_wp2_with fail
    refine (HLA.out _).mono ?_
    rintro e w2 ⟨rfl, hb⟩
    replace hS := hS.trans hb
    clear hb
    try clear r0 r1 r2 r3 r4 r5 r6 r7 r8 r9 r10 r11
    try clear x0 x1 x2 x3
    obtain ⟨r0, r1, r2, r3, r4, r5, r6, r7, r8, r9, r10, r11⟩ := (HR.out.next hS).rq
    obtain ⟨x0, x1, x2, x3⟩ := (HX.out.next hS).rs
    go_wp2_with fail
    refine (HLS.out _ (HV.out.next hS)).mono ?_
    rintro e w3 ⟨rfl, hb⟩
    replace hS := hS.trans hb
    clear hb
    try clear r0 r1 r2 r3 r4 r5 r6 r7 r8 r9 r10 r11
    try clear x0 x1 x2 x3
    obtain ⟨r0, r1, r2, r3, r4, r5, r6, r7, r8, r9, r10, r11⟩ := (HR.out.next hS).rq
    obtain ⟨x0, x1, x2, x3⟩ := (HX.out.next hS).rs
    go_wp2_with fail
    go_ret
    exact ⟨rfl, hA.trans hS⟩
  have hc2 : ct.length ≤ 2000 := by rw [decide_eq_false_iff_not] at hct; omega
  have hs2 : s.length ≤ 5000 := by rw [decide_eq_false_iff_not] at hsl; omega
  have HL20 : Hid (L.length ≤ 20 ∧ ∀ x ∈ L, lightB x = true) := by
    simp only [lightAs, Bool.and_eq_true, Bool.not_eq_true', decide_eq_false_iff_not, List.all_eq_true] at hls
    exact ⟨by omega, hls.2⟩
  have HFA := Lib.hid hFA
  have HFL := Lib.hid hFL
  have HLB := Lib.hid hla
  clear hla hls hFA hFL
  go_enter Tryd.func4, Tryd.ntmps4
  go_wp2_with fail
  refine (lives24_any _ (HE.out.next hS)).mono ?_
  rintro e w1 ⟨rfl, hb⟩
  replace hS := hS.trans hb
  clear hb
  try clear r0 r1 r2 r3 r4 r5 r6 r7 r8 r9 r10 r11
  try clear x0 x1 x2 x3
  obtain ⟨r0, r1, r2, r3, r4, r5, r6, r7, r8, r9, r10, r11⟩ := (HR.out.next hS).rq
  obtain ⟨x0, x1, x2, x3⟩ := (HX.out.next hS).rs
  go_wp2_with fail
  refine (HLA.out _).mono ?_
  rintro e w2 ⟨rfl, hb⟩
  replace hS := hS.trans hb
  clear hb
  try clear r0 r1 r2 r3 r4 r5 r6 r7 r8 r9 r10 r11
  try clear x0 x1 x2 x3
  obtain ⟨r0, r1, r2, r3, r4, r5, r6, r7, r8, r9, r10, r11⟩ := (HR.out.next hS).rq
  obtain ⟨x0, x1, x2, x3⟩ := (HX.out.next hS).rs
  go_wp2_with fail
  refine (HLS.out _ (HV.out.next hS)).mono ?_
  rintro e w3 ⟨rfl, hb⟩
  replace hS := hS.trans hb
  clear hb
  try clear r0 r1 r2 r3 r4 r5 r6 r7 r8 r9 r10 r11
  try clear x0 x1 x2 x3
  obtain ⟨r0, r1, r2, r3, r4, r5, r6, r7, r8, r9, r10, r11⟩ := (HR.out.next hS).rq
  obtain ⟨x0, x1, x2, x3⟩ := (HX.out.next hS).rs
  go_wp2_with fail
  clear hct hsl
  obtain ⟨X, E, hXE⟩ : ∃ (X : List UInt8) (E : Int), Hid ((mayRq k ((a_s, a_p, a_n, (a_v0, a_l0), (a_v1, a_l1), (a_v2, a_l2), (a_v3, a_l3)) : Atm) = true ∧ X = rqB k ((a_s, a_p, a_n, (a_v0, a_l0), (a_v1, a_l1), (a_v2, a_l2), (a_v3, a_l3)) : Atm) ∧ E = 0) ∨ (mayRq k ((a_s, a_p, a_n, (a_v0, a_l0), (a_v1, a_l1), (a_v2, a_l2), (a_v3, a_l3)) : Atm) = false ∧ X = [] ∧ E = 2)) := by
    cases h : mayRq k ((a_s, a_p, a_n, (a_v0, a_l0), (a_v1, a_l1), (a_v2, a_l2), (a_v3, a_l3)) : Atm)
    · exact ⟨[], 2, .inr ⟨rfl, rfl, rfl⟩⟩
    · exact ⟨rqB k ((a_s, a_p, a_n, (a_v0, a_l0), (a_v1, a_l1), (a_v2, a_l2), (a_v3, a_l3)) : Atm), 0, .inl ⟨rfl, rfl, rfl⟩⟩
  have HRQ : Hid (∀ W, Env W → Calls Tryd.prog 11 #[.agg #[.int .i64 k, .string ⟨a_s.toArray⟩, .string ⟨a_p.toArray⟩, .int .i64 a_n, .bool a_v0, .string ⟨a_l0.toArray⟩, .bool a_v1, .string ⟨a_l1.toArray⟩, .bool a_v2, .string ⟨a_l2.toArray⟩, .bool a_v3, .string ⟨a_l3.toArray⟩]] W fun e w' => e = .returned (.tuple #[.string ⟨X.toArray⟩, .int .i64 E]) ∧ Since W w') := by
    intro W hEW
    rcases hXE.out with ⟨h, rfl, rfl⟩ | ⟨h, rfl, rfl⟩
    · exact request_yes' k a_s a_p a_n a_v0 a_v1 a_v2 a_v3 a_l0 a_l1 a_l2 a_l3 W HFA.out hEW h
    · exact request_no k a_s a_p a_n a_v0 a_v1 a_v2 a_v3 a_l0 a_l1 a_l2 a_l3 W HFA.out hEW h
  refine (HRQ.out _ (HE.out.next hS)).mono ?_
  rintro e w4 ⟨rfl, hb⟩
  replace hS := hS.trans hb
  try clear hb
  try clear r0 r1 r2 r3 r4 r5 r6 r7 r8 r9 r10 r11
  try clear x0 x1 x2 x3
  go_upto_if 51 with (fail)
  go_cut [7] (fun s7 wx => Since ((w.alloc (.cells #[.int .i64 k, .string ⟨a_s.toArray⟩, .string ⟨a_p.toArray⟩, .int .i64 a_n, .bool a_v0, .string ⟨a_l0.toArray⟩, .bool a_v1, .string ⟨a_l1.toArray⟩, .bool a_v2, .string ⟨a_l2.toArray⟩, .bool a_v3, .string ⟨a_l3.toArray⟩] 28)).alloc (.cells #[.int .i64 code, .bool ch, .slice a1 L.length c1, .string ⟨ct.toArray⟩] 32)) wx)
  case first =>
    obtain ⟨r0, r1, r2, r3, r4, r5, r6, r7, r8, r9, r10, r11⟩ := (HR.out.next hS).rq
    rcases hXE.out with ⟨hm, hX, rfl⟩ | ⟨hm, hX, rfl⟩
    · obtain ⟨n, hn, hn1, hn3, hck⟩ := mayRq_nat hm
      subst hn
      have hlX := rqB_le (k := (n : Int)) hck
      have hRR := readRq_rqB hm
      rw [← hX] at hRR hlX
      have HRR := Lib.hid hRR
      have hlX2 : (X.length : Int) ≤ 2001 := by omega
      have hlX3 : decide ((4096 : Int) < (X.length : Int)) = false := by simp; omega
      clear hX hm hXE hRR hck hn1 hn3
      go_wp2_with fail
      refine (readreq_yes X n a_s a_p a_n a_v0 a_v1 a_v2 a_v3 a_l0 a_l1 a_l2 a_l3 _ (by omega) (HE.out.next hS) HRR.out).mono ?_
      rintro e w5 ⟨rfl, hb⟩
      replace hS := hS.trans hb
      try clear hb
      try clear r0 r1 r2 r3 r4 r5 r6 r7 r8 r9 r10 r11
      try clear x0 x1 x2 x3
      obtain ⟨r0, r1, r2, r3, r4, r5, r6, r7, r8, r9, r10, r11⟩ := (HR.out.next hS).rq
      have hz : w.heap.size < w5.heap.size := World.block_lt_of_cell? _ _ r0
      go_wp2_with fail
      go_meet
      exact hS.alloc _
    · clear hX hm hXE
      go_wp2_with fail
      go_meet
      exact hS
  case rest =>
    have hS := hcut
    clear hcut
    obtain ⟨x0, x1, x2, x3⟩ := (HX.out.next hS).rs
    obtain ⟨T, E2, hTE⟩ : ∃ (T : List UInt8) (E2 : Int), Hid ((mayRs (code, ch, L, ct) = true ∧ T = rsB (code, ch, L, ct) ∧ E2 = 0) ∨ (mayRs (code, ch, L, ct) = false ∧ T = [] ∧ E2 = 2)) := by
      cases h : mayRs (code, ch, L, ct)
      · exact ⟨[], 2, .inr ⟨rfl, rfl, rfl⟩⟩
      · exact ⟨_, 0, .inl ⟨rfl, rfl, rfl⟩⟩
    have hlT0 : Hid ((rsB (code, ch, L, ct)).length ≤ 100000) := rsB_light (x := (code, ch, L, ct)) HL20.out.2 HL20.out.1 hc2
    have HRS : Hid (∀ W, AtmRow W (.slice a1 L.length c1) L → Env W → Calls Tryd.prog 12 #[.agg #[.int .i64 code, .bool ch, .slice a1 L.length c1, .string ⟨ct.toArray⟩]] W fun e w' => e = .returned (.tuple #[.string ⟨T.toArray⟩, .int .i64 E2]) ∧ Since W w') := by
      intro W hv hEW
      have h20 := HL20.out
      rcases hTE.out with ⟨h, rfl, rfl⟩ | ⟨h, rfl, rfl⟩
      · exact response_good code ch _ L ct W hEW hv h20.2 (by omega) h (by have := hlT0.out; omega)
      · exact response_no code ch _ L ct W hEW hv HFL.out (fun x hx => light_light (h20.2 x hx)) (by omega) h
    go_wp2_with fail
    refine (HRS.out _ (HV.out.next hS) (HE.out.next hS)).mono ?_
    rintro e w6 ⟨rfl, hb⟩
    replace hS := hS.trans hb
    try clear hb
    try clear r0 r1 r2 r3 r4 r5 r6 r7 r8 r9 r10 r11
    try clear x0 x1 x2 x3
    go_upto_if 75 with (fail)
    go_cut [11] (fun s11 wx => Since ((w.alloc (.cells #[.int .i64 k, .string ⟨a_s.toArray⟩, .string ⟨a_p.toArray⟩, .int .i64 a_n, .bool a_v0, .string ⟨a_l0.toArray⟩, .bool a_v1, .string ⟨a_l1.toArray⟩, .bool a_v2, .string ⟨a_l2.toArray⟩, .bool a_v3, .string ⟨a_l3.toArray⟩] 28)).alloc (.cells #[.int .i64 code, .bool ch, .slice a1 L.length c1, .string ⟨ct.toArray⟩] 32)) wx)
    case first =>
      obtain ⟨x0, x1, x2, x3⟩ := (HX.out.next hS).rs
      rcases hTE.out with ⟨hm, hT, rfl⟩ | ⟨hm, hT, rfl⟩
      · have hlT := hlT0.out
        have hRR := readRs_rsB hm (by have := HL20.out.1; simp only; omega) (by simp only; omega)
        rw [← hT] at hRR hlT
        have HRR := Lib.hid hRR
        have hlT2 : T.length ≤ 900000 := by omega
        have HSM : Hid (∀ v W, AtmRow W v L → AtmRow W (.slice a1 L.length c1) L → Calls Tryd.prog 16 #[.agg #[.int .i64 code, .bool ch, .slice a1 L.length c1, .string ⟨ct.toArray⟩], .agg #[.int .i64 code, .bool ch, v, .string ⟨ct.toArray⟩]] W fun e w' => e = .returned (.bool true) ∧ Since W w') := by
          intro v W h1 h2
          have h := fsame_any code code ch ch (.slice a1 L.length c1) v L L ct ct W h2 h1 (by have := HL20.out.1; omega) (by have := HL20.out.1; omega)
          rw [sameR_self] at h
          exact h
        clear hT hm hTE hRR hlT
        go_wp2_with fail
        refine (readresp_yes T (code, ch, L, ct) _ hlT2 (HE.out.next hS) HRR.out).mono ?_
        rintro e w7 ⟨rv, rfl, hrv, hb⟩
        replace hS := hS.trans hb
        obtain ⟨ra, rc, rfl⟩ := hrv.form
        have HRV := Lib.hid hrv
        try clear hb
        try clear r0 r1 r2 r3 r4 r5 r6 r7 r8 r9 r10 r11
        try clear x0 x1 x2 x3
        clear hrv
        obtain ⟨x0, x1, x2, x3⟩ := (HX.out.next hS).rs
        have hz : w.heap.size + 1 < w7.heap.size := World.block_lt_of_cell? _ _ x0
        go_wp2_with fail
        refine (HSM.out _ _ (HRV.out.next ((Since.refl _).alloc _)) (HV.out.next (hS.alloc _))).mono ?_
        rintro e w8 ⟨rfl, hb⟩
        try clear r0 r1 r2 r3 r4 r5 r6 r7 r8 r9 r10 r11
        try clear x0 x1 x2 x3
        go_wp2_with fail
        go_meet
        exact (hS.alloc _).trans hb
      · clear hT hm hTE
        go_wp2_with fail
        go_meet
        exact hS
    case rest =>
      have hS := hcut
      clear hcut
      obtain ⟨nb, b_s, b_p, b_n, b_v0, b_l0, b_v1, b_l1, b_v2, b_l2, b_v3, b_l3, E3, hBK⟩ : ∃ (nb : Nat) (b_s b_p : List UInt8) (b_n : Int) (b_v0 : Bool) (b_l0 : List UInt8) (b_v1 : Bool) (b_l1 : List UInt8) (b_v2 : Bool) (b_l2 : List UInt8) (b_v3 : Bool) (b_l3 : List UInt8) (E3 : Int), Hid ((E3 = 0 ∧ readRq s = some (nb, ((b_s, b_p, b_n, (b_v0, b_l0), (b_v1, b_l1), (b_v2, b_l2), (b_v3, b_l3)) : Atm))) ∨ ((E3 = 15 ∨ E3 = 4) ∧ (∀ W, Env W → Calls Tryd.prog 14 #[.string ⟨s.toArray⟩] W fun e w' => e = .returned (.tuple #[.agg #[.int .i64 0, .string ⟨#[]⟩, .string ⟨#[]⟩, .int .i64 0, .bool false, .string ⟨#[]⟩, .bool false, .string ⟨#[]⟩, .bool false, .string ⟨#[]⟩, .bool false, .string ⟨#[]⟩], .int .i64 E3]) ∧ Since W w') ∧ ((b_s, b_p, b_n, (b_v0, b_l0), (b_v1, b_l1), (b_v2, b_l2), (b_v3, b_l3)) : Atm) = zeroAtm ∧ nb = 0)) := by
        by_cases hl : s.length ≤ 4096
        · cases hr : readRq s with
          | none => exact ⟨_, _, _, _, _, _, _, _, _, _, _, _, 15, .inr ⟨.inl rfl, fun W hEW => readreq_no s W hl hEW hr, rfl, rfl⟩⟩
          | some q =>
            obtain ⟨m, ⟨b_s, b_p, b_n, ⟨b_v0, b_l0⟩, ⟨b_v1, b_l1⟩, ⟨b_v2, b_l2⟩, ⟨b_v3, b_l3⟩⟩⟩ := q
            exact ⟨_, _, _, _, _, _, _, _, _, _, _, _, _, .inl ⟨rfl, rfl⟩⟩
        · exact ⟨_, _, _, _, _, _, _, _, _, _, _, _, 4, .inr ⟨.inr rfl, fun W _ => readreq_long s W (by omega) (by omega), rfl, rfl⟩⟩
      have HRA : Hid (∀ W, Env W → Calls Tryd.prog 14 #[.string ⟨s.toArray⟩] W fun e w' => e = .returned (.tuple #[.agg #[.int .i64 (nb : Int), .string ⟨b_s.toArray⟩, .string ⟨b_p.toArray⟩, .int .i64 b_n, .bool b_v0, .string ⟨b_l0.toArray⟩, .bool b_v1, .string ⟨b_l1.toArray⟩, .bool b_v2, .string ⟨b_l2.toArray⟩, .bool b_v3, .string ⟨b_l3.toArray⟩], .int .i64 E3]) ∧ Since W w') := by
        intro W hEW
        rcases hBK.out with ⟨rfl, h⟩ | ⟨_, h, hz, rfl⟩
        · refine readreq_yes s nb b_s b_p b_n b_v0 b_v1 b_v2 b_v3 b_l0 b_l1 b_l2 b_l3 W ?_ hEW h
          obtain ⟨h1, h2⟩ := readRq_iff.1 h
          rw [h2]
          have := rqB_le (k := (nb : Int)) (readRq_atom h)
          omega
        · have h1 := h W hEW
          simp only [zeroAtm, Prod.mk.injEq] at hz
          obtain ⟨rfl, rfl, rfl, ⟨rfl, rfl⟩, ⟨rfl, rfl⟩, ⟨rfl, rfl⟩, rfl, rfl⟩ := hz
          exact h1
      go_wp2_with fail
      refine (HRA.out _ (HE.out.next hS)).mono ?_
      rintro e w9 ⟨rfl, hb⟩
      replace hS := hS.trans hb
      clear hb HRA
      go_upto_if 95 with (fail)
      go_cut [15] (fun s15 wx => Since ((w.alloc (.cells #[.int .i64 k, .string ⟨a_s.toArray⟩, .string ⟨a_p.toArray⟩, .int .i64 a_n, .bool a_v0, .string ⟨a_l0.toArray⟩, .bool a_v1, .string ⟨a_l1.toArray⟩, .bool a_v2, .string ⟨a_l2.toArray⟩, .bool a_v3, .string ⟨a_l3.toArray⟩] 28)).alloc (.cells #[.int .i64 code, .bool ch, .slice a1 L.length c1, .string ⟨ct.toArray⟩] 32)) wx)
      case first =>
        rcases hBK.out with ⟨rfl, h⟩ | ⟨hE3, h, hz, hK⟩
        · obtain ⟨hmq, hsq⟩ := readRq_iff.1 h
          have HCA : Hid (∀ W, Env W → Calls Tryd.prog 11 #[.agg #[.int .i64 (nb : Int), .string ⟨b_s.toArray⟩, .string ⟨b_p.toArray⟩, .int .i64 b_n, .bool b_v0, .string ⟨b_l0.toArray⟩, .bool b_v1, .string ⟨b_l1.toArray⟩, .bool b_v2, .string ⟨b_l2.toArray⟩, .bool b_v3, .string ⟨b_l3.toArray⟩]] W fun e w' => e = .returned (.tuple #[.string ⟨s.toArray⟩, .int .i64 0]) ∧ Since W w') := by
            intro W hEW
            have h1 := request_yes nb b_s b_p b_n b_v0 b_v1 b_v2 b_v3 b_l0 b_l1 b_l2 b_l3 W (readRq_fits h) hEW hmq
            rw [← hsq] at h1
            exact h1
          clear h hBK hmq hsq
          go_wp2_with fail
          refine (HCA.out _ ((HE.out.next hS).next ((Since.refl _).alloc _))).mono ?_
          rintro e w10 ⟨rfl, hb⟩
          go_wp2_with fail
          go_meet
          exact (hS.alloc _).trans hb
        · clear h hz hBK
          rcases hE3 with rfl | rfl
          · go_wp2_with fail
            go_meet
            exact hS.alloc _
          · go_wp2_with fail
            go_meet
            exact hS.alloc _
      case rest =>
        have hS := hcut
        clear hcut
        cases hRS : readRs s
        · go_wp2_with fail
          refine (readresp_no s _ (by omega) (HE.out.next hS) hRS).mono ?_
          rintro e w14 ⟨rv, rfl, hrv, hb⟩
          replace hS := hS.trans hb
          obtain ⟨ra, rc, rfl⟩ := hrv.form
          have HRV := Lib.hid hrv
          have HSM : Hid (∀ W, AtmRow W (.slice ra 0 rc) [] → Calls Tryd.prog 16 #[.agg #[.int .i64 0, .bool false, .slice ra 0 rc, .string ⟨#[]⟩], .agg #[.int .i64 0, .bool false, .slice none 0 0, .string ⟨#[]⟩]] W fun e w' => e = .returned (.bool true) ∧ Since W w') := by
            intro W h1
            have h := fsame_any 0 0 false false (.slice ra 0 rc) (.slice none 0 0) [] [] [] [] W h1 (atmRow_nil _) (by simp) (by simp)
            rw [sameR_self] at h
            exact h
          clear hrv hRS hb
          go_wp2_with fail
          refine (HSM.out _ (HRV.out.next ((Since.refl _).alloc _))).mono ?_
          rintro e w15 ⟨rfl, hb⟩
          go_wp2_with fail
          go_ret
          exact ⟨rfl, hA.trans ((hS.alloc _).trans hb)⟩
        · rename_i y
          obtain ⟨yc, yh, yL, yt⟩ := y
          obtain ⟨hmy, hey⟩ := readRs_some hRS
          have hpl := rsB_parts hmy (n := 5000) (by rw [← hey]; exact hs2)
          have HRP : Hid (∀ v W, AtmRow W v yL → Env W → Calls Tryd.prog 12 #[.agg #[.int .i64 yc, .bool yh, v, .string ⟨yt.toArray⟩]] W fun e w' => e = .returned (.tuple #[.string ⟨s.toArray⟩, .int .i64 0]) ∧ Since W w') := by
            intro v W hv hEW
            have h := response_good yc yh v yL yt W hEW hv (rs_light hmy) (by have := hpl.1; simp only at this; omega) hmy (by rw [← hey]; omega)
            rw [← hey] at h
            exact h
          clear hmy hey hpl
          go_wp2_with fail
          refine (readresp_yes s (yc, yh, yL, yt) _ (by omega) (HE.out.next hS) hRS).mono ?_
          rintro e w14 ⟨rv, rfl, hrv, hb⟩
          replace hS := hS.trans hb
          obtain ⟨ra, rc, rfl⟩ := hrv.form
          have HRV := Lib.hid hrv
          clear hb hRS hrv
          go_wp2_with fail
          refine (HRP.out _ _ (HRV.out.next ((Since.refl _).alloc _)) ((HE.out.next hS).next ((Since.refl _).alloc _))).mono ?_
          rintro e w15 ⟨rfl, hb⟩
          go_wp2_with fail
          go_ret
          exact ⟨rfl, hA.trans ((hS.alloc _).trans hb)⟩
end Go.Proofs.YtkdeokgkjmboeaaDoor
