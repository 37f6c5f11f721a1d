/- FrameSizes returns true at every request and response, in every world in which the library's table strings.asciiSpace stands. -/
import Derived.Test.YtkdeokgkjmboeaaDoorFrBack
import Derived.Test.YtkdeokgkjmboeaaDoorFrN
import Derived.Test.YtkdeokgkjmboeaaDoorRef23B
namespace Go.Proofs.YtkdeokgkjmboeaaDoor
open Go.RowKit
theorem at0 (c : UInt8) (l : List UInt8) (h) : ((ByteArray.mk (c :: l).toArray)[0]'h) = c := rfl
theorem restB (L : List Atm) (k : Nat) (hk : k < L.length) (acc : List UInt8) : (acc ++ (L.take k).flatMap atomB) ++ atomB L[k] = acc ++ (L.take (k + 1)).flatMap atomB := by
  rw [List.append_assoc, List.take_add_one, List.flatMap_append, List.getElem?_eq_getElem hk]
  simp
set_option maxHeartbeats 8000000 in
set_option maxRecDepth 100000 in
theorem fsizes_any (k : Int) (a_s a_p : List UInt8) (a_n : Int) (a_v0 a_v1 a_v2 a_v3 : Bool) (a_l0 a_l1 a_l2 a_l3 : List UInt8) (code : Int) (ch : Bool) (v : Value) (L : List Atm) (ct : List UInt8) (w : World) (hE : Env w) (hv : AtmRow w v L) (hFA : FitsA ((a_s, a_p, a_n, (a_v0, a_l0), (a_v1, a_l1), (a_v2, a_l2), (a_v3, a_l3)) : Atm)) (hFL : ∀ x ∈ L, FitsA x) :
    Calls Tryd.prog 3 #[.agg #[.int .i64 k, .string ⟨a_s.toArray⟩, .string ⟨a_p.toArray⟩, .int .i64 a_n, .bool a_v0, .string ⟨a_l0.toArray⟩, .bool a_v1, .string ⟨a_l1.toArray⟩, .bool a_v2, .string ⟨a_l2.toArray⟩, .bool a_v3, .string ⟨a_l3.toArray⟩], .agg #[.int .i64 code, .bool ch, v, .string ⟨ct.toArray⟩]] w fun e w' => e = .returned (.bool true) ∧ Since w w' := by
  obtain ⟨a1, c1, rfl⟩ := hv.form
  have hA : Since w ((w.alloc (.cells #[.int .i64 k, .string ⟨a_s.toArray⟩, .string ⟨a_p.toArray⟩, .int .i64 a_n, .bool a_v0, .string ⟨a_l0.toArray⟩, .bool a_v1, .string ⟨a_l1.toArray⟩, .bool a_v2, .string ⟨a_l2.toArray⟩, .bool a_v3, .string ⟨a_l3.toArray⟩] 28)).alloc (.cells #[.int .i64 code, .bool ch, .slice a1 L.length c1, .string ⟨ct.toArray⟩] 32)) := ((Since.refl _).alloc _).alloc _
  have HR : Hid (Cel ((w.alloc (.cells #[.int .i64 k, .string ⟨a_s.toArray⟩, .string ⟨a_p.toArray⟩, .int .i64 a_n, .bool a_v0, .string ⟨a_l0.toArray⟩, .bool a_v1, .string ⟨a_l1.toArray⟩, .bool a_v2, .string ⟨a_l2.toArray⟩, .bool a_v3, .string ⟨a_l3.toArray⟩] 28)).alloc (.cells #[.int .i64 code, .bool ch, .slice a1 L.length c1, .string ⟨ct.toArray⟩] 32)) w.heap.size #[.int .i64 k, .string ⟨a_s.toArray⟩, .string ⟨a_p.toArray⟩, .int .i64 a_n, .bool a_v0, .string ⟨a_l0.toArray⟩, .bool a_v1, .string ⟨a_l1.toArray⟩, .bool a_v2, .string ⟨a_l2.toArray⟩, .bool a_v3, .string ⟨a_l3.toArray⟩] 28) := (Cel.next (W := w.alloc (.cells #[.int .i64 k, .string ⟨a_s.toArray⟩, .string ⟨a_p.toArray⟩, .int .i64 a_n, .bool a_v0, .string ⟨a_l0.toArray⟩, .bool a_v1, .string ⟨a_l1.toArray⟩, .bool a_v2, .string ⟨a_l2.toArray⟩, .bool a_v3, .string ⟨a_l3.toArray⟩] 28)) (heap_alloc_new w _) ((Since.refl _).alloc _))
  have HX : Hid (Cel ((w.alloc (.cells #[.int .i64 k, .string ⟨a_s.toArray⟩, .string ⟨a_p.toArray⟩, .int .i64 a_n, .bool a_v0, .string ⟨a_l0.toArray⟩, .bool a_v1, .string ⟨a_l1.toArray⟩, .bool a_v2, .string ⟨a_l2.toArray⟩, .bool a_v3, .string ⟨a_l3.toArray⟩] 28)).alloc (.cells #[.int .i64 code, .bool ch, .slice a1 L.length c1, .string ⟨ct.toArray⟩] 32)) (w.heap.size + 1) #[.int .i64 code, .bool ch, .slice a1 L.length c1, .string ⟨ct.toArray⟩] 32) := by
    have h := heap_alloc_new (w.alloc (.cells #[.int .i64 k, .string ⟨a_s.toArray⟩, .string ⟨a_p.toArray⟩, .int .i64 a_n, .bool a_v0, .string ⟨a_l0.toArray⟩, .bool a_v1, .string ⟨a_l1.toArray⟩, .bool a_v2, .string ⟨a_l2.toArray⟩, .bool a_v3, .string ⟨a_l3.toArray⟩] 28)) (.cells #[.int .i64 code, .bool ch, .slice a1 L.length c1, .string ⟨ct.toArray⟩] 32)
    rw [World.size_alloc] at h
    exact h
  have hS := Since.refl ((w.alloc (.cells #[.int .i64 k, .string ⟨a_s.toArray⟩, .string ⟨a_p.toArray⟩, .int .i64 a_n, .bool a_v0, .string ⟨a_l0.toArray⟩, .bool a_v1, .string ⟨a_l1.toArray⟩, .bool a_v2, .string ⟨a_l2.toArray⟩, .bool a_v3, .string ⟨a_l3.toArray⟩] 28)).alloc (.cells #[.int .i64 code, .bool ch, .slice a1 L.length c1, .string ⟨ct.toArray⟩] 32))
  have HE := Lib.hid (hE.next hA)
  have HV := Lib.hid (hv.next hA)
  have HLA := Lib.hid (fun W => light_any a_s a_p a_n a_v0 a_v1 a_v2 a_v3 a_l0 a_l1 a_l2 a_l3 W)
  have HLS := Lib.hid (fun W hv => lightAs_any (.slice a1 L.length c1) L W hv)
  obtain ⟨r0, r1, r2, r3, r4, r5, r6, r7, r8, r9, r10, r11⟩ := (HR.out.next hS).rq
  obtain ⟨x0, x1, x2, x3⟩ := (HX.out.next hS).rs
  clear hE hv
  cases hla : lightB ((a_s, a_p, a_n, (a_v0, a_l0), (a_v1, a_l1), (a_v2, a_l2), (a_v3, a_l3)) : Atm)
  · rw [hla] at HLA
    go_enter Tryd.func3, Tryd.ntmps3
    go_wp2_with fail
    refine (lives24_any _ (HE.out.next hS)).mono ?_
    rintro e w1 ⟨rfl, hb⟩
    replace hS := hS.trans hb
    clear hb
    try clear r0 r1 r2 r3 r4 r5 r6 r7 r8 r9 r10 r11
    try clear x0 x1 x2 x3
    obtain ⟨r0, r1, r2, r3, r4, r5, r6, r7, r8, r9, r10, r11⟩ := (HR.out.next hS).rq
    obtain ⟨x0, x1, x2, x3⟩ := (HX.out.next hS).rs
    go_wp2_with fail
    refine (HLA.out _).mono ?_
    rintro e w2 ⟨rfl, hb⟩
    replace hS := hS.trans hb
    clear hb
    try clear r0 r1 r2 r3 r4 r5 r6 r7 r8 r9 r10 r11
    try clear x0 x1 x2 x3
    obtain ⟨r0, r1, r2, r3, r4, r5, r6, r7, r8, r9, r10, r11⟩ := (HR.out.next hS).rq
    obtain ⟨x0, x1, x2, x3⟩ := (HX.out.next hS).rs
    go_wp2_with fail
    go_ret
    exact ⟨rfl, hA.trans hS⟩
  rw [hla] at HLA
  cases hls : lightAs 20 L
  · rw [hls] at HLS
    go_enter Tryd.func3, Tryd.ntmps3
    go_wp2_with fail
    refine (lives24_any _ (HE.out.next hS)).mono ?_
    rintro e w1 ⟨rfl, hb⟩
    replace hS := hS.trans hb
    clear hb
    try clear r0 r1 r2 r3 r4 r5 r6 r7 r8 r9 r10 r11
    try clear x0 x1 x2 x3
    obtain ⟨r0, r1, r2, r3, r4, r5, r6, r7, r8, r9, r10, r11⟩ := (HR.out.next hS).rq
    obtain ⟨x0, x1, x2, x3⟩ := (HX.out.next hS).rs
    go_wp2_with fail
    refine (HLA.out _).mono ?_
    rintro e w2 ⟨rfl, hb⟩
    replace hS := hS.trans hb
    clear hb
    try clear r0 r1 r2 r3 r4 r5 r6 r7 r8 r9 r10 r11
    try clear x0 x1 x2 x3
    obtain ⟨r0, r1, r2, r3, r4, r5, r6, r7, r8, r9, r10, r11⟩ := (HR.out.next hS).rq
    obtain ⟨x0, x1, x2, x3⟩ := (HX.out.next hS).rs
    go_wp2_with fail
    refine (HLS.out _ (HV.out.next hS)).mono ?_
    rintro e w3 ⟨rfl, hb⟩
    replace hS := hS.trans hb
    clear hb
    try clear r0 r1 r2 r3 r4 r5 r6 r7 r8 r9 r10 r11
    try clear x0 x1 x2 x3
    obtain ⟨r0, r1, r2, r3, r4, r5, r6, r7, r8, r9, r10, r11⟩ := (HR.out.next hS).rq
    obtain ⟨x0, x1, x2, x3⟩ := (HX.out.next hS).rs
    go_wp2_with fail
    go_ret
    exact ⟨rfl, hA.trans hS⟩
  rw [hls] at HLS
  cases hct : decide ((2000 : Int) < (ct.length : Int))
  case true =>
    go_enter Tryd.func3, Tryd.ntmps3
    go_wp2_with fail
    refine (lives24_any _ (HE.out.next hS)).mono ?_
    rintro e w1 ⟨rfl, hb⟩
    replace hS := hS.trans hb
    clear hb
    try clear r0 r1 r2 r3 r4 r5 r6 r7 r8 r9 r10 r11
    try clear x0 x1 x2 x3
    obtain ⟨r0, r1, r2, r3, r4, r5, r6, r7, r8, r9, r10, r11⟩ := (HR.out.next hS).rq
    obtain ⟨x0, x1, x2, x3⟩ := (HX.out.next hS).rs
    go_wp2_with fail
    refine (HLA.out _).mono ?_
    rintro e w2 ⟨rfl, hb⟩
    replace hS := hS.trans hb
    clear hb
    try clear r0 r1 r2 r3 r4 r5 r6 r7 r8 r9 r10 r11
    try clear x0 x1 x2 x3
    obtain ⟨r0, r1, r2, r3, r4, r5, r6, r7, r8, r9, r10, r11⟩ := (HR.out.next hS).rq
    obtain ⟨x0, x1, x2, x3⟩ := (HX.out.next hS).rs
    go_wp2_with fail
    refine (HLS.out _ (HV.out.next hS)).mono ?_
    rintro e w3 ⟨rfl, hb⟩
    replace hS := hS.trans hb
    clear hb
    try clear r0 r1 r2 r3 r4 r5 r6 r7 r8 r9 r10 r11
    try clear x0 x1 x2 x3
    obtain ⟨r0, r1, r2, r3, r4, r5, r6, r7, r8, r9, r10, r11⟩ := (HR.out.next hS).rq
    obtain ⟨x0, x1, x2, x3⟩ := (HX.out.next hS).rs
    go_wp2_with fail
    go_ret
    exact ⟨rfl, hA.trans hS⟩
  have hc2 : ct.length ≤ 2000 := by rw [decide_eq_false_iff_not] at hct; omega
  have HL20 : Hid (L.length ≤ 20 ∧ ∀ x ∈ L, lightB x = true) := by
    simp only [lightAs, Bool.and_eq_true, Bool.not_eq_true', decide_eq_false_iff_not, List.all_eq_true] at hls
    exact ⟨by omega, hls.2⟩
  have HFA := Lib.hid hFA
  have HFL := Lib.hid hFL
  have HLB := Lib.hid hla
  clear hla hls hFA hFL
  go_enter Tryd.func3, Tryd.ntmps3
  go_wp2_with fail
  refine (lives24_any _ (HE.out.next hS)).mono ?_
  rintro e w1 ⟨rfl, hb⟩
  replace hS := hS.trans hb
  clear hb
  try clear r0 r1 r2 r3 r4 r5 r6 r7 r8 r9 r10 r11
  try clear x0 x1 x2 x3
  obtain ⟨r0, r1, r2, r3, r4, r5, r6, r7, r8, r9, r10, r11⟩ := (HR.out.next hS).rq
  obtain ⟨x0, x1, x2, x3⟩ := (HX.out.next hS).rs
  go_wp2_with fail
  refine (HLA.out _).mono ?_
  rintro e w2 ⟨rfl, hb⟩
  replace hS := hS.trans hb
  clear hb
  try clear r0 r1 r2 r3 r4 r5 r6 r7 r8 r9 r10 r11
  try clear x0 x1 x2 x3
  obtain ⟨r0, r1, r2, r3, r4, r5, r6, r7, r8, r9, r10, r11⟩ := (HR.out.next hS).rq
  obtain ⟨x0, x1, x2, x3⟩ := (HX.out.next hS).rs
  go_wp2_with fail
  refine (HLS.out _ (HV.out.next hS)).mono ?_
  rintro e w3 ⟨rfl, hb⟩
  replace hS := hS.trans hb
  clear hb
  try clear r0 r1 r2 r3 r4 r5 r6 r7 r8 r9 r10 r11
  try clear x0 x1 x2 x3
  obtain ⟨r0, r1, r2, r3, r4, r5, r6, r7, r8, r9, r10, r11⟩ := (HR.out.next hS).rq
  obtain ⟨x0, x1, x2, x3⟩ := (HX.out.next hS).rs
  go_wp2_with fail
  clear hct
  obtain ⟨A, E, hAE⟩ : ∃ (A : List UInt8) (E : Int), Hid ((checkA ((a_s, a_p, a_n, (a_v0, a_l0), (a_v1, a_l1), (a_v2, a_l2), (a_v3, a_l3)) : Atm) = 0 ∧ A = atomB ((a_s, a_p, a_n, (a_v0, a_l0), (a_v1, a_l1), (a_v2, a_l2), (a_v3, a_l3)) : Atm) ∧ E = 0) ∨ (checkA ((a_s, a_p, a_n, (a_v0, a_l0), (a_v1, a_l1), (a_v2, a_l2), (a_v3, a_l3)) : Atm) ≠ 0 ∧ A = [] ∧ E = 2)) := by
    by_cases h : checkA ((a_s, a_p, a_n, (a_v0, a_l0), (a_v1, a_l1), (a_v2, a_l2), (a_v3, a_l3)) : Atm) = 0
    · exact ⟨_, 0, .inl ⟨h, rfl, rfl⟩⟩
    · exact ⟨[], 2, .inr ⟨h, rfl, rfl⟩⟩
  have HAT : Hid (∀ W, Calls Tryd.prog 10 #[.agg #[.string ⟨a_s.toArray⟩, .string ⟨a_p.toArray⟩, .int .i64 a_n, .bool a_v0, .string ⟨a_l0.toArray⟩, .bool a_v1, .string ⟨a_l1.toArray⟩, .bool a_v2, .string ⟨a_l2.toArray⟩, .bool a_v3, .string ⟨a_l3.toArray⟩]] W fun e w' => e = .returned (.tuple #[.string ⟨A.toArray⟩, .int .i64 E]) ∧ Since W w') := by
    intro W
    rcases hAE.out with ⟨h, rfl, rfl⟩ | ⟨h, rfl, rfl⟩
    · exact ratom23_yes a_s a_p a_n a_v0 a_v1 a_v2 a_v3 a_l0 a_l1 a_l2 a_l3 W HFA.out HLB.out h
    · exact ratom23_no a_s a_p a_n a_v0 a_v1 a_v2 a_v3 a_l0 a_l1 a_l2 a_l3 W HFA.out h
  obtain ⟨X, F, hXE⟩ : ∃ (X : List UInt8) (F : Int), Hid ((mayRq k ((a_s, a_p, a_n, (a_v0, a_l0), (a_v1, a_l1), (a_v2, a_l2), (a_v3, a_l3)) : Atm) = true ∧ X = rqB k ((a_s, a_p, a_n, (a_v0, a_l0), (a_v1, a_l1), (a_v2, a_l2), (a_v3, a_l3)) : Atm) ∧ F = 0) ∨ (mayRq k ((a_s, a_p, a_n, (a_v0, a_l0), (a_v1, a_l1), (a_v2, a_l2), (a_v3, a_l3)) : Atm) = false ∧ X = [] ∧ F = 2)) := by
    cases h : mayRq k ((a_s, a_p, a_n, (a_v0, a_l0), (a_v1, a_l1), (a_v2, a_l2), (a_v3, a_l3)) : Atm)
    · exact ⟨[], 2, .inr ⟨rfl, rfl, rfl⟩⟩
    · exact ⟨rqB k ((a_s, a_p, a_n, (a_v0, a_l0), (a_v1, a_l1), (a_v2, a_l2), (a_v3, a_l3)) : Atm), 0, .inl ⟨rfl, rfl, rfl⟩⟩
  have HRQ : Hid (∀ W, Env W → Calls Tryd.prog 11 #[.agg #[.int .i64 k, .string ⟨a_s.toArray⟩, .string ⟨a_p.toArray⟩, .int .i64 a_n, .bool a_v0, .string ⟨a_l0.toArray⟩, .bool a_v1, .string ⟨a_l1.toArray⟩, .bool a_v2, .string ⟨a_l2.toArray⟩, .bool a_v3, .string ⟨a_l3.toArray⟩]] W fun e w' => e = .returned (.tuple #[.string ⟨X.toArray⟩, .int .i64 F]) ∧ Since W w') := by
    intro W hEW
    rcases hXE.out with ⟨h, rfl, rfl⟩ | ⟨h, rfl, rfl⟩
    · exact request_yes' k a_s a_p a_n a_v0 a_v1 a_v2 a_v3 a_l0 a_l1 a_l2 a_l3 W HFA.out hEW h
    · exact request_no k a_s a_p a_n a_v0 a_v1 a_v2 a_v3 a_l0 a_l1 a_l2 a_l3 W HFA.out hEW h
  refine (HAT.out _).mono ?_
  rintro e w4 ⟨rfl, hb⟩
  replace hS := hS.trans hb
  try clear hb
  try clear r0 r1 r2 r3 r4 r5 r6 r7 r8 r9 r10 r11
  try clear x0 x1 x2 x3
  obtain ⟨r0, r1, r2, r3, r4, r5, r6, r7, r8, r9, r10, r11⟩ := (HR.out.next hS).rq
  go_wp2_with fail
  refine (HRQ.out _ (HE.out.next hS)).mono ?_
  rintro e w5 ⟨rfl, hb⟩
  replace hS := hS.trans hb
  try clear hb
  try clear r0 r1 r2 r3 r4 r5 r6 r7 r8 r9 r10 r11
  try clear x0 x1 x2 x3
  clear HAT HRQ
  go_upto_region 7 with (fail)
  go_cut [76] (fun s76 wx => s76 = .bool false ∧ Since ((w.alloc (.cells #[.int .i64 k, .string ⟨a_s.toArray⟩, .string ⟨a_p.toArray⟩, .int .i64 a_n, .bool a_v0, .string ⟨a_l0.toArray⟩, .bool a_v1, .string ⟨a_l1.toArray⟩, .bool a_v2, .string ⟨a_l2.toArray⟩, .bool a_v3, .string ⟨a_l3.toArray⟩] 28)).alloc (.cells #[.int .i64 code, .bool ch, .slice a1 L.length c1, .string ⟨ct.toArray⟩] 32)) wx)
  case first =>
    obtain ⟨r0, r1, r2, r3, r4, r5, r6, r7, r8, r9, r10, r11⟩ := (HR.out.next hS).rq
    cases hmq : mayRq k ((a_s, a_p, a_n, (a_v0, a_l0), (a_v1, a_l1), (a_v2, a_l2), (a_v3, a_l3)) : Atm)
    · rcases hXE.out with ⟨hm, hX, rfl⟩ | ⟨hm, hX, rfl⟩
      · rw [hm] at hmq; cases hmq
      · rcases hAE.out with ⟨hc, hA2, rfl⟩ | ⟨hc, hA2, rfl⟩
        · have hk : k < 1 ∨ 3 < k := by
            simp only [mayRq, Bool.and_eq_false_iff, decide_eq_false_iff_not, hc, beq_self_eq_true] at hm
            simp at hm
            omega
          clear hm hX hA2 hc hXE hAE hmq
          by_cases hk1 : k < 1
          · have hd : decide ((1 : Int) ≤ k) = false := by simp; omega
            have hd2 : decide (k < 1) = true := by simp; omega
            clear hk hk1
            go_wp2_with fail
            try go_quiet (fail)
            go_wp2_with fail
            go_meet
            exact ⟨rfl, hS.drewN _⟩
          · have hd : decide ((1 : Int) ≤ k) = true := by simp; omega
            have hd2 : decide (k < 1) = false := by simp; omega
            have hd3 : decide (k ≤ (3 : Int)) = false := by simp; omega
            have hd4 : decide ((3 : Int) < k) = true := by simp; omega
            clear hk hk1
            go_wp2_with fail
            try go_quiet (fail)
            go_wp2_with fail
            go_meet
            exact ⟨rfl, hS.drewN _⟩
        · clear hm hX hA2 hc hXE hAE hmq
          go_wp2_with fail
          try go_quiet (fail)
          go_wp2_with fail
          go_meet
          exact ⟨rfl, hS.drewN _⟩
    · rcases hXE.out with ⟨hm, hX, rfl⟩ | ⟨hm, hX, rfl⟩
      · obtain ⟨n, hn, hn1, hn3, hck⟩ := mayRq_nat hmq
        rcases hAE.out with ⟨hc, hA2, rfl⟩ | ⟨hc, hA2, rfl⟩
        · subst hn
          have hXc : X = UInt8.ofNat n :: A := by rw [hX, hA2]; unfold rqB; rw [Int.toNat_natCast]
          have hlA : (A.length : Int) ≤ 2000 := by rw [hA2]; have := atomB_le HLB.out; omega
          subst hXc
          have hd : decide ((1 : Int) ≤ (n : Int)) = true := by simp; omega
          have hd2 : decide ((n : Int) < 1) = false := by simp; omega
          have hd3 : decide ((n : Int) ≤ (3 : Int)) = true := by simp; omega
          have hd4 : decide ((3 : Int) < (n : Int)) = false := by simp; omega
          have hcn : (UInt8.ofNat n).toNat = n := by rw [UInt8.toNat_ofNat', Nat.mod_eq_of_lt (by omega)]
          have hci : IntKind.i64.wrap (n : Int) = (n : Int) := IntWalk.i64_in _ (by omega)
          have h0 : ∀ h, ((ByteArray.mk (UInt8.ofNat n :: A).toArray)[0]'h).toNat = n := fun h => by rw [at0, hcn]
          have hsl := ext_bytes (UInt8.ofNat n :: A) 1 (A.length + 1)
          rw [show (((UInt8.ofNat n :: A).take (A.length + 1)).drop 1) = A by simp] at hsl
          have hl1 : (1 : Int) ≤ (A.length : Int) + 1 := by omega
          clear hm hX hA2 hc hXE hAE hmq hck hn1 hn3
          go_wp2_with fail
          go_quiet (fail)
          go_wp2_with fail
          go_meet
          exact ⟨rfl, hS.drewN _⟩
        · exact absurd hck hc
      · rw [hm] at hmq; cases hmq
  case rest =>
    obtain ⟨rfl, hS⟩ := hcut
    obtain ⟨x0, x1, x2, x3⟩ := (HX.out.next hS).rs
    obtain ⟨T, G, hTE⟩ : ∃ (T : List UInt8) (G : Int), Hid ((mayRs (code, ch, L, ct) = true ∧ T = rsB (code, ch, L, ct) ∧ G = 0) ∨ (mayRs (code, ch, L, ct) = false ∧ T = [] ∧ G = 2)) := by
      cases h : mayRs (code, ch, L, ct)
      · exact ⟨[], 2, .inr ⟨rfl, rfl, rfl⟩⟩
      · exact ⟨_, 0, .inl ⟨rfl, rfl, rfl⟩⟩
    have hlT0 : Hid ((rsB (code, ch, L, ct)).length ≤ 100000) := rsB_light (x := (code, ch, L, ct)) HL20.out.2 HL20.out.1 hc2
    have HRS : Hid (∀ W, AtmRow W (.slice a1 L.length c1) L → Env W → Calls Tryd.prog 12 #[.agg #[.int .i64 code, .bool ch, .slice a1 L.length c1, .string ⟨ct.toArray⟩]] W fun e w' => e = .returned (.tuple #[.string ⟨T.toArray⟩, .int .i64 G]) ∧ Since W w') := by
      intro W hv hEW
      have h20 := HL20.out
      rcases hTE.out with ⟨h, rfl, rfl⟩ | ⟨h, rfl, rfl⟩
      · exact response_good code ch _ L ct W hEW hv h20.2 (by omega) h (by have := hlT0.out; omega)
      · exact response_no code ch _ L ct W hEW hv HFL.out (fun x hx => light_light (h20.2 x hx)) (by omega) h
    go_wp2_with fail
    refine (HRS.out _ (HV.out.next hS) (HE.out.next hS)).mono ?_
    rintro e w6 ⟨rfl, hb⟩
    replace hS := hS.trans hb
    try clear hb
    try clear r0 r1 r2 r3 r4 r5 r6 r7 r8 r9 r10 r11
    try clear x0 x1 x2 x3
    clear HRS hAE hXE
    obtain ⟨x0, x1, x2, x3⟩ := (HX.out.next hS).rs
    rcases hTE.out with ⟨hm, hT, rfl⟩ | ⟨hm, hT, rfl⟩
    · rcases mayRs_cases hm with ⟨h0, hp, h16, hch, hL, hct⟩ | ⟨h0, _, hv, _⟩
      · simp only at h0 hp h16
        obtain ⟨n, hn⟩ : ∃ n : Nat, code = (n : Int) := ⟨code.toNat, by omega⟩
        have hTn : T = [UInt8.ofNat n] := by rw [hT]; unfold rsB; simp only; rw [if_pos h0, hn, Int.toNat_natCast]
        have hnn : n ≤ 16 ∧ 0 < n := by omega
        clear hT hm hTE hlT0 hch hL hct hp h16
        subst hTn
        subst hn
        have hne : ((n : Int) != 0) = true := by simp; omega
        have hne2 : ((n : Int) == 0) = false := by simp; omega
        have hcn : (UInt8.ofNat n).toNat = n := by rw [UInt8.toNat_ofNat', Nat.mod_eq_of_lt (by omega)]
        have hci : IntKind.i64.wrap (n : Int) = (n : Int) := IntWalk.i64_in _ (by omega)
        have h1 : ∀ h, ((ByteArray.mk #[UInt8.ofNat n])[0]'h).toNat = n := fun h => by rw [show ((ByteArray.mk #[UInt8.ofNat n])[0]'h) = UInt8.ofNat n from rfl, hcn]
        clear h0 hnn
        go_wp2_with fail
        go_quiet (fail)
        go_wp2_with fail
        go_ret
        exact ⟨rfl, hA.trans (hS.drewN _)⟩
      · simp only at h0 hv
        subst h0
        have hvv := Lib.hid (fun x hx => (hv x hx).1)
        have HT : Hid (T = 0 :: chB ch :: (numL L.length ++ (L.flatMap atomB ++ textB ct))) := hT
        have h20 := HL20.out
        have hlL : L.length ≤ 20 := h20.1
        have hlL2 : (L.length : Int) ≤ 20 := by omega
        clear hT hm hTE hlT0 hv h20
        go_upto_if 101 with (fail)
        go_cut [11] (fun s11 wx => s11 = .string ⟨#[0, chB ch]⟩ ∧ Since ((w.alloc (.cells #[.int .i64 k, .string ⟨a_s.toArray⟩, .string ⟨a_p.toArray⟩, .int .i64 a_n, .bool a_v0, .string ⟨a_l0.toArray⟩, .bool a_v1, .string ⟨a_l1.toArray⟩, .bool a_v2, .string ⟨a_l2.toArray⟩, .bool a_v3, .string ⟨a_l3.toArray⟩] 28)).alloc (.cells #[.int .i64 0, .bool ch, .slice a1 L.length c1, .string ⟨ct.toArray⟩] 32)) wx)
        case first =>
          cases ch
          · go_wp2_with fail
            go_meet
            exact ⟨rfl, hS⟩
          · go_wp2_with fail
            go_meet
            exact ⟨rfl, hS⟩
        case rest =>
          obtain ⟨rfl, hS⟩ := hcut
          obtain ⟨x0, x1, x2, x3⟩ := (HX.out.next hS).rs
          obtain ⟨c, hcb⟩ : ∃ c, Hid (c = chB ch) := ⟨_, rfl⟩
          rw [← hcb.out] at HT
          rw [← hcb.out]
          obtain ⟨N, hN⟩ : ∃ N, Hid (N = numL L.length) := ⟨_, rfl⟩
          have hNl : N.length ≤ 5 := by rw [hN.out]; exact num_len _
          have HNM := Lib.hid (fun W => rnumber_any L.length W (by omega))
          rw [← hN.out] at HNM HT
          have hwr : IntKind.u32.wrap (L.length : Int) = (L.length : Int) := IntWalk.u32_in _ (by omega)
          have hc1 : (ByteArray.mk #[0, c]) ++ ByteArray.mk N.toArray = ByteArray.mk (0 :: c :: N).toArray := cat_bytes [0, c] N
          clear hcb hN
          go_wp2_with fail
          refine (HNM.out _).mono ?_
          rintro e w7 ⟨rfl, hb⟩
          replace hS := hS.trans hb
          try clear hb
          try clear r0 r1 r2 r3 r4 r5 r6 r7 r8 r9 r10 r11
          try clear x0 x1 x2 x3
          obtain ⟨x0, x1, x2, x3⟩ := (HX.out.next hS).rs
          go_wp2_with fail
          clear hc1 hwr HNM
          obtain ⟨P, hP⟩ : ∃ P, Hid (P = 0 :: c :: N) := ⟨_, rfl⟩
          have hPl : P.length ≤ 7 := by rw [hP.out]; simp only [List.length_cons]; omega
          have hTP : Hid (T = P ++ (L.flatMap atomB ++ textB ct)) := by show _ = _; rw [HT.out, hP.out]; rfl
          rw [← hP.out]
          clear HT hP hNl
          go_loopw [11, 12] (fun s i wr => ∃ m : Nat, m ≤ L.length ∧ i = .int .i64 (m : Int) ∧ s = .string ⟨(P ++ (L.take m).flatMap atomB).toArray⟩ ∧ Since ((w.alloc (.cells #[.int .i64 k, .string ⟨a_s.toArray⟩, .string ⟨a_p.toArray⟩, .int .i64 a_n, .bool a_v0, .string ⟨a_l0.toArray⟩, .bool a_v1, .string ⟨a_l1.toArray⟩, .bool a_v2, .string ⟨a_l2.toArray⟩, .bool a_v3, .string ⟨a_l3.toArray⟩] 28)).alloc (.cells #[.int .i64 0, .bool ch, .slice a1 L.length c1, .string ⟨ct.toArray⟩] 32)) wr) (fun _ i _ => L.length - (intOf i).toNat)
          case atStart => exact ⟨0, Nat.zero_le _, rfl, by rw [List.take_zero, List.flatMap_nil, List.append_nil], hS⟩
          case round =>
            clear hS x0 x1 x2 x3
            obtain ⟨m, hm, rfl, rfl, hS⟩ := hrel
            obtain ⟨x0, x1, x2, x3⟩ := (HX.out.next hS).rs
            have hac := Lib.hid (flatA_len 2000 (L.take m) (fun x hx => atomB_le (HL20.out.2 x (List.mem_of_mem_take hx))))
            have hacl : (P ++ (L.take m).flatMap atomB).length ≤ 50000 := by
              have := hac.out
              rw [List.length_take, Nat.min_eq_left hm] at this
              rw [List.length_append]; omega
            by_cases hlt : m < L.length
            · obtain ⟨_, b, o, he, _, hat⟩ := (HV.out.next hS).get (by omega)
              cases he
              have hx := hat m hlt
              have hkl : (m : Int) < (L.length : Int) := by omega
              have HST := Lib.hid (restB L m hlt P)
              have hck := hvv.out L[m] (List.getElem_mem hlt)
              have hlb := HL20.out.2 L[m] (List.getElem_mem hlt)
              have hfb := HFL.out L[m] (List.getElem_mem hlt)
              have hm1 : IntKind.i64.wrap ((m : Int) + 1) = (m : Int) + 1 := IntWalk.i64_in _ (by omega)
              clear hat hac
              generalize L[m] = x at *
              obtain ⟨b_s, b_p, b_n, ⟨b_v0, b_l0⟩, ⟨b_v1, b_l1⟩, ⟨b_v2, b_l2⟩, ⟨b_v3, b_l3⟩⟩ := x
              obtain ⟨b_c0, b_c1, b_c2, b_c3, b_c4, b_c5, b_c6, b_c7, b_c8, b_c9, b_c10⟩ := hx.all
              clear hx
              have hbl := atomB_le hlb
              have HRA := Lib.hid (fun W => ratom23_yes b_s b_p b_n b_v0 b_v1 b_v2 b_v3 b_l0 b_l1 b_l2 b_l3 W hfb hlb hck)
              generalize P ++ (L.take m).flatMap atomB = Q at *
              generalize atomB ((b_s, b_p, b_n, (b_v0, b_l0), (b_v1, b_l1), (b_v2, b_l2), (b_v3, b_l3)) : Atm) = B at *
              have hcc := cat_bytes Q B
              rw [HST.out] at hcc
              clear hck hlb hfb
              go_wp2_with fail
              refine (HRA.out _).mono ?_
              rintro e w8 ⟨rfl, hb⟩
              replace hS := hS.trans hb
              try clear hb
              try clear r0 r1 r2 r3 r4 r5 r6 r7 r8 r9 r10 r11
              try clear x0 x1 x2 x3
              clear b_c0 b_c1 b_c2 b_c3 b_c4 b_c5 b_c6 b_c7 b_c8 b_c9 b_c10 HRA
              go_wp2_with fail
              go_roundw
              case rel => exact ⟨m + 1, by omega, by go_num, by first | rfl | rw [HST.out], hS⟩
              case measure => simp [intOf]; omega
            · have hmL : m = L.length := by omega
              subst hmL
              rw [List.take_length] at hacl ⊢
              clear hac hlt hm
              obtain ⟨M, hM⟩ : ∃ M, Hid (M = numL ct.length) := ⟨_, rfl⟩
              have hMl : M.length ≤ 5 := by rw [hM.out]; exact num_len _
              have HNM := Lib.hid (fun W => rnumber_any ct.length W (by omega))
              rw [← hM.out] at HNM
              have hwr : IntKind.u32.wrap (ct.length : Int) = (ct.length : Int) := IntWalk.u32_in _ (by omega)
              have HT2 : Hid (T = ((P ++ L.flatMap atomB) ++ M) ++ ct) := by
                show _ = _
                rw [hTP.out, hM.out, textB]
                simp only [List.append_assoc]
              have hT3 := HT2.out
              generalize P ++ L.flatMap atomB = Q at *
              have hQM : (Q ++ M).length ≤ 60000 := by rw [List.length_append]; omega
              have hd1 := fun W => runcat (cat_bytes Q M) (by show Q.length + M.length ≤ _; omega) W
              have hd2 := fun W => runcat (cat_bytes (Q ++ M) ct) (by show (Q ++ M).length + ct.length ≤ _; omega) W
              rw [← hT3] at hd2
              generalize Q ++ M = QM at *
              clear hT3 HT2 hTP hM
              go_wp2_with fail
              have x3' := x3
              go_region_held3 (fun w' => w'.cell? ⟨w.heap.size + 1, 3, none⟩ = some (.string ⟨ct.toArray⟩) ∧ Since ((w.alloc (.cells #[.int .i64 k, .string ⟨a_s.toArray⟩, .string ⟨a_p.toArray⟩, .int .i64 a_n, .bool a_v0, .string ⟨a_l0.toArray⟩, .bool a_v1, .string ⟨a_l1.toArray⟩, .bool a_v2, .string ⟨a_l2.toArray⟩, .bool a_v3, .string ⟨a_l3.toArray⟩] 28)).alloc (.cells #[.int .i64 0, .bool ch, .slice a1 L.length c1, .string ⟨ct.toArray⟩] 32)) w')
                ((go_split_ands; (refine ⟨?_, ?_⟩) <;> (first | assumption | (refine Since.drew ?_; assumption) | (refine Since.trans ?_ hb; assumption) | (refine hb.cell ?_; assumption))))
                (first | (go_at_call 13; ((with_reducible refine (HNM.out _).mono ?_); rintro e w9 ⟨rfl, hb⟩)))
              go_split_ands
              go_wp2_with fail
              go_ret
              exact ⟨rfl, hA.trans (by assumption)⟩
    · clear hm hTE hlT0
      subst hT
      go_wp2_with fail
      go_ret
      exact ⟨rfl, hA.trans hS⟩
end Go.Proofs.YtkdeokgkjmboeaaDoor
