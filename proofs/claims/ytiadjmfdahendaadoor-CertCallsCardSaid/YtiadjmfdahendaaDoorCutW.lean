/- CertCut returns true at every two lists of steps, cut and bytes, in every world in which the library's table strings.asciiSpace stands. CertBack returns true at every number, atom, list of steps and bytes, in every world in which the library's table strings.asciiSpace stands. -/
import Derived.Test.YtiadjmfdahendaaDoorCertR
import Derived.Test.YtiadjmfdahendaaDoorCertE
import Derived.Test.YtiadjmfdahendaaDoorPick
namespace Go.Proofs.YtiadjmfdahendaaDoor
open Go.RowKit

theorem read_cut_none {L : List Stp} (hL : maysB L = true) {p : Nat} (hp : p < (stepsB L).length) : readS ((stepsB L).take p) = none := by
  cases h : readS ((stepsB L).take p) with
  | none => rfl
  | some K =>
    rw [← readS_P] at h
    obtain ⟨hK, he⟩ := readP_iff.1 h
    have h2 : stepsB K ++ (stepsB L).drop p = stepsB L := by rw [← he, List.take_append_drop]
    have h3 := congrArg List.length (steps_pre hK hL h2).1
    rw [List.length_drop, List.length_nil] at h3
    omega
theorem read_ext {L : List Stp} (hL : maysB L = true) (r : List UInt8) : readS (stepsB L ++ r) = if r.isEmpty then some L else none := by
  cases r with
  | nil =>
    rw [← readS_P, List.append_nil]
    exact readP_iff.2 ⟨hL, rfl⟩
  | cons c r =>
    simp only [List.isEmpty_cons, Bool.false_eq_true, if_false]
    cases h : readS (stepsB L ++ c :: r) with
    | none => rfl
    | some K =>
      rw [← readS_P] at h
      obtain ⟨hK, he⟩ := readP_iff.1 h
      cases (steps_pre hL hK he).1
theorem steps_pos (L : List Stp) : 1 ≤ (stepsB L).length := by
  have := num_pos L.length
  rw [stepsB, List.length_append]; omega

theorem bytes_no (v : Value) (L : List Stp) (w : World) (hv : StpRow w v L) (hE : Env w) (hL : LightW L) (hF : FitsS L) (hm : maysB L = false) :
    Calls Tryd.prog 11 #[v] w fun e w' => e = .returned (.tuple #[.string ⟨#[]⟩, .int .i64 2]) ∧ Since w w' := by
  have h := bytesW_any v L w hv hE hL hF
  unfold CertBP at h
  rw [hm] at h
  exact h
theorem bytes_yes (v : Value) (L : List Stp) (w : World) (hv : StpRow w v L) (hE : Env w) (hL : LightW L) (hF : FitsS L) (hm : maysB L = true) :
    Calls Tryd.prog 11 #[v] w fun e w' => e = .returned (.tuple #[.string ⟨(stepsB L).toArray⟩, .int .i64 0]) ∧ Since w w' := by
  have h := bytesW_any v L w hv hE hL hF
  unfold CertBP at h
  rw [hm] at h
  exact h
theorem read_yes (s : List UInt8) (K : List Stp) (w : World) (hs : s.length ≤ 1000000) (hE : Env w) (h : readS s = some K) :
    Calls Tryd.prog 15 #[.string ⟨s.toArray⟩] w fun e w' => ∃ v, e = .returned (.tuple #[v, .int .i64 0]) ∧ StpRow w' v K ∧ Since w w' := by
  have h1 := read_any s w hs hE
  unfold ReadPost at h1
  rw [h] at h1
  exact h1
theorem read_no (s : List UInt8) (w : World) (hs : s.length ≤ 1000000) (hE : Env w) (h : readS s = none) :
    Calls Tryd.prog 15 #[.string ⟨s.toArray⟩] w fun e w' => ∃ v, e = .returned (.tuple #[v, .int .i64 15]) ∧ StpRow w' v [] ∧ Since w w' := by
  have h1 := read_any s w hs hE
  unfold ReadPost at h1
  rw [h] at h1
  exact h1
theorem same_list (L : List Stp) : sameSB L L = true := sameSB_iff.2 rfl
theorem same_not {L M : List Stp} (h : L ≠ M) : sameSB L M = false := by
  cases hs : sameSB L M
  · rfl
  · exact absurd (sameSB_iff.1 hs) h

set_option maxHeartbeats 4000000 in
set_option maxRecDepth 100000 in
theorem cut_any (v1 v2 : Value) (L M : List Stp) (cut : Int) (r : List UInt8) (w : World) (hv1 : StpRow w v1 L) (hv2 : StpRow w v2 M) (hE : Env w) (hF1 : FitsS L) (hF2 : FitsS M) (k1 : -9223372036854775808 ≤ cut) (k2 : cut ≤ 9223372036854775807) :
    Calls Tryd.prog 4 #[v1, v2, .int .i64 cut, .string ⟨r.toArray⟩] w fun e w' => e = .returned (.bool true) ∧ Since w w' := by
  obtain ⟨a1, c1, rfl⟩ := hv1.form
  obtain ⟨a2, c2, rfl⟩ := hv2.form
  have HV1 := Lib.hid hv1
  have HV2 := Lib.hid hv2
  have HE := Lib.hid hE
  have HL1 := Lib.hid (fun W hv => lightS_any (.slice a1 L.length c1) L W hv)
  have HL2 := Lib.hid (fun W hv => lightS_any (.slice a2 M.length c2) M W hv)
  clear hv1 hv2 hE
  cases hl1 : lightSB L
  · rw [hl1] at HL1
    go_enter Tryd.func4, Tryd.ntmps4
    go_wp2_with fail
    refine (lives23_any _).mono ?_
    rintro e w1 ⟨rfl, hb1⟩
    go_wp2_with fail
    refine (HL1.out _ (HV1.out.next hb1)).mono ?_
    rintro e w2 ⟨rfl, hb2⟩
    go_wp2_with fail
    go_ret
    exact ⟨rfl, hb1.trans hb2⟩
  rw [hl1] at HL1
  cases hl2 : lightSB M
  · rw [hl2] at HL2
    go_enter Tryd.func4, Tryd.ntmps4
    go_wp2_with fail
    refine (lives23_any _).mono ?_
    rintro e w1 ⟨rfl, hb1⟩
    go_wp2_with fail
    refine (HL1.out _ (HV1.out.next hb1)).mono ?_
    rintro e w2 ⟨rfl, hb2⟩
    replace hb1 := hb1.trans hb2
    clear hb2
    go_wp2_with fail
    refine (HL2.out _ (HV2.out.next hb1)).mono ?_
    rintro e w3 ⟨rfl, hb2⟩
    go_wp2_with fail
    go_ret
    exact ⟨rfl, hb1.trans hb2⟩
  rw [hl2] at HL2
  cases hr : decide ((100 : Int) < (r.length : Int))
  case true =>
    go_enter Tryd.func4, Tryd.ntmps4
    go_wp2_with fail
    refine (lives23_any _).mono ?_
    rintro e w1 ⟨rfl, hb1⟩
    go_wp2_with fail
    refine (HL1.out _ (HV1.out.next hb1)).mono ?_
    rintro e w2 ⟨rfl, hb2⟩
    replace hb1 := hb1.trans hb2
    clear hb2
    go_wp2_with fail
    refine (HL2.out _ (HV2.out.next hb1)).mono ?_
    rintro e w3 ⟨rfl, hb2⟩
    go_wp2_with fail
    go_ret
    exact ⟨rfl, hb1.trans hb2⟩
  case false =>
    have hr100 : r.length ≤ 100 := by rw [decide_eq_false_iff_not] at hr; omega
    have hLS1 := lightS_of hl1
    have hLS2 := lightS_of hl2
    have hlen1 := stepsB_le hLS1
    have HW1 := Lib.hid hLS1.w
    have HW2 := Lib.hid hLS2.w
    have HF1 := Lib.hid hF1
    have HF2 := Lib.hid hF2
    clear hLS2 hl1 hl2 hr hF1 hF2
    go_enter Tryd.func4, Tryd.ntmps4
    go_wp2_with fail
    refine (lives23_any _).mono ?_
    rintro e w1 ⟨rfl, hb1⟩
    go_wp2_with fail
    refine (HL1.out _ (HV1.out.next hb1)).mono ?_
    rintro e w2 ⟨rfl, hb2⟩
    replace hb1 := hb1.trans hb2
    clear hb2
    go_wp2_with fail
    refine (HL2.out _ (HV2.out.next hb1)).mono ?_
    rintro e w3 ⟨rfl, hb2⟩
    replace hb1 := hb1.trans hb2
    clear hb2 HL1 HL2
    go_wp2_with fail
    cases hm1 : maysB L
    · refine (bytes_no _ L _ (HV1.out.next hb1) (HE.out.next hb1) HW1.out HF1.out hm1).mono ?_
      rintro e w4 ⟨rfl, hb2⟩
      replace hb1 := hb1.trans hb2
      clear hb2 hm1
      go_wp2_with fail
      cases hm2 : maysB M
      · refine (bytes_no _ M _ (HV2.out.next hb1) (HE.out.next hb1) HW2.out HF2.out hm2).mono ?_
        rintro e w5 ⟨rfl, hb2⟩
        clear hm2
        go_wp2_with fail
        go_ret
        exact ⟨rfl, hb1.trans hb2⟩
      · refine (bytes_yes _ M _ (HV2.out.next hb1) (HE.out.next hb1) HW2.out HF2.out hm2).mono ?_
        rintro e w5 ⟨rfl, hb2⟩
        clear hm2
        go_wp2_with fail
        go_ret
        exact ⟨rfl, hb1.trans hb2⟩
    · refine (bytes_yes _ L _ (HV1.out.next hb1) (HE.out.next hb1) HW1.out HF1.out hm1).mono ?_
      rintro e w4 ⟨rfl, hb2⟩
      replace hb1 := hb1.trans hb2
      have HM1 := Lib.hid hm1
      clear hb2 hm1
      go_wp2_with fail
      cases hm2 : maysB M
      · refine (bytes_no _ M _ (HV2.out.next hb1) (HE.out.next hb1) HW2.out HF2.out hm2).mono ?_
        rintro e w5 ⟨rfl, hb2⟩
        clear hm2
        go_wp2_with fail
        go_ret
        exact ⟨rfl, hb1.trans hb2⟩
      · refine (bytes_yes _ M _ (HV2.out.next hb1) (HE.out.next hb1) HW2.out HF2.out hm2).mono ?_
        rintro e w5 ⟨rfl, hb2⟩
        replace hb1 := hb1.trans hb2
        have HM2 := Lib.hid hm2
        clear hb2 hm2
        have hpos := steps_pos L
        have hcutN := fun p hp => read_cut_none HM1.out (p := p) hp
        have hext := read_ext HM1.out r
        have hcl : ∀ x ∈ L, x.2.2.length ≤ 1000000 := fun x hx => by have := HW1.out.2.2 x hx; omega
        have hcm : ∀ x ∈ M, x.2.2.length ≤ 1000000 := fun x hx => by have := HW2.out.2.2 x hx; omega
        have HSM := Lib.hid (fun W h1 h2 => sameS_any (.slice a1 L.length c1) (.slice a2 M.length c2) L M W h1 h2 (by have := HW1.out.1; omega) (by have := HW2.out.1; omega) hcl hcm)
        have hst : Hid (L ≠ M → stepsB L ≠ stepsB M) := fun h e => h (steps_inj HM1.out HM2.out e)
        clear hcl hcm
        have hXY : (stepsB L == stepsB M) = sameSB L M := by
          by_cases hLM : L = M
          · subst hLM
            rw [same_list]; simp
          · rw [same_not hLM]; simp [hst.out hLM]
        obtain ⟨sm, hsm⟩ : ∃ b, Hid (b = sameSB L M) := ⟨_, rfl⟩
        rw [← hsm.out] at hXY HSM
        have HPK := Lib.hid (pick_any cut ((stepsB L).length : Int) · k1 k2 (by omega) (by omega))
        have hp0 := Int.emod_nonneg cut (show ((stepsB L).length : Int) ≠ 0 by omega)
        have hp1 := Int.emod_lt_of_pos cut (show (0 : Int) < ((stepsB L).length : Int) by omega)
        obtain ⟨p, hp⟩ : ∃ p : Nat, cut % ((stepsB L).length : Int) = (p : Int) := ⟨(cut % ((stepsB L).length : Int)).toNat, by omega⟩
        have hpl : p < (stepsB L).length := by omega
        have hno := hcutN p hpl
        rw [hp] at HPK
        generalize stepsB L = X at *
        generalize stepsB M = Y at *
        have HR1 := Lib.hid (fun W hE => read_no (X.take p) W (by rw [List.length_take]; omega) hE hno)
        have hcat := cat_bytes X r
        have hsl := ext_bytes X 0 p
        have HX := Lib.hid hext
        clear hp0 hp1 hp hno hcutN hext hst
        go_wp2_with fail
        refine (HSM.out _ (HV1.out.next hb1) (HV2.out.next hb1)).mono ?_
        rintro e w6 ⟨rfl, hb2⟩
        replace hb1 := hb1.trans hb2
        clear hb2 HSM
        go_wp2_with fail
        refine (HPK.out _).mono ?_
        rintro e w7 ⟨rfl, rfl⟩
        have hpl2 : (p : Int) ≤ (X.length : Int) := by omega
        have hpl3 : p ≤ X.length := by omega
        go_wp2_with fail
        refine (HR1.out _ (HE.out.next hb1)).mono ?_
        rintro e w8 ⟨rv, rfl, _, hb2⟩
        replace hb1 := hb1.trans hb2
        clear hb2 HR1 hsl
        go_wp2_with fail
        clear hcat hpl2 hpl3 HPK hXY
        have hlr : (X ++ r).length ≤ 1000000 := by rw [List.length_append]; omega
        cases hre : r.isEmpty
        · have hx : readS (X ++ r) = none := by rw [HX.out, hre]; rfl
          refine (read_no (X ++ r) _ hlr (HE.out.next hb1) hx).mono ?_
          rintro e w9 ⟨rv2, rfl, _, hb2⟩
          clear hx
          go_wp2_with fail
          go_ret
          exact ⟨rfl, hb1.trans hb2⟩
        · have hx : readS (X ++ r) = some L := by rw [HX.out, hre]; rfl
          refine (read_yes (X ++ r) L _ hlr (HE.out.next hb1) hx).mono ?_
          rintro e w9 ⟨rv2, rfl, _, hb2⟩
          clear hx
          go_wp2_with fail
          go_ret
          exact ⟨rfl, hb1.trans hb2⟩
end Go.Proofs.YtiadjmfdahendaaDoor

namespace Go.Proofs.YtiadjmfdahendaaDoor
open Go.RowKit
attribute [local go_sem ↓] run_atomEq
attribute [local go_sem] eqA_self

theorem atomS_enc {a : Atm} (h : checkA a = 0) (s : List UInt8) : atomS (atomB a ++ s) 0 false = (a, (atomB a).length, false) := by
  have h1 := atomP_enc h s
  have h2 := atomS_P (s := atomB a ++ s) (i := 0) (Nat.zero_le _)
  have h3 := atomS_le (s := atomB a ++ s) (i := 0) (bad := false) (Nat.zero_le _)
  rw [List.drop_zero, h1] at h2
  generalize atomS (atomB a ++ s) 0 false = r at *
  obtain ⟨b, k, z⟩ := r
  simp only at h3
  cases z
  · simp only [ofS, Bool.false_eq_true, if_false, Option.some.injEq, Prod.mk.injEq] at h2
    obtain ⟨rfl, h2⟩ := h2
    have h4 := congrArg List.length h2
    rw [List.length_drop, List.length_append] at h4
    rw [List.length_append] at h3
    rw [show k = (atomB a).length by omega]
  · simp only [ofS, if_true] at h2; cases h2
theorem atomS_dec {s : List UInt8} {b : Atm} {k : Nat} (h : atomS s 0 false = (b, k, false)) : checkA b = 0 ∧ k ≤ s.length ∧ s.take k = atomB b := by
  have h2 := atomS_P (s := s) (i := 0) (Nat.zero_le _)
  have h3 := atomS_le (s := s) (i := 0) (bad := false) (Nat.zero_le _)
  rw [h] at h2 h3
  rw [List.drop_zero] at h2
  simp only [ofS, Bool.false_eq_true, if_false] at h2 h3
  obtain ⟨h4, h5⟩ := atomP_back h2
  refine ⟨h4, h3, ?_⟩
  have h6 := congrArg List.length h5
  rw [List.length_append, List.length_drop] at h6
  have h7 : k = (atomB b).length := by omega
  have h8 := congrArg (List.take k) h5
  rw [h8, h7, List.take_left']
  rfl
theorem readatom_yes (s : List UInt8) (b_s b_p : List UInt8) (b_n : Int) (b_v0 b_v1 b_v2 b_v3 : Bool) (b_l0 b_l1 b_l2 b_l3 : List UInt8) (k : Nat) (w : World) (hs : s.length ≤ 1000000) (hE : Env w) (h : atomS s 0 false = (((b_s, b_p, b_n, (b_v0, b_l0), (b_v1, b_l1), (b_v2, b_l2), (b_v3, b_l3)) : Atm), k, false)) :
    Calls Tryd.prog 19 #[.string ⟨s.toArray⟩] w fun e w' => e = .returned (.tuple #[.agg #[.string ⟨b_s.toArray⟩, .string ⟨b_p.toArray⟩, .int .i64 b_n, .bool b_v0, .string ⟨b_l0.toArray⟩, .bool b_v1, .string ⟨b_l1.toArray⟩, .bool b_v2, .string ⟨b_l2.toArray⟩, .bool b_v3, .string ⟨b_l3.toArray⟩], .int .i64 (k : Int), .int .i64 0]) ∧ Since w w' := by
  have h1 := readatom_any s w hs hE
  unfold ReadAtomPost at h1
  rw [h] at h1
  exact h1
theorem readatom_no (s : List UInt8) (w : World) (hs : s.length ≤ 1000000) (hE : Env w) (h : (atomS s 0 false).2.2 = true) :
    Calls Tryd.prog 19 #[.string ⟨s.toArray⟩] w fun e w' => e = .returned (.tuple #[.agg #[.string ⟨#[]⟩, .string ⟨#[]⟩, .int .i64 0, .bool false, .string ⟨#[]⟩, .bool false, .string ⟨#[]⟩, .bool false, .string ⟨#[]⟩, .bool false, .string ⟨#[]⟩], .int .i64 0, .int .i64 15]) ∧ Since w w' := by
  have h1 := readatom_any s w hs hE
  unfold ReadAtomPost at h1
  rw [h, atomS_zero h] at h1
  exact h1
theorem catom_yes (a_s a_p : List UInt8) (a_n : Int) (a_v0 a_v1 a_v2 a_v3 : Bool) (a_l0 a_l1 a_l2 a_l3 : List UInt8) (w : World) (hF : FitsA ((a_s, a_p, a_n, (a_v0, a_l0), (a_v1, a_l1), (a_v2, a_l2), (a_v3, a_l3)) : Atm)) (hE : Env w) (hL : lightB ((a_s, a_p, a_n, (a_v0, a_l0), (a_v1, a_l1), (a_v2, a_l2), (a_v3, a_l3)) : Atm) = true) (h : checkA ((a_s, a_p, a_n, (a_v0, a_l0), (a_v1, a_l1), (a_v2, a_l2), (a_v3, a_l3)) : Atm) = 0) :
    Calls Tryd.prog 13 #[.agg #[.string ⟨a_s.toArray⟩, .string ⟨a_p.toArray⟩, .int .i64 a_n, .bool a_v0, .string ⟨a_l0.toArray⟩, .bool a_v1, .string ⟨a_l1.toArray⟩, .bool a_v2, .string ⟨a_l2.toArray⟩, .bool a_v3, .string ⟨a_l3.toArray⟩]] w fun e w' => e = .returned (.tuple #[.string ⟨(atomB ((a_s, a_p, a_n, (a_v0, a_l0), (a_v1, a_l1), (a_v2, a_l2), (a_v3, a_l3)) : Atm)).toArray⟩, .int .i64 0]) ∧ Since w w' := by
  have h1 := catom_any a_s a_p a_n a_v0 a_v1 a_v2 a_v3 a_l0 a_l1 a_l2 a_l3 w hF hE hL
  unfold CertAP certA at h1
  rw [if_pos h] at h1
  exact h1
theorem catom_no (a_s a_p : List UInt8) (a_n : Int) (a_v0 a_v1 a_v2 a_v3 : Bool) (a_l0 a_l1 a_l2 a_l3 : List UInt8) (w : World) (hF : FitsA ((a_s, a_p, a_n, (a_v0, a_l0), (a_v1, a_l1), (a_v2, a_l2), (a_v3, a_l3)) : Atm)) (hE : Env w) (hL : lightB ((a_s, a_p, a_n, (a_v0, a_l0), (a_v1, a_l1), (a_v2, a_l2), (a_v3, a_l3)) : Atm) = true) (h : ¬ checkA ((a_s, a_p, a_n, (a_v0, a_l0), (a_v1, a_l1), (a_v2, a_l2), (a_v3, a_l3)) : Atm) = 0) :
    Calls Tryd.prog 13 #[.agg #[.string ⟨a_s.toArray⟩, .string ⟨a_p.toArray⟩, .int .i64 a_n, .bool a_v0, .string ⟨a_l0.toArray⟩, .bool a_v1, .string ⟨a_l1.toArray⟩, .bool a_v2, .string ⟨a_l2.toArray⟩, .bool a_v3, .string ⟨a_l3.toArray⟩]] w fun e w' => e = .returned (.tuple #[.string ⟨#[]⟩, .int .i64 2]) ∧ Since w w' := by
  have h1 := catom_any a_s a_p a_n a_v0 a_v1 a_v2 a_v3 a_l0 a_l1 a_l2 a_l3 w hF hE hL
  unfold CertAP certA at h1
  rw [if_neg h] at h1
  exact h1

set_option maxHeartbeats 4000000 in
set_option maxRecDepth 100000 in
theorem back_any (n : Nat) (hn : n < 4294967296) (a_s a_p : List UInt8) (a_n : Int) (a_v0 a_v1 a_v2 a_v3 : Bool) (a_l0 a_l1 a_l2 a_l3 : List UInt8) (v : Value) (L : List Stp) (s : List UInt8) (w : World) (hv : StpRow w v L) (hE : Env w) (fa : FitsA ((a_s, a_p, a_n, (a_v0, a_l0), (a_v1, a_l1), (a_v2, a_l2), (a_v3, a_l3)) : Atm)) (hF : FitsS L) :
    Calls Tryd.prog 7 #[.int .u32 (n : Int), .agg #[.string ⟨a_s.toArray⟩, .string ⟨a_p.toArray⟩, .int .i64 a_n, .bool a_v0, .string ⟨a_l0.toArray⟩, .bool a_v1, .string ⟨a_l1.toArray⟩, .bool a_v2, .string ⟨a_l2.toArray⟩, .bool a_v3, .string ⟨a_l3.toArray⟩], v, .string ⟨s.toArray⟩] w fun e w' => e = .returned (.bool true) ∧ Since w w' := by
  obtain ⟨a1, c1, rfl⟩ := hv.form
  have hS : Since w (w.alloc (.cells #[.string ⟨a_s.toArray⟩, .string ⟨a_p.toArray⟩, .int .i64 a_n, .bool a_v0, .string ⟨a_l0.toArray⟩, .bool a_v1, .string ⟨a_l1.toArray⟩, .bool a_v2, .string ⟨a_l2.toArray⟩, .bool a_v3, .string ⟨a_l3.toArray⟩] 27)) := (Since.refl _).alloc _
  have a_B : Box (w.alloc (.cells #[.string ⟨a_s.toArray⟩, .string ⟨a_p.toArray⟩, .int .i64 a_n, .bool a_v0, .string ⟨a_l0.toArray⟩, .bool a_v1, .string ⟨a_l1.toArray⟩, .bool a_v2, .string ⟨a_l2.toArray⟩, .bool a_v3, .string ⟨a_l3.toArray⟩] 27)) w.heap.size ((a_s, a_p, a_n, (a_v0, a_l0), (a_v1, a_l1), (a_v2, a_l2), (a_v3, a_l3)) : Atm) := box_new w ((a_s, a_p, a_n, (a_v0, a_l0), (a_v1, a_l1), (a_v2, a_l2), (a_v3, a_l3)) : Atm) _
  have HV := Lib.hid hv
  have HE := Lib.hid hE
  have HLS := Lib.hid (fun W hv => lightS_any (.slice a1 L.length c1) L W hv)
  have HLA := Lib.hid (fun W => light_any a_s a_p a_n a_v0 a_v1 a_v2 a_v3 a_l0 a_l1 a_l2 a_l3 W)
  clear hv hE
  obtain ⟨a_c0, a_c1, a_c2, a_c3, a_c4, a_c5, a_c6, a_c7, a_c8, a_c9, a_c10⟩ := a_B.all
  cases hla : lightB ((a_s, a_p, a_n, (a_v0, a_l0), (a_v1, a_l1), (a_v2, a_l2), (a_v3, a_l3)) : Atm)
  · rw [hla] at HLA
    go_enter Tryd.func7, Tryd.ntmps7
    go_wp2_with fail
    refine (lives23_any _).mono ?_
    rintro e w1 ⟨rfl, hb⟩
    replace hS := hS.trans hb
    replace a_B := a_B.next hb; replace a_c0 := hb.cell a_c0; replace a_c1 := hb.cell a_c1; replace a_c2 := hb.cell a_c2; replace a_c3 := hb.cell a_c3; replace a_c4 := hb.cell a_c4; replace a_c5 := hb.cell a_c5; replace a_c6 := hb.cell a_c6; replace a_c7 := hb.cell a_c7; replace a_c8 := hb.cell a_c8; replace a_c9 := hb.cell a_c9; replace a_c10 := hb.cell a_c10
    clear hb
    go_wp2_with fail
    refine (HLA.out _).mono ?_
    rintro e w2 ⟨rfl, hb⟩
    replace hS := hS.trans hb
    clear hb
    go_wp2_with fail
    go_ret
    exact ⟨rfl, hS⟩
  rw [hla] at HLA
  cases hls : lightSB L
  · rw [hls] at HLS
    go_enter Tryd.func7, Tryd.ntmps7
    go_wp2_with fail
    refine (lives23_any _).mono ?_
    rintro e w1 ⟨rfl, hb⟩
    replace hS := hS.trans hb
    replace a_B := a_B.next hb; replace a_c0 := hb.cell a_c0; replace a_c1 := hb.cell a_c1; replace a_c2 := hb.cell a_c2; replace a_c3 := hb.cell a_c3; replace a_c4 := hb.cell a_c4; replace a_c5 := hb.cell a_c5; replace a_c6 := hb.cell a_c6; replace a_c7 := hb.cell a_c7; replace a_c8 := hb.cell a_c8; replace a_c9 := hb.cell a_c9; replace a_c10 := hb.cell a_c10
    clear hb
    go_wp2_with fail
    refine (HLA.out _).mono ?_
    rintro e w2 ⟨rfl, hb⟩
    replace hS := hS.trans hb
    clear hb
    go_wp2_with fail
    refine (HLS.out _ (HV.out.next hS)).mono ?_
    rintro e w3 ⟨rfl, hb⟩
    replace hS := hS.trans hb
    clear hb
    go_wp2_with fail
    go_ret
    exact ⟨rfl, hS⟩
  rw [hls] at HLS
  cases hr : decide ((2000 : Int) < (s.length : Int))
  case true =>
    go_enter Tryd.func7, Tryd.ntmps7
    go_wp2_with fail
    refine (lives23_any _).mono ?_
    rintro e w1 ⟨rfl, hb⟩
    replace hS := hS.trans hb
    replace a_B := a_B.next hb; replace a_c0 := hb.cell a_c0; replace a_c1 := hb.cell a_c1; replace a_c2 := hb.cell a_c2; replace a_c3 := hb.cell a_c3; replace a_c4 := hb.cell a_c4; replace a_c5 := hb.cell a_c5; replace a_c6 := hb.cell a_c6; replace a_c7 := hb.cell a_c7; replace a_c8 := hb.cell a_c8; replace a_c9 := hb.cell a_c9; replace a_c10 := hb.cell a_c10
    clear hb
    go_wp2_with fail
    refine (HLA.out _).mono ?_
    rintro e w2 ⟨rfl, hb⟩
    replace hS := hS.trans hb
    clear hb
    go_wp2_with fail
    refine (HLS.out _ (HV.out.next hS)).mono ?_
    rintro e w3 ⟨rfl, hb⟩
    replace hS := hS.trans hb
    clear hb
    go_wp2_with fail
    go_ret
    exact ⟨rfl, hS⟩
  case false =>
    have hs2 : s.length ≤ 2000 := by rw [decide_eq_false_iff_not] at hr; omega
    have HW := Lib.hid (lightS_of hls).w
    have HF := Lib.hid hF
    have HFA := Lib.hid fa
    have HLB := Lib.hid hla
    have HNL := Lib.hid (num_len n)
    have HN := Lib.hid (fun W => number_any n W hn)
    have HRD := Lib.hid (read_num n s hn)
    obtain ⟨N, hN⟩ : ∃ N, Hid (N = numL n) := ⟨_, rfl⟩
    rw [← hN.out] at HN HRD HNL
    have HRN : Hid (∀ W, Calls Tryd.prog 17 #[.string ⟨(N ++ s).toArray⟩] W fun e w' => e = .returned (.tuple #[.int .u32 (n : Int), .int .i64 (N.length : Int), .int .i64 0]) ∧ W = w') := by
      intro W
      have h := readnum_any (N ++ s) W (by have := HNL.out; rw [List.length_append]; unfold maxLen; omega)
      rw [HRD.out] at h
      exact h
    have hcN := cat_bytes N s
    have hNl := HNL.out
    clear hr hls hF hla fa hN HRD HNL
    go_enter Tryd.func7, Tryd.ntmps7
    go_wp2_with fail
    refine (lives23_any _).mono ?_
    rintro e w1 ⟨rfl, hb⟩
    replace hS := hS.trans hb
    replace a_B := a_B.next hb; replace a_c0 := hb.cell a_c0; replace a_c1 := hb.cell a_c1; replace a_c2 := hb.cell a_c2; replace a_c3 := hb.cell a_c3; replace a_c4 := hb.cell a_c4; replace a_c5 := hb.cell a_c5; replace a_c6 := hb.cell a_c6; replace a_c7 := hb.cell a_c7; replace a_c8 := hb.cell a_c8; replace a_c9 := hb.cell a_c9; replace a_c10 := hb.cell a_c10
    clear hb
    go_wp2_with fail
    refine (HLA.out _).mono ?_
    rintro e w2 ⟨rfl, hb⟩
    replace hS := hS.trans hb
    replace a_B := a_B.next hb; replace a_c0 := hb.cell a_c0; replace a_c1 := hb.cell a_c1; replace a_c2 := hb.cell a_c2; replace a_c3 := hb.cell a_c3; replace a_c4 := hb.cell a_c4; replace a_c5 := hb.cell a_c5; replace a_c6 := hb.cell a_c6; replace a_c7 := hb.cell a_c7; replace a_c8 := hb.cell a_c8; replace a_c9 := hb.cell a_c9; replace a_c10 := hb.cell a_c10
    clear hb HLA
    go_wp2_with fail
    refine (HLS.out _ (HV.out.next hS)).mono ?_
    rintro e w3 ⟨rfl, hb⟩
    replace hS := hS.trans hb
    replace a_B := a_B.next hb; replace a_c0 := hb.cell a_c0; replace a_c1 := hb.cell a_c1; replace a_c2 := hb.cell a_c2; replace a_c3 := hb.cell a_c3; replace a_c4 := hb.cell a_c4; replace a_c5 := hb.cell a_c5; replace a_c6 := hb.cell a_c6; replace a_c7 := hb.cell a_c7; replace a_c8 := hb.cell a_c8; replace a_c9 := hb.cell a_c9; replace a_c10 := hb.cell a_c10
    clear hb HLS
    go_wp2_with fail
    refine (HN.out _).mono ?_
    rintro e w4 ⟨rfl, hb⟩
    replace hS := hS.trans hb
    replace a_B := a_B.next hb; replace a_c0 := hb.cell a_c0; replace a_c1 := hb.cell a_c1; replace a_c2 := hb.cell a_c2; replace a_c3 := hb.cell a_c3; replace a_c4 := hb.cell a_c4; replace a_c5 := hb.cell a_c5; replace a_c6 := hb.cell a_c6; replace a_c7 := hb.cell a_c7; replace a_c8 := hb.cell a_c8; replace a_c9 := hb.cell a_c9; replace a_c10 := hb.cell a_c10
    clear hb
    go_wp2_with fail
    refine (HRN.out _).mono ?_
    rintro e w5 ⟨rfl, rfl⟩
    go_wp2_with fail
    refine (HN.out _).mono ?_
    rintro e w6 ⟨rfl, hb⟩
    replace hS := hS.trans hb
    replace a_B := a_B.next hb; replace a_c0 := hb.cell a_c0; replace a_c1 := hb.cell a_c1; replace a_c2 := hb.cell a_c2; replace a_c3 := hb.cell a_c3; replace a_c4 := hb.cell a_c4; replace a_c5 := hb.cell a_c5; replace a_c6 := hb.cell a_c6; replace a_c7 := hb.cell a_c7; replace a_c8 := hb.cell a_c8; replace a_c9 := hb.cell a_c9; replace a_c10 := hb.cell a_c10
    clear hb HN HRN hcN
    go_wp2_with fail
    obtain ⟨X, E, hXE⟩ : ∃ (X : List UInt8) (E : Int), Hid ((checkA ((a_s, a_p, a_n, (a_v0, a_l0), (a_v1, a_l1), (a_v2, a_l2), (a_v3, a_l3)) : Atm) = 0 ∧ X = atomB ((a_s, a_p, a_n, (a_v0, a_l0), (a_v1, a_l1), (a_v2, a_l2), (a_v3, a_l3)) : Atm) ∧ E = 0) ∨ (checkA ((a_s, a_p, a_n, (a_v0, a_l0), (a_v1, a_l1), (a_v2, a_l2), (a_v3, a_l3)) : Atm) ≠ 0 ∧ X = [] ∧ E = 2)) := by
      by_cases h : checkA ((a_s, a_p, a_n, (a_v0, a_l0), (a_v1, a_l1), (a_v2, a_l2), (a_v3, a_l3)) : Atm) = 0
      · exact ⟨atomB ((a_s, a_p, a_n, (a_v0, a_l0), (a_v1, a_l1), (a_v2, a_l2), (a_v3, a_l3)) : Atm), 0, .inl ⟨h, rfl, rfl⟩⟩
      · exact ⟨[], 2, .inr ⟨h, rfl, rfl⟩⟩
    have HAT : Hid (∀ W, Env W → Calls Tryd.prog 13 #[.agg #[.string ⟨a_s.toArray⟩, .string ⟨a_p.toArray⟩, .int .i64 a_n, .bool a_v0, .string ⟨a_l0.toArray⟩, .bool a_v1, .string ⟨a_l1.toArray⟩, .bool a_v2, .string ⟨a_l2.toArray⟩, .bool a_v3, .string ⟨a_l3.toArray⟩]] W fun e w' => e = .returned (.tuple #[.string ⟨X.toArray⟩, .int .i64 E]) ∧ Since W w') := by
      intro W hEW
      rcases hXE.out with ⟨h, rfl, rfl⟩ | ⟨h, rfl, rfl⟩
      · exact catom_yes a_s a_p a_n a_v0 a_v1 a_v2 a_v3 a_l0 a_l1 a_l2 a_l3 W HFA.out hEW HLB.out h
      · exact catom_no a_s a_p a_n a_v0 a_v1 a_v2 a_v3 a_l0 a_l1 a_l2 a_l3 W HFA.out hEW HLB.out h
    refine (HAT.out _ (HE.out.next hS)).mono ?_
    rintro e w7 ⟨rfl, hb⟩
    replace hS := hS.trans hb
    replace a_B := a_B.next hb; replace a_c0 := hb.cell a_c0; replace a_c1 := hb.cell a_c1; replace a_c2 := hb.cell a_c2; replace a_c3 := hb.cell a_c3; replace a_c4 := hb.cell a_c4; replace a_c5 := hb.cell a_c5; replace a_c6 := hb.cell a_c6; replace a_c7 := hb.cell a_c7; replace a_c8 := hb.cell a_c8; replace a_c9 := hb.cell a_c9; replace a_c10 := hb.cell a_c10
    clear hb HAT
    go_upto_if 74 with (fail)
    go_cut [14] (fun s14 wx => Since w wx)
    case first =>
      rcases hXE.out with ⟨hck, hX, rfl⟩ | ⟨hck, hX, rfl⟩
      · have hAS := atomS_enc hck s
        have hlX := atomB_le HLB.out
        rw [← hX] at hAS hlX
        have HAS := Lib.hid hAS
        have hcX := cat_bytes X s
        have hls : (X ++ s).length ≤ 1000000 := by rw [List.length_append]; omega
        clear hX hck hXE hAS
        go_wp2_with fail
        refine (readatom_yes (X ++ s) a_s a_p a_n a_v0 a_v1 a_v2 a_v3 a_l0 a_l1 a_l2 a_l3 X.length _ hls (HE.out.next hS) HAS.out).mono ?_
        rintro e w8 ⟨rfl, hb⟩
        replace hS := hS.trans hb
        replace a_B := a_B.next hb; replace a_c0 := hb.cell a_c0; replace a_c1 := hb.cell a_c1; replace a_c2 := hb.cell a_c2; replace a_c3 := hb.cell a_c3; replace a_c4 := hb.cell a_c4; replace a_c5 := hb.cell a_c5; replace a_c6 := hb.cell a_c6; replace a_c7 := hb.cell a_c7; replace a_c8 := hb.cell a_c8; replace a_c9 := hb.cell a_c9; replace a_c10 := hb.cell a_c10
        clear hb
        have hz8 : w.heap.size < w8.heap.size := World.block_lt_of_cell? _ _ a_c0
        go_wp2_with fail
        go_meet
        exact hS.alloc _
      · clear hX hck hXE
        go_wp2_with fail
        go_meet
        exact hS
    case rest =>
      have hS := hcut
      clear hcut
      obtain ⟨T, E2, hTE⟩ : ∃ (T : List UInt8) (E2 : Int), Hid ((maysB L = true ∧ T = stepsB L ∧ E2 = 0) ∨ (maysB L = false ∧ T = [] ∧ E2 = 2)) := by
        cases h : maysB L
        · exact ⟨[], 2, .inr ⟨rfl, rfl, rfl⟩⟩
        · exact ⟨stepsB L, 0, .inl ⟨rfl, rfl, rfl⟩⟩
      have HBT : Hid (∀ W, StpRow W (.slice a1 L.length c1) L → Env W → Calls Tryd.prog 11 #[.slice a1 L.length c1] W fun e w' => e = .returned (.tuple #[.string ⟨T.toArray⟩, .int .i64 E2]) ∧ Since W w') := by
        intro W hv hEW
        rcases hTE.out with ⟨h, rfl, rfl⟩ | ⟨h, rfl, rfl⟩
        · exact bytes_yes _ L W hv hEW HW.out HF.out h
        · exact bytes_no _ L W hv hEW HW.out HF.out h
      go_wp2_with fail
      refine (HBT.out _ (HV.out.next hS) (HE.out.next hS)).mono ?_
      rintro e w9 ⟨rfl, hb⟩
      replace hS := hS.trans hb
      clear hb HBT
      go_upto_if 102 with (fail)
      go_cut [19] (fun s19 wx => Since w wx)
      case first =>
        rcases hTE.out with ⟨hm, hT, rfl⟩ | ⟨hm, hT, rfl⟩
        · have hRT : readS T = some L := by rw [hT, ← readS_P]; exact readP_iff.2 ⟨hm, rfl⟩
          have hlT : T.length ≤ 1000000 := by rw [hT]; have := HW.out.2.1; omega
          have hcl : ∀ x ∈ L, x.2.2.length ≤ 1000000 := fun x hx => by have := HW.out.2.2 x hx; omega
          have HSM : Hid (∀ v W, StpRow W v L → StpRow W (.slice a1 L.length c1) L → Calls Tryd.prog 14 #[v, .slice a1 L.length c1] W fun e w' => e = .returned (.bool true) ∧ Since W w') := by
            intro v W h1 h2
            have h := sameS_any v (.slice a1 L.length c1) L L W h1 h2 (by have := HW.out.1; omega) (by have := HW.out.1; omega) hcl hcl
            rw [same_list] at h
            exact h
          have HRT := Lib.hid hRT
          clear hm hT hTE hRT hcl
          go_wp2_with fail
          refine (read_yes T L _ hlT (HE.out.next hS) HRT.out).mono ?_
          rintro e w10 ⟨rv, rfl, hrv, hb⟩
          replace hS := hS.trans hb
          have HRV := Lib.hid hrv
          clear hb hrv
          go_wp2_with fail
          refine (HSM.out _ _ HRV.out (HV.out.next hS)).mono ?_
          rintro e w11 ⟨rfl, hb⟩
          go_wp2_with fail
          go_meet
          exact hS.trans hb
        · clear hm hT hTE
          go_wp2_with fail
          go_meet
          exact hS
      case rest =>
        have hS := hcut
        clear hcut
        obtain ⟨b_s, b_p, b_n, b_v0, b_l0, b_v1, b_l1, b_v2, b_l2, b_v3, b_l3, K, E3, hBK⟩ : ∃ (b_s b_p : List UInt8) (b_n : Int) (b_v0 : Bool) (b_l0 : List UInt8) (b_v1 : Bool) (b_l1 : List UInt8) (b_v2 : Bool) (b_l2 : List UInt8) (b_v3 : Bool) (b_l3 : List UInt8) (K : Nat) (E3 : Int), Hid ((E3 = 0 ∧ atomS s 0 false = (((b_s, b_p, b_n, (b_v0, b_l0), (b_v1, b_l1), (b_v2, b_l2), (b_v3, b_l3)) : Atm), K, false)) ∨ (E3 = 15 ∧ (atomS s 0 false).2.2 = true ∧ ((b_s, b_p, b_n, (b_v0, b_l0), (b_v1, b_l1), (b_v2, b_l2), (b_v3, b_l3)) : Atm) = zeroAtm ∧ K = 0)) := by
          generalize atomS s 0 false = q
          obtain ⟨⟨b_s, b_p, b_n, ⟨b_v0, b_l0⟩, ⟨b_v1, b_l1⟩, ⟨b_v2, b_l2⟩, ⟨b_v3, b_l3⟩⟩, k, z⟩ := q
          cases z
          · exact ⟨_, _, _, _, _, _, _, _, _, _, _, _, _, .inl ⟨rfl, rfl⟩⟩
          · exact ⟨_, _, _, _, _, _, _, _, _, _, _, _, _, .inr ⟨rfl, rfl, rfl, rfl⟩⟩
        have HRA : Hid (∀ W, Env W → Calls Tryd.prog 19 #[.string ⟨s.toArray⟩] W fun e w' => e = .returned (.tuple #[.agg #[.string ⟨b_s.toArray⟩, .string ⟨b_p.toArray⟩, .int .i64 b_n, .bool b_v0, .string ⟨b_l0.toArray⟩, .bool b_v1, .string ⟨b_l1.toArray⟩, .bool b_v2, .string ⟨b_l2.toArray⟩, .bool b_v3, .string ⟨b_l3.toArray⟩], .int .i64 (K : Int), .int .i64 E3]) ∧ Since W w') := by
          intro W hEW
          rcases hBK.out with ⟨rfl, h⟩ | ⟨rfl, h, hz, rfl⟩
          · exact readatom_yes s b_s b_p b_n b_v0 b_v1 b_v2 b_v3 b_l0 b_l1 b_l2 b_l3 K W (by omega) hEW h
          · have h1 := readatom_no s W (by omega) hEW h
            simp only [zeroAtm, Prod.mk.injEq] at hz
            obtain ⟨rfl, rfl, rfl, ⟨rfl, rfl⟩, ⟨rfl, rfl⟩, ⟨rfl, rfl⟩, rfl, rfl⟩ := hz
            exact h1
        go_wp2_with fail
        refine (HRA.out _ (HE.out.next hS)).mono ?_
        rintro e w12 ⟨rfl, hb⟩
        replace hS := hS.trans hb
        clear hb HRA
        go_upto_if 123 with (fail)
        go_cut [24] (fun s24 wx => Since w wx)
        case first =>
          rcases hBK.out with ⟨rfl, h⟩ | ⟨rfl, h, hz, hK⟩
          · obtain ⟨hck, hkl, htk⟩ := atomS_dec h
            have hCA := catom_yes b_s b_p b_n b_v0 b_v1 b_v2 b_v3 b_l0 b_l1 b_l2 b_l3 (w12.alloc (.cells #[.string ⟨b_s.toArray⟩, .string ⟨b_p.toArray⟩, .int .i64 b_n, .bool b_v0, .string ⟨b_l0.toArray⟩, .bool b_v1, .string ⟨b_l1.toArray⟩, .bool b_v2, .string ⟨b_l2.toArray⟩, .bool b_v3, .string ⟨b_l3.toArray⟩] 27)) (valid_fits hck) ((HE.out.next hS).next ((Since.refl _).alloc _)) (valid_light hck) hck
            rw [← htk] at hCA
            have HCA := Lib.hid hCA
            have hkl2 : (K : Int) ≤ (s.length : Int) := by omega
            have hkl3 : decide ((s.length : Int) < (K : Int)) = false := by simp; omega
            have hsl := ext_bytes s 0 K
            clear h hBK hck htk hCA
            go_wp2_with fail
            refine HCA.out.mono ?_
            rintro e w13 ⟨rfl, hb⟩
            go_wp2_with fail
            go_meet
            exact (hS.alloc _).trans hb
          · clear h hz hBK
            go_wp2_with fail
            go_meet
            exact hS.alloc _
        case rest =>
          have hS := hcut
          clear hcut
          cases hRS : readS s
          · go_wp2_with fail
            refine (read_no s _ (by omega) (HE.out.next hS) hRS).mono ?_
            rintro e w14 ⟨rv, rfl, hrv, hb⟩
            obtain ⟨ra, rc, rfl⟩ := hrv.form
            clear hrv hRS
            go_wp2_with fail
            go_ret
            exact ⟨rfl, hS.trans hb⟩
          · rename_i KL
            have hKL := hRS
            rw [← readS_P] at hKL
            obtain ⟨hmK, heK⟩ := readP_iff.1 hKL
            have HBY : Hid (∀ v W, StpRow W v KL → Env W → Calls Tryd.prog 11 #[v] W fun e w' => e = .returned (.tuple #[.string ⟨s.toArray⟩, .int .i64 0]) ∧ Since W w') := by
              intro v W hv hEW
              have h := bytes_yes v KL W hv hEW (mays_w hmK (by rw [← heK]; exact hs2)) (mays_fits hmK) hmK
              rw [← heK] at h
              exact h
            clear hKL hmK heK
            go_wp2_with fail
            refine (read_yes s KL _ (by omega) (HE.out.next hS) hRS).mono ?_
            rintro e w14 ⟨rv, rfl, hrv, hb⟩
            replace hS := hS.trans hb
            have HRV := Lib.hid hrv
            clear hb hRS hrv
            go_wp2_with fail
            refine (HBY.out _ _ HRV.out (HE.out.next hS)).mono ?_
            rintro e w15 ⟨rfl, hb⟩
            go_wp2_with fail
            go_ret
            exact ⟨rfl, hS.trans hb⟩
end Go.Proofs.YtiadjmfdahendaaDoor
