/- CertCut returns true at every two lists of steps, cut and bytes, in every world in which the library's table strings.asciiSpace stands. -/
import Derived.Test.YtiadjmfdahendaaDoorCertR
import Derived.Test.YtiadjmfdahendaaDoorCertE
import Derived.Test.YtiadjmfdahendaaDoorPick
namespace Go.Proofs.YtiadjmfdahendaaDoor
open Go.RowKit

theorem read_cut_none {L : List Stp} (hL : maysB L = true) {p : Nat} (hp : p < (stepsB L).length) : readS ((stepsB L).take p) = none := by
  cases h : readS ((stepsB L).take p) with
  | none => rfl
  | some K =>
    rw [← readS_P] at h
    obtain ⟨hK, he⟩ := readP_iff.1 h
    have h2 : stepsB K ++ (stepsB L).drop p = stepsB L := by rw [← he, List.take_append_drop]
    have h3 := congrArg List.length (steps_pre hK hL h2).1
    rw [List.length_drop, List.length_nil] at h3
    omega
theorem read_ext {L : List Stp} (hL : maysB L = true) (r : List UInt8) : readS (stepsB L ++ r) = if r.isEmpty then some L else none := by
  cases r with
  | nil =>
    rw [← readS_P, List.append_nil]
    exact readP_iff.2 ⟨hL, rfl⟩
  | cons c r =>
    simp only [List.isEmpty_cons, Bool.false_eq_true, if_false]
    cases h : readS (stepsB L ++ c :: r) with
    | none => rfl
    | some K =>
      rw [← readS_P] at h
      obtain ⟨hK, he⟩ := readP_iff.1 h
      cases (steps_pre hL hK he).1
theorem steps_pos (L : List Stp) : 1 ≤ (stepsB L).length := by
  have := num_pos L.length
  rw [stepsB, List.length_append]; omega

theorem bytes_no (v : Value) (L : List Stp) (w : World) (hv : StpRow w v L) (hE : Env w) (hL : LightW L) (hF : FitsS L) (hm : maysB L = false) :
    Calls Tryd.prog 11 #[v] w fun e w' => e = .returned (.tuple #[.string ⟨#[]⟩, .int .i64 2]) ∧ Since w w' := by
  have h := bytesW_any v L w hv hE hL hF
  unfold CertBP at h
  rw [hm] at h
  exact h
theorem bytes_yes (v : Value) (L : List Stp) (w : World) (hv : StpRow w v L) (hE : Env w) (hL : LightW L) (hF : FitsS L) (hm : maysB L = true) :
    Calls Tryd.prog 11 #[v] w fun e w' => e = .returned (.tuple #[.string ⟨(stepsB L).toArray⟩, .int .i64 0]) ∧ Since w w' := by
  have h := bytesW_any v L w hv hE hL hF
  unfold CertBP at h
  rw [hm] at h
  exact h
theorem read_yes (s : List UInt8) (K : List Stp) (w : World) (hs : s.length ≤ 1000000) (hE : Env w) (h : readS s = some K) :
    Calls Tryd.prog 15 #[.string ⟨s.toArray⟩] w fun e w' => ∃ v, e = .returned (.tuple #[v, .int .i64 0]) ∧ StpRow w' v K ∧ Since w w' := by
  have h1 := read_any s w hs hE
  unfold ReadPost at h1
  rw [h] at h1
  exact h1
theorem read_no (s : List UInt8) (w : World) (hs : s.length ≤ 1000000) (hE : Env w) (h : readS s = none) :
    Calls Tryd.prog 15 #[.string ⟨s.toArray⟩] w fun e w' => ∃ v, e = .returned (.tuple #[v, .int .i64 15]) ∧ StpRow w' v [] ∧ Since w w' := by
  have h1 := read_any s w hs hE
  unfold ReadPost at h1
  rw [h] at h1
  exact h1
theorem same_list (L : List Stp) : sameSB L L = true := sameSB_iff.2 rfl
theorem same_not {L M : List Stp} (h : L ≠ M) : sameSB L M = false := by
  cases hs : sameSB L M
  · rfl
  · exact absurd (sameSB_iff.1 hs) h

set_option maxHeartbeats 4000000 in
set_option maxRecDepth 100000 in
theorem cut_any (v1 v2 : Value) (L M : List Stp) (cut : Int) (r : List UInt8) (w : World) (hv1 : StpRow w v1 L) (hv2 : StpRow w v2 M) (hE : Env w) (hF1 : FitsS L) (hF2 : FitsS M) (k1 : -9223372036854775808 ≤ cut) (k2 : cut ≤ 9223372036854775807) :
    Calls Tryd.prog 4 #[v1, v2, .int .i64 cut, .string ⟨r.toArray⟩] w fun e w' => e = .returned (.bool true) ∧ Since w w' := by
  obtain ⟨a1, c1, rfl⟩ := hv1.form
  obtain ⟨a2, c2, rfl⟩ := hv2.form
  have HV1 := Lib.hid hv1
  have HV2 := Lib.hid hv2
  have HE := Lib.hid hE
  have HL1 := Lib.hid (fun W hv => lightS_any (.slice a1 L.length c1) L W hv)
  have HL2 := Lib.hid (fun W hv => lightS_any (.slice a2 M.length c2) M W hv)
  clear hv1 hv2 hE
  cases hl1 : lightSB L
  · rw [hl1] at HL1
    go_enter Tryd.func4, Tryd.ntmps4
    go_wp2_with fail
    refine (lives23_any _).mono ?_
    rintro e w1 ⟨rfl, hb1⟩
    go_wp2_with fail
    refine (HL1.out _ (HV1.out.next hb1)).mono ?_
    rintro e w2 ⟨rfl, hb2⟩
    go_wp2_with fail
    go_ret
    exact ⟨rfl, hb1.trans hb2⟩
  rw [hl1] at HL1
  cases hl2 : lightSB M
  · rw [hl2] at HL2
    go_enter Tryd.func4, Tryd.ntmps4
    go_wp2_with fail
    refine (lives23_any _).mono ?_
    rintro e w1 ⟨rfl, hb1⟩
    go_wp2_with fail
    refine (HL1.out _ (HV1.out.next hb1)).mono ?_
    rintro e w2 ⟨rfl, hb2⟩
    replace hb1 := hb1.trans hb2
    clear hb2
    go_wp2_with fail
    refine (HL2.out _ (HV2.out.next hb1)).mono ?_
    rintro e w3 ⟨rfl, hb2⟩
    go_wp2_with fail
    go_ret
    exact ⟨rfl, hb1.trans hb2⟩
  rw [hl2] at HL2
  cases hr : decide ((100 : Int) < (r.length : Int))
  case true =>
    go_enter Tryd.func4, Tryd.ntmps4
    go_wp2_with fail
    refine (lives23_any _).mono ?_
    rintro e w1 ⟨rfl, hb1⟩
    go_wp2_with fail
    refine (HL1.out _ (HV1.out.next hb1)).mono ?_
    rintro e w2 ⟨rfl, hb2⟩
    replace hb1 := hb1.trans hb2
    clear hb2
    go_wp2_with fail
    refine (HL2.out _ (HV2.out.next hb1)).mono ?_
    rintro e w3 ⟨rfl, hb2⟩
    go_wp2_with fail
    go_ret
    exact ⟨rfl, hb1.trans hb2⟩
  case false =>
    have hr100 : r.length ≤ 100 := by rw [decide_eq_false_iff_not] at hr; omega
    have hLS1 := lightS_of hl1
    have hLS2 := lightS_of hl2
    have hlen1 := stepsB_le hLS1
    have HW1 := Lib.hid hLS1.w
    have HW2 := Lib.hid hLS2.w
    have HF1 := Lib.hid hF1
    have HF2 := Lib.hid hF2
    clear hLS2 hl1 hl2 hr hF1 hF2
    go_enter Tryd.func4, Tryd.ntmps4
    go_wp2_with fail
    refine (lives23_any _).mono ?_
    rintro e w1 ⟨rfl, hb1⟩
    go_wp2_with fail
    refine (HL1.out _ (HV1.out.next hb1)).mono ?_
    rintro e w2 ⟨rfl, hb2⟩
    replace hb1 := hb1.trans hb2
    clear hb2
    go_wp2_with fail
    refine (HL2.out _ (HV2.out.next hb1)).mono ?_
    rintro e w3 ⟨rfl, hb2⟩
    replace hb1 := hb1.trans hb2
    clear hb2 HL1 HL2
    go_wp2_with fail
    cases hm1 : maysB L
    · refine (bytes_no _ L _ (HV1.out.next hb1) (HE.out.next hb1) HW1.out HF1.out hm1).mono ?_
      rintro e w4 ⟨rfl, hb2⟩
      replace hb1 := hb1.trans hb2
      clear hb2 hm1
      go_wp2_with fail
      cases hm2 : maysB M
      · refine (bytes_no _ M _ (HV2.out.next hb1) (HE.out.next hb1) HW2.out HF2.out hm2).mono ?_
        rintro e w5 ⟨rfl, hb2⟩
        clear hm2
        go_wp2_with fail
        go_ret
        exact ⟨rfl, hb1.trans hb2⟩
      · refine (bytes_yes _ M _ (HV2.out.next hb1) (HE.out.next hb1) HW2.out HF2.out hm2).mono ?_
        rintro e w5 ⟨rfl, hb2⟩
        clear hm2
        go_wp2_with fail
        go_ret
        exact ⟨rfl, hb1.trans hb2⟩
    · refine (bytes_yes _ L _ (HV1.out.next hb1) (HE.out.next hb1) HW1.out HF1.out hm1).mono ?_
      rintro e w4 ⟨rfl, hb2⟩
      replace hb1 := hb1.trans hb2
      have HM1 := Lib.hid hm1
      clear hb2 hm1
      go_wp2_with fail
      cases hm2 : maysB M
      · refine (bytes_no _ M _ (HV2.out.next hb1) (HE.out.next hb1) HW2.out HF2.out hm2).mono ?_
        rintro e w5 ⟨rfl, hb2⟩
        clear hm2
        go_wp2_with fail
        go_ret
        exact ⟨rfl, hb1.trans hb2⟩
      · refine (bytes_yes _ M _ (HV2.out.next hb1) (HE.out.next hb1) HW2.out HF2.out hm2).mono ?_
        rintro e w5 ⟨rfl, hb2⟩
        replace hb1 := hb1.trans hb2
        have HM2 := Lib.hid hm2
        clear hb2 hm2
        have hpos := steps_pos L
        have hcutN := fun p hp => read_cut_none HM1.out (p := p) hp
        have hext := read_ext HM1.out r
        have hcl : ∀ x ∈ L, x.2.2.length ≤ 1000000 := fun x hx => by have := HW1.out.2.2 x hx; omega
        have hcm : ∀ x ∈ M, x.2.2.length ≤ 1000000 := fun x hx => by have := HW2.out.2.2 x hx; omega
        have HSM := Lib.hid (fun W h1 h2 => sameS_any (.slice a1 L.length c1) (.slice a2 M.length c2) L M W h1 h2 (by have := HW1.out.1; omega) (by have := HW2.out.1; omega) hcl hcm)
        have hst : Hid (L ≠ M → stepsB L ≠ stepsB M) := fun h e => h (steps_inj HM1.out HM2.out e)
        clear hcl hcm
        have hXY : (stepsB L == stepsB M) = sameSB L M := by
          by_cases hLM : L = M
          · subst hLM
            rw [same_list]; simp
          · rw [same_not hLM]; simp [hst.out hLM]
        obtain ⟨sm, hsm⟩ : ∃ b, Hid (b = sameSB L M) := ⟨_, rfl⟩
        rw [← hsm.out] at hXY HSM
        have HPK := Lib.hid (pick_any cut ((stepsB L).length : Int) · k1 k2 (by omega) (by omega))
        have hp0 := Int.emod_nonneg cut (show ((stepsB L).length : Int) ≠ 0 by omega)
        have hp1 := Int.emod_lt_of_pos cut (show (0 : Int) < ((stepsB L).length : Int) by omega)
        obtain ⟨p, hp⟩ : ∃ p : Nat, cut % ((stepsB L).length : Int) = (p : Int) := ⟨(cut % ((stepsB L).length : Int)).toNat, by omega⟩
        have hpl : p < (stepsB L).length := by omega
        have hno := hcutN p hpl
        rw [hp] at HPK
        generalize stepsB L = X at *
        generalize stepsB M = Y at *
        have HR1 := Lib.hid (fun W hE => read_no (X.take p) W (by rw [List.length_take]; omega) hE hno)
        have hcat := cat_bytes X r
        have hsl := ext_bytes X 0 p
        have HX := Lib.hid hext
        clear hp0 hp1 hp hno hcutN hext hst
        go_wp2_with fail
        refine (HSM.out _ (HV1.out.next hb1) (HV2.out.next hb1)).mono ?_
        rintro e w6 ⟨rfl, hb2⟩
        replace hb1 := hb1.trans hb2
        clear hb2 HSM
        go_wp2_with fail
        refine (HPK.out _).mono ?_
        rintro e w7 ⟨rfl, rfl⟩
        have hpl2 : (p : Int) ≤ (X.length : Int) := by omega
        have hpl3 : p ≤ X.length := by omega
        go_wp2_with fail
        refine (HR1.out _ (HE.out.next hb1)).mono ?_
        rintro e w8 ⟨rv, rfl, _, hb2⟩
        replace hb1 := hb1.trans hb2
        clear hb2 HR1 hsl
        go_wp2_with fail
        clear hcat hpl2 hpl3 HPK hXY
        have hlr : (X ++ r).length ≤ 1000000 := by rw [List.length_append]; omega
        cases hre : r.isEmpty
        · have hx : readS (X ++ r) = none := by rw [HX.out, hre]; rfl
          refine (read_no (X ++ r) _ hlr (HE.out.next hb1) hx).mono ?_
          rintro e w9 ⟨rv2, rfl, _, hb2⟩
          clear hx
          go_wp2_with fail
          go_ret
          exact ⟨rfl, hb1.trans hb2⟩
        · have hx : readS (X ++ r) = some L := by rw [HX.out, hre]; rfl
          refine (read_yes (X ++ r) L _ hlr (HE.out.next hb1) hx).mono ?_
          rintro e w9 ⟨rv2, rfl, _, hb2⟩
          clear hx
          go_wp2_with fail
          go_ret
          exact ⟨rfl, hb1.trans hb2⟩
end Go.Proofs.YtiadjmfdahendaaDoor
