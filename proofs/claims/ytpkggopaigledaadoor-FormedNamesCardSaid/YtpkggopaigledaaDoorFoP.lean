/- vouchsafekit: LightAtoms; reference 12: Principal. -/
import Derived.Test.YtpkggopaigledaaDoorFoO
namespace Go.Proofs.YtpkggopaigledaaDoor
open Go.RowKit

def lightAs (most : Int) (L : List Atm) : Bool := if most < (L.length : Int) then false else L.all lightB
set_option maxHeartbeats 2000000 in
set_option maxRecDepth 100000 in
theorem lightatoms_any (v : Value) (most : Int) (L : List Atm) (w : World) (hT : ARow w v L) (hmo : most ≤ 1000000) :
    Calls Tryd.prog 33 #[v, .int .i64 most] w fun e w' => e = .returned (.bool (lightAs most L)) ∧ Since w w' := by
  obtain ⟨a, c, rfl⟩ := hT.slice
  have HT := Lib.hid hT
  clear hT
  by_cases hm : most < (L.length : Int)
  · go_enter Tryd.func33, Tryd.ntmps33
    go_wp2_with fail
    go_ret
    exact ⟨ret_bool (by rw [lightAs, if_pos hm]), Since.refl _⟩
  · have lm : L.length ≤ 1000000 := by omega
    obtain ⟨R, hR⟩ : ∃ R, Hid (R = lightAs most L) := ⟨_, rfl⟩
    rw [← hR.out]
    have hR0 : Hid (R = (L.drop 0).all lightB) := by show _ = _; rw [hR.out, lightAs, if_neg hm]; rfl
    clear hR
    go_enter Tryd.func33, Tryd.ntmps33
    go_wp2_with fail
    go_loopw [5] (fun m wr => ∃ k : Nat, k ≤ L.length ∧ m = .int .i64 (k : Int) ∧ Hid (R = (L.drop k).all lightB) ∧ Since w wr) (fun m _ => L.length - (intOf m).toNat)
    case atStart => exact ⟨0, by omega, rfl, hR0, Since.refl _⟩
    case round =>
      obtain ⟨k, hk, rfl, hF, hSr⟩ := hrel
      by_cases hlt : k < L.length
      · have hlt2 : (k : Int) < (L.length : Int) := by omega
        have hlt0 : (0 : Int) ≤ (k : Int) := by omega
        obtain ⟨b, o, rfl, hc, hat⟩ := (anext HT.out hSr).get (by omega)
        have d1 := hat k hlt
        have hnx : Hid (R = (lightB L[k] && (L.drop (k + 1)).all lightB)) := by
          show _ = _
          rw [hF.out, List.drop_eq_getElem_cons hlt, List.all_cons]
        obtain ⟨x, hx⟩ : ∃ x, Hid (x = L[k]) := ⟨L[k], rfl⟩
        rw [← hx.out] at d1 hnx
        obtain ⟨a_s, a_p, a_n, ⟨a_v0, a_l0⟩, ⟨a_v1, a_l1⟩, ⟨a_v2, a_l2⟩, ⟨a_v3, a_l3⟩⟩ := x
        obtain ⟨a_c0, a_c1, a_c2, a_c3, a_c4, a_c5, a_c6, a_c7, a_c8, a_c9, a_c10⟩ := atat_cells a_s a_p a_n a_v0 a_v1 a_v2 a_v3 a_l0 a_l1 a_l2 a_l3 d1
        clear hat hF d1
        obtain ⟨B, hB⟩ : ∃ B, Hid (B = lightB ((a_s, a_p, a_n, (a_v0, a_l0), (a_v1, a_l1), (a_v2, a_l2), (a_v3, a_l3)) : Atm)) := ⟨_, rfl⟩
        have HL := Lib.hid (light_any a_s a_p a_n a_v0 a_v1 a_v2 a_v3 a_l0 a_l1 a_l2 a_l3 wr)
        rw [← hB.out] at HL hnx
        cases B
        · have e : Hid (R = false) := by show _ = _; rw [hnx.out]; rfl
          have e2 := e.out
          subst e2
          go_wp2_with fail
          refine HL.out.mono ?_
          rintro e w2 ⟨rfl, hb⟩
          go_wp2_with fail
          go_ret
          exact ⟨rfl, hSr.trans hb⟩
        · have e : Hid (R = (L.drop (k + 1)).all lightB) := by show _ = _; rw [hnx.out, Bool.true_and]
          go_wp2_with fail
          refine HL.out.mono ?_
          rintro e w2 ⟨rfl, hb⟩
          go_wp2_with fail
          go_roundw
          case rel => exact ⟨k + 1, by omega, by go_num, e, hSr.trans hb⟩
          case measure => simp [intOf]; omega
      · have hlt2 : ¬ (k : Int) < (L.length : Int) := by omega
        have e : Hid (R = true) := by show _ = _; rw [hF.out, List.drop_eq_nil_of_le (by omega)]; rfl
        have e2 := e.out
        subst e2
        go_wp2_with fail
        go_ret
        exact ⟨rfl, hSr⟩
end Go.Proofs.YtpkggopaigledaaDoor
