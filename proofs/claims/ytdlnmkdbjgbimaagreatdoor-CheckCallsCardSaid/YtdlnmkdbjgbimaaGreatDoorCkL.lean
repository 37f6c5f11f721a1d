/- vouchsafekit: LightAtoms, LightSteps, LightClauses. -/
import Derived.Test.YtdlnmkdbjgbimaaGreatDoorCkI
namespace Go.Proofs.YtdlnmkdbjgbimaaGreatDoor
open Go.RowKit

def lightAs (most : Int) (L : List Atm) : Bool := if most < (L.length : Int) then false else L.all lightB
set_option maxHeartbeats 2000000 in
set_option maxRecDepth 100000 in
theorem lightatoms_any (v : Value) (most : Int) (L : List Atm) (w : World) (hT : ARow w v L) (hmo : most ≤ 1000000) :
    Calls Tryz.prog 7 #[v, .int .i64 most] w fun e w' => e = .returned (.bool (lightAs most L)) ∧ Since w w' := by
  obtain ⟨a, c, rfl⟩ := hT.slice
  have HT := Lib.hid hT
  clear hT
  by_cases hm : most < (L.length : Int)
  · go_enter Tryz.func7, Tryz.ntmps7
    go_wp2_with fail
    go_ret
    exact ⟨ret_bool (by rw [lightAs, if_pos hm]), Since.refl _⟩
  · have lm : L.length ≤ 1000000 := by omega
    obtain ⟨R, hR⟩ : ∃ R, Hid (R = lightAs most L) := ⟨_, rfl⟩
    rw [← hR.out]
    have hR0 : Hid (R = (L.drop 0).all lightB) := by show _ = _; rw [hR.out, lightAs, if_neg hm]; rfl
    clear hR
    go_enter Tryz.func7, Tryz.ntmps7
    go_wp2_with fail
    go_loopw [5] (fun m wr => ∃ k : Nat, k ≤ L.length ∧ m = .int .i64 (k : Int) ∧ Hid (R = (L.drop k).all lightB) ∧ Since w wr) (fun m _ => L.length - (intOf m).toNat)
    case atStart => exact ⟨0, by omega, rfl, hR0, Since.refl _⟩
    case round =>
      obtain ⟨k, hk, rfl, hF, hSr⟩ := hrel
      by_cases hlt : k < L.length
      · have hlt2 : (k : Int) < (L.length : Int) := by omega
        have hlt0 : (0 : Int) ≤ (k : Int) := by omega
        obtain ⟨b, o, rfl, hc, hat⟩ := (anext HT.out hSr).get (by omega)
        have d1 := hat k hlt
        have hnx : Hid (R = (lightB L[k] && (L.drop (k + 1)).all lightB)) := by
          show _ = _
          rw [hF.out, List.drop_eq_getElem_cons hlt, List.all_cons]
        obtain ⟨x, hx⟩ : ∃ x, Hid (x = L[k]) := ⟨L[k], rfl⟩
        rw [← hx.out] at d1 hnx
        obtain ⟨a_s, a_p, a_n, ⟨a_v0, a_l0⟩, ⟨a_v1, a_l1⟩, ⟨a_v2, a_l2⟩, ⟨a_v3, a_l3⟩⟩ := x
        obtain ⟨a_c0, a_c1, a_c2, a_c3, a_c4, a_c5, a_c6, a_c7, a_c8, a_c9, a_c10⟩ := d1.all
        clear hat hF d1
        obtain ⟨B, hB⟩ : ∃ B, Hid (B = lightB ((a_s, a_p, a_n, (a_v0, a_l0), (a_v1, a_l1), (a_v2, a_l2), (a_v3, a_l3)) : Atm)) := ⟨_, rfl⟩
        have HL := Lib.hid (light_any a_s a_p a_n a_v0 a_v1 a_v2 a_v3 a_l0 a_l1 a_l2 a_l3 wr)
        rw [← hB.out] at HL hnx
        cases B
        · have e : Hid (R = false) := by show _ = _; rw [hnx.out]; rfl
          have e2 := e.out
          subst e2
          go_wp2_with fail
          refine HL.out.mono ?_
          rintro e w2 ⟨rfl, hb⟩
          go_wp2_with fail
          go_ret
          exact ⟨rfl, hSr.trans hb⟩
        · have e : Hid (R = (L.drop (k + 1)).all lightB) := by show _ = _; rw [hnx.out, Bool.true_and]
          go_wp2_with fail
          refine HL.out.mono ?_
          rintro e w2 ⟨rfl, hb⟩
          go_wp2_with fail
          go_roundw
          case rel => exact ⟨k + 1, by omega, by go_num, e, hSr.trans hb⟩
          case measure => simp [intOf]; omega
      · have hlt2 : ¬ (k : Int) < (L.length : Int) := by omega
        have e : Hid (R = true) := by show _ = _; rw [hF.out, List.drop_eq_nil_of_le (by omega)]; rfl
        have e2 := e.out
        subst e2
        go_wp2_with fail
        go_ret
        exact ⟨rfl, hSr⟩
def lightX (x : Stp) : Bool := lightB x.1 && !decide ((20 : Int) < (x.2.2.length : Int))
def lightSB (L : List Stp) : Bool := !decide ((40 : Int) < (L.length : Int)) && L.all lightX
set_option maxHeartbeats 2000000 in
set_option maxRecDepth 100000 in
theorem lightsteps_any (v : Value) (L : List Stp) (w : World) (hv : SRow w v L) :
    Calls Tryz.prog 6 #[v] w fun e w' => e = .returned (.bool (lightSB L)) ∧ Since w w' := by
  obtain ⟨a, c, rfl⟩ := hv.slice
  have HV := Lib.hid hv
  clear hv
  cases h40 : decide ((40 : Int) < (L.length : Int))
  case true =>
    have hR : lightSB L = false := by rw [lightSB, h40]; rfl
    rw [hR]
    clear hR
    go_enter Tryz.func6, Tryz.ntmps6
    go_wp2_with fail
    go_ret
    exact ⟨rfl, Since.refl _⟩
  case false =>
    have hl : L.length ≤ 40 := by simp at h40; omega
    obtain ⟨R, hR⟩ : ∃ R, Hid (R = lightSB L) := ⟨_, rfl⟩
    have hR0 : Hid (R = (L.drop 0).all lightX) := by show _ = _; rw [hR.out, lightSB, h40]; rfl
    rw [← hR.out]
    clear hR
    go_enter Tryz.func6, Tryz.ntmps6
    go_wp2_with fail
    clear h40
    go_loopw [3] (fun i wr => ∃ k : Nat, k ≤ L.length ∧ i = .int .i64 k ∧ Since w wr ∧ Hid (R = (L.drop k).all lightX)) (fun i _ => L.length - (intOf i).toNat)
    case atStart => exact ⟨0, Nat.zero_le _, rfl, Since.refl _, hR0⟩
    case round =>
      clear hR0
      obtain ⟨k, hk, rfl, hS, hres⟩ := hrel
      by_cases hlt : k < L.length
      · have hki : (k : Int) < (L.length : Int) := by omega
        obtain ⟨b, o, rfl, hc, hat⟩ := (snext HV.out hS).get (by omega)
        obtain ⟨e1, e2, u, e3, e4⟩ := hat k hlt
        have hstep : R = (lightX L[k] && (L.drop (k + 1)).all lightX) := by rw [hres.out, List.drop_eq_getElem_cons hlt, List.all_cons]
        have HST := Lib.hid hstep
        clear hat hstep hres
        obtain ⟨x, hx⟩ : ∃ x, Hid (x = L[k]) := ⟨L[k], rfl⟩
        rw [← hx.out] at e1 e4 HST
        obtain ⟨⟨a_s, a_p, a_n, ⟨a_v0, a_l0⟩, ⟨a_v1, a_l1⟩, ⟨a_v2, a_l2⟩, ⟨a_v3, a_l3⟩⟩, cl, cs⟩ := x
        obtain ⟨sa, sc, rfl⟩ := e4.slice
        obtain ⟨a_c0, a_c1, a_c2, a_c3, a_c4, a_c5, a_c6, a_c7, a_c8, a_c9, a_c10⟩ := e1.all
        simp only at e3
        clear e1 e2 e4
        have HLA := Lib.hid (fun W => light_any a_s a_p a_n a_v0 a_v1 a_v2 a_v3 a_l0 a_l1 a_l2 a_l3 W)
        have hx : Hid (lightX (((a_s, a_p, a_n, (a_v0, a_l0), (a_v1, a_l1), (a_v2, a_l2), (a_v3, a_l3)) : Atm), cl, cs) = (lightB ((a_s, a_p, a_n, (a_v0, a_l0), (a_v1, a_l1), (a_v2, a_l2), (a_v3, a_l3)) : Atm) && !decide ((20 : Int) < (cs.length : Int)))) := rfl
        cases g1 : lightB ((a_s, a_p, a_n, (a_v0, a_l0), (a_v1, a_l1), (a_v2, a_l2), (a_v3, a_l3)) : Atm) <;> cases g2 : decide ((20 : Int) < (cs.length : Int))
        case true.false =>
          have HN : Hid (R = (L.drop (k + 1)).all lightX) := by show _ = _; rw [HST.out, hx.out, g1, g2]; rfl
          rw [g1] at HLA
          go_wp2_with fail
          refine (HLA.out _).mono ?_
          rintro e w3 ⟨rfl, hb⟩
          replace e3 := hb.cell e3
          go_wp2_with fail
          go_roundw
          case rel => exact ⟨k + 1, by omega, by go_num, hS.trans hb, HN⟩
          case measure => simp [intOf]; omega
        all_goals
          have HN : R = false := by rw [HST.out, hx.out, g1, g2]; rfl
          rw [g1] at HLA
          subst HN
          go_wp2_with fail
          refine (HLA.out _).mono ?_
          rintro e w3 ⟨rfl, hb⟩
          replace e3 := hb.cell e3
          go_wp2_with fail
          go_ret
          exact ⟨rfl, hS.trans hb⟩
      · have hki : ¬ (k : Int) < (L.length : Int) := by omega
        have HN : R = true := by rw [hres.out, List.drop_eq_nil_of_le (by omega)]; rfl
        subst HN
        clear hres
        go_wp2_with fail
        go_ret
        exact ⟨rfl, hS⟩
def lightC (x : Cls) : Bool := lightB x.1 && lightAs 3 x.2
def lightCB (L : List Cls) (F : List Atm) : Bool := if (6 : Int) < (L.length : Int) then false else lightAs 12 F && L.all lightC
set_option maxHeartbeats 2000000 in
set_option maxRecDepth 100000 in
theorem lightclauses_any (v vf : Value) (L : List Cls) (F : List Atm) (w : World) (hv : RRow w v L) (hf : ARow w vf F) :
    Calls Tryz.prog 5 #[v, vf] w fun e w' => e = .returned (.bool (lightCB L F)) ∧ Since w w' := by
  obtain ⟨a, c, rfl⟩ := hv.slice
  obtain ⟨fa, fc, rfl⟩ := hf.slice
  have HV := Lib.hid hv
  have HF := Lib.hid (lightatoms_any _ 12 F w hf (by omega))
  clear hv hf
  by_cases h6 : (6 : Int) < (L.length : Int)
  case pos =>
    rw [lightCB, if_pos h6]
    go_enter Tryz.func5, Tryz.ntmps5
    go_wp2_with fail
    go_ret
    exact ⟨rfl, Since.refl _⟩
  case neg =>
    rw [lightCB, if_neg h6]
    obtain ⟨FB, hFB⟩ : ∃ B, Hid (B = lightAs 12 F) := ⟨_, rfl⟩
    rw [← hFB.out] at HF ⊢
    cases FB
    · rw [Bool.false_and]
      go_enter Tryz.func5, Tryz.ntmps5
      go_wp2_with fail
      refine HF.out.mono ?_
      rintro e w2 ⟨rfl, hb⟩
      go_wp2_with fail
      go_ret
      exact ⟨rfl, hb⟩
    · rw [Bool.true_and]
      have hl : L.length ≤ 6 := by omega
      obtain ⟨R, hR⟩ : ∃ R, Hid (R = L.all lightC) := ⟨_, rfl⟩
      have hR0 : Hid (R = (L.drop 0).all lightC) := hR
      rw [← hR.out]
      clear hR
      go_enter Tryz.func5, Tryz.ntmps5
      go_wp2_with fail
      refine HF.out.mono ?_
      rintro e w2 ⟨rfl, hb⟩
      clear h6
      go_wp2_with fail
      go_loopw [5] (fun i wr => ∃ k : Nat, k ≤ L.length ∧ i = .int .i64 k ∧ Since w wr ∧ Hid (R = (L.drop k).all lightC)) (fun i _ => L.length - (intOf i).toNat)
      case atStart => exact ⟨0, Nat.zero_le _, rfl, hb, hR0⟩
      case round =>
        clear hR0 hb
        obtain ⟨k, hk, rfl, hS, hres⟩ := hrel
        by_cases hlt : k < L.length
        · have hki : (k : Int) < (L.length : Int) := by omega
          obtain ⟨b, o, rfl, hc, hat⟩ := (rnext HV.out hS).get (by omega)
          obtain ⟨e1, u, e3, e4⟩ := hat k hlt
          have hstep : R = (lightC L[k] && (L.drop (k + 1)).all lightC) := by rw [hres.out, List.drop_eq_getElem_cons hlt, List.all_cons]
          have HST := Lib.hid hstep
          clear hat hstep hres
          obtain ⟨x, hx⟩ : ∃ x, Hid (x = L[k]) := ⟨L[k], rfl⟩
          rw [← hx.out] at e1 e4 HST
          obtain ⟨⟨a_s, a_p, a_n, ⟨a_v0, a_l0⟩, ⟨a_v1, a_l1⟩, ⟨a_v2, a_l2⟩, ⟨a_v3, a_l3⟩⟩, cs⟩ := x
          obtain ⟨sa, sc, rfl⟩ := e4.slice
          obtain ⟨a_c0, a_c1, a_c2, a_c3, a_c4, a_c5, a_c6, a_c7, a_c8, a_c9, a_c10⟩ := e1.all
          simp only at e3
          have HB := Lib.hid (fun W (h : Since wr W) => lightatoms_any _ 3 cs W (anext e4 h) (by omega))
          clear e1 e4
          have HLA := Lib.hid (fun W => light_any a_s a_p a_n a_v0 a_v1 a_v2 a_v3 a_l0 a_l1 a_l2 a_l3 W)
          have hx : Hid (lightC (((a_s, a_p, a_n, (a_v0, a_l0), (a_v1, a_l1), (a_v2, a_l2), (a_v3, a_l3)) : Atm), cs) = (lightB ((a_s, a_p, a_n, (a_v0, a_l0), (a_v1, a_l1), (a_v2, a_l2), (a_v3, a_l3)) : Atm) && lightAs 3 cs)) := rfl
          cases g1 : lightB ((a_s, a_p, a_n, (a_v0, a_l0), (a_v1, a_l1), (a_v2, a_l2), (a_v3, a_l3)) : Atm)
          · have HN : R = false := by rw [HST.out, hx.out, g1]; rfl
            rw [g1] at HLA
            subst HN
            go_wp2_with fail
            refine (HLA.out _).mono ?_
            rintro e w3 ⟨rfl, hb⟩
            go_wp2_with fail
            go_ret
            exact ⟨rfl, hS.trans hb⟩
          · rw [g1] at HLA
            cases g2 : lightAs 3 cs
            · have HN : R = false := by rw [HST.out, hx.out, g1, g2]; rfl
              rw [g2] at HB
              subst HN
              go_wp2_with fail
              refine (HLA.out _).mono ?_
              rintro e w3 ⟨rfl, hb⟩
              replace e3 := hb.cell e3
              go_wp2_with fail
              refine (HB.out _ hb).mono ?_
              rintro e w4 ⟨rfl, hb2⟩
              go_wp2_with fail
              go_ret
              exact ⟨rfl, (hS.trans hb).trans hb2⟩
            · have HN : Hid (R = (L.drop (k + 1)).all lightC) := by show _ = _; rw [HST.out, hx.out, g1, g2]; rfl
              rw [g2] at HB
              go_wp2_with fail
              refine (HLA.out _).mono ?_
              rintro e w3 ⟨rfl, hb⟩
              replace e3 := hb.cell e3
              go_wp2_with fail
              refine (HB.out _ hb).mono ?_
              rintro e w4 ⟨rfl, hb2⟩
              go_wp2_with fail
              go_roundw
              case rel => exact ⟨k + 1, by omega, by go_num, (hS.trans hb).trans hb2, HN⟩
              case measure => simp [intOf]; omega
        · have hki : ¬ (k : Int) < (L.length : Int) := by omega
          have HN : R = true := by rw [hres.out, List.drop_eq_nil_of_le (by omega)]; rfl
          subst HN
          clear hres
          go_wp2_with fail
          go_ret
          exact ⟨rfl, hS⟩
end Go.Proofs.YtdlnmkdbjgbimaaGreatDoor
