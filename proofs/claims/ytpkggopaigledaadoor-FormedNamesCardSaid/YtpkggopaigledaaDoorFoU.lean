/- vouchsafekit: LightPolicy. -/
import Derived.Test.YtpkggopaigledaaDoorFoT
import Derived.Test.YtpkggopaigledaaDoorFoP
namespace Go.Proofs.YtpkggopaigledaaDoor
open Go.RowKit

def predOK (x : Txt × Int) : Bool := decide (x.1.length ≤ 300)
def clrOK (x : Txt × List Txt) : Bool := decide (x.1.length ≤ 300) && lightTs 40 3000 x.2
def rulOK (x : Atm × List Atm) : Bool := lightB x.1 && lightAs 9 x.2
def grnOK (x : Txt × Atm × List Atm) : Bool := decide (x.1.length ≤ 300) && (lightB x.2.1 && lightAs 9 x.2.2)
def lightHead (P : Pol) : Bool := lightTs 70 6000 P.pr && (decide (P.pd.length ≤ 70) && (decide (P.cl.length ≤ 70) && (decide (P.ru.length ≤ 70) && decide (P.gr.length ≤ 70))))
/-- A policy is gone through. -/
def lightPol (P : Pol) : Bool := lightHead P && (P.pd.all predOK && (P.cl.all clrOK && (P.ru.all rulOK && P.gr.all grnOK)))
theorem pall_step {α : Type} {L : List α} {f : α → Bool} {k : Nat} (h : k < L.length) : (L.drop k).all f = (f L[k] && (L.drop (k + 1)).all f) := by
  rw [List.drop_eq_getElem_cons h, List.all_cons]
theorem pall_end {α : Type} {L : List α} {f : α → Bool} {k : Nat} (h : ¬ k < L.length) : (L.drop k).all f = true := by
  rw [List.drop_eq_nil_of_le (by omega)]; rfl
set_option maxHeartbeats 0 in
set_option maxRecDepth 100000 in
theorem lightpol_any (ap ad ac ar ag : Option Addr) (np cp nd cd nc cc nr cr ng cg : Nat) (qu bu : Int) (P : Pol) (w : World) (hP : PolAt w ap ad ac ar ag np cp nd cd nc cc nr cr ng cg qu bu P) (hf : PolBig P) :
    Calls Tryd.prog 10 #[.agg #[.slice ap np cp, .slice ad nd cd, .slice ac nc cc, .int .i64 qu, .int .i64 bu, .slice ar nr cr, .slice ag ng cg]] w fun e w' => e = .returned (.bool (lightPol P)) ∧ Since w w' := by
  have hS0 : Since w (w.alloc (.cells #[.slice ap np cp, .slice ad nd cd, .slice ac nc cc, .int .i64 qu, .int .i64 bu, .slice ar nr cr, .slice ag ng cg] 28)) := (Since.refl _).alloc _
  have p_B := pbox_new w ap ad ac ar ag np cp nd cd nc cc nr cr ng cg qu bu 28
  have hpol := hP.next hS0
  have hfT := fun x hx => hf.1.1 x hx
  have hfC := fun x hx => (hf.2.2.1.1 x hx).2.1
  clear hP
  obtain ⟨HT, HPd, HC, -, -, HR, HG⟩ := hpol
  have en := Lib.hid HPd.form
  have ec := Lib.hid HC.form
  have er := Lib.hid HR.form
  have eg := Lib.hid HG.form
  have hLT : Hid (∀ W, Since (w.alloc (.cells #[.slice ap np cp, .slice ad nd cd, .slice ac nc cc, .int .i64 qu, .int .i64 bu, .slice ar nr cr, .slice ag ng cg] 28)) W → Calls Tryd.prog 32 #[.slice ap np cp, .int .i64 70, .int .i64 6000] W fun e w' => e = .returned (.bool (lightTs 70 6000 P.pr)) ∧ Since W w') := fun W hW =>
    lighttexts_any _ 70 6000 P.pr W (tnext HT hW) (by omega) hfT (by omega)
  obtain ⟨B0, hB0⟩ : ∃ B, Hid (B = lightTs 70 6000 P.pr) := ⟨_, rfl⟩
  obtain ⟨R1, hR1⟩ : ∃ B, Hid (B = (P.pd.drop 0).all predOK) := ⟨_, rfl⟩
  obtain ⟨R2, hR2⟩ : ∃ B, Hid (B = (P.cl.drop 0).all clrOK) := ⟨_, rfl⟩
  obtain ⟨R3, hR3⟩ : ∃ B, Hid (B = (P.ru.drop 0).all rulOK) := ⟨_, rfl⟩
  obtain ⟨R4, hR4⟩ : ∃ B, Hid (B = (P.gr.drop 0).all grnOK) := ⟨_, rfl⟩
  have hRR : Hid (lightPol P = ((B0 && (decide (nd ≤ 70) && (decide (nc ≤ 70) && (decide (nr ≤ 70) && decide (ng ≤ 70))))) && (R1 && (R2 && (R3 && R4))))) := by
    show _ = _
    rw [hB0.out, hR1.out, hR2.out, hR3.out, hR4.out, en.out, ec.out, er.out, eg.out]; rfl
  rw [← hB0.out] at hLT
  obtain ⟨R, hR⟩ : ∃ R, Hid (R = lightPol P) := ⟨_, rfl⟩
  rw [← hR.out] at hRR ⊢
  clear hB0 hR HT
  have HPd := Lib.hid HPd
  have HC := Lib.hid HC
  have HR := Lib.hid HR
  have HG := Lib.hid HG
  go_enter Tryd.func10, Tryd.ntmps10
  obtain ⟨p_c0, p_c1, p_c2, p_c3, p_c4, p_c5, p_c6⟩ := p_B
  go_wp2_with fail
  generalize (w.alloc (.cells #[.slice ap np cp, .slice ad nd cd, .slice ac nc cc, .int .i64 qu, .int .i64 bu, .slice ar nr cr, .slice ag ng cg] 28)) = w1 at *
  have P0 := p_c0
  have P1 := p_c1
  have P2 := p_c2
  have P3 := p_c3
  have P4 := p_c4
  have P5 := p_c5
  have P6 := p_c6
  refine (hLT.out _ (Since.refl _)).mono ?_
  rintro e w2 ⟨rfl, hb⟩
  replace p_c0 := hb.cell p_c0; replace p_c1 := hb.cell p_c1; replace p_c2 := hb.cell p_c2; replace p_c3 := hb.cell p_c3; replace p_c4 := hb.cell p_c4; replace p_c5 := hb.cell p_c5; replace p_c6 := hb.cell p_c6
  have hS2 : Since w1 w2 := hb
  clear hb hLT
  cases B0
  · have e : Hid (R = false) := by show _ = _; rw [hRR.out]; rfl
    have e2 := e.out
    subst e2
    go_wp2_with fail
    go_ret
    exact ⟨rfl, hS0.trans hS2⟩
  by_cases q0 : 70 < nd
  · have q0' : (70 : Int) < (nd : Int) := by omega
    have e : Hid (R = false) := by
      show _ = _
      rw [hRR.out, decide_eq_false (show ¬ nd ≤ 70 by omega)]; simp
    have e2 := e.out
    subst e2
    go_wp2_with fail
    go_ret
    exact ⟨rfl, hS0.trans hS2⟩
  have q0' : ¬ (70 : Int) < (nd : Int) := by omega
  by_cases q1 : 70 < nc
  · have q1' : (70 : Int) < (nc : Int) := by omega
    have e : Hid (R = false) := by
      show _ = _
      rw [hRR.out, decide_eq_false (show ¬ nc ≤ 70 by omega)]; simp
    have e2 := e.out
    subst e2
    go_wp2_with fail
    go_ret
    exact ⟨rfl, hS0.trans hS2⟩
  have q1' : ¬ (70 : Int) < (nc : Int) := by omega
  by_cases q2 : 70 < nr
  · have q2' : (70 : Int) < (nr : Int) := by omega
    have e : Hid (R = false) := by
      show _ = _
      rw [hRR.out, decide_eq_false (show ¬ nr ≤ 70 by omega)]; simp
    have e2 := e.out
    subst e2
    go_wp2_with fail
    go_ret
    exact ⟨rfl, hS0.trans hS2⟩
  have q2' : ¬ (70 : Int) < (nr : Int) := by omega
  by_cases q3 : 70 < ng
  · have q3' : (70 : Int) < (ng : Int) := by omega
    have e : Hid (R = false) := by
      show _ = _
      rw [hRR.out, decide_eq_false (show ¬ ng ≤ 70 by omega)]; simp
    have e2 := e.out
    subst e2
    go_wp2_with fail
    go_ret
    exact ⟨rfl, hS0.trans hS2⟩
  have q3' : ¬ (70 : Int) < (ng : Int) := by omega
  have hRR2 : Hid (R = (R1 && (R2 && (R3 && R4)))) := by
    show _ = _
    rw [hRR.out, decide_eq_true (show nd ≤ 70 by omega), decide_eq_true (show nc ≤ 70 by omega), decide_eq_true (show nr ≤ 70 by omega), decide_eq_true (show ng ≤ 70 by omega)]; rfl
  clear hRR
  go_wp2_with fail
  go_loopw [3] (fun m wr => ∃ k : Nat, k ≤ nd ∧ m = .int .i64 (k : Int) ∧ Hid (R1 = (P.pd.drop k).all predOK) ∧ Since w1 wr) (fun m _ => nd - (intOf m).toNat)
  case atStart => exact ⟨0, by omega, rfl, hR1, hS2⟩
  case round =>
  obtain ⟨k, hk, rfl, hF, hSr⟩ := hrel
  replace p_c0 := hSr.cell P0; replace p_c1 := hSr.cell P1; replace p_c2 := hSr.cell P2; replace p_c3 := hSr.cell P3; replace p_c4 := hSr.cell P4; replace p_c5 := hSr.cell P5; replace p_c6 := hSr.cell P6
  by_cases hlt : k < nd
  · have hkl : k < P.pd.length := by have := en.out; omega
    have hlt2 : (k : Int) < (nd : Int) := by omega
    have hlt0 : (0 : Int) ≤ (k : Int) := by omega
    obtain ⟨b, o, e1, hc, hat⟩ := (pnext HPd.out hSr).get (by omega)
    have d1 := hat k hkl
    have hnx : Hid (R1 = (predOK P.pd[k] && (P.pd.drop (k + 1)).all predOK)) := by
      show _ = _
      rw [hF.out, pall_step hkl]
    obtain ⟨⟨s, m⟩, hs⟩ : ∃ s, Hid (s = P.pd[k]) := ⟨P.pd[k], rfl⟩
    rw [← hs.out] at d1 hnx
    unfold PrdAt at d1
    simp only [strV] at d1
    obtain ⟨d1, d2⟩ := d1
    obtain ⟨q, hq⟩ : ∃ q : Nat, Hid (s.length = q) := ⟨_, rfl⟩
    have hq2 := hq.out
    subst e1
    clear hat hF
    by_cases h3 : 300 < q
    · have h3' : (300 : Int) < (q : Int) := by omega
      have e : Hid (R = false) := by show _ = _; rw [hRR2.out, hnx.out, predOK, decide_eq_false (show ¬ s.length ≤ 300 by omega)]; simp
      have e2 := e.out
      subst e2
      go_wp2_with fail
      go_ret
      exact ⟨rfl, hS0.trans hSr⟩
    · have h3' : ¬ (300 : Int) < (q : Int) := by omega
      have e : Hid (R1 = (P.pd.drop (k + 1)).all predOK) := by show _ = _; rw [hnx.out, predOK, decide_eq_true (show s.length ≤ 300 by omega)]; rfl
      go_wp2_with fail
      go_roundw
      case rel => exact ⟨k + 1, by omega, by go_num, e, hSr⟩
      case measure => simp [intOf]; omega
  have hlt2 : ¬ (k : Int) < (nd : Int) := by omega
  have e : Hid (R1 = true) := by show _ = _; rw [hF.out, pall_end (by have := en.out; omega)]
  have e2 := e.out
  clear hF e
  subst e2
  go_wp2_with fail
  go_loopw [4] (fun m wr => ∃ k : Nat, k ≤ nc ∧ m = .int .i64 (k : Int) ∧ Hid (R2 = (P.cl.drop k).all clrOK) ∧ Since w1 wr) (fun m _ => nc - (intOf m).toNat)
  case atStart => exact ⟨0, by omega, rfl, hR2, hSr⟩
  case round =>
  clear hSr hk hlt hlt2
  obtain ⟨k, hk, rfl, hF, hSr⟩ := hrel
  replace p_c0 := hSr.cell P0; replace p_c1 := hSr.cell P1; replace p_c2 := hSr.cell P2; replace p_c3 := hSr.cell P3; replace p_c4 := hSr.cell P4; replace p_c5 := hSr.cell P5; replace p_c6 := hSr.cell P6
  by_cases hlt : k < nc
  · have hkl : k < P.cl.length := by have := ec.out; omega
    have hlt2 : (k : Int) < (nc : Int) := by omega
    have hlt0 : (0 : Int) ≤ (k : Int) := by omega
    obtain ⟨b, o, e1, hc, hat⟩ := (cnext HC.out hSr).get (by omega)
    have d1 := hat k hkl
    have hnx : Hid (R2 = (clrOK P.cl[k] && (P.cl.drop (k + 1)).all clrOK)) := by
      show _ = _
      rw [hF.out, pall_step hkl]
    have hcl := hfC _ (List.getElem_mem hkl)
    obtain ⟨⟨s, T⟩, hs⟩ : ∃ s, Hid (s = P.cl[k]) := ⟨P.cl[k], rfl⟩
    rw [← hs.out] at d1 hnx hcl
    unfold ClrAt at d1
    simp only [strV] at d1
    obtain ⟨d1, u, d2, d3⟩ := d1
    obtain ⟨q, hq⟩ : ∃ q : Nat, Hid (s.length = q) := ⟨_, rfl⟩
    have hq2 := hq.out
    obtain ⟨B, hB⟩ : ∃ B, Hid (B = lightTs 40 3000 T) := ⟨_, rfl⟩
    have HL := Lib.hid (lighttexts_any u 40 3000 T wr d3 (by omega) hcl (by omega))
    rw [← hB.out] at HL
    obtain ⟨ua, uc, rfl⟩ := d3.slice
    clear d3 hcl
    subst e1
    clear hat hF
    by_cases h3 : 300 < q
    · have h3' : (300 : Int) < (q : Int) := by omega
      have e : Hid (R = false) := by show _ = _; rw [hRR2.out, hnx.out, clrOK, decide_eq_false (show ¬ s.length ≤ 300 by omega)]; simp
      have e2 := e.out
      subst e2
      go_wp2_with fail
      go_ret
      exact ⟨rfl, hS0.trans hSr⟩
    have h3' : ¬ (300 : Int) < (q : Int) := by omega
    cases B
    · have e : Hid (R = false) := by show _ = _; rw [hRR2.out, hnx.out, clrOK, ← hB.out]; simp
      have e2 := e.out
      subst e2
      go_wp2_with fail
      refine HL.out.mono ?_
      rintro e w3 ⟨rfl, hb⟩
      go_wp2_with fail
      go_ret
      exact ⟨rfl, hS0.trans (hSr.trans hb)⟩
    · have e : Hid (R2 = (P.cl.drop (k + 1)).all clrOK) := by show _ = _; rw [hnx.out, clrOK, ← hB.out, decide_eq_true (show s.length ≤ 300 by omega)]; rfl
      go_wp2_with fail
      refine HL.out.mono ?_
      rintro e w3 ⟨rfl, hb⟩
      go_wp2_with fail
      go_roundw
      case rel => exact ⟨k + 1, by omega, by go_num, e, hSr.trans hb⟩
      case measure => simp [intOf]; omega
  have hlt2 : ¬ (k : Int) < (nc : Int) := by omega
  have e : Hid (R2 = true) := by show _ = _; rw [hF.out, pall_end (by have := ec.out; omega)]
  have e2 := e.out
  clear hF e
  subst e2
  go_wp2_with fail
  go_loopw [5] (fun m wr => ∃ k : Nat, k ≤ nr ∧ m = .int .i64 (k : Int) ∧ Hid (R3 = (P.ru.drop k).all rulOK) ∧ Since w1 wr) (fun m _ => nr - (intOf m).toNat)
  case atStart => exact ⟨0, by omega, rfl, hR3, hSr⟩
  case round =>
  clear hSr hk hlt hlt2
  obtain ⟨k, hk, rfl, hF, hSr⟩ := hrel
  replace p_c0 := hSr.cell P0; replace p_c1 := hSr.cell P1; replace p_c2 := hSr.cell P2; replace p_c3 := hSr.cell P3; replace p_c4 := hSr.cell P4; replace p_c5 := hSr.cell P5; replace p_c6 := hSr.cell P6
  by_cases hlt : k < nr
  · have hkl : k < P.ru.length := by have := er.out; omega
    have hlt2 : (k : Int) < (nr : Int) := by omega
    have hlt0 : (0 : Int) ≤ (k : Int) := by omega
    obtain ⟨b, o, e1, hc, hat⟩ := (rnext HR.out hSr).get (by omega)
    have d1 := hat k hkl
    have hnx : Hid (R3 = (rulOK P.ru[k] && (P.ru.drop (k + 1)).all rulOK)) := by
      show _ = _
      rw [hF.out, pall_step hkl]
    obtain ⟨⟨x, T⟩, hs⟩ : ∃ s, Hid (s = P.ru[k]) := ⟨P.ru[k], rfl⟩
    rw [← hs.out] at d1 hnx
    obtain ⟨a_s, a_p, a_n, ⟨a_v0, a_l0⟩, ⟨a_v1, a_l1⟩, ⟨a_v2, a_l2⟩, ⟨a_v3, a_l3⟩⟩ := x
    unfold RulAt at d1
    obtain ⟨d1, u, d2, d3⟩ := d1
    obtain ⟨a_c0, a_c1, a_c2, a_c3, a_c4, a_c5, a_c6, a_c7, a_c8, a_c9, a_c10⟩ := atat_cells a_s a_p a_n a_v0 a_v1 a_v2 a_v3 a_l0 a_l1 a_l2 a_l3 d1
    obtain ⟨B, hB⟩ : ∃ B, Hid (B = lightB ((a_s, a_p, a_n, (a_v0, a_l0), (a_v1, a_l1), (a_v2, a_l2), (a_v3, a_l3)) : Atm)) := ⟨_, rfl⟩
    obtain ⟨C, hC⟩ : ∃ B, Hid (B = lightAs 9 T) := ⟨_, rfl⟩
    have HL := Lib.hid (light_any a_s a_p a_n a_v0 a_v1 a_v2 a_v3 a_l0 a_l1 a_l2 a_l3 wr)
    have HM : Hid (∀ W, Since wr W → Calls Tryd.prog 33 #[u, .int .i64 9] W fun e w' => e = .returned (.bool (lightAs 9 T)) ∧ Since W w') := fun W hW => lightatoms_any u 9 T W (anext d3 hW) (by omega)
    rw [← hB.out] at HL
    rw [← hC.out] at HM
    obtain ⟨ua, uc, rfl⟩ := d3.slice
    clear d3 d1
    subst e1
    clear hat hF
    cases B
    · have e : Hid (R = false) := by show _ = _; rw [hRR2.out, hnx.out, rulOK, ← hB.out]; simp
      have e2 := e.out
      subst e2
      go_wp2_with fail
      refine HL.out.mono ?_
      rintro e w3 ⟨rfl, hb⟩
      go_wp2_with fail
      go_ret
      exact ⟨rfl, hS0.trans (hSr.trans hb)⟩
    go_wp2_with fail
    refine HL.out.mono ?_
    rintro e w3 ⟨rfl, hb⟩
    have hb1 := hb
    replace p_c0 := hb.cell p_c0; replace p_c1 := hb.cell p_c1; replace p_c2 := hb.cell p_c2; replace p_c3 := hb.cell p_c3; replace p_c4 := hb.cell p_c4; replace p_c5 := hb.cell p_c5; replace p_c6 := hb.cell p_c6; replace d2 := hb.cell d2
    cases C
    · have e : Hid (R = false) := by show _ = _; rw [hRR2.out, hnx.out, rulOK, ← hB.out, ← hC.out]; simp
      have e2 := e.out
      subst e2
      clear hb
      go_wp2_with fail
      refine (HM.out _ hb1).mono ?_
      rintro e w4 ⟨rfl, hb⟩
      go_wp2_with fail
      go_ret
      exact ⟨rfl, hS0.trans ((hSr.trans hb1).trans hb)⟩
    · have e : Hid (R3 = (P.ru.drop (k + 1)).all rulOK) := by show _ = _; rw [hnx.out, rulOK, ← hB.out, ← hC.out]; rfl
      clear hb
      go_wp2_with fail
      refine (HM.out _ hb1).mono ?_
      rintro e w4 ⟨rfl, hb⟩
      go_wp2_with fail
      go_roundw
      case rel => exact ⟨k + 1, by omega, by go_num, e, (hSr.trans hb1).trans hb⟩
      case measure => simp [intOf]; omega
  have hlt2 : ¬ (k : Int) < (nr : Int) := by omega
  have e : Hid (R3 = true) := by show _ = _; rw [hF.out, pall_end (by have := er.out; omega)]
  have e2 := e.out
  clear hF e
  subst e2
  go_wp2_with fail
  go_loopw [6] (fun m wr => ∃ k : Nat, k ≤ ng ∧ m = .int .i64 (k : Int) ∧ Hid (R4 = (P.gr.drop k).all grnOK) ∧ Since w1 wr) (fun m _ => ng - (intOf m).toNat)
  case atStart => exact ⟨0, by omega, rfl, hR4, hSr⟩
  case round =>
  clear hSr hk hlt hlt2
  obtain ⟨k, hk, rfl, hF, hSr⟩ := hrel
  replace p_c0 := hSr.cell P0; replace p_c1 := hSr.cell P1; replace p_c2 := hSr.cell P2; replace p_c3 := hSr.cell P3; replace p_c4 := hSr.cell P4; replace p_c5 := hSr.cell P5; replace p_c6 := hSr.cell P6
  by_cases hlt : k < ng
  · have hkl : k < P.gr.length := by have := eg.out; omega
    have hlt2 : (k : Int) < (ng : Int) := by omega
    have hlt0 : (0 : Int) ≤ (k : Int) := by omega
    obtain ⟨b, o, e1, hc, hat⟩ := (gnext HG.out hSr).get (by omega)
    have d1 := hat k hkl
    have hnx : Hid (R4 = (grnOK P.gr[k] && (P.gr.drop (k + 1)).all grnOK)) := by
      show _ = _
      rw [hF.out, pall_step hkl]
    obtain ⟨⟨s, x, T⟩, hs⟩ : ∃ s, Hid (s = P.gr[k]) := ⟨P.gr[k], rfl⟩
    rw [← hs.out] at d1 hnx
    obtain ⟨a_s, a_p, a_n, ⟨a_v0, a_l0⟩, ⟨a_v1, a_l1⟩, ⟨a_v2, a_l2⟩, ⟨a_v3, a_l3⟩⟩ := x
    unfold GrnAt at d1
    simp only [strV] at d1
    obtain ⟨d0, d1, u, d2, d3⟩ := d1
    obtain ⟨a_c0, a_c1, a_c2, a_c3, a_c4, a_c5, a_c6, a_c7, a_c8, a_c9, a_c10⟩ := atat_cells1 a_s a_p a_n a_v0 a_v1 a_v2 a_v3 a_l0 a_l1 a_l2 a_l3 d1
    obtain ⟨q, hq⟩ : ∃ q : Nat, Hid (s.length = q) := ⟨_, rfl⟩
    have hq2 := hq.out
    obtain ⟨B, hB⟩ : ∃ B, Hid (B = lightB ((a_s, a_p, a_n, (a_v0, a_l0), (a_v1, a_l1), (a_v2, a_l2), (a_v3, a_l3)) : Atm)) := ⟨_, rfl⟩
    obtain ⟨C, hC⟩ : ∃ B, Hid (B = lightAs 9 T) := ⟨_, rfl⟩
    have HL := Lib.hid (light_any a_s a_p a_n a_v0 a_v1 a_v2 a_v3 a_l0 a_l1 a_l2 a_l3 wr)
    have HM : Hid (∀ W, Since wr W → Calls Tryd.prog 33 #[u, .int .i64 9] W fun e w' => e = .returned (.bool (lightAs 9 T)) ∧ Since W w') := fun W hW => lightatoms_any u 9 T W (anext d3 hW) (by omega)
    rw [← hB.out] at HL
    rw [← hC.out] at HM
    obtain ⟨ua, uc, rfl⟩ := d3.slice
    clear d3 d1
    subst e1
    clear hat hF
    by_cases h3 : 300 < q
    · have h3' : (300 : Int) < (q : Int) := by omega
      have e : Hid (R = false) := by show _ = _; rw [hRR2.out, hnx.out, grnOK, decide_eq_false (show ¬ s.length ≤ 300 by omega)]; simp
      have e2 := e.out
      subst e2
      go_wp2_with fail
      go_ret
      exact ⟨rfl, hS0.trans hSr⟩
    have h3' : ¬ (300 : Int) < (q : Int) := by omega
    cases B
    · have e : Hid (R = false) := by show _ = _; rw [hRR2.out, hnx.out, grnOK, ← hB.out]; simp
      have e2 := e.out
      subst e2
      go_wp2_with fail
      refine HL.out.mono ?_
      rintro e w3 ⟨rfl, hb⟩
      go_wp2_with fail
      go_ret
      exact ⟨rfl, hS0.trans (hSr.trans hb)⟩
    go_wp2_with fail
    refine HL.out.mono ?_
    rintro e w3 ⟨rfl, hb⟩
    have hb1 := hb
    replace p_c0 := hb.cell p_c0; replace p_c1 := hb.cell p_c1; replace p_c2 := hb.cell p_c2; replace p_c3 := hb.cell p_c3; replace p_c4 := hb.cell p_c4; replace p_c5 := hb.cell p_c5; replace p_c6 := hb.cell p_c6; replace d2 := hb.cell d2
    cases C
    · have e : Hid (R = false) := by show _ = _; rw [hRR2.out, hnx.out, grnOK, ← hB.out, ← hC.out]; simp
      have e2 := e.out
      subst e2
      clear hb
      go_wp2_with fail
      refine (HM.out _ hb1).mono ?_
      rintro e w4 ⟨rfl, hb⟩
      go_wp2_with fail
      go_ret
      exact ⟨rfl, hS0.trans ((hSr.trans hb1).trans hb)⟩
    · have e : Hid (R4 = (P.gr.drop (k + 1)).all grnOK) := by show _ = _; rw [hnx.out, grnOK, ← hB.out, ← hC.out, decide_eq_true (show s.length ≤ 300 by omega)]; rfl
      clear hb
      go_wp2_with fail
      refine (HM.out _ hb1).mono ?_
      rintro e w4 ⟨rfl, hb⟩
      go_wp2_with fail
      go_roundw
      case rel => exact ⟨k + 1, by omega, by go_num, e, (hSr.trans hb1).trans hb⟩
      case measure => simp [intOf]; omega
  have hlt2 : ¬ (k : Int) < (ng : Int) := by omega
  have e : Hid (R4 = true) := by show _ = _; rw [hF.out, pall_end (by have := eg.out; omega)]
  have e2 := e.out
  clear hF e
  subst e2
  have e : Hid (R = true) := by show _ = _; rw [hRR2.out]; rfl
  have e2 := e.out
  subst e2
  go_wp2_with fail
  go_ret
  exact ⟨rfl, hS0.trans hSr⟩
end Go.Proofs.YtpkggopaigledaaDoor
