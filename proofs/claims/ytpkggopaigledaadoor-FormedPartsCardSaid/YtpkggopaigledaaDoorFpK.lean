/- FormedParts returns true. -/
import Derived.Test.YtpkggopaigledaaDoorFpJ
import Derived.Test.YtpkggopaigledaaDoorFpI
import Derived.Test.YtpkggopaigledaaDoorFoY
namespace Go.Proofs.YtpkggopaigledaaDoor
open Go.RowKit Go.Maps Go.WideMaps

theorem names_fit {a : Atm} (h : FitsA a) : ∀ s ∈ namesA a true, s.length ≤ maxLen := by
  intro s hs
  unfold namesA at hs
  rcases (namesF_mem true s _ []).1 hs with h1 | h1
  · cases h1
  · exact h.2.2 _ (List.mem_of_mem_take h1)
theorem own_cap {W : World} {B : Nat} {e : TypeId} {K : Nat} {a : Option Addr} {n c m : Nat} {xs : List Value} (h : W.ownsRow B e K (.slice a n c) m xs) : n ≤ c := by
  rcases row_of_own h with ⟨h1, h2, h3⟩ | ⟨b, o, c', h1, h2, h3⟩
  · cases h1; omega
  · cases h1; omega
theorem polcut_at {W : World} {B : Nat} {a0 a1 a2 a5 a6 : Option Addr} {c0 c1 c2 c5 c6 : Nat} {qu bu : Int} {P : Pol} {C : List ((Txt × List Txt) × Value)} {U : List ((Atm × List Atm) × Value)} {G : List ((Txt × Atm × List Atm) × Value)}
    (hR : OwnRows W B (.slice a0 P.pr.length c0) (.slice a1 P.pd.length c1) (.slice a2 C.length c2) (.slice a5 U.length c5) (.slice a6 G.length c6) P.pr P.pd C U G) (eC : C.map Prod.fst = P.cl) (eU : U.map Prod.fst = P.ru) (eG : G.map Prod.fst = P.gr) (hq : qu = P.qu) (hb : bu = P.bu)
    {i j k : Nat} (hi : i ≤ C.length) (hj : j ≤ U.length) (hk : k ≤ G.length) :
    PolAt W a0 a1 a2 a5 a6 P.pr.length c0 P.pd.length c1 i c2 j c5 k c6 qu bu { P with cl := P.cl.take i, ru := P.ru.take j, gr := P.gr.take k } := by
  refine ⟨own_trow hR.h0, own_prow hR.h1, ?_, hq, hb, ?_, ?_⟩
  · have := (nest_crow hR.h2).take i (by simpa using hi)
    rwa [eC] at this
  · have := (nest_rrow hR.h5).take j (by simpa using hj)
    rwa [eU] at this
  · have := (nest_grow hR.h6).take k (by simpa using hk)
    rwa [eG] at this
theorem cut_fits {P : Pol} (h : PolFits P) (i j k : Nat) : PolFits { P with cl := P.cl.take i, ru := P.ru.take j, gr := P.gr.take k } := by
  refine ⟨h.1, h.2.1, h.2.2.1, h.2.2.2.1, fun x hx => h.2.2.2.2.1 x (List.mem_of_mem_take hx), ?_, fun x hx => h.2.2.2.2.2.2.1 x (List.mem_of_mem_take hx), fun x hx => h.2.2.2.2.2.2.2.1 x (List.mem_of_mem_take hx), ?_, ?_⟩
  · have := h.2.2.2.2.2.1
    simp only [List.length_take]; omega
  · have := h.2.2.2.2.2.2.2.2.1
    simp only [List.length_take]; omega
  · have := h.2.2.2.2.2.2.2.2.2
    simp only [List.length_take]; omega

set_option maxHeartbeats 0 in
set_option maxRecDepth 100000 in
theorem parts_any (ap ad ac ar ag : Option Addr) (np cp nd cd nc cc nr cr ng cg : Nat) (qu bu : Int) (P : Pol) (w : World) (hP : PolAt w ap ad ac ar ag np cp nd cd nc cc nr cr ng cg qu bu P) (hf : PolBig P) (hE : Env w) :
    Calls Tryd.prog 5 #[.agg #[.slice ap np cp, .slice ad nd cd, .slice ac nc cc, .int .i64 qu, .int .i64 bu, .slice ar nr cr, .slice ag ng cg]] w fun e w' => e = .returned (.bool true) ∧ Since w w' := by
  have hmm := @run_makeMap Tryd.prog
  have hS : Since w (w.alloc (.cells #[.slice ap np cp, .slice ad nd cd, .slice ac nc cc, .int .i64 qu, .int .i64 bu, .slice ar nr cr, .slice ag ng cg] 28)) := (Since.refl _).alloc _
  obtain ⟨p_c0, p_c1, p_c2, p_c3, p_c4, p_c5, p_c6⟩ := pbox_new w ap ad ac ar ag np cp nd cd nc cc nr cr ng cg qu bu 28
  obtain ⟨L, hL⟩ : ∃ B, Hid (B = lightPol P) := ⟨_, rfl⟩
  obtain ⟨K, hK⟩ : ∃ B, Hid (B = checkE P) := ⟨_, rfl⟩
  have HPOL := Lib.hid (hP.next hS)
  have HE := Lib.hid (hE.next hS)
  clear hP hE
  go_enter Tryd.func5, Tryd.ntmps5
  go_wp2_with fail
  have HS := Since.refl (w.alloc (.cells #[.slice ap np cp, .slice ad nd cd, .slice ac nc cc, .int .i64 qu, .int .i64 bu, .slice ar nr cr, .slice ag ng cg] 28))
  generalize (w.alloc (.cells #[.slice ap np cp, .slice ad nd cd, .slice ac nc cc, .int .i64 qu, .int .i64 bu, .slice ar nr cr, .slice ag ng cg] 28)) = w1 at *
  have PB0 : PBox w1 w.heap.size ap ad ac ar ag np cp nd cd nc cc nr cr ng cg qu bu := ⟨p_c0, p_c1, p_c2, p_c3, p_c4, p_c5, p_c6⟩
  refine (lives12_any _ (HE.out.next HS)).mono ?_
  rintro e wl1 ⟨rfl, hb⟩
  replace HS := HS.trans hb; replace p_c0 := hb.cell p_c0; replace p_c1 := hb.cell p_c1; replace p_c2 := hb.cell p_c2; replace p_c3 := hb.cell p_c3; replace p_c4 := hb.cell p_c4; replace p_c5 := hb.cell p_c5; replace p_c6 := hb.cell p_c6
  clear hb
  go_wp2_with fail
  have HLP := Lib.hid (lightpol_any ap ad ac ar ag np cp nd cd nc cc nr cr ng cg qu bu P _ (HPOL.out.next HS) hf)
  rw [← hL.out] at HLP
  refine (HLP.out).mono ?_
  rintro e wl2 ⟨rfl, hb⟩
  replace HS := HS.trans hb; replace p_c0 := hb.cell p_c0; replace p_c1 := hb.cell p_c1; replace p_c2 := hb.cell p_c2; replace p_c3 := hb.cell p_c3; replace p_c4 := hb.cell p_c4; replace p_c5 := hb.cell p_c5; replace p_c6 := hb.cell p_c6
  clear hb
  clear HLP
  cases L
  · go_wp2_with fail
    go_ret
    exact ⟨rfl, hS.trans HS⟩
  have hft := light_fits hL.out.symm hf
  go_wp2_with fail
  have HCK := Lib.hid (fcheck_any ap ad ac ar ag np cp nd cd nc cc nr cr ng cg qu bu P _ (HPOL.out.next HS) hft (HE.out.next HS))
  rw [← hK.out] at HCK
  refine (HCK.out).mono ?_
  rintro e wl3 ⟨rfl, hb⟩
  replace HS := HS.trans hb; replace p_c0 := hb.cell p_c0; replace p_c1 := hb.cell p_c1; replace p_c2 := hb.cell p_c2; replace p_c3 := hb.cell p_c3; replace p_c4 := hb.cell p_c4; replace p_c5 := hb.cell p_c5; replace p_c6 := hb.cell p_c6
  clear hb
  clear HCK
  by_cases hk0 : K = 0
  case neg =>
    have hk1 : (K != 0) = true := by simpa using hk0
    go_wp2_with fail
    go_ret
    exact ⟨rfl, hS.trans HS⟩
  subst hk0
  have hchk := hK.out.symm
  have HCHK := Lib.hid hchk
  have HFT := Lib.hid hft
  clear hchk hft hf hL hK
  have lr := HFT.out.2.1
  have lp := HFT.out.2.2.2.1
  have Fr := Lib.hid HPOL.out.2.2.2.2.2.1.form
  have Fg := Lib.hid HPOL.out.2.2.2.2.2.2.form
  have hnr : nr ≤ 1000000 := by have := Fr.out; have := HFT.out.2.2.2.2.2.2.2.2.1; omega
  go_wp2_with fail
  go_loopw [3] (fun m wr => ∃ k : Nat, k ≤ nr ∧ m = .int .i64 (k : Int) ∧ Since w1 wr) (fun m _ => nr - (intOf m).toNat)
  case atStart => exact ⟨0, by omega, rfl, HS⟩
  case round =>
  clear HS
  obtain ⟨k, hk, rfl, HS⟩ := hrel
  obtain ⟨p_c0, p_c1, p_c2, p_c3, p_c4, p_c5, p_c6⟩ := PB0.next HS
  by_cases hlt : k < nr
  · have hkl : k < P.ru.length := by have := Fr.out; omega
    have hlt2 : (k : Int) < (nr : Int) := by omega
    have hlt0 : (0 : Int) ≤ (k : Int) := by omega
    obtain ⟨b, o, e1, hc, hat⟩ := HPOL.out.2.2.2.2.2.1.get (by omega)
    have d1 := hat k hkl
    have hfx := HFT.out.2.2.2.2.2.2.1 _ (List.getElem_mem hkl)
    have hpx := rule_parts HCHK.out (List.getElem_mem hkl)
    obtain ⟨⟨x, T⟩, hx⟩ : ∃ x, Hid (x = P.ru[k]) := ⟨P.ru[k], rfl⟩
    rw [← hx.out] at d1 hfx hpx
    obtain ⟨x_s, x_p, x_n, ⟨x_v0, x_l0⟩, ⟨x_v1, x_l1⟩, ⟨x_v2, x_l2⟩, ⟨x_v3, x_l3⟩⟩ := x
    unfold RulAt at d1
    obtain ⟨d1, u, d2, d3⟩ := d1
    obtain ⟨ua, uc, rfl⟩ := d3.slice
    simp only at d2 d3 hfx hpx
    have HX := Lib.hid d1
    have HU := Lib.hid d2
    have HB := Lib.hid d3
    have HFX := Lib.hid hfx
    have HPX := Lib.hid hpx
    clear hat d1 d2 d3 hfx hpx hx
    subst e1
    go_wp2_with fail
    have hge : w1.heap.size ≤ wr.heap.size := HS.size
    have hO := one_made wr
    replace HS := HS.alloc (.map #[] 0)
    have hbl : T.length ≤ 100000 := HFX.out.2.2
    generalize wr.alloc (.map #[] 0) = w2 at *
    generalize wr.heap.size = mb at *
    clear p_c0 p_c1 p_c2 p_c3 p_c4 p_c5 p_c6
    go_loopw [5] (fun m wr => ∃ k2 : Nat, k2 ≤ T.length ∧ m = .int .i64 (k2 : Int) ∧ OneAt wr mb (haveF (T.take k2)).length (haveF (T.take k2)) ∧ Since w1 wr) (fun m _ => T.length - (intOf m).toNat)
    case atStart => exact ⟨0, by omega, rfl, hO, HS⟩
    case round =>
    clear HS hO
    obtain ⟨k2, hk2, rfl, hO, HS⟩ := hrel
    obtain ⟨p_c0, p_c1, p_c2, p_c3, p_c4, p_c5, p_c6⟩ := PB0.next HS
    have u_c := HS.cell HU.out
    by_cases hlt3 : k2 < T.length
    · have hlt4 : (k2 : Int) < (T.length : Int) := by omega
      have hlt5 : (0 : Int) ≤ (k2 : Int) := by omega
      obtain ⟨ub, uo, e2, hc2, hat2⟩ := (anext HB.out HS).get (by omega)
      subst e2
      have d2 := hat2 k2 hlt3
      have hy0 := HPX.out.2.1 _ (List.getElem_mem hlt3)
      have hyf := HFX.out.2.1 _ (List.getElem_mem hlt3)
      have hmore := have_more T k2 hlt3
      have hHl := have_len (T.take k2)
      rw [List.length_take, Nat.min_eq_left (by omega)] at hHl
      obtain ⟨y, hy⟩ : ∃ y, Hid (y = T[k2]) := ⟨T[k2], rfl⟩
      rw [← hy.out] at d2 hy0 hyf hmore
      have hyl := names_le y
      have hyn := names_fit hyf
      obtain ⟨H, hH⟩ : ∃ H, Hid (H = haveF (T.take k2)) := ⟨_, rfl⟩
      rw [← hH.out] at hO hmore hHl
      obtain ⟨y_s, y_p, y_n, ⟨y_v0, y_l0⟩, ⟨y_v1, y_l1⟩, ⟨y_v2, y_l2⟩, ⟨y_v3, y_l3⟩⟩ := y
      obtain ⟨y_c0, y_c1, y_c2, y_c3, y_c4, y_c5, y_c6, y_c7, y_c8, y_c9, y_c10⟩ := atat_cells y_s y_p y_n y_v0 y_v1 y_v2 y_v3 y_l0 y_l1 y_l2 y_l3 d2
      have HMORE := Lib.hid hmore
      have HY0 := Lib.hid hy0
      have HYF := Lib.hid hyf
      have HYN := Lib.hid hyn
      clear hat2 d2 hy0 hyf hmore hy hyn
      have hSx : Since w1 (wr.alloc (.cells #[.string ⟨y_s.toArray⟩, .string ⟨y_p.toArray⟩, .int .i64 y_n, .bool y_v0, .string ⟨y_l0.toArray⟩, .bool y_v1, .string ⟨y_l1.toArray⟩, .bool y_v2, .string ⟨y_l2.toArray⟩, .bool y_v3, .string ⟨y_l3.toArray⟩] 39)) := HS.alloc _
      have hOx : OneAt (wr.alloc (.cells #[.string ⟨y_s.toArray⟩, .string ⟨y_p.toArray⟩, .int .i64 y_n, .bool y_v0, .string ⟨y_l0.toArray⟩, .bool y_v1, .string ⟨y_l1.toArray⟩, .bool y_v2, .string ⟨y_l2.toArray⟩, .bool y_v3, .string ⟨y_l3.toArray⟩] 39)) mb H.length H := hO.next ((Since.refl _).alloc _)
      have hbx : Box (wr.alloc (.cells #[.string ⟨y_s.toArray⟩, .string ⟨y_p.toArray⟩, .int .i64 y_n, .bool y_v0, .string ⟨y_l0.toArray⟩, .bool y_v1, .string ⟨y_l1.toArray⟩, .bool y_v2, .string ⟨y_l2.toArray⟩, .bool y_v3, .string ⟨y_l3.toArray⟩] 39)) wr.heap.size ((y_s, y_p, y_n, (y_v0, y_l0), (y_v1, y_l1), (y_v2, y_l2), (y_v3, y_l3)) : Atm) := box_new wr ((y_s, y_p, y_n, (y_v0, y_l0), (y_v1, y_l1), (y_v2, y_l2), (y_v3, y_l3)) : Atm) 39
      have HAT := Lib.hid (fatom_any ap ad ac (some ⟨b, o, none⟩) ag np cp nd cd nc cc nr cr ng cg qu bu P.pr P.pd y_s y_p y_n y_v0 y_v1 y_v2 y_v3 y_l0 y_l1 y_l2 y_l3 (wr.alloc (.cells #[.string ⟨y_s.toArray⟩, .string ⟨y_p.toArray⟩, .int .i64 y_n, .bool y_v0, .string ⟨y_l0.toArray⟩, .bool y_v1, .string ⟨y_l1.toArray⟩, .bool y_v2, .string ⟨y_l2.toArray⟩, .bool y_v3, .string ⟨y_l3.toArray⟩] 39)) (HPOL.out.next hSx).1 (HPOL.out.next hSx).2.1 lr lp HYF.out (HE.out.next hSx))
      rw [HY0.out] at HAT
      have r_c0 := ((Since.refl wr).alloc (.cells #[.string ⟨y_s.toArray⟩, .string ⟨y_p.toArray⟩, .int .i64 y_n, .bool y_v0, .string ⟨y_l0.toArray⟩, .bool y_v1, .string ⟨y_l1.toArray⟩, .bool y_v2, .string ⟨y_l2.toArray⟩, .bool y_v3, .string ⟨y_l3.toArray⟩] 39)).cell p_c0
      have r_c1 := ((Since.refl wr).alloc (.cells #[.string ⟨y_s.toArray⟩, .string ⟨y_p.toArray⟩, .int .i64 y_n, .bool y_v0, .string ⟨y_l0.toArray⟩, .bool y_v1, .string ⟨y_l1.toArray⟩, .bool y_v2, .string ⟨y_l2.toArray⟩, .bool y_v3, .string ⟨y_l3.toArray⟩] 39)).cell p_c1
      have r_c2 := ((Since.refl wr).alloc (.cells #[.string ⟨y_s.toArray⟩, .string ⟨y_p.toArray⟩, .int .i64 y_n, .bool y_v0, .string ⟨y_l0.toArray⟩, .bool y_v1, .string ⟨y_l1.toArray⟩, .bool y_v2, .string ⟨y_l2.toArray⟩, .bool y_v3, .string ⟨y_l3.toArray⟩] 39)).cell p_c2
      have r_c3 := ((Since.refl wr).alloc (.cells #[.string ⟨y_s.toArray⟩, .string ⟨y_p.toArray⟩, .int .i64 y_n, .bool y_v0, .string ⟨y_l0.toArray⟩, .bool y_v1, .string ⟨y_l1.toArray⟩, .bool y_v2, .string ⟨y_l2.toArray⟩, .bool y_v3, .string ⟨y_l3.toArray⟩] 39)).cell p_c3
      have r_c4 := ((Since.refl wr).alloc (.cells #[.string ⟨y_s.toArray⟩, .string ⟨y_p.toArray⟩, .int .i64 y_n, .bool y_v0, .string ⟨y_l0.toArray⟩, .bool y_v1, .string ⟨y_l1.toArray⟩, .bool y_v2, .string ⟨y_l2.toArray⟩, .bool y_v3, .string ⟨y_l3.toArray⟩] 39)).cell p_c4
      have r_c5 := ((Since.refl wr).alloc (.cells #[.string ⟨y_s.toArray⟩, .string ⟨y_p.toArray⟩, .int .i64 y_n, .bool y_v0, .string ⟨y_l0.toArray⟩, .bool y_v1, .string ⟨y_l1.toArray⟩, .bool y_v2, .string ⟨y_l2.toArray⟩, .bool y_v3, .string ⟨y_l3.toArray⟩] 39)).cell p_c5
      have r_c6 := ((Since.refl wr).alloc (.cells #[.string ⟨y_s.toArray⟩, .string ⟨y_p.toArray⟩, .int .i64 y_n, .bool y_v0, .string ⟨y_l0.toArray⟩, .bool y_v1, .string ⟨y_l1.toArray⟩, .bool y_v2, .string ⟨y_l2.toArray⟩, .bool y_v3, .string ⟨y_l3.toArray⟩] 39)).cell p_c6
      go_wp2_with fail
      clear p_c0 p_c1 p_c2 p_c3 p_c4 p_c5 p_c6 r_c0 r_c1 r_c2 r_c3 r_c4 r_c5 r_c6 y_c0 y_c1 y_c2 y_c3 y_c4 y_c5 y_c6 y_c7 y_c8 y_c9 y_c10 u_c hO HS
      refine HAT.out.mono ?_
      rintro e w3 ⟨rfl, hb⟩
      have HS := hSx.trans hb
      have hO := hOx.next hb
      have a_B := hbx.next hb
      clear HAT hSx hOx hbx hb
      obtain ⟨y_c0, y_c1, y_c2, y_c3, y_c4, y_c5, y_c6, y_c7, y_c8, y_c9, y_c10⟩ := a_B.all
      go_wp2_with fail
      obtain ⟨N, hN⟩ : ∃ N, Hid (N = namesA ((y_s, y_p, y_n, (y_v0, y_l0), (y_v1, y_l1), (y_v2, y_l2), (y_v3, y_l3)) : Atm) true) := ⟨_, rfl⟩
      have HVA := Lib.hid (rvars_any y_s y_p y_n y_v0 y_v1 y_v2 y_v3 y_l0 y_l1 y_l2 y_l3 w3)
      rw [← hN.out] at HVA HMORE hyl HYN
      refine HVA.out.mono ?_
      clear HVA
      rintro e w4 ⟨v4, rfl, hown4, hb⟩
      obtain ⟨a4, c4, rfl⟩ := own_slice hown4
      have hmb : mb < w3.heap.size := World.ownsMap.lt hO
      replace HS := HS.trans hb
      replace hO := hO.next hb
      clear y_c0 y_c1 y_c2 y_c3 y_c4 y_c5 y_c6 y_c7 y_c8 y_c9 y_c10 a_B hb
      generalize w3.heap.size = bs at *
      go_wp2_with fail
      go_loopw [8] (fun m wr => ∃ j : Nat, j ≤ N.length ∧ m = .int .i64 (j : Int) ∧ OneAt wr mb (H.length + j) (H ++ N.take j) ∧ wr.ownsRow bs 9 1 (.slice a4 N.length c4) N.length (N.map strV) ∧ Since w1 wr) (fun m _ => N.length - (intOf m).toNat)
      case atStart => exact ⟨0, by omega, rfl, by simpa using hO, hown4, HS⟩
      case round =>
      clear HS hO hown4
      obtain ⟨j, hj, rfl, hO, hown4, HS⟩ := hrel
      by_cases hlt6 : j < N.length
      · have hlt7 : (j : Int) < (N.length : Int) := by omega
        have hlt8 : (0 : Int) ≤ (j : Int) := by omega
        obtain ⟨nb, no, e3, hc3, hat3⟩ := (trow_own hown4).get (by omega)
        cases e3
        have d3 := hat3 j hlt6
        have hsn := HYN.out _ (List.getElem_mem hlt6)
        have htm := take_more N j hlt6
        obtain ⟨s, hs⟩ : ∃ s, Hid (s = N[j]) := ⟨N[j], rfl⟩
        unfold TxtAt at d3
        rw [Nat.mul_one, ← hs.out] at d3
        rw [← hs.out] at hsn htm
        simp only [strV] at d3
        have HTM := Lib.hid htm
        clear hat3 hs htm
        go_wp2_with (first | (at_mapUpdate; refine update_one _ rfl _ _ _ rfl mb (H.length + j) (H ++ N.take j) rfl hO (by unfold maxLen; omega) s hsn rfl rfl ?_; intro w6 ho6 hg6))
        go_roundw
        case rel =>
          rw [List.append_assoc, HTM.out] at ho6
          exact ⟨j + 1, by omega, by go_num, ho6, hown4.kept hg6 (.inr fun e => by have := own_ge hown4 _ e; omega), since_update HS hg6 hge⟩
        case measure => simp [intOf]; omega
      · have hlt7 : ¬ (j : Int) < (N.length : Int) := by omega
        obtain rfl : j = N.length := by omega
        rw [List.take_length, ← List.length_append, HMORE.out] at hO
        go_wp2_with fail
        go_roundw
        case rel => exact ⟨k2 + 1, by omega, by go_num, hO, HS⟩
        case measure => simp [intOf]; omega
    · have hlt4 : ¬ (k2 : Int) < (T.length : Int) := by omega
      obtain rfl : k2 = T.length := by omega
      rw [List.take_length] at hO
      obtain ⟨x_c0, x_c1, x_c2, x_c3, x_c4, x_c5, x_c6, x_c7, x_c8, x_c9, x_c10⟩ := atat_cells x_s x_p x_n x_v0 x_v1 x_v2 x_v3 x_l0 x_l1 x_l2 x_l3 (HX.out.next HS)
      have hxl := names_le ((x_s, x_p, x_n, (x_v0, x_l0), (x_v1, x_l1), (x_v2, x_l2), (x_v3, x_l3)) : Atm)
      have HXN := Lib.hid (names_fit HFX.out.1)
      go_wp2_with fail
      have HV := Lib.hid HPX.out.2.2
      obtain ⟨N, hN⟩ : ∃ N, Hid (N = namesA ((x_s, x_p, x_n, (x_v0, x_l0), (x_v1, x_l1), (x_v2, x_l2), (x_v3, x_l3)) : Atm) true) := ⟨_, rfl⟩
      have HVA := Lib.hid (rvars_any x_s x_p x_n x_v0 x_v1 x_v2 x_v3 x_l0 x_l1 x_l2 x_l3 wr)
      rw [← hN.out] at HVA hxl HXN HV
      refine HVA.out.mono ?_
      clear HVA
      rintro e w5 ⟨v5, rfl, hown5, hb⟩
      obtain ⟨a5, c5, rfl⟩ := own_slice hown5
      replace HS := HS.trans hb
      replace hO := hO.next hb
      clear x_c0 x_c1 x_c2 x_c3 x_c4 x_c5 x_c6 x_c7 x_c8 x_c9 x_c10 hb u_c p_c0 p_c1 p_c2 p_c3 p_c4 p_c5 p_c6
      have HT5 := trow_own hown5
      clear hown5
      obtain ⟨H, hH⟩ : ∃ H, Hid (H = haveF T) := ⟨_, rfl⟩
      rw [← hH.out] at hO HV
      go_wp2_with fail
      go_loopw [10] (fun m wr => ∃ j : Nat, j ≤ N.length ∧ m = .int .i64 (j : Int) ∧ Since w5 wr) (fun m _ => N.length - (intOf m).toNat)
      case atStart => exact ⟨0, by omega, rfl, Since.refl _⟩
      case round =>
      obtain ⟨j, hj, rfl, hs5⟩ := hrel
      by_cases hlt6 : j < N.length
      · have hlt7 : (j : Int) < (N.length : Int) := by omega
        have hlt8 : (0 : Int) ≤ (j : Int) := by omega
        obtain ⟨nb, no, e3, hc3, hat3⟩ := (tnext HT5 hs5).get (by omega)
        cases e3
        have d3 := hat3 j hlt6
        have hsn := HXN.out _ (List.getElem_mem hlt6)
        have hsm := HV.out _ (List.getElem_mem hlt6)
        obtain ⟨s, hs⟩ : ∃ s, Hid (s = N[j]) := ⟨N[j], rfl⟩
        unfold TxtAt at d3
        rw [Nat.mul_one, ← hs.out] at d3
        rw [← hs.out] at hsn hsm
        simp only [strV] at d3
        have HSM := Lib.hid hsm
        clear hat3 hs hsm
        have hO5 := hO.next hs5
        go_wp2_with (first | (at_lookup; refine lookup_one _ rfl _ _ rfl mb H.length H rfl hO5 s hsn rfl HSM.out ?_))
        go_roundw
        case rel => exact ⟨j + 1, by omega, by go_num, hs5⟩
        case measure => simp [intOf]; omega
      · have hlt7 : ¬ (j : Int) < (N.length : Int) := by omega
        replace HS := HS.trans hs5
        have HGO : Hid (∀ W, Since w1 W → Calls Tryd.prog 17 #[.agg #[.slice ap np cp, .slice ad nd cd, .slice ac nc cc, .int .i64 qu, .int .i64 bu, .slice (some ⟨b, o, none⟩) nr cr, .slice ag ng cg], .agg #[.string ⟨x_s.toArray⟩, .string ⟨x_p.toArray⟩, .int .i64 x_n, .bool x_v0, .string ⟨x_l0.toArray⟩, .bool x_v1, .string ⟨x_l1.toArray⟩, .bool x_v2, .string ⟨x_l2.toArray⟩, .bool x_v3, .string ⟨x_l3.toArray⟩]] W fun e w' => e = .returned (.int .i64 0) ∧ Since W w') := by
          intro W hW
          have := fgoal_any ap ad ac (some ⟨b, o, none⟩) ag np cp nd cd nc cc nr cr ng cg qu bu P.pr P.pd x_s x_p x_n x_v0 x_v1 x_v2 x_v3 x_l0 x_l1 x_l2 x_l3 W (HPOL.out.next hW).1 (HPOL.out.next hW).2.1 lr lp HFX.out.1 (HE.out.next hW)
          rw [HPX.out.1] at this
          exact this
        go_wp2_with fail
        have pA : At wr w.heap.size 0 #[.slice ap np cp, .slice ad nd cd, .slice ac nc cc, .int .i64 qu, .int .i64 bu, .slice (some ⟨b, o, none⟩) nr cr, .slice ag ng cg] := PBox.at (PB0.next HS)
        have xA : At wr b (o + k * 12) #[.string ⟨x_s.toArray⟩, .string ⟨x_p.toArray⟩, .int .i64 x_n, .bool x_v0, .string ⟨x_l0.toArray⟩, .bool x_v1, .string ⟨x_l1.toArray⟩, .bool x_v2, .string ⟨x_l2.toArray⟩, .bool x_v3, .string ⟨x_l3.toArray⟩] := fun j u hu => HX.out.next HS j u hu
        clear HT5 HV hO hN hH
        have hg0 : Since wr wr.drew := (Since.refl _).drew
        refine hx_begin (S := fun W => Since wr W) (by kernel_rfl) hg0 (by kernel_rfl) (fun _ _ _ _ _ h => h) (fun hns hQ => ?_)
        refine hx_take (i := 0) (oi := _) (v := .agg #[.slice ap np cp, .slice ad nd cd, .slice ac nc cc, .int .i64 qu, .int .i64 bu, .slice (some ⟨b, o, none⟩) nr cr, .slice ag ng cg]) rfl rfl hns (by kernel_rfl) (by kernel_rfl) hQ (by kernel_rfl) (fun W hW => ld_at rfl (by kernel_rfl) (by kernel_rfl) (by kernel_rfl) W (pA.next hW)) hg0 ?_
        refine hx_take (i := 1) (oi := _) (v := .pointer (some ⟨w.heap.size, 5, none⟩)) rfl rfl hns (by kernel_rfl) (by kernel_rfl) hQ (by kernel_rfl) (fun _ _ => by kernel_rfl) hg0 ?_
        refine hx_take (i := 2) (oi := _) (v := .slice (some ⟨b, o, none⟩) nr cr) rfl rfl hns (by kernel_rfl) (by kernel_rfl) hQ (by kernel_rfl) (fun W hW => ld_one rfl (by kernel_rfl) (by kernel_rfl) W (pA.next hW 5 _ rfl)) hg0 ?_
        refine hx_take (i := 3) (oi := _) (v := .int .i64 (k : Int)) rfl rfl hns (by kernel_rfl) (by kernel_rfl) hQ (by kernel_rfl) (fun _ _ => by kernel_rfl) hg0 ?_
        refine hx_take (i := 4) (oi := _) (v := .pointer (some ⟨b, o + k * 12, none⟩)) rfl rfl hns (by kernel_rfl) (by kernel_rfl) hQ (by kernel_rfl) (fun W _ => ix_sl (n := nr) (c := cr) (K := 12) rfl (by kernel_rfl) (by kernel_rfl) (by kernel_rfl) rfl hlt W) hg0 ?_
        refine hx_take (i := 5) (oi := _) (v := .pointer (some ⟨b, o + k * 12, none⟩)) rfl rfl hns (by kernel_rfl) (by kernel_rfl) hQ (by kernel_rfl) (fun _ _ => by kernel_rfl) hg0 ?_
        refine hx_take (i := 6) (oi := _) (v := .agg #[.string ⟨x_s.toArray⟩, .string ⟨x_p.toArray⟩, .int .i64 x_n, .bool x_v0, .string ⟨x_l0.toArray⟩, .bool x_v1, .string ⟨x_l1.toArray⟩, .bool x_v2, .string ⟨x_l2.toArray⟩, .bool x_v3, .string ⟨x_l3.toArray⟩]) rfl rfl hns (by kernel_rfl) (by kernel_rfl) hQ (by kernel_rfl) (fun W hW => ld_at rfl (by kernel_rfl) (by kernel_rfl) (by kernel_rfl) W (xA.next hW)) hg0 ?_
        refine hx_call (i := 7) (oi := _) 17 #[.agg #[.slice ap np cp, .slice ad nd cd, .slice ac nc cc, .int .i64 qu, .int .i64 bu, .slice (some ⟨b, o, none⟩) nr cr, .slice ag ng cg], .agg #[.string ⟨x_s.toArray⟩, .string ⟨x_p.toArray⟩, .int .i64 x_n, .bool x_v0, .string ⟨x_l0.toArray⟩, .bool x_v1, .string ⟨x_l1.toArray⟩, .bool x_v2, .string ⟨x_l2.toArray⟩, .bool x_v3, .string ⟨x_l3.toArray⟩]] rfl rfl (by kernel_rfl) (by kernel_rfl) (by kernel_rfl) (HGO.out _ (HS.trans hg0)) ?_
        rintro e wx51 ⟨rfl, hb⟩
        have hg1 : Since wr wx51 := hg0.trans hb
        clear hb
        refine ⟨_, rfl, hg1, ?_⟩
        refine hx_take (i := 8) (oi := _) (v := .bool (0 != 0)) rfl rfl hns (by kernel_rfl) (by kernel_rfl) hQ (by kernel_rfl) (fun W _ => neq_intE rfl (by kernel_rfl) (by kernel_rfl) W) hg1 ?_
        refine wpAnyH_done (by kernel_rfl) ?_ _
        clear hns hQ
        simp only [List.set_cons_zero, List.set_cons_succ]
        replace HS := HS.trans hg1
        clear pA xA HGO
        go_wp2_with fail
        go_roundw
        case rel => exact ⟨k + 1, by omega, by go_num, HS⟩
        case measure => simp [intOf]; omega
  · have hlt2 : ¬ (k : Int) < (nr : Int) := by omega
    have hng : ng ≤ 1000000 := by have := Fg.out; have := HFT.out.2.2.2.2.2.2.2.2.2; omega
    go_wp2_with fail
    go_loopw [11] (fun m wr => ∃ k : Nat, k ≤ ng ∧ m = .int .i64 (k : Int) ∧ Since w1 wr) (fun m _ => ng - (intOf m).toNat)
    case atStart => exact ⟨0, by omega, rfl, HS⟩
    case round =>
    clear HS p_c0 p_c1 p_c2 p_c3 p_c4 p_c5 p_c6
    obtain ⟨k, hk, rfl, HS⟩ := hrel
    obtain ⟨p_c0, p_c1, p_c2, p_c3, p_c4, p_c5, p_c6⟩ := PB0.next HS
    by_cases hlt : k < ng
    · have hkl : k < P.gr.length := by have := Fg.out; omega
      have hlt2 : (k : Int) < (ng : Int) := by omega
      have hlt0 : (0 : Int) ≤ (k : Int) := by omega
      obtain ⟨b, o, e1, hc, hat⟩ := (gnext HPOL.out.2.2.2.2.2.2 HS).get (by omega)
      subst e1
      obtain ⟨d0, d1, u, d2, hB0⟩ := hat k hkl
      have hfx := HFT.out.2.2.2.2.2.2.2.1 _ (List.getElem_mem hkl)
      have hpx := grant_parts HCHK.out (List.getElem_mem hkl)
      obtain ⟨⟨s, x, T⟩, hx⟩ : ∃ x, Hid (x = P.gr[k]) := ⟨P.gr[k], rfl⟩
      rw [← hx.out] at d0 d1 hB0 hfx hpx
      obtain ⟨v, c, rfl⟩ := hB0.slice
      obtain ⟨n, hn⟩ : ∃ n, Hid (T.length = n) := ⟨_, rfl⟩
      simp only [strV] at d2 d0 hfx hpx
      rw [hn.out] at d2
      obtain ⟨x_s, x_p, x_n, ⟨x_v0, x_l0⟩, ⟨x_v1, x_l1⟩, ⟨x_v2, x_l2⟩, ⟨x_v3, x_l3⟩⟩ := x
      obtain ⟨x_c0, x_c1, x_c2, x_c3, x_c4, x_c5, x_c6, x_c7, x_c8, x_c9, x_c10⟩ := atat_cells1 x_s x_p x_n x_v0 x_v1 x_v2 x_v3 x_l0 x_l1 x_l2 x_l3 d1
      have HFX := Lib.hid hfx
      have HPX := Lib.hid hpx
      have hne : (s == x_s) = false := hpx.2.1
      clear hat d1 hB0 hfx hpx hx hn
      have hC : Cel (wr.alloc (.cells #[.string ⟨s.toArray⟩, .string ⟨x_s.toArray⟩, .string ⟨x_p.toArray⟩, .int .i64 x_n, .bool x_v0, .string ⟨x_l0.toArray⟩, .bool x_v1, .string ⟨x_l1.toArray⟩, .bool x_v2, .string ⟨x_l2.toArray⟩, .bool x_v3, .string ⟨x_l3.toArray⟩, .slice v n c] 54)) wr.heap.size #[.string ⟨s.toArray⟩, .string ⟨x_s.toArray⟩, .string ⟨x_p.toArray⟩, .int .i64 x_n, .bool x_v0, .string ⟨x_l0.toArray⟩, .bool x_v1, .string ⟨x_l1.toArray⟩, .bool x_v2, .string ⟨x_l2.toArray⟩, .bool x_v3, .string ⟨x_l3.toArray⟩, .slice v n c] 54 := heap_alloc_new _ _
      have hSx : Since w1 (wr.alloc (.cells #[.string ⟨s.toArray⟩, .string ⟨x_s.toArray⟩, .string ⟨x_p.toArray⟩, .int .i64 x_n, .bool x_v0, .string ⟨x_l0.toArray⟩, .bool x_v1, .string ⟨x_l1.toArray⟩, .bool x_v2, .string ⟨x_l2.toArray⟩, .bool x_v3, .string ⟨x_l3.toArray⟩, .slice v n c] 54)) := HS.alloc _
      have HAT := Lib.hid (fatom_any ap ad ac ar (some ⟨b, o, none⟩) np cp nd cd nc cc nr cr ng cg qu bu P.pr P.pd x_s x_p x_n x_v0 x_v1 x_v2 x_v3 x_l0 x_l1 x_l2 x_l3 (wr.alloc (.cells #[.string ⟨s.toArray⟩, .string ⟨x_s.toArray⟩, .string ⟨x_p.toArray⟩, .int .i64 x_n, .bool x_v0, .string ⟨x_l0.toArray⟩, .bool x_v1, .string ⟨x_l1.toArray⟩, .bool x_v2, .string ⟨x_l2.toArray⟩, .bool x_v3, .string ⟨x_l3.toArray⟩, .slice v n c] 54)) (HPOL.out.next hSx).1 (HPOL.out.next hSx).2.1 lr lp HFX.out.1 (HE.out.next hSx))
      rw [HPX.out.2.2] at HAT
      have r_c0 := ((Since.refl wr).alloc (.cells #[.string ⟨s.toArray⟩, .string ⟨x_s.toArray⟩, .string ⟨x_p.toArray⟩, .int .i64 x_n, .bool x_v0, .string ⟨x_l0.toArray⟩, .bool x_v1, .string ⟨x_l1.toArray⟩, .bool x_v2, .string ⟨x_l2.toArray⟩, .bool x_v3, .string ⟨x_l3.toArray⟩, .slice v n c] 54)).cell p_c0
      have r_c1 := ((Since.refl wr).alloc (.cells #[.string ⟨s.toArray⟩, .string ⟨x_s.toArray⟩, .string ⟨x_p.toArray⟩, .int .i64 x_n, .bool x_v0, .string ⟨x_l0.toArray⟩, .bool x_v1, .string ⟨x_l1.toArray⟩, .bool x_v2, .string ⟨x_l2.toArray⟩, .bool x_v3, .string ⟨x_l3.toArray⟩, .slice v n c] 54)).cell p_c1
      have r_c2 := ((Since.refl wr).alloc (.cells #[.string ⟨s.toArray⟩, .string ⟨x_s.toArray⟩, .string ⟨x_p.toArray⟩, .int .i64 x_n, .bool x_v0, .string ⟨x_l0.toArray⟩, .bool x_v1, .string ⟨x_l1.toArray⟩, .bool x_v2, .string ⟨x_l2.toArray⟩, .bool x_v3, .string ⟨x_l3.toArray⟩, .slice v n c] 54)).cell p_c2
      have r_c3 := ((Since.refl wr).alloc (.cells #[.string ⟨s.toArray⟩, .string ⟨x_s.toArray⟩, .string ⟨x_p.toArray⟩, .int .i64 x_n, .bool x_v0, .string ⟨x_l0.toArray⟩, .bool x_v1, .string ⟨x_l1.toArray⟩, .bool x_v2, .string ⟨x_l2.toArray⟩, .bool x_v3, .string ⟨x_l3.toArray⟩, .slice v n c] 54)).cell p_c3
      have r_c4 := ((Since.refl wr).alloc (.cells #[.string ⟨s.toArray⟩, .string ⟨x_s.toArray⟩, .string ⟨x_p.toArray⟩, .int .i64 x_n, .bool x_v0, .string ⟨x_l0.toArray⟩, .bool x_v1, .string ⟨x_l1.toArray⟩, .bool x_v2, .string ⟨x_l2.toArray⟩, .bool x_v3, .string ⟨x_l3.toArray⟩, .slice v n c] 54)).cell p_c4
      have r_c5 := ((Since.refl wr).alloc (.cells #[.string ⟨s.toArray⟩, .string ⟨x_s.toArray⟩, .string ⟨x_p.toArray⟩, .int .i64 x_n, .bool x_v0, .string ⟨x_l0.toArray⟩, .bool x_v1, .string ⟨x_l1.toArray⟩, .bool x_v2, .string ⟨x_l2.toArray⟩, .bool x_v3, .string ⟨x_l3.toArray⟩, .slice v n c] 54)).cell p_c5
      have r_c6 := ((Since.refl wr).alloc (.cells #[.string ⟨s.toArray⟩, .string ⟨x_s.toArray⟩, .string ⟨x_p.toArray⟩, .int .i64 x_n, .bool x_v0, .string ⟨x_l0.toArray⟩, .bool x_v1, .string ⟨x_l1.toArray⟩, .bool x_v2, .string ⟨x_l2.toArray⟩, .bool x_v3, .string ⟨x_l3.toArray⟩, .slice v n c] 54)).cell p_c6
      have z_c0 : (wr.alloc (.cells #[.string ⟨s.toArray⟩, .string ⟨x_s.toArray⟩, .string ⟨x_p.toArray⟩, .int .i64 x_n, .bool x_v0, .string ⟨x_l0.toArray⟩, .bool x_v1, .string ⟨x_l1.toArray⟩, .bool x_v2, .string ⟨x_l2.toArray⟩, .bool x_v3, .string ⟨x_l3.toArray⟩, .slice v n c] 54)).cell? ⟨wr.heap.size, 0, none⟩ = some (.string ⟨s.toArray⟩) := hC.cell 0
      have z_c1 : (wr.alloc (.cells #[.string ⟨s.toArray⟩, .string ⟨x_s.toArray⟩, .string ⟨x_p.toArray⟩, .int .i64 x_n, .bool x_v0, .string ⟨x_l0.toArray⟩, .bool x_v1, .string ⟨x_l1.toArray⟩, .bool x_v2, .string ⟨x_l2.toArray⟩, .bool x_v3, .string ⟨x_l3.toArray⟩, .slice v n c] 54)).cell? ⟨wr.heap.size, 1, none⟩ = some (.string ⟨x_s.toArray⟩) := hC.cell 1
      have z_c2 : (wr.alloc (.cells #[.string ⟨s.toArray⟩, .string ⟨x_s.toArray⟩, .string ⟨x_p.toArray⟩, .int .i64 x_n, .bool x_v0, .string ⟨x_l0.toArray⟩, .bool x_v1, .string ⟨x_l1.toArray⟩, .bool x_v2, .string ⟨x_l2.toArray⟩, .bool x_v3, .string ⟨x_l3.toArray⟩, .slice v n c] 54)).cell? ⟨wr.heap.size, 2, none⟩ = some (.string ⟨x_p.toArray⟩) := hC.cell 2
      have z_c3 : (wr.alloc (.cells #[.string ⟨s.toArray⟩, .string ⟨x_s.toArray⟩, .string ⟨x_p.toArray⟩, .int .i64 x_n, .bool x_v0, .string ⟨x_l0.toArray⟩, .bool x_v1, .string ⟨x_l1.toArray⟩, .bool x_v2, .string ⟨x_l2.toArray⟩, .bool x_v3, .string ⟨x_l3.toArray⟩, .slice v n c] 54)).cell? ⟨wr.heap.size, 3, none⟩ = some (.int .i64 x_n) := hC.cell 3
      have z_c4 : (wr.alloc (.cells #[.string ⟨s.toArray⟩, .string ⟨x_s.toArray⟩, .string ⟨x_p.toArray⟩, .int .i64 x_n, .bool x_v0, .string ⟨x_l0.toArray⟩, .bool x_v1, .string ⟨x_l1.toArray⟩, .bool x_v2, .string ⟨x_l2.toArray⟩, .bool x_v3, .string ⟨x_l3.toArray⟩, .slice v n c] 54)).cell? ⟨wr.heap.size, 4, none⟩ = some (.bool x_v0) := hC.cell 4
      have z_c5 : (wr.alloc (.cells #[.string ⟨s.toArray⟩, .string ⟨x_s.toArray⟩, .string ⟨x_p.toArray⟩, .int .i64 x_n, .bool x_v0, .string ⟨x_l0.toArray⟩, .bool x_v1, .string ⟨x_l1.toArray⟩, .bool x_v2, .string ⟨x_l2.toArray⟩, .bool x_v3, .string ⟨x_l3.toArray⟩, .slice v n c] 54)).cell? ⟨wr.heap.size, 5, none⟩ = some (.string ⟨x_l0.toArray⟩) := hC.cell 5
      have z_c6 : (wr.alloc (.cells #[.string ⟨s.toArray⟩, .string ⟨x_s.toArray⟩, .string ⟨x_p.toArray⟩, .int .i64 x_n, .bool x_v0, .string ⟨x_l0.toArray⟩, .bool x_v1, .string ⟨x_l1.toArray⟩, .bool x_v2, .string ⟨x_l2.toArray⟩, .bool x_v3, .string ⟨x_l3.toArray⟩, .slice v n c] 54)).cell? ⟨wr.heap.size, 6, none⟩ = some (.bool x_v1) := hC.cell 6
      have z_c7 : (wr.alloc (.cells #[.string ⟨s.toArray⟩, .string ⟨x_s.toArray⟩, .string ⟨x_p.toArray⟩, .int .i64 x_n, .bool x_v0, .string ⟨x_l0.toArray⟩, .bool x_v1, .string ⟨x_l1.toArray⟩, .bool x_v2, .string ⟨x_l2.toArray⟩, .bool x_v3, .string ⟨x_l3.toArray⟩, .slice v n c] 54)).cell? ⟨wr.heap.size, 7, none⟩ = some (.string ⟨x_l1.toArray⟩) := hC.cell 7
      have z_c8 : (wr.alloc (.cells #[.string ⟨s.toArray⟩, .string ⟨x_s.toArray⟩, .string ⟨x_p.toArray⟩, .int .i64 x_n, .bool x_v0, .string ⟨x_l0.toArray⟩, .bool x_v1, .string ⟨x_l1.toArray⟩, .bool x_v2, .string ⟨x_l2.toArray⟩, .bool x_v3, .string ⟨x_l3.toArray⟩, .slice v n c] 54)).cell? ⟨wr.heap.size, 8, none⟩ = some (.bool x_v2) := hC.cell 8
      have z_c9 : (wr.alloc (.cells #[.string ⟨s.toArray⟩, .string ⟨x_s.toArray⟩, .string ⟨x_p.toArray⟩, .int .i64 x_n, .bool x_v0, .string ⟨x_l0.toArray⟩, .bool x_v1, .string ⟨x_l1.toArray⟩, .bool x_v2, .string ⟨x_l2.toArray⟩, .bool x_v3, .string ⟨x_l3.toArray⟩, .slice v n c] 54)).cell? ⟨wr.heap.size, 9, none⟩ = some (.string ⟨x_l2.toArray⟩) := hC.cell 9
      have z_c10 : (wr.alloc (.cells #[.string ⟨s.toArray⟩, .string ⟨x_s.toArray⟩, .string ⟨x_p.toArray⟩, .int .i64 x_n, .bool x_v0, .string ⟨x_l0.toArray⟩, .bool x_v1, .string ⟨x_l1.toArray⟩, .bool x_v2, .string ⟨x_l2.toArray⟩, .bool x_v3, .string ⟨x_l3.toArray⟩, .slice v n c] 54)).cell? ⟨wr.heap.size, 10, none⟩ = some (.bool x_v3) := hC.cell 10
      have z_c11 : (wr.alloc (.cells #[.string ⟨s.toArray⟩, .string ⟨x_s.toArray⟩, .string ⟨x_p.toArray⟩, .int .i64 x_n, .bool x_v0, .string ⟨x_l0.toArray⟩, .bool x_v1, .string ⟨x_l1.toArray⟩, .bool x_v2, .string ⟨x_l2.toArray⟩, .bool x_v3, .string ⟨x_l3.toArray⟩, .slice v n c] 54)).cell? ⟨wr.heap.size, 11, none⟩ = some (.string ⟨x_l3.toArray⟩) := hC.cell 11
      go_wp2_with fail
      clear z_c0 z_c1 z_c2 z_c3 z_c4 z_c5 z_c6 z_c7 z_c8 z_c9 z_c10 z_c11
      clear p_c0 p_c1 p_c2 p_c3 p_c4 p_c5 p_c6 r_c0 r_c1 r_c2 r_c3 r_c4 r_c5 r_c6 x_c0 x_c1 x_c2 x_c3 x_c4 x_c5 x_c6 x_c7 x_c8 x_c9 x_c10 d0 d2 HS
      refine HAT.out.mono ?_
      rintro e w3 ⟨rfl, hb⟩
      have HS := hSx.trans hb
      replace hC := hC.next hb
      clear HAT hSx hb
      obtain ⟨p_c0, p_c1, p_c2, p_c3, p_c4, p_c5, p_c6⟩ := PB0.next HS
      have z_c0 : w3.cell? ⟨wr.heap.size, 0, none⟩ = some (.string ⟨s.toArray⟩) := hC.cell 0
      have z_c1 : w3.cell? ⟨wr.heap.size, 1, none⟩ = some (.string ⟨x_s.toArray⟩) := hC.cell 1
      have z_c2 : w3.cell? ⟨wr.heap.size, 2, none⟩ = some (.string ⟨x_p.toArray⟩) := hC.cell 2
      have z_c3 : w3.cell? ⟨wr.heap.size, 3, none⟩ = some (.int .i64 x_n) := hC.cell 3
      have z_c4 : w3.cell? ⟨wr.heap.size, 4, none⟩ = some (.bool x_v0) := hC.cell 4
      have z_c5 : w3.cell? ⟨wr.heap.size, 5, none⟩ = some (.string ⟨x_l0.toArray⟩) := hC.cell 5
      have z_c6 : w3.cell? ⟨wr.heap.size, 6, none⟩ = some (.bool x_v1) := hC.cell 6
      have z_c7 : w3.cell? ⟨wr.heap.size, 7, none⟩ = some (.string ⟨x_l1.toArray⟩) := hC.cell 7
      have z_c8 : w3.cell? ⟨wr.heap.size, 8, none⟩ = some (.bool x_v2) := hC.cell 8
      have z_c9 : w3.cell? ⟨wr.heap.size, 9, none⟩ = some (.string ⟨x_l2.toArray⟩) := hC.cell 9
      have z_c10 : w3.cell? ⟨wr.heap.size, 10, none⟩ = some (.bool x_v3) := hC.cell 10
      have z_c11 : w3.cell? ⟨wr.heap.size, 11, none⟩ = some (.string ⟨x_l3.toArray⟩) := hC.cell 11
      have HPR := Lib.hid (fprin_any ap ad ac ar (some ⟨b, o, none⟩) np cp nd cd nc cc nr cr ng cg qu bu P.pr s w3 (HPOL.out.next HS).1 lr)
      rw [HPX.out.1] at HPR
      go_wp2_with fail
      clear z_c0 z_c1 z_c2 z_c3 z_c4 z_c5 z_c6 z_c7 z_c8 z_c9 z_c10 z_c11
      clear p_c0 p_c1 p_c2 p_c3 p_c4 p_c5 p_c6
      refine HPR.out.mono ?_
      rintro e w4 ⟨rfl, hb⟩
      replace HS := HS.trans hb
      replace hC := hC.next hb
      clear HPR hb
      have z_c0 : w4.cell? ⟨wr.heap.size, 0, none⟩ = some (.string ⟨s.toArray⟩) := hC.cell 0
      have z_c1 : w4.cell? ⟨wr.heap.size, 1, none⟩ = some (.string ⟨x_s.toArray⟩) := hC.cell 1
      have z_c2 : w4.cell? ⟨wr.heap.size, 2, none⟩ = some (.string ⟨x_p.toArray⟩) := hC.cell 2
      have z_c3 : w4.cell? ⟨wr.heap.size, 3, none⟩ = some (.int .i64 x_n) := hC.cell 3
      have z_c4 : w4.cell? ⟨wr.heap.size, 4, none⟩ = some (.bool x_v0) := hC.cell 4
      have z_c5 : w4.cell? ⟨wr.heap.size, 5, none⟩ = some (.string ⟨x_l0.toArray⟩) := hC.cell 5
      have z_c6 : w4.cell? ⟨wr.heap.size, 6, none⟩ = some (.bool x_v1) := hC.cell 6
      have z_c7 : w4.cell? ⟨wr.heap.size, 7, none⟩ = some (.string ⟨x_l1.toArray⟩) := hC.cell 7
      have z_c8 : w4.cell? ⟨wr.heap.size, 8, none⟩ = some (.bool x_v2) := hC.cell 8
      have z_c9 : w4.cell? ⟨wr.heap.size, 9, none⟩ = some (.string ⟨x_l2.toArray⟩) := hC.cell 9
      have z_c10 : w4.cell? ⟨wr.heap.size, 10, none⟩ = some (.bool x_v3) := hC.cell 10
      have z_c11 : w4.cell? ⟨wr.heap.size, 11, none⟩ = some (.string ⟨x_l3.toArray⟩) := hC.cell 11
      go_wp2_with fail
      go_roundw
      case rel => exact ⟨k + 1, by omega, by go_num, HS⟩
      case measure => simp [intOf]; omega
    · have hlt2 : ¬ (k : Int) < (ng : Int) := by omega
      go_wp2_with fail
      refine (ownpol_any ap ad ac ar ag np cp nd cd nc cc nr cr ng cg qu bu P wr (HPOL.out.next HS) HFT.out).mono ?_
      rintro e wq ⟨a0, a1, a2, a5, a6, c0, c1, c2, c5, c6, C, U, G, eC, eU, eG, rfl, hR, hb⟩
      have hC : Cel (wq.alloc (.cells #[.slice a0 P.pr.length c0, .slice a1 P.pd.length c1, .slice a2 C.length c2, .int .i64 qu, .int .i64 bu, .slice a5 U.length c5, .slice a6 G.length c6] 28)) wq.heap.size #[.slice a0 P.pr.length c0, .slice a1 P.pd.length c1, .slice a2 C.length c2, .int .i64 qu, .int .i64 bu, .slice a5 U.length c5, .slice a6 G.length c6] 28 := heap_alloc_new _ _
      replace hR := hR.next ((Since.refl _).alloc (.cells #[.slice a0 P.pr.length c0, .slice a1 P.pd.length c1, .slice a2 C.length c2, .int .i64 qu, .int .i64 bu, .slice a5 U.length c5, .slice a6 G.length c6] 28))
      have hge : wr.heap.size ≤ wq.heap.size := hb.size
      have hSq : Since wr (wq.alloc (.cells #[.slice a0 P.pr.length c0, .slice a1 P.pd.length c1, .slice a2 C.length c2, .int .i64 qu, .int .i64 bu, .slice a5 U.length c5, .slice a6 G.length c6] 28)) := hb.alloc _
      clear hb p_c0 p_c1 p_c2 p_c3 p_c4 p_c5 p_c6
      have HEC := Lib.hid eC
      have HEU := Lib.hid eU
      have HEG := Lib.hid eG
      clear eC eU eG
      have hk5 : U.length ≤ c5 := own_cap hR.h5.row
      have hk6 : G.length ≤ c6 := own_cap hR.h6.row
      have hk2 : C.length ≤ c2 := own_cap hR.h2.row
      have lU : U.length = P.ru.length := by rw [← HEU.out, List.length_map]
      have lG : G.length = P.gr.length := by rw [← HEG.out, List.length_map]
      have lC : C.length = P.cl.length := by rw [← HEC.out, List.length_map]
      have bU : U.length ≤ 1000000 := by rw [lU]; exact HFT.out.2.2.2.2.2.2.2.2.1
      have bG : G.length ≤ 1000000 := by rw [lG]; exact HFT.out.2.2.2.2.2.2.2.2.2
      have bC : C.length ≤ 1000000 := by rw [lC]; exact HFT.out.2.2.2.2.2.1
      have HL := Lib.hid (And.intro lC (And.intro lU lG))
      clear lC lU lG
      have q_c : (wq.alloc (.cells #[.slice a0 P.pr.length c0, .slice a1 P.pd.length c1, .slice a2 C.length c2, .int .i64 qu, .int .i64 bu, .slice a5 U.length c5, .slice a6 G.length c6] 28)).cell? ⟨wq.heap.size, 5, none⟩ = some (.slice a5 U.length c5) := hC.cell 5
      go_upto_if 135 with (fail)
      clear q_c
      generalize wq.alloc (.cells #[.slice a0 P.pr.length c0, .slice a1 P.pd.length c1, .slice a2 C.length c2, .int .i64 qu, .int .i64 bu, .slice a5 U.length c5, .slice a6 G.length c6] 28) = wc at *
      generalize wq.heap.size = g at *
      have q_c : wc.cell? ⟨g, 5, none⟩ = some (.slice a5 U.length c5) := hC.cell 5
      have q_f : wc.frozen? ⟨g, 5, none⟩ = false := hC.free 5
      have q_l : g < wc.heap.size := hC.lt
      go_cut [] from 135 to 143 (fun W => Cel W g #[.slice a0 P.pr.length c0, .slice a1 P.pd.length c1, .slice a2 C.length c2, .int .i64 qu, .int .i64 bu, .slice a5 (U.length - 1) c5, .slice a6 G.length c6] 28 ∧ OwnRows W wr.heap.size (.slice a0 P.pr.length c0) (.slice a1 P.pd.length c1) (.slice a2 C.length c2) (.slice a5 U.length c5) (.slice a6 G.length c6) P.pr P.pd C U G ∧ Since wr W)
      case first =>
        by_cases h0 : U.length = 0
        · have h1 : ¬ (0 : Int) < (U.length : Int) := by omega
          replace h0 := Lib.hid h0
          go_wp2_with fail
          go_meet
          replace h0 := h0.out
          case rel => exact ⟨by rw [show U.length - 1 = U.length by omega]; exact hC, hR, hSq⟩
        · have h1 : (0 : Int) < (U.length : Int) := by omega
          have h2 : IntKind.i64.wrap ((U.length : Int) - 1) = ((U.length - 1 : Nat) : Int) := by rw [IntWalk.i64_in] <;> omega
          have h3 : ((U.length - 1 : Nat) : Int) ≤ (c5 : Int) := by omega
          have h4 : (0 : Int) ≤ ((U.length - 1 : Nat) : Int) := by omega
          obtain ⟨m, hm⟩ : ∃ m, Hid (m = U.length - 1) := ⟨_, rfl⟩
          go_wp2_with fail
          go_meet
          case rel => exact ⟨hC.set (j := 5) (u := .slice a5 (U.length - 1) c5) rfl, hR.cel hC (grown_setCell _ _ _ _), hSq.setCell hge _⟩
      case rest =>
      clear q_c q_f q_l hC hR hSq
      obtain ⟨hC, hR, hSq⟩ := hcut
      have q_c : wc.cell? ⟨g, 6, none⟩ = some (.slice a6 G.length c6) := hC.cell 6
      have q_f : wc.frozen? ⟨g, 6, none⟩ = false := hC.free 6
      have q_l : g < wc.heap.size := hC.lt
      go_upto_if 147 with (fail)
      go_cut [] from 147 to 155 (fun W => Cel W g #[.slice a0 P.pr.length c0, .slice a1 P.pd.length c1, .slice a2 C.length c2, .int .i64 qu, .int .i64 bu, .slice a5 (U.length - 1) c5, .slice a6 (G.length - 1) c6] 28 ∧ OwnRows W wr.heap.size (.slice a0 P.pr.length c0) (.slice a1 P.pd.length c1) (.slice a2 C.length c2) (.slice a5 U.length c5) (.slice a6 G.length c6) P.pr P.pd C U G ∧ Since wr W)
      case first =>
        by_cases h0 : G.length = 0
        · have h1 : ¬ (0 : Int) < (G.length : Int) := by omega
          replace h0 := Lib.hid h0
          go_wp2_with fail
          go_meet
          replace h0 := h0.out
          case rel => exact ⟨by rw [show G.length - 1 = G.length by omega]; exact hC, hR, hSq⟩
        · have h1 : (0 : Int) < (G.length : Int) := by omega
          have h2 : IntKind.i64.wrap ((G.length : Int) - 1) = ((G.length - 1 : Nat) : Int) := by rw [IntWalk.i64_in] <;> omega
          have h3 : ((G.length - 1 : Nat) : Int) ≤ (c6 : Int) := by omega
          have h4 : (0 : Int) ≤ ((G.length - 1 : Nat) : Int) := by omega
          obtain ⟨m, hm⟩ : ∃ m, Hid (m = G.length - 1) := ⟨_, rfl⟩
          go_wp2_with fail
          go_meet
          case rel => exact ⟨hC.set (j := 6) (u := .slice a6 (G.length - 1) c6) rfl, hR.cel hC (grown_setCell _ _ _ _), hSq.setCell hge _⟩
      case rest =>
      clear q_c q_f q_l hC hR hSq
      obtain ⟨hC, hR, hSq⟩ := hcut
      have q_c : wc.cell? ⟨g, 2, none⟩ = some (.slice a2 C.length c2) := hC.cell 2
      have q_f : wc.frozen? ⟨g, 2, none⟩ = false := hC.free 2
      have q_l : g < wc.heap.size := hC.lt
      go_upto_if 159 with (fail)
      go_cut [] from 159 to 167 (fun W => Cel W g #[.slice a0 P.pr.length c0, .slice a1 P.pd.length c1, .slice a2 (C.length - 1) c2, .int .i64 qu, .int .i64 bu, .slice a5 (U.length - 1) c5, .slice a6 (G.length - 1) c6] 28 ∧ OwnRows W wr.heap.size (.slice a0 P.pr.length c0) (.slice a1 P.pd.length c1) (.slice a2 C.length c2) (.slice a5 U.length c5) (.slice a6 G.length c6) P.pr P.pd C U G ∧ Since wr W)
      case first =>
        by_cases h0 : C.length = 0
        · have h1 : ¬ (0 : Int) < (C.length : Int) := by omega
          replace h0 := Lib.hid h0
          go_wp2_with fail
          go_meet
          replace h0 := h0.out
          case rel => exact ⟨by rw [show C.length - 1 = C.length by omega]; exact hC, hR, hSq⟩
        · have h1 : (0 : Int) < (C.length : Int) := by omega
          have h2 : IntKind.i64.wrap ((C.length : Int) - 1) = ((C.length - 1 : Nat) : Int) := by rw [IntWalk.i64_in] <;> omega
          have h3 : ((C.length - 1 : Nat) : Int) ≤ (c2 : Int) := by omega
          have h4 : (0 : Int) ≤ ((C.length - 1 : Nat) : Int) := by omega
          obtain ⟨m, hm⟩ : ∃ m, Hid (m = C.length - 1) := ⟨_, rfl⟩
          go_wp2_with fail
          go_meet
          case rel => exact ⟨hC.set (j := 2) (u := .slice a2 (C.length - 1) c2) rfl, hR.cel hC (grown_setCell _ _ _ _), hSq.setCell hge _⟩
      case rest =>
      clear q_c q_f q_l hC hR hSq
      obtain ⟨hC, hR, hSq⟩ := hcut
      have q_c0 : wc.cell? ⟨g, 0, none⟩ = some (.slice a0 P.pr.length c0) := hC.cell 0
      have q_c1 : wc.cell? ⟨g, 1, none⟩ = some (.slice a1 P.pd.length c1) := hC.cell 1
      have q_c2 : wc.cell? ⟨g, 2, none⟩ = some (.slice a2 (C.length - 1) c2) := hC.cell 2
      have q_c3 : wc.cell? ⟨g, 3, none⟩ = some (.int .i64 qu) := hC.cell 3
      have q_c4 : wc.cell? ⟨g, 4, none⟩ = some (.int .i64 bu) := hC.cell 4
      have q_c5 : wc.cell? ⟨g, 5, none⟩ = some (.slice a5 (U.length - 1) c5) := hC.cell 5
      have q_c6 : wc.cell? ⟨g, 6, none⟩ = some (.slice a6 (G.length - 1) c6) := hC.cell 6
      have HCQ := Lib.hid (fcheck_any a0 a1 a2 a5 a6 P.pr.length c0 P.pd.length c1 (C.length - 1) c2 (U.length - 1) c5 (G.length - 1) c6 qu bu { P with cl := P.cl.take (C.length - 1), ru := P.ru.take (U.length - 1), gr := P.gr.take (G.length - 1) } wc (polcut_at hR HEC.out HEU.out HEG.out HPOL.out.2.2.2.1 HPOL.out.2.2.2.2.1 (by omega) (by omega) (by omega)) (cut_fits HFT.out _ _ _) (HE.out.next (HS.trans hSq)))
      rw [check_cut HCHK.out] at HCQ
      go_wp2_with fail
      refine HCQ.out.mono ?_
      rintro e w9 ⟨rfl, hb⟩
      go_wp2_with fail
      go_ret
      exact ⟨rfl, hS.trans ((HS.trans hSq).trans hb)⟩
end Go.Proofs.YtpkggopaigledaaDoor
