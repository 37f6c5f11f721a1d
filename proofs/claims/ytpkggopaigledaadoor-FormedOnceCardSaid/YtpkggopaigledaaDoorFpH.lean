/- FormedOnce returns true. -/
import Derived.Test.YtpkggopaigledaaDoorFpG
import Derived.Test.YtpkggopaigledaaDoorFoY
import Derived.Test.YtpkggopaigledaaDoorPick
namespace Go.Proofs.YtpkggopaigledaaDoor
open Go.RowKit

/-- A policy in a box of its own, behind a world. -/
def BoxPol (w3 W : World) (g : Nat) (qu bu : Int) (Q : Pol) : Prop :=
  ∃ a0 a1 a2 a5 a6 : Option Addr, ∃ n0 c0 n1 c1 n2 c2 n5 c5 n6 c6 : Nat, PBox W g a0 a1 a2 a5 a6 n0 c0 n1 c1 n2 c2 n5 c5 n6 c6 qu bu ∧ PolAt W a0 a1 a2 a5 a6 n0 c0 n1 c1 n2 c2 n5 c5 n6 c6 qu bu Q ∧ Since w3 W
theorem boxpol_of {w3 W : World} {g B : Nat} {a0 a1 a2 a5 a6 : Option Addr} {n0 n1 n2 n5 n6 c0 c1 c2 c5 c6 : Nat} {qu bu : Int} {pr : List Txt} {pd : List (Txt × Int)} {cl : List (Txt × List Txt)} {U : List ((Atm × List Atm) × Value)} {G : List ((Txt × Atm × List Atm) × Value)} {Q : Pol}
    (hC : Cel W g #[.slice a0 n0 c0, .slice a1 n1 c1, .slice a2 n2 c2, .int .i64 qu, .int .i64 bu, .slice a5 n5 c5, .slice a6 n6 c6] 28)
    (h0 : W.ownsRow B 9 1 (.slice a0 n0 c0) pr.length (pr.flatMap txtL)) (h1 : W.ownsRow B 47 2 (.slice a1 n1 c1) pd.length (pd.flatMap prdL)) (h2 : CRow W (.slice a2 n2 c2) cl) (h5 : NestR W B (.slice a5 n5 c5) U) (h6 : NestG W B (.slice a6 n6 c6) G)
    (hs : Since w3 W) (hQ : Q = ⟨pr, pd, cl, qu, bu, U.map Prod.fst, G.map Prod.fst⟩) : BoxPol w3 W g qu bu Q := by
  subst hQ
  exact ⟨a0, a1, a2, a5, a6, n0, c0, n1, c1, n2, c2, n5, c5, n6, c6, ⟨hC.cell 0, hC.cell 1, hC.cell 2, hC.cell 3, hC.cell 4, hC.cell 5, hC.cell 6⟩, ⟨own_trow h0, own_prow h1, h2, rfl, rfl, nest_rrow h5, nest_grow h6⟩, hs⟩
theorem pick_since (n : Int) (m : Nat) (h1 : -9223372036854775808 ≤ n) (h2 : n ≤ 9223372036854775807) (hm : 1 ≤ m) (hM : m ≤ 1000000) :
    ∃ k : Nat, k < m ∧ ∀ W : World, Calls Tryd.prog 12 #[.int .i64 n, .int .i64 (m : Int)] W fun e w' => e = .returned (.int .i64 (k : Int)) ∧ Since W w' := by
  have h3 := Int.emod_nonneg n (show (m : Int) ≠ 0 by omega)
  have h4 := Int.emod_lt_of_pos n (show (0 : Int) < (m : Int) by omega)
  refine ⟨(n % (m : Int)).toNat, by omega, fun W => (pick_any n m W h1 h2 (by omega) (by omega)).mono ?_⟩
  rintro e w' ⟨rfl, rfl⟩
  exact ⟨by rw [Int.toNat_of_nonneg h3], Since.refl _⟩
theorem check_len {P : Pol} (h : checkE P = 0) : P.pr.length ≤ 16 ∧ P.pd.length ≤ 32 := by
  have h0 := (check_parts h).1
  have h1 := (check_parts h).2.1
  rw [prinsE] at h0
  rw [predsE] at h1
  constructor
  · by_cases hb : P.pr.length < 1 ∨ 16 < P.pr.length
    · rw [if_pos hb] at h0; cases h0
    · omega
  · by_cases hb : 32 < P.pd.length
    · rw [if_pos hb] at h1; cases h1
    · omega
theorem prdInfo : (Tryd.prog.info? 47).map (fun i => (i.zero, i.size, i.bytes)) = some (some (.agg #[.string ByteArray.empty, .int .i64 0]), 2, 24) := by kernel_rfl

set_option maxHeartbeats 0 in
set_option maxRecDepth 100000 in
theorem once_any (ap ad ac ar ag : Option Addr) (np cp nd cd nc cc nr cr ng cg : Nat) (qu bu : Int) (P : Pol) (n : Int) (w : World) (hP : PolAt w ap ad ac ar ag np cp nd cd nc cc nr cr ng cg qu bu P) (hf : PolBig P) (hn1 : -9223372036854775808 ≤ n) (hn2 : n ≤ 9223372036854775807) (hE : Env w) :
    Calls Tryd.prog 4 #[.agg #[.slice ap np cp, .slice ad nd cd, .slice ac nc cc, .int .i64 qu, .int .i64 bu, .slice ar nr cr, .slice ag ng cg], .int .i64 n] w fun e w' => e = .returned (.bool true) ∧ Since w w' := by
  obtain ⟨iS, hi, hz0, hz1, hz2⟩ := info_parts own_txt_info
  have IS := Lib.hid (And.intro hi (And.intro hz0 (And.intro hz1 hz2)))
  clear hi hz0 hz1 hz2
  obtain ⟨iD, hi, hz0, hz1, hz2⟩ := info_parts prdInfo
  have ID := Lib.hid (And.intro hi (And.intro hz0 (And.intro hz1 hz2)))
  clear hi hz0 hz1 hz2
  obtain ⟨iL, hi, hz0, hz1, hz2⟩ := info_parts clrInfo
  have IL := Lib.hid (And.intro hi (And.intro hz0 (And.intro hz1 hz2)))
  clear hi hz0 hz1 hz2
  have hS : Since w (w.alloc (.cells #[.slice ap np cp, .slice ad nd cd, .slice ac nc cc, .int .i64 qu, .int .i64 bu, .slice ar nr cr, .slice ag ng cg] 28)) := (Since.refl _).alloc _
  obtain ⟨p_c0, p_c1, p_c2, p_c3, p_c4, p_c5, p_c6⟩ := pbox_new w ap ad ac ar ag np cp nd cd nc cc nr cr ng cg qu bu 28
  obtain ⟨L, hL⟩ : ∃ B, Hid (B = lightPol P) := ⟨_, rfl⟩
  obtain ⟨K, hK⟩ : ∃ B, Hid (B = checkE P) := ⟨_, rfl⟩
  have HPOL := Lib.hid (hP.next hS)
  have HE := Lib.hid (hE.next hS)
  clear hP hE
  go_enter Tryd.func4, Tryd.ntmps4
  go_wp2_with fail
  have HS := Since.refl (w.alloc (.cells #[.slice ap np cp, .slice ad nd cd, .slice ac nc cc, .int .i64 qu, .int .i64 bu, .slice ar nr cr, .slice ag ng cg] 28))
  generalize (w.alloc (.cells #[.slice ap np cp, .slice ad nd cd, .slice ac nc cc, .int .i64 qu, .int .i64 bu, .slice ar nr cr, .slice ag ng cg] 28)) = w1 at *
  refine (lives12_any _ (HE.out.next HS)).mono ?_
  rintro e wl1 ⟨rfl, hb⟩
  replace HS := HS.trans hb; replace p_c0 := hb.cell p_c0; replace p_c1 := hb.cell p_c1; replace p_c2 := hb.cell p_c2; replace p_c3 := hb.cell p_c3; replace p_c4 := hb.cell p_c4; replace p_c5 := hb.cell p_c5; replace p_c6 := hb.cell p_c6
  clear hb
  go_wp2_with fail
  have HLP := Lib.hid (lightpol_any ap ad ac ar ag np cp nd cd nc cc nr cr ng cg qu bu P _ (HPOL.out.next HS) hf)
  rw [← hL.out] at HLP
  refine (HLP.out).mono ?_
  rintro e wl2 ⟨rfl, hb⟩
  replace HS := HS.trans hb; replace p_c0 := hb.cell p_c0; replace p_c1 := hb.cell p_c1; replace p_c2 := hb.cell p_c2; replace p_c3 := hb.cell p_c3; replace p_c4 := hb.cell p_c4; replace p_c5 := hb.cell p_c5; replace p_c6 := hb.cell p_c6
  clear hb
  clear HLP
  cases L
  · go_wp2_with fail
    go_ret
    exact ⟨rfl, hS.trans HS⟩
  have hft := light_fits hL.out.symm hf
  have lc7 : P.cl.length ≤ 70 := by
    have h := hL.out.symm
    simp only [lightPol, lightHead, Bool.and_eq_true, decide_eq_true_eq] at h
    omega
  go_wp2_with fail
  have HCK := Lib.hid (fcheck_any ap ad ac ar ag np cp nd cd nc cc nr cr ng cg qu bu P _ (HPOL.out.next HS) hft (HE.out.next HS))
  rw [← hK.out] at HCK
  refine (HCK.out).mono ?_
  rintro e wl3 ⟨rfl, hb⟩
  replace HS := HS.trans hb; replace p_c0 := hb.cell p_c0; replace p_c1 := hb.cell p_c1; replace p_c2 := hb.cell p_c2; replace p_c3 := hb.cell p_c3; replace p_c4 := hb.cell p_c4; replace p_c5 := hb.cell p_c5; replace p_c6 := hb.cell p_c6
  clear hb
  clear HCK
  by_cases hk0 : K = 0
  case neg =>
    have hk1 : (K != 0) = true := by simpa using hk0
    go_wp2_with fail
    go_ret
    exact ⟨rfl, hS.trans HS⟩
  subst hk0
  have hchk := hK.out.symm
  have HCHK := Lib.hid hchk
  have HFT := Lib.hid hft
  clear hchk hft hf hL hK
  have lr := HFT.out.2.1
  have lp := HFT.out.2.2.2.1
  have lc := HFT.out.2.2.2.2.2.1
  have fp := HPOL.out.1.form
  have fd := HPOL.out.2.1.form
  have fc := HPOL.out.2.2.1.form
  have hpos : 1 ≤ np := by
    have h0 := (check_parts HCHK.out).1
    rw [prinsE] at h0
    by_cases hb : P.pr.length < 1 ∨ 16 < P.pr.length
    · rw [if_pos hb] at h0; cases h0
    · omega
  have Fp := Lib.hid fp
  have Fd := Lib.hid fd
  have Fc := Lib.hid fc
  clear fp fd fc
  go_wp2_with fail
  refine (ownpol_any ap ad ac ar ag np cp nd cd nc cc nr cr ng cg qu bu P wl3 (HPOL.out.next HS) HFT.out).mono ?_
  rintro e wqA ⟨a0, a1, a2, a5, a6, c0, c1, c2, c5, c6, C, U, G, eC, eU, eG, rfl, hR, hb⟩
  have hC : Cel (wqA.alloc (.cells #[.slice a0 P.pr.length c0, .slice a1 P.pd.length c1, .slice a2 C.length c2, .int .i64 qu, .int .i64 bu, .slice a5 U.length c5, .slice a6 G.length c6] 28)) wqA.heap.size #[.slice a0 P.pr.length c0, .slice a1 P.pd.length c1, .slice a2 C.length c2, .int .i64 qu, .int .i64 bu, .slice a5 U.length c5, .slice a6 G.length c6] 28 := heap_alloc_new _ _
  replace hR := hR.next ((Since.refl _).alloc (.cells #[.slice a0 P.pr.length c0, .slice a1 P.pd.length c1, .slice a2 C.length c2, .int .i64 qu, .int .i64 bu, .slice a5 U.length c5, .slice a6 G.length c6] 28))
  have hSq : Since wl3 (wqA.alloc (.cells #[.slice a0 P.pr.length c0, .slice a1 P.pd.length c1, .slice a2 C.length c2, .int .i64 qu, .int .i64 bu, .slice a5 U.length c5, .slice a6 G.length c6] 28)) := hb.alloc _
  have hge : wl3.heap.size ≤ wqA.heap.size := hb.size
  have pA : At wl3 w.heap.size 0 #[.slice ap np cp, .slice ad nd cd, .slice ac nc cc, .int .i64 qu, .int .i64 bu, .slice ar nr cr, .slice ag ng cg] := PBox.at ⟨p_c0, p_c1, p_c2, p_c3, p_c4, p_c5, p_c6⟩
  have PW := Lib.hid pA
  have HPW := Lib.hid (HPOL.out.next HS)
  replace hb := hb.alloc (.cells #[.slice a0 P.pr.length c0, .slice a1 P.pd.length c1, .slice a2 C.length c2, .int .i64 qu, .int .i64 bu, .slice a5 U.length c5, .slice a6 G.length c6] 28)
  replace p_c0 := hb.cell p_c0; replace p_c1 := hb.cell p_c1; replace p_c2 := hb.cell p_c2; replace p_c3 := hb.cell p_c3; replace p_c4 := hb.cell p_c4; replace p_c5 := hb.cell p_c5; replace p_c6 := hb.cell p_c6
  clear hb
  go_wp2_with fail
  generalize wqA.alloc (.cells #[.slice a0 P.pr.length c0, .slice a1 P.pd.length c1, .slice a2 C.length c2, .int .i64 qu, .int .i64 bu, .slice a5 U.length c5, .slice a6 G.length c6] 28) = wrA at *
  generalize wqA.heap.size = gA at *
  obtain ⟨k, hk, hpk⟩ := pick_since n np hn1 hn2 hpos (by have := Fp.out; omega)
  have HPK := Lib.hid hpk
  clear hpk
  have hkl : k < P.pr.length := by have := Fp.out; omega
  obtain ⟨b, o, e1, hc, hat⟩ := HPW.out.1.get (by omega)
  have d1 := hat k hkl
  obtain ⟨x, hx⟩ : ∃ x, Hid (x = P.pr[k]) := ⟨P.pr[k], rfl⟩
  unfold TxtAt at d1
  rw [Nat.mul_one, ← hx.out] at d1
  simp only [strV] at d1
  have xA : At wl3 b (o + k) #[.string ⟨x.toArray⟩] := At.one d1
  have hxm : x ∈ P.pr := by rw [hx.out]; exact List.getElem_mem hkl
  have pA2 := pA
  rw [e1] at pA2
  clear hat d1 hx e1
  go_cut [] from 23 to 36 (fun W => BoxPol wl3 W gA qu bu { P with pr := P.pr ++ [x] })
  case first =>
    have ha0 : Since wl3 wrA.drew := (hSq).drew
    replace hC := hC.next ((Since.refl wrA).drew)
    replace hR := hR.next ((Since.refl wrA).drew)
    refine hx_begin (S := fun W => Since wl3 W) (by kernel_rfl) ha0 (by kernel_rfl) (fun _ _ _ _ _ h => h) (fun hns hQ => ?_)
    refine hx_take (i := 0) (oi := _) (v := .pointer (some ⟨gA, 0, none⟩)) rfl rfl hns (by kernel_rfl) (by kernel_rfl) hQ (by kernel_rfl) (fun _ _ => by kernel_rfl) ha0 ?_
    refine hx_take (i := 2) (oi := _) (v := .pointer (some ⟨w.heap.size, 0, none⟩)) rfl rfl hns (by kernel_rfl) (by kernel_rfl) hQ (by kernel_rfl) (fun _ _ => by kernel_rfl) ha0 ?_
    refine hx_take (i := 3) (oi := _) (v := .slice (some ⟨b, o, none⟩) np cp) rfl rfl hns (by kernel_rfl) (by kernel_rfl) hQ (by kernel_rfl) (fun W hW => ld_one rfl (by kernel_rfl) (by kernel_rfl) W (pA2.next hW 0 _ rfl)) ha0 ?_
    refine hx_take (i := 4) (oi := _) (v := .int .i64 n) rfl rfl hns (by kernel_rfl) (by kernel_rfl) hQ (by kernel_rfl) (fun _ _ => by kernel_rfl) ha0 ?_
    refine hx_take (i := 5) (oi := _) (v := .pointer (some ⟨w.heap.size, 0, none⟩)) rfl rfl hns (by kernel_rfl) (by kernel_rfl) hQ (by kernel_rfl) (fun _ _ => by kernel_rfl) ha0 ?_
    refine hx_take (i := 6) (oi := _) (v := .slice (some ⟨b, o, none⟩) np cp) rfl rfl hns (by kernel_rfl) (by kernel_rfl) hQ (by kernel_rfl) (fun W hW => ld_one rfl (by kernel_rfl) (by kernel_rfl) W (pA2.next hW 0 _ rfl)) ha0 ?_
    refine hx_take (i := 7) (oi := _) (v := .int .i64 (np : Int)) rfl rfl hns (by kernel_rfl) (by kernel_rfl) hQ (by kernel_rfl) (fun _ _ => by kernel_rfl) ha0 ?_
    refine hx_two_vc (i := 1) (j := 8) (.slice a0 P.pr.length c0) (wrA.drew) 12 #[.int .i64 n, .int .i64 (np : Int)] rfl rfl (by kernel_rfl) (by kernel_rfl) (by kernel_rfl) rfl (ld_one rfl (by kernel_rfl) (by kernel_rfl) wrA.drew (hC.cell 0)) ha0 rfl (by kernel_rfl) (HPK.out _) ?_ ?_
    · refine hx_call (i := 8) (oi := _) 12 #[.int .i64 n, .int .i64 (np : Int)] rfl rfl (by kernel_rfl) (by kernel_rfl) (by kernel_rfl) (HPK.out _) ?_
      rintro e wx51 ⟨rfl, hb⟩
      have ha1 : Since wl3 wx51 := ha0.trans hb
      replace hC := hC.next hb
      replace hR := hR.next hb
      clear hb
      refine ⟨_, rfl, ha1, ?_⟩
      refine hx_take (i := 9) (oi := _) (v := .pointer (some ⟨b, o + k, none⟩)) rfl rfl hns (by kernel_rfl) (by kernel_rfl) hQ (by kernel_rfl) (fun W _ => ix_sl1 (n := np) (c := cp) rfl (by kernel_rfl) (by kernel_rfl) (by kernel_rfl) rfl hk W) ha1 ?_
      refine hx_take (i := 10) (oi := _) (v := .string ⟨x.toArray⟩) rfl rfl hns (by kernel_rfl) (by kernel_rfl) hQ (by kernel_rfl) (fun W hW => ld_one rfl (by kernel_rfl) (by kernel_rfl) W (xA.next hW 0 _ rfl)) ha1 ?_
      have ha2 : Since wl3 (wx51.alloc (.cells #[.string ⟨x.toArray⟩] 9)) := ha1.alloc _
      replace hC := hC.next ((Since.refl wx51).alloc (.cells #[.string ⟨x.toArray⟩] 9))
      replace hR := hR.next ((Since.refl wx51).alloc (.cells #[.string ⟨x.toArray⟩] 9))
      refine hx_make (i := 11) (oi := _) (.slice (some ⟨wx51.heap.size, 0, none⟩) 1 1) (wx51.alloc (.cells #[.string ⟨x.toArray⟩] 9)) rfl rfl (by kernel_rfl) (by kernel_rfl) (by kernel_rfl) ha2 ?_
      refine hx_append (i := 12) (oi := _) (.tmp 24) (.tmp 34) 22 wl3.heap.size 9 iS (.string ByteArray.empty) 1 16 (.slice a0 P.pr.length c0) P.pr.length _ _ (some ⟨wx51.heap.size, 0, none⟩) 1 1 [.string ⟨x.toArray⟩] rfl rfl (by kernel_rfl) (by kernel_rfl) rfl Tryd.underlying22 IS.out.1 IS.out.2.1 IS.out.2.2.1 IS.out.2.2.2 rfl (by decide) (by kernel_rfl) hR.h0 (by kernel_rfl) (reads_new _ #[.string ⟨x.toArray⟩] _ 1 rfl) (by simp [Value.oneCell']) (by unfold maxLen; omega) (by omega) (ha2).size ?_
      intro v4 w4 hown4 hg4 hb4
      have ha3 : Since wl3 w4 := Below.grown ha2 hg4 (ha2).size (own_ge hR.h0)
      obtain ⟨a4, c4, rfl⟩ := own_slice hown4
      have hC4 := cel_own hC hR.h0 (by decide) hg4
      have h04 : w4.ownsRow wl3.heap.size 9 1 (.slice a4 (P.pr.length + 1) c4) (P.pr ++ [x]).length ((P.pr ++ [x]).flatMap txtL) := by simpa [txtL, strV] using hown4
      have h14 := own_other hR.h1 hR.h0 (by decide) hg4
      have h24 := hR.h2.other hg4 (own_kind_apart hR.h2.row hR.h0 (by decide)) hR.h02
      have h54 := hR.h5.own hR.h0 hg4 (by decide) (by decide)
      have h64 := hR.h6.own hR.h0 hg4 (by decide) (by decide)
      clear hC hR hown4 hg4 hb4
      refine ⟨ha3, ?_⟩
      refine hx_take (i := 13) (oi := _) (v := .pointer (some ⟨gA, 0, none⟩)) rfl rfl hns (by kernel_rfl) (by kernel_rfl) hQ (by kernel_rfl) (fun _ _ => by kernel_rfl) ha3 ?_
      have ha4 : Since wl3 (w4.setCell ⟨gA, 0, none⟩ (.slice a4 (P.pr.length + 1) c4)) := ha3.setCell hge _
      refine hx_store (i := 14) (oi := _) (w4.setCell ⟨gA, 0, none⟩ (.slice a4 (P.pr.length + 1) c4)) rfl rfl (by kernel_rfl) (by kernel_rfl) (st_txs rfl (by kernel_rfl) (by kernel_rfl) _ hC4 rfl) ha4 ?_
      replace h04 := h04.kept (grown_setCell w4 gA 0 (.slice a4 (P.pr.length + 1) c4)) (own_cel_ne h04 hC4 (by decide)); replace h14 := h14.kept (grown_setCell w4 gA 0 (.slice a4 (P.pr.length + 1) c4)) (own_cel_ne h14 hC4 (by decide)); replace h24 := h24.cel hC4 (grown_setCell w4 gA 0 (.slice a4 (P.pr.length + 1) c4)) (by decide) (by decide); replace h54 := h54.cel hC4 (grown_setCell w4 gA 0 (.slice a4 (P.pr.length + 1) c4)) (by decide) (by decide); replace h64 := h64.cel hC4 (grown_setCell w4 gA 0 (.slice a4 (P.pr.length + 1) c4)) (by decide) (by decide)
      replace hC4 := hC4.set (j := 0) (u := .slice a4 (P.pr.length + 1) c4) rfl
      refine wpAnyH_done (by kernel_rfl) ?_ _
      clear hns hQ
      simp only [List.set_cons_zero, List.set_cons_succ]
      go_wp2_with fail
      go_meet
      case rel => exact boxpol_of hC4 h04 h14 (nest_crow h24) h54 h64 ha4 (by rw [eC, eU, eG, ← HPW.out.2.2.2.1, ← HPW.out.2.2.2.2.1])
    · rintro e wx51 ⟨rfl, hb⟩
      have ha1 : Since wl3 wx51 := ha0.trans hb
      replace hC := hC.next hb
      replace hR := hR.next hb
      clear hb
      refine ⟨_, rfl, ha1, ?_⟩
      refine hx_take (i := 9) (oi := _) (v := .pointer (some ⟨b, o + k, none⟩)) rfl rfl hns (by kernel_rfl) (by kernel_rfl) hQ (by kernel_rfl) (fun W _ => ix_sl1 (n := np) (c := cp) rfl (by kernel_rfl) (by kernel_rfl) (by kernel_rfl) rfl hk W) ha1 ?_
      refine hx_take (i := 10) (oi := _) (v := .string ⟨x.toArray⟩) rfl rfl hns (by kernel_rfl) (by kernel_rfl) hQ (by kernel_rfl) (fun W hW => ld_one rfl (by kernel_rfl) (by kernel_rfl) W (xA.next hW 0 _ rfl)) ha1 ?_
      refine hx_two_vv (i := 1) (j := 11) (.slice a0 P.pr.length c0) (wx51) (.slice (some ⟨wx51.heap.size, 0, none⟩) 1 1) ((wx51.alloc (.cells #[.string ⟨x.toArray⟩] 9))) rfl rfl (by kernel_rfl) (by kernel_rfl) (by kernel_rfl) rfl (ld_one rfl (by kernel_rfl) (by kernel_rfl) wx51 (hC.cell 0)) ha1 rfl (by kernel_rfl) (ha1.alloc _) ?_ ?_
      · have ha2 : Since wl3 (wx51.alloc (.cells #[.string ⟨x.toArray⟩] 9)) := ha1.alloc _
        replace hC := hC.next ((Since.refl wx51).alloc (.cells #[.string ⟨x.toArray⟩] 9))
        replace hR := hR.next ((Since.refl wx51).alloc (.cells #[.string ⟨x.toArray⟩] 9))
        refine hx_make (i := 11) (oi := _) (.slice (some ⟨wx51.heap.size, 0, none⟩) 1 1) (wx51.alloc (.cells #[.string ⟨x.toArray⟩] 9)) rfl rfl (by kernel_rfl) (by kernel_rfl) (by kernel_rfl) ha2 ?_
        refine hx_append (i := 12) (oi := _) (.tmp 24) (.tmp 34) 22 wl3.heap.size 9 iS (.string ByteArray.empty) 1 16 (.slice a0 P.pr.length c0) P.pr.length _ _ (some ⟨wx51.heap.size, 0, none⟩) 1 1 [.string ⟨x.toArray⟩] rfl rfl (by kernel_rfl) (by kernel_rfl) rfl Tryd.underlying22 IS.out.1 IS.out.2.1 IS.out.2.2.1 IS.out.2.2.2 rfl (by decide) (by kernel_rfl) hR.h0 (by kernel_rfl) (reads_new _ #[.string ⟨x.toArray⟩] _ 1 rfl) (by simp [Value.oneCell']) (by unfold maxLen; omega) (by omega) (ha2).size ?_
        intro v4 w4 hown4 hg4 hb4
        have ha3 : Since wl3 w4 := Below.grown ha2 hg4 (ha2).size (own_ge hR.h0)
        obtain ⟨a4, c4, rfl⟩ := own_slice hown4
        have hC4 := cel_own hC hR.h0 (by decide) hg4
        have h04 : w4.ownsRow wl3.heap.size 9 1 (.slice a4 (P.pr.length + 1) c4) (P.pr ++ [x]).length ((P.pr ++ [x]).flatMap txtL) := by simpa [txtL, strV] using hown4
        have h14 := own_other hR.h1 hR.h0 (by decide) hg4
        have h24 := hR.h2.other hg4 (own_kind_apart hR.h2.row hR.h0 (by decide)) hR.h02
        have h54 := hR.h5.own hR.h0 hg4 (by decide) (by decide)
        have h64 := hR.h6.own hR.h0 hg4 (by decide) (by decide)
        clear hC hR hown4 hg4 hb4
        refine ⟨ha3, ?_⟩
        refine hx_take (i := 13) (oi := _) (v := .pointer (some ⟨gA, 0, none⟩)) rfl rfl hns (by kernel_rfl) (by kernel_rfl) hQ (by kernel_rfl) (fun _ _ => by kernel_rfl) ha3 ?_
        have ha4 : Since wl3 (w4.setCell ⟨gA, 0, none⟩ (.slice a4 (P.pr.length + 1) c4)) := ha3.setCell hge _
        refine hx_store (i := 14) (oi := _) (w4.setCell ⟨gA, 0, none⟩ (.slice a4 (P.pr.length + 1) c4)) rfl rfl (by kernel_rfl) (by kernel_rfl) (st_txs rfl (by kernel_rfl) (by kernel_rfl) _ hC4 rfl) ha4 ?_
        replace h04 := h04.kept (grown_setCell w4 gA 0 (.slice a4 (P.pr.length + 1) c4)) (own_cel_ne h04 hC4 (by decide)); replace h14 := h14.kept (grown_setCell w4 gA 0 (.slice a4 (P.pr.length + 1) c4)) (own_cel_ne h14 hC4 (by decide)); replace h24 := h24.cel hC4 (grown_setCell w4 gA 0 (.slice a4 (P.pr.length + 1) c4)) (by decide) (by decide); replace h54 := h54.cel hC4 (grown_setCell w4 gA 0 (.slice a4 (P.pr.length + 1) c4)) (by decide) (by decide); replace h64 := h64.cel hC4 (grown_setCell w4 gA 0 (.slice a4 (P.pr.length + 1) c4)) (by decide) (by decide)
        replace hC4 := hC4.set (j := 0) (u := .slice a4 (P.pr.length + 1) c4) rfl
        refine wpAnyH_done (by kernel_rfl) ?_ _
        clear hns hQ
        simp only [List.set_cons_zero, List.set_cons_succ]
        go_wp2_with fail
        go_meet
        case rel => exact boxpol_of hC4 h04 h14 (nest_crow h24) h54 h64 ha4 (by rw [eC, eU, eG, ← HPW.out.2.2.2.1, ← HPW.out.2.2.2.2.1])
      · have ha2 : Since wl3 (wx51.alloc (.cells #[.string ⟨x.toArray⟩] 9)) := ha1.alloc _
        replace hC := hC.next ((Since.refl wx51).alloc (.cells #[.string ⟨x.toArray⟩] 9))
        replace hR := hR.next ((Since.refl wx51).alloc (.cells #[.string ⟨x.toArray⟩] 9))
        refine hx_make (i := 1) (oi := _) (.slice a0 P.pr.length c0) ((wx51.alloc (.cells #[.string ⟨x.toArray⟩] 9))) rfl rfl (by kernel_rfl) (by kernel_rfl) (ld_one rfl (by kernel_rfl) (by kernel_rfl) (wx51.alloc (.cells #[.string ⟨x.toArray⟩] 9)) (hC.cell 0)) ha2 ?_
        refine hx_append (i := 12) (oi := _) (.tmp 24) (.tmp 34) 22 wl3.heap.size 9 iS (.string ByteArray.empty) 1 16 (.slice a0 P.pr.length c0) P.pr.length _ _ (some ⟨wx51.heap.size, 0, none⟩) 1 1 [.string ⟨x.toArray⟩] rfl rfl (by kernel_rfl) (by kernel_rfl) rfl Tryd.underlying22 IS.out.1 IS.out.2.1 IS.out.2.2.1 IS.out.2.2.2 rfl (by decide) (by kernel_rfl) hR.h0 (by kernel_rfl) (reads_new _ #[.string ⟨x.toArray⟩] _ 1 rfl) (by simp [Value.oneCell']) (by unfold maxLen; omega) (by omega) (ha2).size ?_
        intro v4 w4 hown4 hg4 hb4
        have ha3 : Since wl3 w4 := Below.grown ha2 hg4 (ha2).size (own_ge hR.h0)
        obtain ⟨a4, c4, rfl⟩ := own_slice hown4
        have hC4 := cel_own hC hR.h0 (by decide) hg4
        have h04 : w4.ownsRow wl3.heap.size 9 1 (.slice a4 (P.pr.length + 1) c4) (P.pr ++ [x]).length ((P.pr ++ [x]).flatMap txtL) := by simpa [txtL, strV] using hown4
        have h14 := own_other hR.h1 hR.h0 (by decide) hg4
        have h24 := hR.h2.other hg4 (own_kind_apart hR.h2.row hR.h0 (by decide)) hR.h02
        have h54 := hR.h5.own hR.h0 hg4 (by decide) (by decide)
        have h64 := hR.h6.own hR.h0 hg4 (by decide) (by decide)
        clear hC hR hown4 hg4 hb4
        refine ⟨ha3, ?_⟩
        refine hx_take (i := 13) (oi := _) (v := .pointer (some ⟨gA, 0, none⟩)) rfl rfl hns (by kernel_rfl) (by kernel_rfl) hQ (by kernel_rfl) (fun _ _ => by kernel_rfl) ha3 ?_
        have ha4 : Since wl3 (w4.setCell ⟨gA, 0, none⟩ (.slice a4 (P.pr.length + 1) c4)) := ha3.setCell hge _
        refine hx_store (i := 14) (oi := _) (w4.setCell ⟨gA, 0, none⟩ (.slice a4 (P.pr.length + 1) c4)) rfl rfl (by kernel_rfl) (by kernel_rfl) (st_txs rfl (by kernel_rfl) (by kernel_rfl) _ hC4 rfl) ha4 ?_
        replace h04 := h04.kept (grown_setCell w4 gA 0 (.slice a4 (P.pr.length + 1) c4)) (own_cel_ne h04 hC4 (by decide)); replace h14 := h14.kept (grown_setCell w4 gA 0 (.slice a4 (P.pr.length + 1) c4)) (own_cel_ne h14 hC4 (by decide)); replace h24 := h24.cel hC4 (grown_setCell w4 gA 0 (.slice a4 (P.pr.length + 1) c4)) (by decide) (by decide); replace h54 := h54.cel hC4 (grown_setCell w4 gA 0 (.slice a4 (P.pr.length + 1) c4)) (by decide) (by decide); replace h64 := h64.cel hC4 (grown_setCell w4 gA 0 (.slice a4 (P.pr.length + 1) c4)) (by decide) (by decide)
        replace hC4 := hC4.set (j := 0) (u := .slice a4 (P.pr.length + 1) c4) rfl
        refine wpAnyH_done (by kernel_rfl) ?_ _
        clear hns hQ
        simp only [List.set_cons_zero, List.set_cons_succ]
        go_wp2_with fail
        go_meet
        case rel => exact boxpol_of hC4 h04 h14 (nest_crow h24) h54 h64 ha4 (by rw [eC, eU, eG, ← HPW.out.2.2.2.1, ← HPW.out.2.2.2.2.1])
  case rest =>
  obtain ⟨ba, bd, bc, br, bg, m0, k0, m1, k1, m2, k2, m5, k5, m6, k6, hBX, hQ, hSw⟩ := hcut
  replace HS := HS.trans hSw
  clear p_c0 p_c1 p_c2 p_c3 p_c4 p_c5 p_c6
  have pB := PW.out.next hSw
  have p_c0 : wc.cell? ⟨w.heap.size, 0, none⟩ = some (.slice ap np cp) := pB 0 _ rfl
  have p_c1 : wc.cell? ⟨w.heap.size, 1, none⟩ = some (.slice ad nd cd) := pB 1 _ rfl
  have p_c2 : wc.cell? ⟨w.heap.size, 2, none⟩ = some (.slice ac nc cc) := pB 2 _ rfl
  have p_c3 : wc.cell? ⟨w.heap.size, 3, none⟩ = some (.int .i64 qu) := pB 3 _ rfl
  have p_c4 : wc.cell? ⟨w.heap.size, 4, none⟩ = some (.int .i64 bu) := pB 4 _ rfl
  have p_c5 : wc.cell? ⟨w.heap.size, 5, none⟩ = some (.slice ar nr cr) := pB 5 _ rfl
  have p_c6 : wc.cell? ⟨w.heap.size, 6, none⟩ = some (.slice ag ng cg) := pB 6 _ rfl
  clear pB hSw PW
  obtain ⟨q_c0, q_c1, q_c2, q_c3, q_c4, q_c5, q_c6⟩ := hBX
  have HQ := Lib.hid hQ
  clear hQ
  obtain ⟨V, hV⟩ : ∃ V : Int, Hid (V = if 16 < P.pr.length + 1 then 4 else 5) := ⟨_, rfl⟩
  have hm0 : m0 = P.pr.length + 1 := by have := HQ.out.1.form; simpa using this
  have HM := Lib.hid hm0
  clear hm0
  go_upto_if 40 with (fail)
  obtain ⟨wv, hwv⟩ : ∃ W, Hid (W = wc) := ⟨_, rfl⟩
  go_cut [6] from 37 to 40 (fun s W => s = .int .i64 V ∧ W = wc)
  case first =>
    by_cases h17 : 16 < m0
    · have h17' : (16 : Int) < (m0 : Int) := by omega
      have e : V = 4 := by rw [hV.out, if_pos (by have := HM.out; omega)]
      subst e
      go_wp2_with fail
      go_meet
      case rel => exact ⟨rfl, rfl⟩
    · have h17' : ¬ (16 : Int) < (m0 : Int) := by omega
      have e : V = 5 := by rw [hV.out, if_neg (by have := HM.out; omega)]
      subst e
      go_wp2_with fail
      go_meet
      case rel => exact ⟨rfl, rfl⟩
  case rest =>
  obtain ⟨e6, e7⟩ := hcut
  subst e6
  subst e7
  clear hwv
  go_wp2_with fail
  have HCQ := Lib.hid (fcheck_any ba bd bc br bg m0 k0 m1 k1 m2 k2 m5 k5 m6 k6 qu bu { P with pr := P.pr ++ [x] } _ HQ.out (⟨fun y hy => by rcases List.mem_append.1 hy with h | h; exact HFT.out.1 y h; obtain rfl := List.mem_singleton.1 h; exact HFT.out.1 _ hxm, by rw [List.length_append]; have := HFT.out.2.1; have := (check_len HCHK.out).1; simp; omega, HFT.out.2.2⟩) (HE.out.next HS))
  rw [prins_twice HCHK.out hxm, ← hV.out] at HCQ
  refine (HCQ.out).mono ?_
  rintro e wl4 ⟨rfl, hb⟩
  replace HS := HS.trans hb; replace p_c0 := hb.cell p_c0; replace p_c1 := hb.cell p_c1; replace p_c2 := hb.cell p_c2; replace p_c3 := hb.cell p_c3; replace p_c4 := hb.cell p_c4; replace p_c5 := hb.cell p_c5; replace p_c6 := hb.cell p_c6
  clear hb
  clear HCQ q_c0 q_c1 q_c2 q_c3 q_c4 q_c5 q_c6 HQ
  clear hV HM
  clear HPW HPK xA pA2 hxm hpos hkl hk hc hC hR hge hSq eC eU eG
  go_wp2_with fail
  refine (ownpol_any ap ad ac ar ag np cp nd cd nc cc nr cr ng cg qu bu P wl4 (HPOL.out.next HS) HFT.out).mono ?_
  rintro e wqB ⟨a0, a1, a2, a5, a6, c0, c1, c2, c5, c6, C, U, G, eC, eU, eG, rfl, hR, hb⟩
  have hC : Cel (wqB.alloc (.cells #[.slice a0 P.pr.length c0, .slice a1 P.pd.length c1, .slice a2 C.length c2, .int .i64 qu, .int .i64 bu, .slice a5 U.length c5, .slice a6 G.length c6] 28)) wqB.heap.size #[.slice a0 P.pr.length c0, .slice a1 P.pd.length c1, .slice a2 C.length c2, .int .i64 qu, .int .i64 bu, .slice a5 U.length c5, .slice a6 G.length c6] 28 := heap_alloc_new _ _
  replace hR := hR.next ((Since.refl _).alloc (.cells #[.slice a0 P.pr.length c0, .slice a1 P.pd.length c1, .slice a2 C.length c2, .int .i64 qu, .int .i64 bu, .slice a5 U.length c5, .slice a6 G.length c6] 28))
  have hSq : Since wl4 (wqB.alloc (.cells #[.slice a0 P.pr.length c0, .slice a1 P.pd.length c1, .slice a2 C.length c2, .int .i64 qu, .int .i64 bu, .slice a5 U.length c5, .slice a6 G.length c6] 28)) := hb.alloc _
  have hge : wl4.heap.size ≤ wqB.heap.size := hb.size
  have pA : At wl4 w.heap.size 0 #[.slice ap np cp, .slice ad nd cd, .slice ac nc cc, .int .i64 qu, .int .i64 bu, .slice ar nr cr, .slice ag ng cg] := PBox.at ⟨p_c0, p_c1, p_c2, p_c3, p_c4, p_c5, p_c6⟩
  have PW := Lib.hid pA
  have HPW := Lib.hid (HPOL.out.next HS)
  replace hb := hb.alloc (.cells #[.slice a0 P.pr.length c0, .slice a1 P.pd.length c1, .slice a2 C.length c2, .int .i64 qu, .int .i64 bu, .slice a5 U.length c5, .slice a6 G.length c6] 28)
  replace p_c0 := hb.cell p_c0; replace p_c1 := hb.cell p_c1; replace p_c2 := hb.cell p_c2; replace p_c3 := hb.cell p_c3; replace p_c4 := hb.cell p_c4; replace p_c5 := hb.cell p_c5; replace p_c6 := hb.cell p_c6
  clear hb
  go_wp2_with fail
  generalize wqB.alloc (.cells #[.slice a0 P.pr.length c0, .slice a1 P.pd.length c1, .slice a2 C.length c2, .int .i64 qu, .int .i64 bu, .slice a5 U.length c5, .slice a6 G.length c6] 28) = wrB at *
  generalize wqB.heap.size = gB at *
  obtain ⟨I, hI⟩ : ∃ B, Hid (B = (arityF P.pd [122, 122, 95, 110, 101, 119]).isSome) := ⟨_, rfl⟩
  obtain ⟨N, hN⟩ : ∃ B, Hid (B = (arityF P.pd [122, 122, 95, 110, 101, 119]).getD 0) := ⟨_, rfl⟩
  have HAR := Lib.hid (farity_any ap ad ac ar ag np cp nd cd nc cc nr cr ng cg qu bu P.pd [122, 122, 95, 110, 101, 119] wrB (HPOL.out.next (HS.trans hSq)).2.1 lp)
  rw [← hI.out, ← hN.out] at HAR
  refine HAR.out.mono ?_
  rintro e wz ⟨rfl, hb⟩
  replace hSq := hSq.trans hb
  replace hC := hC.next hb
  replace hR := hR.next hb
  clear hb HAR
  go_wp2_with fail
  obtain ⟨m, hm, hpk⟩ := pick_since n 5 hn1 hn2 (by omega) (by omega)
  have HPK : Hid (∀ W : World, Calls Tryd.prog 12 #[.int .i64 n, .int .i64 5] W fun e w' => e = .returned (.int .i64 (m : Int)) ∧ Since W w') := hpk
  clear hpk
  go_cut [] from 52 to 59 (fun W => BoxPol wl4 W gB qu bu { P with pd := P.pd ++ [([122, 122, 95, 110, 101, 119], (m : Int))] })
  case first =>
    have hb0 : Since wl4 wz.drew := (hSq).drew
    replace hC := hC.next ((Since.refl wz).drew)
    replace hR := hR.next ((Since.refl wz).drew)
    refine hx_begin (S := fun W => Since wl4 W) (by kernel_rfl) hb0 (by kernel_rfl) (fun _ _ _ _ _ h => h) (fun hns hQ => ?_)
    refine hx_take (i := 0) (oi := _) (v := .pointer (some ⟨gB, 1, none⟩)) rfl rfl hns (by kernel_rfl) (by kernel_rfl) hQ (by kernel_rfl) (fun _ _ => by kernel_rfl) hb0 ?_
    refine hx_take (i := 2) (oi := _) (v := .int .i64 n) rfl rfl hns (by kernel_rfl) (by kernel_rfl) hQ (by kernel_rfl) (fun _ _ => by kernel_rfl) hb0 ?_
    refine hx_two_vc (i := 1) (j := 3) (.slice a1 P.pd.length c1) (wz.drew) 12 #[.int .i64 n, .int .i64 5] rfl rfl (by kernel_rfl) (by kernel_rfl) (by kernel_rfl) rfl (ld_one rfl (by kernel_rfl) (by kernel_rfl) wz.drew (hC.cell 1)) hb0 rfl (by kernel_rfl) (HPK.out _) ?_ ?_
    · refine hx_call (i := 3) (oi := _) 12 #[.int .i64 n, .int .i64 5] rfl rfl (by kernel_rfl) (by kernel_rfl) (by kernel_rfl) (HPK.out _) ?_
      rintro e wx61 ⟨rfl, hb⟩
      have hb1 : Since wl4 wx61 := hb0.trans hb
      replace hC := hC.next hb
      replace hR := hR.next hb
      clear hb
      refine ⟨_, rfl, hb1, ?_⟩
      refine hx_take (i := 4) (oi := _) (v := .agg #[.string ⟨#[122, 122, 95, 110, 101, 119]⟩, .int .i64 (m : Int)]) rfl rfl hns (by kernel_rfl) (by kernel_rfl) hQ (by kernel_rfl) (fun _ _ => by kernel_rfl) hb1 ?_
      have hb2 : Since wl4 (wx61.alloc (.cells #[.string ⟨#[122, 122, 95, 110, 101, 119]⟩, .int .i64 (m : Int)] 47)) := hb1.alloc _
      replace hC := hC.next ((Since.refl wx61).alloc (.cells #[.string ⟨#[122, 122, 95, 110, 101, 119]⟩, .int .i64 (m : Int)] 47))
      replace hR := hR.next ((Since.refl wx61).alloc (.cells #[.string ⟨#[122, 122, 95, 110, 101, 119]⟩, .int .i64 (m : Int)] 47))
      refine hx_make (i := 5) (oi := _) (.slice (some ⟨wx61.heap.size, 0, none⟩) 1 1) (wx61.alloc (.cells #[.string ⟨#[122, 122, 95, 110, 101, 119]⟩, .int .i64 (m : Int)] 47)) rfl rfl (by kernel_rfl) (by kernel_rfl) (by kernel_rfl) hb2 ?_
      refine hx_append (i := 6) (oi := _) (.tmp 53) (.tmp 57) 23 wl4.heap.size 47 iD (.agg #[.string ByteArray.empty, .int .i64 0]) 2 24 (.slice a1 P.pd.length c1) P.pd.length _ _ (some ⟨wx61.heap.size, 0, none⟩) 1 1 [.string ⟨#[122, 122, 95, 110, 101, 119]⟩, .int .i64 (m : Int)] rfl rfl (by kernel_rfl) (by kernel_rfl) rfl Tryd.underlying23 ID.out.1 ID.out.2.1 ID.out.2.2.1 ID.out.2.2.2 rfl (by decide) (by kernel_rfl) hR.h1 (by kernel_rfl) (reads_new _ #[.string ⟨#[122, 122, 95, 110, 101, 119]⟩, .int .i64 (m : Int)] _ 2 rfl) (by simp [Value.oneCell']) (by unfold maxLen; omega) (by omega) (hb2).size ?_
      intro v4 w4 hown4 hg4 hb4
      have hb3 : Since wl4 w4 := Below.grown hb2 hg4 (hb2).size (own_ge hR.h1)
      obtain ⟨a4, c4, rfl⟩ := own_slice hown4
      have hC4 := cel_own hC hR.h1 (by decide) hg4
      have h14 : w4.ownsRow wl4.heap.size 47 2 (.slice a4 (P.pd.length + 1) c4) (P.pd ++ [([122, 122, 95, 110, 101, 119], (m : Int))]).length ((P.pd ++ [([122, 122, 95, 110, 101, 119], (m : Int))]).flatMap prdL) := by simpa [prdL, strV] using hown4
      have h04 := own_other hR.h0 hR.h1 (by decide) hg4
      have h24 := hR.h2.own hR.h1 hg4 (by decide) (by decide)
      have h54 := hR.h5.own hR.h1 hg4 (by decide) (by decide)
      have h64 := hR.h6.own hR.h1 hg4 (by decide) (by decide)
      clear hC hR hown4 hg4 hb4
      refine ⟨hb3, ?_⟩
      refine hx_take (i := 7) (oi := _) (v := .pointer (some ⟨gB, 1, none⟩)) rfl rfl hns (by kernel_rfl) (by kernel_rfl) hQ (by kernel_rfl) (fun _ _ => by kernel_rfl) hb3 ?_
      have hb4 : Since wl4 (w4.setCell ⟨gB, 1, none⟩ (.slice a4 (P.pd.length + 1) c4)) := hb3.setCell hge _
      refine hx_store (i := 8) (oi := _) (w4.setCell ⟨gB, 1, none⟩ (.slice a4 (P.pd.length + 1) c4)) rfl rfl (by kernel_rfl) (by kernel_rfl) (st_prs rfl (by kernel_rfl) (by kernel_rfl) _ hC4 rfl) hb4 ?_
      replace h04 := h04.kept (grown_setCell w4 gB 1 (.slice a4 (P.pd.length + 1) c4)) (own_cel_ne h04 hC4 (by decide)); replace h14 := h14.kept (grown_setCell w4 gB 1 (.slice a4 (P.pd.length + 1) c4)) (own_cel_ne h14 hC4 (by decide)); replace h24 := h24.cel hC4 (grown_setCell w4 gB 1 (.slice a4 (P.pd.length + 1) c4)) (by decide) (by decide); replace h54 := h54.cel hC4 (grown_setCell w4 gB 1 (.slice a4 (P.pd.length + 1) c4)) (by decide) (by decide); replace h64 := h64.cel hC4 (grown_setCell w4 gB 1 (.slice a4 (P.pd.length + 1) c4)) (by decide) (by decide)
      replace hC4 := hC4.set (j := 1) (u := .slice a4 (P.pd.length + 1) c4) rfl
      refine wpAnyH_done (by kernel_rfl) ?_ _
      clear hns hQ
      simp only [List.set_cons_zero, List.set_cons_succ]
      go_wp2_with fail
      go_meet
      case rel => exact boxpol_of hC4 h04 h14 (nest_crow h24) h54 h64 hb4 (by rw [eC, eU, eG, ← HPW.out.2.2.2.1, ← HPW.out.2.2.2.2.1])
    · rintro e wx61 ⟨rfl, hb⟩
      have hb1 : Since wl4 wx61 := hb0.trans hb
      replace hC := hC.next hb
      replace hR := hR.next hb
      clear hb
      refine ⟨_, rfl, hb1, ?_⟩
      refine hx_take (i := 4) (oi := _) (v := .agg #[.string ⟨#[122, 122, 95, 110, 101, 119]⟩, .int .i64 (m : Int)]) rfl rfl hns (by kernel_rfl) (by kernel_rfl) hQ (by kernel_rfl) (fun _ _ => by kernel_rfl) hb1 ?_
      refine hx_two_vv (i := 1) (j := 5) (.slice a1 P.pd.length c1) (wx61) (.slice (some ⟨wx61.heap.size, 0, none⟩) 1 1) ((wx61.alloc (.cells #[.string ⟨#[122, 122, 95, 110, 101, 119]⟩, .int .i64 (m : Int)] 47))) rfl rfl (by kernel_rfl) (by kernel_rfl) (by kernel_rfl) rfl (ld_one rfl (by kernel_rfl) (by kernel_rfl) wx61 (hC.cell 1)) hb1 rfl (by kernel_rfl) (hb1.alloc _) ?_ ?_
      · have hb2 : Since wl4 (wx61.alloc (.cells #[.string ⟨#[122, 122, 95, 110, 101, 119]⟩, .int .i64 (m : Int)] 47)) := hb1.alloc _
        replace hC := hC.next ((Since.refl wx61).alloc (.cells #[.string ⟨#[122, 122, 95, 110, 101, 119]⟩, .int .i64 (m : Int)] 47))
        replace hR := hR.next ((Since.refl wx61).alloc (.cells #[.string ⟨#[122, 122, 95, 110, 101, 119]⟩, .int .i64 (m : Int)] 47))
        refine hx_make (i := 5) (oi := _) (.slice (some ⟨wx61.heap.size, 0, none⟩) 1 1) (wx61.alloc (.cells #[.string ⟨#[122, 122, 95, 110, 101, 119]⟩, .int .i64 (m : Int)] 47)) rfl rfl (by kernel_rfl) (by kernel_rfl) (by kernel_rfl) hb2 ?_
        refine hx_append (i := 6) (oi := _) (.tmp 53) (.tmp 57) 23 wl4.heap.size 47 iD (.agg #[.string ByteArray.empty, .int .i64 0]) 2 24 (.slice a1 P.pd.length c1) P.pd.length _ _ (some ⟨wx61.heap.size, 0, none⟩) 1 1 [.string ⟨#[122, 122, 95, 110, 101, 119]⟩, .int .i64 (m : Int)] rfl rfl (by kernel_rfl) (by kernel_rfl) rfl Tryd.underlying23 ID.out.1 ID.out.2.1 ID.out.2.2.1 ID.out.2.2.2 rfl (by decide) (by kernel_rfl) hR.h1 (by kernel_rfl) (reads_new _ #[.string ⟨#[122, 122, 95, 110, 101, 119]⟩, .int .i64 (m : Int)] _ 2 rfl) (by simp [Value.oneCell']) (by unfold maxLen; omega) (by omega) (hb2).size ?_
        intro v4 w4 hown4 hg4 hb4
        have hb3 : Since wl4 w4 := Below.grown hb2 hg4 (hb2).size (own_ge hR.h1)
        obtain ⟨a4, c4, rfl⟩ := own_slice hown4
        have hC4 := cel_own hC hR.h1 (by decide) hg4
        have h14 : w4.ownsRow wl4.heap.size 47 2 (.slice a4 (P.pd.length + 1) c4) (P.pd ++ [([122, 122, 95, 110, 101, 119], (m : Int))]).length ((P.pd ++ [([122, 122, 95, 110, 101, 119], (m : Int))]).flatMap prdL) := by simpa [prdL, strV] using hown4
        have h04 := own_other hR.h0 hR.h1 (by decide) hg4
        have h24 := hR.h2.own hR.h1 hg4 (by decide) (by decide)
        have h54 := hR.h5.own hR.h1 hg4 (by decide) (by decide)
        have h64 := hR.h6.own hR.h1 hg4 (by decide) (by decide)
        clear hC hR hown4 hg4 hb4
        refine ⟨hb3, ?_⟩
        refine hx_take (i := 7) (oi := _) (v := .pointer (some ⟨gB, 1, none⟩)) rfl rfl hns (by kernel_rfl) (by kernel_rfl) hQ (by kernel_rfl) (fun _ _ => by kernel_rfl) hb3 ?_
        have hb4 : Since wl4 (w4.setCell ⟨gB, 1, none⟩ (.slice a4 (P.pd.length + 1) c4)) := hb3.setCell hge _
        refine hx_store (i := 8) (oi := _) (w4.setCell ⟨gB, 1, none⟩ (.slice a4 (P.pd.length + 1) c4)) rfl rfl (by kernel_rfl) (by kernel_rfl) (st_prs rfl (by kernel_rfl) (by kernel_rfl) _ hC4 rfl) hb4 ?_
        replace h04 := h04.kept (grown_setCell w4 gB 1 (.slice a4 (P.pd.length + 1) c4)) (own_cel_ne h04 hC4 (by decide)); replace h14 := h14.kept (grown_setCell w4 gB 1 (.slice a4 (P.pd.length + 1) c4)) (own_cel_ne h14 hC4 (by decide)); replace h24 := h24.cel hC4 (grown_setCell w4 gB 1 (.slice a4 (P.pd.length + 1) c4)) (by decide) (by decide); replace h54 := h54.cel hC4 (grown_setCell w4 gB 1 (.slice a4 (P.pd.length + 1) c4)) (by decide) (by decide); replace h64 := h64.cel hC4 (grown_setCell w4 gB 1 (.slice a4 (P.pd.length + 1) c4)) (by decide) (by decide)
        replace hC4 := hC4.set (j := 1) (u := .slice a4 (P.pd.length + 1) c4) rfl
        refine wpAnyH_done (by kernel_rfl) ?_ _
        clear hns hQ
        simp only [List.set_cons_zero, List.set_cons_succ]
        go_wp2_with fail
        go_meet
        case rel => exact boxpol_of hC4 h04 h14 (nest_crow h24) h54 h64 hb4 (by rw [eC, eU, eG, ← HPW.out.2.2.2.1, ← HPW.out.2.2.2.2.1])
      · have hb2 : Since wl4 (wx61.alloc (.cells #[.string ⟨#[122, 122, 95, 110, 101, 119]⟩, .int .i64 (m : Int)] 47)) := hb1.alloc _
        replace hC := hC.next ((Since.refl wx61).alloc (.cells #[.string ⟨#[122, 122, 95, 110, 101, 119]⟩, .int .i64 (m : Int)] 47))
        replace hR := hR.next ((Since.refl wx61).alloc (.cells #[.string ⟨#[122, 122, 95, 110, 101, 119]⟩, .int .i64 (m : Int)] 47))
        refine hx_make (i := 1) (oi := _) (.slice a1 P.pd.length c1) ((wx61.alloc (.cells #[.string ⟨#[122, 122, 95, 110, 101, 119]⟩, .int .i64 (m : Int)] 47))) rfl rfl (by kernel_rfl) (by kernel_rfl) (ld_one rfl (by kernel_rfl) (by kernel_rfl) (wx61.alloc (.cells #[.string ⟨#[122, 122, 95, 110, 101, 119]⟩, .int .i64 (m : Int)] 47)) (hC.cell 1)) hb2 ?_
        refine hx_append (i := 6) (oi := _) (.tmp 53) (.tmp 57) 23 wl4.heap.size 47 iD (.agg #[.string ByteArray.empty, .int .i64 0]) 2 24 (.slice a1 P.pd.length c1) P.pd.length _ _ (some ⟨wx61.heap.size, 0, none⟩) 1 1 [.string ⟨#[122, 122, 95, 110, 101, 119]⟩, .int .i64 (m : Int)] rfl rfl (by kernel_rfl) (by kernel_rfl) rfl Tryd.underlying23 ID.out.1 ID.out.2.1 ID.out.2.2.1 ID.out.2.2.2 rfl (by decide) (by kernel_rfl) hR.h1 (by kernel_rfl) (reads_new _ #[.string ⟨#[122, 122, 95, 110, 101, 119]⟩, .int .i64 (m : Int)] _ 2 rfl) (by simp [Value.oneCell']) (by unfold maxLen; omega) (by omega) (hb2).size ?_
        intro v4 w4 hown4 hg4 hb4
        have hb3 : Since wl4 w4 := Below.grown hb2 hg4 (hb2).size (own_ge hR.h1)
        obtain ⟨a4, c4, rfl⟩ := own_slice hown4
        have hC4 := cel_own hC hR.h1 (by decide) hg4
        have h14 : w4.ownsRow wl4.heap.size 47 2 (.slice a4 (P.pd.length + 1) c4) (P.pd ++ [([122, 122, 95, 110, 101, 119], (m : Int))]).length ((P.pd ++ [([122, 122, 95, 110, 101, 119], (m : Int))]).flatMap prdL) := by simpa [prdL, strV] using hown4
        have h04 := own_other hR.h0 hR.h1 (by decide) hg4
        have h24 := hR.h2.own hR.h1 hg4 (by decide) (by decide)
        have h54 := hR.h5.own hR.h1 hg4 (by decide) (by decide)
        have h64 := hR.h6.own hR.h1 hg4 (by decide) (by decide)
        clear hC hR hown4 hg4 hb4
        refine ⟨hb3, ?_⟩
        refine hx_take (i := 7) (oi := _) (v := .pointer (some ⟨gB, 1, none⟩)) rfl rfl hns (by kernel_rfl) (by kernel_rfl) hQ (by kernel_rfl) (fun _ _ => by kernel_rfl) hb3 ?_
        have hb4 : Since wl4 (w4.setCell ⟨gB, 1, none⟩ (.slice a4 (P.pd.length + 1) c4)) := hb3.setCell hge _
        refine hx_store (i := 8) (oi := _) (w4.setCell ⟨gB, 1, none⟩ (.slice a4 (P.pd.length + 1) c4)) rfl rfl (by kernel_rfl) (by kernel_rfl) (st_prs rfl (by kernel_rfl) (by kernel_rfl) _ hC4 rfl) hb4 ?_
        replace h04 := h04.kept (grown_setCell w4 gB 1 (.slice a4 (P.pd.length + 1) c4)) (own_cel_ne h04 hC4 (by decide)); replace h14 := h14.kept (grown_setCell w4 gB 1 (.slice a4 (P.pd.length + 1) c4)) (own_cel_ne h14 hC4 (by decide)); replace h24 := h24.cel hC4 (grown_setCell w4 gB 1 (.slice a4 (P.pd.length + 1) c4)) (by decide) (by decide); replace h54 := h54.cel hC4 (grown_setCell w4 gB 1 (.slice a4 (P.pd.length + 1) c4)) (by decide) (by decide); replace h64 := h64.cel hC4 (grown_setCell w4 gB 1 (.slice a4 (P.pd.length + 1) c4)) (by decide) (by decide)
        replace hC4 := hC4.set (j := 1) (u := .slice a4 (P.pd.length + 1) c4) rfl
        refine wpAnyH_done (by kernel_rfl) ?_ _
        clear hns hQ
        simp only [List.set_cons_zero, List.set_cons_succ]
        go_wp2_with fail
        go_meet
        case rel => exact boxpol_of hC4 h04 h14 (nest_crow h24) h54 h64 hb4 (by rw [eC, eU, eG, ← HPW.out.2.2.2.1, ← HPW.out.2.2.2.2.1])
  case rest =>
  obtain ⟨ba, bd, bc, br, bg, m0, k0, m1, k1, m2, k2, m5, k5, m6, k6, hBX, hQ, hSw⟩ := hcut
  replace HS := HS.trans hSw
  clear p_c0 p_c1 p_c2 p_c3 p_c4 p_c5 p_c6
  have pB := PW.out.next hSw
  have p_c0 : wc.cell? ⟨w.heap.size, 0, none⟩ = some (.slice ap np cp) := pB 0 _ rfl
  have p_c1 : wc.cell? ⟨w.heap.size, 1, none⟩ = some (.slice ad nd cd) := pB 1 _ rfl
  have p_c2 : wc.cell? ⟨w.heap.size, 2, none⟩ = some (.slice ac nc cc) := pB 2 _ rfl
  have p_c3 : wc.cell? ⟨w.heap.size, 3, none⟩ = some (.int .i64 qu) := pB 3 _ rfl
  have p_c4 : wc.cell? ⟨w.heap.size, 4, none⟩ = some (.int .i64 bu) := pB 4 _ rfl
  have p_c5 : wc.cell? ⟨w.heap.size, 5, none⟩ = some (.slice ar nr cr) := pB 5 _ rfl
  have p_c6 : wc.cell? ⟨w.heap.size, 6, none⟩ = some (.slice ag ng cg) := pB 6 _ rfl
  clear pB hSw PW
  obtain ⟨q_c0, q_c1, q_c2, q_c3, q_c4, q_c5, q_c6⟩ := hBX
  have HQ := Lib.hid hQ
  clear hQ
  obtain ⟨V1, hV1⟩ : ∃ V : Int, Hid (V = if I then 5 else 0) := ⟨_, rfl⟩
  obtain ⟨V2, hV2⟩ : ∃ V : Int, Hid (V = if 32 < P.pd.length + 1 then 4 else V1) := ⟨_, rfl⟩
  have hVV : Hid (V2 = if 32 < P.pd.length + 1 then 4 else if (arityF P.pd [122, 122, 95, 110, 101, 119]).isSome then 5 else 0) := by show _ = _; rw [hV2.out, hV1.out, hI.out]
  have hm1 : m1 = P.pd.length + 1 := by have := HQ.out.2.1.form; simpa using this
  have HM := Lib.hid hm1
  clear hm1 hI
  go_upto_if 60 with (fail)
  obtain ⟨wv, hwv⟩ : ∃ W, Hid (W = wc) := ⟨_, rfl⟩
  go_cut [6] from 60 to 60 (fun s W => s = .int .i64 V1 ∧ W = wc)
  case first =>
    cases I
    · have e : V1 = 0 := hV1.out
      subst e
      go_wp2_with fail
      go_meet
      case rel => exact ⟨rfl, rfl⟩
    · have e : V1 = 5 := hV1.out
      subst e
      go_wp2_with fail
      go_meet
      case rel => exact ⟨rfl, rfl⟩
  case rest =>
  obtain ⟨e6, e7⟩ := hcut
  subst e6
  subst e7
  clear hwv
  go_upto_if 64 with (fail)
  obtain ⟨wv, hwv⟩ : ∃ W, Hid (W = wc) := ⟨_, rfl⟩
  go_cut [6] from 61 to 64 (fun s W => s = .int .i64 V2 ∧ W = wc)
  case first =>
    by_cases h33 : 32 < m1
    · have h33' : (32 : Int) < (m1 : Int) := by omega
      have e : V2 = 4 := by rw [hV2.out, if_pos (by have := HM.out; omega)]
      subst e
      go_wp2_with fail
      go_meet
      case rel => exact ⟨rfl, rfl⟩
    · have h33' : ¬ (32 : Int) < (m1 : Int) := by omega
      have e : V2 = V1 := by rw [hV2.out, if_neg (by have := HM.out; omega)]
      subst e
      go_wp2_with fail
      go_meet
      case rel => exact ⟨rfl, rfl⟩
  case rest =>
  obtain ⟨e6, e7⟩ := hcut
  subst e6
  subst e7
  clear hwv
  go_wp2_with fail
  have HCQ := Lib.hid (fcheck_any ba bd bc br bg m0 k0 m1 k1 m2 k2 m5 k5 m6 k6 qu bu { P with pd := P.pd ++ [([122, 122, 95, 110, 101, 119], (m : Int))] } _ HQ.out (⟨HFT.out.1, HFT.out.2.1, fun y hy => by rcases List.mem_append.1 hy with h | h; exact HFT.out.2.2.1 y h; obtain rfl := List.mem_singleton.1 h; exact (show 6 ≤ maxLen by unfold maxLen; decide), by rw [List.length_append]; have := (check_len HCHK.out).2; simp; omega, HFT.out.2.2.2.2⟩) (HE.out.next HS))
  rw [preds_new HCHK.out (by kernel_rfl) (by omega) (by omega), ← hVV.out] at HCQ
  refine (HCQ.out).mono ?_
  rintro e wl5 ⟨rfl, hb⟩
  replace HS := HS.trans hb; replace p_c0 := hb.cell p_c0; replace p_c1 := hb.cell p_c1; replace p_c2 := hb.cell p_c2; replace p_c3 := hb.cell p_c3; replace p_c4 := hb.cell p_c4; replace p_c5 := hb.cell p_c5; replace p_c6 := hb.cell p_c6
  clear hb
  clear HCQ q_c0 q_c1 q_c2 q_c3 q_c4 q_c5 q_c6 HQ
  clear hV1 hV2 hVV HM HPK HPW hC hR hge hSq eC eU eG hN hm
  by_cases hc0 : nc = 0
  · have hc1 : ((nc : Int) == 0) = true := by subst hc0; rfl
    go_wp2_with fail
    go_ret
    exact ⟨rfl, hS.trans HS⟩
  have hc1 : ((nc : Int) == 0) = false := by simpa using hc0
  go_wp2_with fail
  refine (ownpol_any ap ad ac ar ag np cp nd cd nc cc nr cr ng cg qu bu P wl5 (HPOL.out.next HS) HFT.out).mono ?_
  rintro e wqC ⟨a0, a1, a2, a5, a6, c0, c1, c2, c5, c6, C, U, G, eC, eU, eG, rfl, hR, hb⟩
  have hC : Cel (wqC.alloc (.cells #[.slice a0 P.pr.length c0, .slice a1 P.pd.length c1, .slice a2 C.length c2, .int .i64 qu, .int .i64 bu, .slice a5 U.length c5, .slice a6 G.length c6] 28)) wqC.heap.size #[.slice a0 P.pr.length c0, .slice a1 P.pd.length c1, .slice a2 C.length c2, .int .i64 qu, .int .i64 bu, .slice a5 U.length c5, .slice a6 G.length c6] 28 := heap_alloc_new _ _
  replace hR := hR.next ((Since.refl _).alloc (.cells #[.slice a0 P.pr.length c0, .slice a1 P.pd.length c1, .slice a2 C.length c2, .int .i64 qu, .int .i64 bu, .slice a5 U.length c5, .slice a6 G.length c6] 28))
  have hSq : Since wl5 (wqC.alloc (.cells #[.slice a0 P.pr.length c0, .slice a1 P.pd.length c1, .slice a2 C.length c2, .int .i64 qu, .int .i64 bu, .slice a5 U.length c5, .slice a6 G.length c6] 28)) := hb.alloc _
  have hge : wl5.heap.size ≤ wqC.heap.size := hb.size
  have pA : At wl5 w.heap.size 0 #[.slice ap np cp, .slice ad nd cd, .slice ac nc cc, .int .i64 qu, .int .i64 bu, .slice ar nr cr, .slice ag ng cg] := PBox.at ⟨p_c0, p_c1, p_c2, p_c3, p_c4, p_c5, p_c6⟩
  have PW := Lib.hid pA
  have HPW := Lib.hid (HPOL.out.next HS)
  replace hb := hb.alloc (.cells #[.slice a0 P.pr.length c0, .slice a1 P.pd.length c1, .slice a2 C.length c2, .int .i64 qu, .int .i64 bu, .slice a5 U.length c5, .slice a6 G.length c6] 28)
  replace p_c0 := hb.cell p_c0; replace p_c1 := hb.cell p_c1; replace p_c2 := hb.cell p_c2; replace p_c3 := hb.cell p_c3; replace p_c4 := hb.cell p_c4; replace p_c5 := hb.cell p_c5; replace p_c6 := hb.cell p_c6
  clear hb
  go_wp2_with fail
  generalize wqC.alloc (.cells #[.slice a0 P.pr.length c0, .slice a1 P.pd.length c1, .slice a2 C.length c2, .int .i64 qu, .int .i64 bu, .slice a5 U.length c5, .slice a6 G.length c6] 28) = wrC at *
  generalize wqC.heap.size = gC at *
  obtain ⟨k, hk, hpk⟩ := pick_since n nc hn1 hn2 (by omega) (by have := Fc.out; omega)
  have HPK := Lib.hid hpk
  clear hpk
  have hkl : k < P.cl.length := by have := Fc.out; omega
  obtain ⟨b, o, e1, hc, hat⟩ := HPW.out.2.2.1.get (by omega)
  have d1 := hat k hkl
  obtain ⟨⟨s, T⟩, hx⟩ : ∃ x, Hid (x = P.cl[k]) := ⟨P.cl[k], rfl⟩
  have hxm : (s, T) ∈ P.cl := by rw [hx.out]; exact List.getElem_mem hkl
  unfold ClrAt at d1
  rw [← hx.out] at d1
  simp only [strV] at d1
  obtain ⟨d1, u, d2, d3⟩ := d1
  obtain ⟨ua, uc, rfl⟩ := d3.slice
  have HD3 := Lib.hid d3
  have xA : At wl5 b (o + k * 2) #[.string ⟨s.toArray⟩, .slice ua T.length uc] := at_two d1 d2
  have pA2 := pA
  rw [e1] at pA2
  clear hat d1 d2 d3 hx e1
  go_cut [] from 75 to 88 (fun W => BoxPol wl5 W gC qu bu { P with cl := P.cl ++ [(s, T)] })
  case first =>
    have hCl : C.length = P.cl.length := by rw [← eC, List.length_map]
    have hc0 : Since wl5 wrC.drew := (hSq).drew
    replace hC := hC.next ((Since.refl wrC).drew)
    replace hR := hR.next ((Since.refl wrC).drew)
    refine hx_begin (S := fun W => Since wl5 W) (by kernel_rfl) hc0 (by kernel_rfl) (fun _ _ _ _ _ h => h) (fun hns hQ => ?_)
    refine hx_take (i := 0) (oi := _) (v := .pointer (some ⟨gC, 2, none⟩)) rfl rfl hns (by kernel_rfl) (by kernel_rfl) hQ (by kernel_rfl) (fun _ _ => by kernel_rfl) hc0 ?_
    refine hx_take (i := 2) (oi := _) (v := .pointer (some ⟨w.heap.size, 2, none⟩)) rfl rfl hns (by kernel_rfl) (by kernel_rfl) hQ (by kernel_rfl) (fun _ _ => by kernel_rfl) hc0 ?_
    refine hx_take (i := 3) (oi := _) (v := .slice (some ⟨b, o, none⟩) nc cc) rfl rfl hns (by kernel_rfl) (by kernel_rfl) hQ (by kernel_rfl) (fun W hW => ld_one rfl (by kernel_rfl) (by kernel_rfl) W (pA2.next hW 2 _ rfl)) hc0 ?_
    refine hx_take (i := 4) (oi := _) (v := .int .i64 n) rfl rfl hns (by kernel_rfl) (by kernel_rfl) hQ (by kernel_rfl) (fun _ _ => by kernel_rfl) hc0 ?_
    refine hx_take (i := 5) (oi := _) (v := .pointer (some ⟨w.heap.size, 2, none⟩)) rfl rfl hns (by kernel_rfl) (by kernel_rfl) hQ (by kernel_rfl) (fun _ _ => by kernel_rfl) hc0 ?_
    refine hx_take (i := 6) (oi := _) (v := .slice (some ⟨b, o, none⟩) nc cc) rfl rfl hns (by kernel_rfl) (by kernel_rfl) hQ (by kernel_rfl) (fun W hW => ld_one rfl (by kernel_rfl) (by kernel_rfl) W (pA2.next hW 2 _ rfl)) hc0 ?_
    refine hx_take (i := 7) (oi := _) (v := .int .i64 (nc : Int)) rfl rfl hns (by kernel_rfl) (by kernel_rfl) hQ (by kernel_rfl) (fun _ _ => by kernel_rfl) hc0 ?_
    refine hx_two_vc (i := 1) (j := 8) (.slice a2 C.length c2) (wrC.drew) 12 #[.int .i64 n, .int .i64 (nc : Int)] rfl rfl (by kernel_rfl) (by kernel_rfl) (by kernel_rfl) rfl (ld_one rfl (by kernel_rfl) (by kernel_rfl) wrC.drew (hC.cell 2)) hc0 rfl (by kernel_rfl) (HPK.out _) ?_ ?_
    · refine hx_call (i := 8) (oi := _) 12 #[.int .i64 n, .int .i64 (nc : Int)] rfl rfl (by kernel_rfl) (by kernel_rfl) (by kernel_rfl) (HPK.out _) ?_
      rintro e wx71 ⟨rfl, hb⟩
      have hc1 : Since wl5 wx71 := hc0.trans hb
      replace hC := hC.next hb
      replace hR := hR.next hb
      clear hb
      refine ⟨_, rfl, hc1, ?_⟩
      refine hx_take (i := 9) (oi := _) (v := .pointer (some ⟨b, o + k * 2, none⟩)) rfl rfl hns (by kernel_rfl) (by kernel_rfl) hQ (by kernel_rfl) (fun W _ => ix_sl (n := nc) (c := cc) (K := 2) rfl (by kernel_rfl) (by kernel_rfl) (by kernel_rfl) rfl hk W) hc1 ?_
      refine hx_take (i := 10) (oi := _) (v := .agg #[.string ⟨s.toArray⟩, .slice ua T.length uc]) rfl rfl hns (by kernel_rfl) (by kernel_rfl) hQ (by kernel_rfl) (fun W hW => ld_at rfl (by kernel_rfl) (by kernel_rfl) (by kernel_rfl) W (xA.next hW)) hc1 ?_
      have hc2 : Since wl5 (wx71.alloc (.cells #[.string ⟨s.toArray⟩, .slice ua T.length uc] 49)) := hc1.alloc _
      replace hC := hC.next ((Since.refl wx71).alloc (.cells #[.string ⟨s.toArray⟩, .slice ua T.length uc] 49))
      replace hR := hR.next ((Since.refl wx71).alloc (.cells #[.string ⟨s.toArray⟩, .slice ua T.length uc] 49))
      refine hx_make (i := 11) (oi := _) (.slice (some ⟨wx71.heap.size, 0, none⟩) 1 1) (wx71.alloc (.cells #[.string ⟨s.toArray⟩, .slice ua T.length uc] 49)) rfl rfl (by kernel_rfl) (by kernel_rfl) (by kernel_rfl) hc2 ?_
      refine hx_append (i := 12) (oi := _) (.tmp 76) (.tmp 86) 24 wl5.heap.size 49 iL (.agg #[.string ByteArray.empty, .slice none 0 0]) 2 40 (.slice a2 C.length c2) C.length _ _ (some ⟨wx71.heap.size, 0, none⟩) 1 1 [.string ⟨s.toArray⟩, .slice ua T.length uc] rfl rfl (by kernel_rfl) (by kernel_rfl) rfl Tryd.underlying24 IL.out.1 IL.out.2.1 IL.out.2.2.1 IL.out.2.2.2 rfl (by decide) (by kernel_rfl) hR.h2.row (by kernel_rfl) (reads_new _ #[.string ⟨s.toArray⟩, .slice ua T.length uc] _ 2 rfl) (by simp [Value.oneCell']) (by unfold maxLen; omega) (by omega) (hc2).size ?_
      intro v4 w4 hown4 hg4 hb4
      have hc3 : Since wl5 w4 := Below.grown hc2 hg4 (hc2).size (own_ge hR.h2.row)
      obtain ⟨a4, c4, rfl⟩ := own_slice hown4
      have hC4 := cel_own hC hR.h2.row (by decide) hg4
      have h24 : w4.ownsRow wl5.heap.size 49 2 (.slice a4 (C.length + 1) c4) (C ++ [((s, T), Value.slice ua T.length uc)]).length ((C ++ [((s, T), Value.slice ua T.length uc)]).flatMap fun p => clrC p.1 p.2) := by simpa [clrC, strV] using hown4
      have hin4 : ∀ p ∈ C, w4.ownsRow wl5.heap.size 9 1 p.2 p.1.2.length (p.1.2.flatMap txtL) := fun p hp => own_other (hR.h2.ins p hp) hR.h2.row (by decide) hg4
      have h04 := own_other hR.h0 hR.h2.row (by decide) hg4
      have h14 := own_other hR.h1 hR.h2.row (by decide) hg4
      have h54 := hR.h5.own hR.h2.row hg4 (by decide) (by decide)
      have h64 := hR.h6.own hR.h2.row hg4 (by decide) (by decide)
      clear hC hR hown4 hg4 hb4
      refine ⟨hc3, ?_⟩
      refine hx_take (i := 13) (oi := _) (v := .pointer (some ⟨gC, 2, none⟩)) rfl rfl hns (by kernel_rfl) (by kernel_rfl) hQ (by kernel_rfl) (fun _ _ => by kernel_rfl) hc3 ?_
      have hc4 : Since wl5 (w4.setCell ⟨gC, 2, none⟩ (.slice a4 (C.length + 1) c4)) := hc3.setCell hge _
      refine hx_store (i := 14) (oi := _) (w4.setCell ⟨gC, 2, none⟩ (.slice a4 (C.length + 1) c4)) rfl rfl (by kernel_rfl) (by kernel_rfl) (st_clr rfl (by kernel_rfl) (by kernel_rfl) _ hC4 rfl) hc4 ?_
      replace h04 := h04.kept (grown_setCell w4 gC 2 (.slice a4 (C.length + 1) c4)) (own_cel_ne h04 hC4 (by decide)); replace h14 := h14.kept (grown_setCell w4 gC 2 (.slice a4 (C.length + 1) c4)) (own_cel_ne h14 hC4 (by decide)); replace h24 := h24.kept (grown_setCell w4 gC 2 (.slice a4 (C.length + 1) c4)) (own_cel_ne h24 hC4 (by decide)); replace hin4 := fun p hp => (hin4 p hp).kept (grown_setCell w4 gC 2 (.slice a4 (C.length + 1) c4)) (own_cel_ne (hin4 p hp) hC4 (by decide)); replace h54 := h54.cel hC4 (grown_setCell w4 gC 2 (.slice a4 (C.length + 1) c4)) (by decide) (by decide); replace h64 := h64.cel hC4 (grown_setCell w4 gC 2 (.slice a4 (C.length + 1) c4)) (by decide) (by decide)
      replace hC4 := hC4.set (j := 2) (u := .slice a4 (C.length + 1) c4) rfl
      refine wpAnyH_done (by kernel_rfl) ?_ _
      clear hns hQ
      simp only [List.set_cons_zero, List.set_cons_succ]
      have hrow : CRow (w4.setCell ⟨gC, 2, none⟩ (.slice a4 (C.length + 1) c4)) (.slice a4 (C.length + 1) c4) ((C ++ [((s, T), Value.slice ua T.length uc)]).map Prod.fst) := krow_fst (krow_own (f := fun p => clrC p.1 p.2) (fun _ => rfl) (fun _ _ p hp hc => ⟨hc 0 _ rfl, p.2, hc 1 _ rfl, by
        rcases List.mem_append.1 hp with h | h
        · exact own_trow (hin4 p h)
        · obtain rfl := List.mem_singleton.1 h
          exact tnext HD3.out hc4⟩) h24)
      rw [List.map_append, eC] at hrow
      go_wp2_with fail
      go_meet
      case rel => exact boxpol_of hC4 h04 h14 hrow h54 h64 hc4 (by rw [eU, eG, ← HPW.out.2.2.2.1, ← HPW.out.2.2.2.2.1]; rfl)
    · rintro e wx71 ⟨rfl, hb⟩
      have hc1 : Since wl5 wx71 := hc0.trans hb
      replace hC := hC.next hb
      replace hR := hR.next hb
      clear hb
      refine ⟨_, rfl, hc1, ?_⟩
      refine hx_take (i := 9) (oi := _) (v := .pointer (some ⟨b, o + k * 2, none⟩)) rfl rfl hns (by kernel_rfl) (by kernel_rfl) hQ (by kernel_rfl) (fun W _ => ix_sl (n := nc) (c := cc) (K := 2) rfl (by kernel_rfl) (by kernel_rfl) (by kernel_rfl) rfl hk W) hc1 ?_
      refine hx_take (i := 10) (oi := _) (v := .agg #[.string ⟨s.toArray⟩, .slice ua T.length uc]) rfl rfl hns (by kernel_rfl) (by kernel_rfl) hQ (by kernel_rfl) (fun W hW => ld_at rfl (by kernel_rfl) (by kernel_rfl) (by kernel_rfl) W (xA.next hW)) hc1 ?_
      refine hx_two_vv (i := 1) (j := 11) (.slice a2 C.length c2) (wx71) (.slice (some ⟨wx71.heap.size, 0, none⟩) 1 1) ((wx71.alloc (.cells #[.string ⟨s.toArray⟩, .slice ua T.length uc] 49))) rfl rfl (by kernel_rfl) (by kernel_rfl) (by kernel_rfl) rfl (ld_one rfl (by kernel_rfl) (by kernel_rfl) wx71 (hC.cell 2)) hc1 rfl (by kernel_rfl) (hc1.alloc _) ?_ ?_
      · have hc2 : Since wl5 (wx71.alloc (.cells #[.string ⟨s.toArray⟩, .slice ua T.length uc] 49)) := hc1.alloc _
        replace hC := hC.next ((Since.refl wx71).alloc (.cells #[.string ⟨s.toArray⟩, .slice ua T.length uc] 49))
        replace hR := hR.next ((Since.refl wx71).alloc (.cells #[.string ⟨s.toArray⟩, .slice ua T.length uc] 49))
        refine hx_make (i := 11) (oi := _) (.slice (some ⟨wx71.heap.size, 0, none⟩) 1 1) (wx71.alloc (.cells #[.string ⟨s.toArray⟩, .slice ua T.length uc] 49)) rfl rfl (by kernel_rfl) (by kernel_rfl) (by kernel_rfl) hc2 ?_
        refine hx_append (i := 12) (oi := _) (.tmp 76) (.tmp 86) 24 wl5.heap.size 49 iL (.agg #[.string ByteArray.empty, .slice none 0 0]) 2 40 (.slice a2 C.length c2) C.length _ _ (some ⟨wx71.heap.size, 0, none⟩) 1 1 [.string ⟨s.toArray⟩, .slice ua T.length uc] rfl rfl (by kernel_rfl) (by kernel_rfl) rfl Tryd.underlying24 IL.out.1 IL.out.2.1 IL.out.2.2.1 IL.out.2.2.2 rfl (by decide) (by kernel_rfl) hR.h2.row (by kernel_rfl) (reads_new _ #[.string ⟨s.toArray⟩, .slice ua T.length uc] _ 2 rfl) (by simp [Value.oneCell']) (by unfold maxLen; omega) (by omega) (hc2).size ?_
        intro v4 w4 hown4 hg4 hb4
        have hc3 : Since wl5 w4 := Below.grown hc2 hg4 (hc2).size (own_ge hR.h2.row)
        obtain ⟨a4, c4, rfl⟩ := own_slice hown4
        have hC4 := cel_own hC hR.h2.row (by decide) hg4
        have h24 : w4.ownsRow wl5.heap.size 49 2 (.slice a4 (C.length + 1) c4) (C ++ [((s, T), Value.slice ua T.length uc)]).length ((C ++ [((s, T), Value.slice ua T.length uc)]).flatMap fun p => clrC p.1 p.2) := by simpa [clrC, strV] using hown4
        have hin4 : ∀ p ∈ C, w4.ownsRow wl5.heap.size 9 1 p.2 p.1.2.length (p.1.2.flatMap txtL) := fun p hp => own_other (hR.h2.ins p hp) hR.h2.row (by decide) hg4
        have h04 := own_other hR.h0 hR.h2.row (by decide) hg4
        have h14 := own_other hR.h1 hR.h2.row (by decide) hg4
        have h54 := hR.h5.own hR.h2.row hg4 (by decide) (by decide)
        have h64 := hR.h6.own hR.h2.row hg4 (by decide) (by decide)
        clear hC hR hown4 hg4 hb4
        refine ⟨hc3, ?_⟩
        refine hx_take (i := 13) (oi := _) (v := .pointer (some ⟨gC, 2, none⟩)) rfl rfl hns (by kernel_rfl) (by kernel_rfl) hQ (by kernel_rfl) (fun _ _ => by kernel_rfl) hc3 ?_
        have hc4 : Since wl5 (w4.setCell ⟨gC, 2, none⟩ (.slice a4 (C.length + 1) c4)) := hc3.setCell hge _
        refine hx_store (i := 14) (oi := _) (w4.setCell ⟨gC, 2, none⟩ (.slice a4 (C.length + 1) c4)) rfl rfl (by kernel_rfl) (by kernel_rfl) (st_clr rfl (by kernel_rfl) (by kernel_rfl) _ hC4 rfl) hc4 ?_
        replace h04 := h04.kept (grown_setCell w4 gC 2 (.slice a4 (C.length + 1) c4)) (own_cel_ne h04 hC4 (by decide)); replace h14 := h14.kept (grown_setCell w4 gC 2 (.slice a4 (C.length + 1) c4)) (own_cel_ne h14 hC4 (by decide)); replace h24 := h24.kept (grown_setCell w4 gC 2 (.slice a4 (C.length + 1) c4)) (own_cel_ne h24 hC4 (by decide)); replace hin4 := fun p hp => (hin4 p hp).kept (grown_setCell w4 gC 2 (.slice a4 (C.length + 1) c4)) (own_cel_ne (hin4 p hp) hC4 (by decide)); replace h54 := h54.cel hC4 (grown_setCell w4 gC 2 (.slice a4 (C.length + 1) c4)) (by decide) (by decide); replace h64 := h64.cel hC4 (grown_setCell w4 gC 2 (.slice a4 (C.length + 1) c4)) (by decide) (by decide)
        replace hC4 := hC4.set (j := 2) (u := .slice a4 (C.length + 1) c4) rfl
        refine wpAnyH_done (by kernel_rfl) ?_ _
        clear hns hQ
        simp only [List.set_cons_zero, List.set_cons_succ]
        have hrow : CRow (w4.setCell ⟨gC, 2, none⟩ (.slice a4 (C.length + 1) c4)) (.slice a4 (C.length + 1) c4) ((C ++ [((s, T), Value.slice ua T.length uc)]).map Prod.fst) := krow_fst (krow_own (f := fun p => clrC p.1 p.2) (fun _ => rfl) (fun _ _ p hp hc => ⟨hc 0 _ rfl, p.2, hc 1 _ rfl, by
          rcases List.mem_append.1 hp with h | h
          · exact own_trow (hin4 p h)
          · obtain rfl := List.mem_singleton.1 h
            exact tnext HD3.out hc4⟩) h24)
        rw [List.map_append, eC] at hrow
        go_wp2_with fail
        go_meet
        case rel => exact boxpol_of hC4 h04 h14 hrow h54 h64 hc4 (by rw [eU, eG, ← HPW.out.2.2.2.1, ← HPW.out.2.2.2.2.1]; rfl)
      · have hc2 : Since wl5 (wx71.alloc (.cells #[.string ⟨s.toArray⟩, .slice ua T.length uc] 49)) := hc1.alloc _
        replace hC := hC.next ((Since.refl wx71).alloc (.cells #[.string ⟨s.toArray⟩, .slice ua T.length uc] 49))
        replace hR := hR.next ((Since.refl wx71).alloc (.cells #[.string ⟨s.toArray⟩, .slice ua T.length uc] 49))
        refine hx_make (i := 1) (oi := _) (.slice a2 C.length c2) ((wx71.alloc (.cells #[.string ⟨s.toArray⟩, .slice ua T.length uc] 49))) rfl rfl (by kernel_rfl) (by kernel_rfl) (ld_one rfl (by kernel_rfl) (by kernel_rfl) (wx71.alloc (.cells #[.string ⟨s.toArray⟩, .slice ua T.length uc] 49)) (hC.cell 2)) hc2 ?_
        refine hx_append (i := 12) (oi := _) (.tmp 76) (.tmp 86) 24 wl5.heap.size 49 iL (.agg #[.string ByteArray.empty, .slice none 0 0]) 2 40 (.slice a2 C.length c2) C.length _ _ (some ⟨wx71.heap.size, 0, none⟩) 1 1 [.string ⟨s.toArray⟩, .slice ua T.length uc] rfl rfl (by kernel_rfl) (by kernel_rfl) rfl Tryd.underlying24 IL.out.1 IL.out.2.1 IL.out.2.2.1 IL.out.2.2.2 rfl (by decide) (by kernel_rfl) hR.h2.row (by kernel_rfl) (reads_new _ #[.string ⟨s.toArray⟩, .slice ua T.length uc] _ 2 rfl) (by simp [Value.oneCell']) (by unfold maxLen; omega) (by omega) (hc2).size ?_
        intro v4 w4 hown4 hg4 hb4
        have hc3 : Since wl5 w4 := Below.grown hc2 hg4 (hc2).size (own_ge hR.h2.row)
        obtain ⟨a4, c4, rfl⟩ := own_slice hown4
        have hC4 := cel_own hC hR.h2.row (by decide) hg4
        have h24 : w4.ownsRow wl5.heap.size 49 2 (.slice a4 (C.length + 1) c4) (C ++ [((s, T), Value.slice ua T.length uc)]).length ((C ++ [((s, T), Value.slice ua T.length uc)]).flatMap fun p => clrC p.1 p.2) := by simpa [clrC, strV] using hown4
        have hin4 : ∀ p ∈ C, w4.ownsRow wl5.heap.size 9 1 p.2 p.1.2.length (p.1.2.flatMap txtL) := fun p hp => own_other (hR.h2.ins p hp) hR.h2.row (by decide) hg4
        have h04 := own_other hR.h0 hR.h2.row (by decide) hg4
        have h14 := own_other hR.h1 hR.h2.row (by decide) hg4
        have h54 := hR.h5.own hR.h2.row hg4 (by decide) (by decide)
        have h64 := hR.h6.own hR.h2.row hg4 (by decide) (by decide)
        clear hC hR hown4 hg4 hb4
        refine ⟨hc3, ?_⟩
        refine hx_take (i := 13) (oi := _) (v := .pointer (some ⟨gC, 2, none⟩)) rfl rfl hns (by kernel_rfl) (by kernel_rfl) hQ (by kernel_rfl) (fun _ _ => by kernel_rfl) hc3 ?_
        have hc4 : Since wl5 (w4.setCell ⟨gC, 2, none⟩ (.slice a4 (C.length + 1) c4)) := hc3.setCell hge _
        refine hx_store (i := 14) (oi := _) (w4.setCell ⟨gC, 2, none⟩ (.slice a4 (C.length + 1) c4)) rfl rfl (by kernel_rfl) (by kernel_rfl) (st_clr rfl (by kernel_rfl) (by kernel_rfl) _ hC4 rfl) hc4 ?_
        replace h04 := h04.kept (grown_setCell w4 gC 2 (.slice a4 (C.length + 1) c4)) (own_cel_ne h04 hC4 (by decide)); replace h14 := h14.kept (grown_setCell w4 gC 2 (.slice a4 (C.length + 1) c4)) (own_cel_ne h14 hC4 (by decide)); replace h24 := h24.kept (grown_setCell w4 gC 2 (.slice a4 (C.length + 1) c4)) (own_cel_ne h24 hC4 (by decide)); replace hin4 := fun p hp => (hin4 p hp).kept (grown_setCell w4 gC 2 (.slice a4 (C.length + 1) c4)) (own_cel_ne (hin4 p hp) hC4 (by decide)); replace h54 := h54.cel hC4 (grown_setCell w4 gC 2 (.slice a4 (C.length + 1) c4)) (by decide) (by decide); replace h64 := h64.cel hC4 (grown_setCell w4 gC 2 (.slice a4 (C.length + 1) c4)) (by decide) (by decide)
        replace hC4 := hC4.set (j := 2) (u := .slice a4 (C.length + 1) c4) rfl
        refine wpAnyH_done (by kernel_rfl) ?_ _
        clear hns hQ
        simp only [List.set_cons_zero, List.set_cons_succ]
        have hrow : CRow (w4.setCell ⟨gC, 2, none⟩ (.slice a4 (C.length + 1) c4)) (.slice a4 (C.length + 1) c4) ((C ++ [((s, T), Value.slice ua T.length uc)]).map Prod.fst) := krow_fst (krow_own (f := fun p => clrC p.1 p.2) (fun _ => rfl) (fun _ _ p hp hc => ⟨hc 0 _ rfl, p.2, hc 1 _ rfl, by
          rcases List.mem_append.1 hp with h | h
          · exact own_trow (hin4 p h)
          · obtain rfl := List.mem_singleton.1 h
            exact tnext HD3.out hc4⟩) h24)
        rw [List.map_append, eC] at hrow
        go_wp2_with fail
        go_meet
        case rel => exact boxpol_of hC4 h04 h14 hrow h54 h64 hc4 (by rw [eU, eG, ← HPW.out.2.2.2.1, ← HPW.out.2.2.2.2.1]; rfl)
  case rest =>
  obtain ⟨ba, bd, bc, br, bg, m0, k0, m1, k1, m2, k2, m5, k5, m6, k6, hBX, hQ, hSw⟩ := hcut
  replace HS := HS.trans hSw
  clear p_c0 p_c1 p_c2 p_c3 p_c4 p_c5 p_c6
  have pB := PW.out.next hSw
  have p_c0 : wc.cell? ⟨w.heap.size, 0, none⟩ = some (.slice ap np cp) := pB 0 _ rfl
  have p_c1 : wc.cell? ⟨w.heap.size, 1, none⟩ = some (.slice ad nd cd) := pB 1 _ rfl
  have p_c2 : wc.cell? ⟨w.heap.size, 2, none⟩ = some (.slice ac nc cc) := pB 2 _ rfl
  have p_c3 : wc.cell? ⟨w.heap.size, 3, none⟩ = some (.int .i64 qu) := pB 3 _ rfl
  have p_c4 : wc.cell? ⟨w.heap.size, 4, none⟩ = some (.int .i64 bu) := pB 4 _ rfl
  have p_c5 : wc.cell? ⟨w.heap.size, 5, none⟩ = some (.slice ar nr cr) := pB 5 _ rfl
  have p_c6 : wc.cell? ⟨w.heap.size, 6, none⟩ = some (.slice ag ng cg) := pB 6 _ rfl
  clear pB hSw PW
  obtain ⟨q_c0, q_c1, q_c2, q_c3, q_c4, q_c5, q_c6⟩ := hBX
  have HQ := Lib.hid hQ
  clear hQ
  go_wp2_with fail
  have HCQ := Lib.hid (fcheck_any ba bd bc br bg m0 k0 m1 k1 m2 k2 m5 k5 m6 k6 qu bu { P with cl := P.cl ++ [(s, T)] } _ HQ.out (⟨HFT.out.1, HFT.out.2.1, HFT.out.2.2.1, HFT.out.2.2.2.1, fun y hy => by rcases List.mem_append.1 hy with h | h; exact HFT.out.2.2.2.2.1 y h; obtain rfl := List.mem_singleton.1 h; exact HFT.out.2.2.2.2.1 _ hxm, by rw [List.length_append]; simp; omega, HFT.out.2.2.2.2.2.2⟩) (HE.out.next HS))
  rw [clears_twice HCHK.out hxm] at HCQ
  refine (HCQ.out).mono ?_
  rintro e wl6 ⟨rfl, hb⟩
  replace HS := HS.trans hb; replace p_c0 := hb.cell p_c0; replace p_c1 := hb.cell p_c1; replace p_c2 := hb.cell p_c2; replace p_c3 := hb.cell p_c3; replace p_c4 := hb.cell p_c4; replace p_c5 := hb.cell p_c5; replace p_c6 := hb.cell p_c6
  clear hb
  clear HCQ q_c0 q_c1 q_c2 q_c3 q_c4 q_c5 q_c6 HQ
  go_wp2_with fail
  go_ret
  exact ⟨rfl, hS.trans HS⟩
end Go.Proofs.YtpkggopaigledaaDoor
