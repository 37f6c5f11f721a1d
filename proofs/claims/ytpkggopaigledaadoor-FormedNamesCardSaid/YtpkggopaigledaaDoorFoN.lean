/- formed: Check. -/
import Derived.Test.YtpkggopaigledaaDoorFoM
import Derived.LoopN
namespace Go.Proofs.YtpkggopaigledaaDoor
open Go.RowKit

def PolFits (P : Pol) : Prop := (∀ x ∈ P.pr, x.length ≤ maxLen) ∧ P.pr.length ≤ 1000000 ∧ (∀ x ∈ P.pd, x.1.length ≤ maxLen) ∧ P.pd.length ≤ 1000000 ∧ (∀ x ∈ P.cl, x.1.length ≤ maxLen ∧ x.2.length ≤ 1000000) ∧ P.cl.length ≤ 1000000 ∧
  (∀ x ∈ P.ru, FitsA x.1 ∧ (∀ a ∈ x.2, FitsA a) ∧ x.2.length ≤ 100000) ∧ (∀ x ∈ P.gr, FitsA x.2.1 ∧ (∀ a ∈ x.2.2, FitsA a) ∧ x.2.2.length ≤ 100000) ∧ P.ru.length ≤ 1000000 ∧ P.gr.length ≤ 1000000
/-- Why a policy may not be. -/
def checkE (P : Pol) : Int := firstE [prinsE P.pr, predsE P.pd, clrsF P.pr [] P.cl, numE P.qu P.bu P.ru.length P.gr.length, rulesE P.pr P.pd P.ru P.gr]
set_option maxHeartbeats 8000000 in
set_option maxRecDepth 100000 in
theorem fcheck_any (ap ad ac ar ag : Option Addr) (np cp nd cd nc cc nr cr ng cg : Nat) (qu bu : Int) (P : Pol) (w : World) (hP : PolAt w ap ad ac ar ag np cp nd cd nc cc nr cr ng cg qu bu P) (hf : PolFits P) (hE : Env w) :
    Calls Tryd.prog 11 #[.agg #[.slice ap np cp, .slice ad nd cd, .slice ac nc cc, .int .i64 qu, .int .i64 bu, .slice ar nr cr, .slice ag ng cg]] w fun e w' => e = .returned (.int .i64 (checkE P)) ∧ Since w w' := by
  have hS : Since w ((w.alloc (.cells #[.slice ap np cp, .slice ad nd cd, .slice ac nc cc, .int .i64 qu, .int .i64 bu, .slice ar nr cr, .slice ag ng cg] 28)).alloc (.cells #[.func (.func 34) #[] #[], .func (.func 35) #[] #[], .func (.func 36) #[] #[], .func (.func 37) #[] #[], .func (.func 38) #[] #[]] 32)) := ((Since.refl _).alloc _).alloc _
  have p_B := (pbox_new w ap ad ac ar ag np cp nd cd nc cc nr cr ng cg qu bu 28).next ((Since.refl _).alloc (.cells #[.func (.func 34) #[] #[], .func (.func 35) #[] #[], .func (.func 36) #[] #[], .func (.func 37) #[] #[], .func (.func 38) #[] #[]] 32))
  have z := fun j => World.cell?_alloc_new (w.alloc (.cells #[.slice ap np cp, .slice ad nd cd, .slice ac nc cc, .int .i64 qu, .int .i64 bu, .slice ar nr cr, .slice ag ng cg] 28)) #[.func (.func 34) #[] #[], .func (.func 35) #[] #[], .func (.func 36) #[] #[], .func (.func 37) #[] #[], .func (.func 38) #[] #[]] 32 j
  rw [World.size_alloc] at z
  have z0 := z 0
  have z1 := z 1
  have z2 := z 2
  have z3 := z 3
  have z4 := z 4
  have hpol := hP.next hS
  have hEc := hE.next hS
  have e1 := hpol.2.2.2.1
  have e2 := hpol.2.2.2.2.1
  have e3 := hpol.2.2.2.2.2.1.form
  have e4 := hpol.2.2.2.2.2.2.form
  have hnr : nr ≤ 1000000 := by have := hf.2.2.2.2.2.2.2.2.1; omega
  have hng : ng ≤ 1000000 := by have := hf.2.2.2.2.2.2.2.2.2; omega
  have hchk : Hid (checkE P = firstE [prinsE P.pr, predsE P.pd, clrsF P.pr [] P.cl, numE qu bu nr ng, rulesE P.pr P.pd P.ru P.gr]) := by
    show _ = _
    rw [checkE, e1, e2, e3, e4]
  have HC0 : Hid (∀ W, Since ((w.alloc (.cells #[.slice ap np cp, .slice ad nd cd, .slice ac nc cc, .int .i64 qu, .int .i64 bu, .slice ar nr cr, .slice ag ng cg] 28)).alloc (.cells #[.func (.func 34) #[] #[], .func (.func 35) #[] #[], .func (.func 36) #[] #[], .func (.func 37) #[] #[], .func (.func 38) #[] #[]] 32)) W → Calls Tryd.prog 34 #[.agg #[.slice ap np cp, .slice ad nd cd, .slice ac nc cc, .int .i64 qu, .int .i64 bu, .slice ar nr cr, .slice ag ng cg]] W fun e w' => e = .returned (.int .i64 (prinsE P.pr)) ∧ Since W w') := fun W hW => by
    replace hpol := hpol.next hW
    replace hEc := hEc.next hW
    exact fprins_any ap ad ac ar ag np cp nd cd nc cc nr cr ng cg qu bu P.pr _ hpol.1 hf.1 hf.2.1 hEc
  have HC1 : Hid (∀ W, Since ((w.alloc (.cells #[.slice ap np cp, .slice ad nd cd, .slice ac nc cc, .int .i64 qu, .int .i64 bu, .slice ar nr cr, .slice ag ng cg] 28)).alloc (.cells #[.func (.func 34) #[] #[], .func (.func 35) #[] #[], .func (.func 36) #[] #[], .func (.func 37) #[] #[], .func (.func 38) #[] #[]] 32)) W → Calls Tryd.prog 35 #[.agg #[.slice ap np cp, .slice ad nd cd, .slice ac nc cc, .int .i64 qu, .int .i64 bu, .slice ar nr cr, .slice ag ng cg]] W fun e w' => e = .returned (.int .i64 (predsE P.pd)) ∧ Since W w') := fun W hW => by
    replace hpol := hpol.next hW
    replace hEc := hEc.next hW
    exact fpreds_any ap ad ac ar ag np cp nd cd nc cc nr cr ng cg qu bu P.pd _ hpol.2.1 hf.2.2.1 hf.2.2.2.1 hEc
  have HC2 : Hid (∀ W, Since ((w.alloc (.cells #[.slice ap np cp, .slice ad nd cd, .slice ac nc cc, .int .i64 qu, .int .i64 bu, .slice ar nr cr, .slice ag ng cg] 28)).alloc (.cells #[.func (.func 34) #[] #[], .func (.func 35) #[] #[], .func (.func 36) #[] #[], .func (.func 37) #[] #[], .func (.func 38) #[] #[]] 32)) W → Calls Tryd.prog 36 #[.agg #[.slice ap np cp, .slice ad nd cd, .slice ac nc cc, .int .i64 qu, .int .i64 bu, .slice ar nr cr, .slice ag ng cg]] W fun e w' => e = .returned (.int .i64 (clrsF P.pr [] P.cl)) ∧ Since W w') := fun W hW => by
    replace hpol := hpol.next hW
    replace hEc := hEc.next hW
    exact fclears_any ap ad ac ar ag np cp nd cd nc cc nr cr ng cg qu bu P.pr P.cl _ hpol.1 hf.2.1 hpol.2.2.1 hf.2.2.2.2.1 hf.2.2.2.2.2.1
  have HC3 : Hid (∀ W, Since ((w.alloc (.cells #[.slice ap np cp, .slice ad nd cd, .slice ac nc cc, .int .i64 qu, .int .i64 bu, .slice ar nr cr, .slice ag ng cg] 28)).alloc (.cells #[.func (.func 34) #[] #[], .func (.func 35) #[] #[], .func (.func 36) #[] #[], .func (.func 37) #[] #[], .func (.func 38) #[] #[]] 32)) W → Calls Tryd.prog 37 #[.agg #[.slice ap np cp, .slice ad nd cd, .slice ac nc cc, .int .i64 qu, .int .i64 bu, .slice ar nr cr, .slice ag ng cg]] W fun e w' => e = .returned (.int .i64 (numE qu bu nr ng)) ∧ Since W w') := fun W hW => by
    replace hpol := hpol.next hW
    replace hEc := hEc.next hW
    exact fnumbers_any ap ad ac ar ag np cp nd cd nc cc nr cr ng cg qu bu _ hnr hng
  have HC4 : Hid (∀ W, Since ((w.alloc (.cells #[.slice ap np cp, .slice ad nd cd, .slice ac nc cc, .int .i64 qu, .int .i64 bu, .slice ar nr cr, .slice ag ng cg] 28)).alloc (.cells #[.func (.func 34) #[] #[], .func (.func 35) #[] #[], .func (.func 36) #[] #[], .func (.func 37) #[] #[], .func (.func 38) #[] #[]] 32)) W → Calls Tryd.prog 38 #[.agg #[.slice ap np cp, .slice ad nd cd, .slice ac nc cc, .int .i64 qu, .int .i64 bu, .slice ar nr cr, .slice ag ng cg]] W fun e w' => e = .returned (.int .i64 (rulesE P.pr P.pd P.ru P.gr)) ∧ Since W w') := fun W hW => by
    replace hpol := hpol.next hW
    replace hEc := hEc.next hW
    exact frules_any ap ad ac ar ag np cp nd cd nc cc nr cr ng cg qu bu P.pr P.pd P.ru P.gr _ hpol.1 hpol.2.1 hf.2.1 hf.2.2.2.1 hpol.2.2.2.2.2.1 hpol.2.2.2.2.2.2 hf.2.2.2.2.2.2.1 hf.2.2.2.2.2.2.2.1 hf.2.2.2.2.2.2.2.2.1 hf.2.2.2.2.2.2.2.2.2 hEc
  obtain ⟨E0, hE0⟩ : ∃ E, Hid (E = prinsE P.pr) := ⟨_, rfl⟩
  obtain ⟨E1, hE1⟩ : ∃ E, Hid (E = predsE P.pd) := ⟨_, rfl⟩
  obtain ⟨E2, hE2⟩ : ∃ E, Hid (E = clrsF P.pr [] P.cl) := ⟨_, rfl⟩
  obtain ⟨E3, hE3⟩ : ∃ E, Hid (E = numE qu bu nr ng) := ⟨_, rfl⟩
  obtain ⟨E4, hE4⟩ : ∃ E, Hid (E = rulesE P.pr P.pd P.ru P.gr) := ⟨_, rfl⟩
  have HCHK := Lib.hid hchk.out
  rw [← hE0.out] at HC0 HCHK
  rw [← hE1.out] at HC1 HCHK
  rw [← hE2.out] at HC2 HCHK
  rw [← hE3.out] at HC3 HCHK
  rw [← hE4.out] at HC4 HCHK
  clear hE0 hE1 hE2 hE3 hE4
  clear z hP hE hpol hEc e1 e2 e3 e4 hchk hf hnr hng
  obtain ⟨p_c0, p_c1, p_c2, p_c3, p_c4, p_c5, p_c6⟩ := p_B
  go_enter Tryd.func11, Tryd.ntmps11
  go_wp2_with fail
  generalize ((w.alloc (.cells #[.slice ap np cp, .slice ad nd cd, .slice ac nc cc, .int .i64 qu, .int .i64 bu, .slice ar nr cr, .slice ag ng cg] 28)).alloc (.cells #[.func (.func 34) #[] #[], .func (.func 35) #[] #[], .func (.func 36) #[] #[], .func (.func 37) #[] #[], .func (.func 38) #[] #[]] 32)) = w1 at *
  refine wp_loop_rounds 6 ?_
  have HS0 := Since.refl w1
  rw [rounds_succ]
  go_wp2_with fail
  refine (HC0.out _ HS0).mono ?_
  rintro e w2 ⟨rfl, hb⟩
  have HS1 := HS0.trans hb
  replace p_c0 := hb.cell p_c0; replace p_c1 := hb.cell p_c1; replace p_c2 := hb.cell p_c2; replace p_c3 := hb.cell p_c3; replace p_c4 := hb.cell p_c4; replace p_c5 := hb.cell p_c5; replace p_c6 := hb.cell p_c6; replace z0 := hb.cell z0; replace z1 := hb.cell z1; replace z2 := hb.cell z2; replace z3 := hb.cell z3; replace z4 := hb.cell z4
  clear hb HC0
  by_cases he0 : E0 = 0
  case neg =>
    go_wp2_with fail
    go_ret
    refine ⟨ret_int ?_, hS.trans HS1⟩
    rw [HCHK.out]
    simp only [firstE, he0, if_false]
  go_wp2_with fail
  rw [rounds_succ]
  go_wp2_with fail
  refine (HC1.out _ HS1).mono ?_
  rintro e w3 ⟨rfl, hb⟩
  have HS2 := HS1.trans hb
  replace p_c0 := hb.cell p_c0; replace p_c1 := hb.cell p_c1; replace p_c2 := hb.cell p_c2; replace p_c3 := hb.cell p_c3; replace p_c4 := hb.cell p_c4; replace p_c5 := hb.cell p_c5; replace p_c6 := hb.cell p_c6; replace z0 := hb.cell z0; replace z1 := hb.cell z1; replace z2 := hb.cell z2; replace z3 := hb.cell z3; replace z4 := hb.cell z4
  clear hb HC1
  by_cases he1 : E1 = 0
  case neg =>
    go_wp2_with fail
    go_ret
    refine ⟨ret_int ?_, hS.trans HS2⟩
    rw [HCHK.out]
    simp only [firstE, he0, he1, if_true, if_false]
  go_wp2_with fail
  rw [rounds_succ]
  go_wp2_with fail
  refine (HC2.out _ HS2).mono ?_
  rintro e w4 ⟨rfl, hb⟩
  have HS3 := HS2.trans hb
  replace p_c0 := hb.cell p_c0; replace p_c1 := hb.cell p_c1; replace p_c2 := hb.cell p_c2; replace p_c3 := hb.cell p_c3; replace p_c4 := hb.cell p_c4; replace p_c5 := hb.cell p_c5; replace p_c6 := hb.cell p_c6; replace z0 := hb.cell z0; replace z1 := hb.cell z1; replace z2 := hb.cell z2; replace z3 := hb.cell z3; replace z4 := hb.cell z4
  clear hb HC2
  by_cases he2 : E2 = 0
  case neg =>
    go_wp2_with fail
    go_ret
    refine ⟨ret_int ?_, hS.trans HS3⟩
    rw [HCHK.out]
    simp only [firstE, he0, he1, he2, if_true, if_false]
  go_wp2_with fail
  rw [rounds_succ]
  go_wp2_with fail
  refine (HC3.out _ HS3).mono ?_
  rintro e w5 ⟨rfl, hb⟩
  have HS4 := HS3.trans hb
  replace p_c0 := hb.cell p_c0; replace p_c1 := hb.cell p_c1; replace p_c2 := hb.cell p_c2; replace p_c3 := hb.cell p_c3; replace p_c4 := hb.cell p_c4; replace p_c5 := hb.cell p_c5; replace p_c6 := hb.cell p_c6; replace z0 := hb.cell z0; replace z1 := hb.cell z1; replace z2 := hb.cell z2; replace z3 := hb.cell z3; replace z4 := hb.cell z4
  clear hb HC3
  by_cases he3 : E3 = 0
  case neg =>
    go_wp2_with fail
    go_ret
    refine ⟨ret_int ?_, hS.trans HS4⟩
    rw [HCHK.out]
    simp only [firstE, he0, he1, he2, he3, if_true, if_false]
  go_wp2_with fail
  rw [rounds_succ]
  go_wp2_with fail
  refine (HC4.out _ HS4).mono ?_
  rintro e w6 ⟨rfl, hb⟩
  have HS5 := HS4.trans hb
  replace p_c0 := hb.cell p_c0; replace p_c1 := hb.cell p_c1; replace p_c2 := hb.cell p_c2; replace p_c3 := hb.cell p_c3; replace p_c4 := hb.cell p_c4; replace p_c5 := hb.cell p_c5; replace p_c6 := hb.cell p_c6; replace z0 := hb.cell z0; replace z1 := hb.cell z1; replace z2 := hb.cell z2; replace z3 := hb.cell z3; replace z4 := hb.cell z4
  clear hb HC4
  by_cases he4 : E4 = 0
  case neg =>
    go_wp2_with fail
    go_ret
    refine ⟨ret_int ?_, hS.trans HS5⟩
    rw [HCHK.out]
    simp only [firstE, he0, he1, he2, he3, he4, if_true, if_false]
  go_wp2_with fail
  rw [rounds_succ]
  go_wp2_with fail
  go_ret
  refine ⟨ret_int ?_, hS.trans HS5⟩
  rw [HCHK.out]
  simp only [firstE, he0, he1, he2, he3, he4, if_true]
end Go.Proofs.YtpkggopaigledaaDoor
