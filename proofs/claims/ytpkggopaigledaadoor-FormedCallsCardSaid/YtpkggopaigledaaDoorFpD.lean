/- FormedCalls returns true. -/
import Derived.Test.YtpkggopaigledaaDoorFoY
import Derived.Test.YtpkggopaigledaaDoorFpB
import Derived.Test.YtpkggopaigledaaDoorFoQ
namespace Go.Proofs.YtpkggopaigledaaDoor
open Go.RowKit

theorem at_box11 {W : World} {g : Nat} (a_s a_p : List UInt8) (a_n : Int) (a_v0 a_v1 a_v2 a_v3 : Bool) (a_l0 a_l1 a_l2 a_l3 : List UInt8) (h : Box W g ((a_s, a_p, a_n, (a_v0, a_l0), (a_v1, a_l1), (a_v2, a_l2), (a_v3, a_l3)) : Atm)) : At W g 0 #[.string ⟨a_s.toArray⟩, .string ⟨a_p.toArray⟩, .int .i64 a_n, .bool a_v0, .string ⟨a_l0.toArray⟩, .bool a_v1, .string ⟨a_l1.toArray⟩, .bool a_v2, .string ⟨a_l2.toArray⟩, .bool a_v3, .string ⟨a_l3.toArray⟩] := by
  obtain ⟨a_c0, a_c1, a_c2, a_c3, a_c4, a_c5, a_c6, a_c7, a_c8, a_c9, a_c10⟩ := h.all
  intro j u hu
  have hj : j < 11 := by
    have := (Array.getElem?_eq_some_iff.1 hu).1
    simpa using this
  match j, hj with
  | 0, _ => exact a_c0.trans hu
  | 1, _ => exact a_c1.trans hu
  | 2, _ => exact a_c2.trans hu
  | 3, _ => exact a_c3.trans hu
  | 4, _ => exact a_c4.trans hu
  | 5, _ => exact a_c5.trans hu
  | 6, _ => exact a_c6.trans hu
  | 7, _ => exact a_c7.trans hu
  | 8, _ => exact a_c8.trans hu
  | 9, _ => exact a_c9.trans hu
  | 10, _ => exact a_c10.trans hu
set_option maxHeartbeats 0 in
set_option maxRecDepth 100000 in
theorem fcalls_any (ap ad ac ar ag : Option Addr) (np cp nd cd nc cc nr cr ng cg : Nat) (qu bu : Int) (P : Pol) (a_s a_p : List UInt8) (a_n : Int) (a_v0 a_v1 a_v2 a_v3 : Bool) (a_l0 a_l1 a_l2 a_l3 : List UInt8) (s q : Txt) (w : World) (hP : PolAt w ap ad ac ar ag np cp nd cd nc cc nr cr ng cg qu bu P) (hf : PolBig P) (hA : FitsA ((a_s, a_p, a_n, (a_v0, a_l0), (a_v1, a_l1), (a_v2, a_l2), (a_v3, a_l3)) : Atm)) (hE : Env w) :
    Calls Tryd.prog 8 #[.agg #[.slice ap np cp, .slice ad nd cd, .slice ac nc cc, .int .i64 qu, .int .i64 bu, .slice ar nr cr, .slice ag ng cg], .agg #[.string ⟨a_s.toArray⟩, .string ⟨a_p.toArray⟩, .int .i64 a_n, .bool a_v0, .string ⟨a_l0.toArray⟩, .bool a_v1, .string ⟨a_l1.toArray⟩, .bool a_v2, .string ⟨a_l2.toArray⟩, .bool a_v3, .string ⟨a_l3.toArray⟩], .string ⟨s.toArray⟩, .string ⟨q.toArray⟩] w fun e w' => e = .returned (.bool true) ∧ Since w w' := by
  have hS : Since w ((w.alloc (.cells #[.slice ap np cp, .slice ad nd cd, .slice ac nc cc, .int .i64 qu, .int .i64 bu, .slice ar nr cr, .slice ag ng cg] 28)).alloc (.cells #[.string ⟨a_s.toArray⟩, .string ⟨a_p.toArray⟩, .int .i64 a_n, .bool a_v0, .string ⟨a_l0.toArray⟩, .bool a_v1, .string ⟨a_l1.toArray⟩, .bool a_v2, .string ⟨a_l2.toArray⟩, .bool a_v3, .string ⟨a_l3.toArray⟩] 39)) := ((Since.refl _).alloc _).alloc _
  obtain ⟨p_c0, p_c1, p_c2, p_c3, p_c4, p_c5, p_c6⟩ := (pbox_new w ap ad ac ar ag np cp nd cd nc cc nr cr ng cg qu bu 28).next ((Since.refl _).alloc (.cells #[.string ⟨a_s.toArray⟩, .string ⟨a_p.toArray⟩, .int .i64 a_n, .bool a_v0, .string ⟨a_l0.toArray⟩, .bool a_v1, .string ⟨a_l1.toArray⟩, .bool a_v2, .string ⟨a_l2.toArray⟩, .bool a_v3, .string ⟨a_l3.toArray⟩] 39))
  have a_B : Box ((w.alloc (.cells #[.slice ap np cp, .slice ad nd cd, .slice ac nc cc, .int .i64 qu, .int .i64 bu, .slice ar nr cr, .slice ag ng cg] 28)).alloc (.cells #[.string ⟨a_s.toArray⟩, .string ⟨a_p.toArray⟩, .int .i64 a_n, .bool a_v0, .string ⟨a_l0.toArray⟩, .bool a_v1, .string ⟨a_l1.toArray⟩, .bool a_v2, .string ⟨a_l2.toArray⟩, .bool a_v3, .string ⟨a_l3.toArray⟩] 39)) (w.heap.size + 1) ((a_s, a_p, a_n, (a_v0, a_l0), (a_v1, a_l1), (a_v2, a_l2), (a_v3, a_l3)) : Atm) := by
    have := box_new (w.alloc (.cells #[.slice ap np cp, .slice ad nd cd, .slice ac nc cc, .int .i64 qu, .int .i64 bu, .slice ar nr cr, .slice ag ng cg] 28)) ((a_s, a_p, a_n, (a_v0, a_l0), (a_v1, a_l1), (a_v2, a_l2), (a_v3, a_l3)) : Atm) 39
    rwa [World.size_alloc] at this
  obtain ⟨a_c0, a_c1, a_c2, a_c3, a_c4, a_c5, a_c6, a_c7, a_c8, a_c9, a_c10⟩ := a_B.all
  obtain ⟨L, hL⟩ : ∃ B, Hid (B = lightPol P) := ⟨_, rfl⟩
  obtain ⟨M, hM⟩ : ∃ B, Hid (B = lightB ((a_s, a_p, a_n, (a_v0, a_l0), (a_v1, a_l1), (a_v2, a_l2), (a_v3, a_l3)) : Atm)) := ⟨_, rfl⟩
  obtain ⟨F, hF⟩ : ∃ B, Hid (B = factE P.pr P.pd s ((a_s, a_p, a_n, (a_v0, a_l0), (a_v1, a_l1), (a_v2, a_l2), (a_v3, a_l3)) : Atm)) := ⟨_, rfl⟩
  obtain ⟨E, hE'⟩ : ∃ B, Hid (B = atomE P.pr P.pd ((a_s, a_p, a_n, (a_v0, a_l0), (a_v1, a_l1), (a_v2, a_l2), (a_v3, a_l3)) : Atm)) := ⟨_, rfl⟩
  obtain ⟨B, hB⟩ : ∃ B, Hid (B = P.pr.contains s) := ⟨_, rfl⟩
  obtain ⟨I, hI⟩ : ∃ B, Hid (B = (arityF P.pd q).isSome) := ⟨_, rfl⟩
  obtain ⟨N, hN⟩ : ∃ B, Hid (B = (arityF P.pd q).getD 0) := ⟨_, rfl⟩
  obtain ⟨K, hK⟩ : ∃ B, Hid (B = checkE P) := ⟨_, rfl⟩
  have HLV : Hid (∀ W, Since ((w.alloc (.cells #[.slice ap np cp, .slice ad nd cd, .slice ac nc cc, .int .i64 qu, .int .i64 bu, .slice ar nr cr, .slice ag ng cg] 28)).alloc (.cells #[.string ⟨a_s.toArray⟩, .string ⟨a_p.toArray⟩, .int .i64 a_n, .bool a_v0, .string ⟨a_l0.toArray⟩, .bool a_v1, .string ⟨a_l1.toArray⟩, .bool a_v2, .string ⟨a_l2.toArray⟩, .bool a_v3, .string ⟨a_l3.toArray⟩] 39)) W → Calls Tryd.prog 9 #[] W fun e w' => e = .returned (.bool true) ∧ Since W w') := fun W hW => by
    exact lives12_any W (hE.next (hS.trans hW))
  have HLP : Hid (∀ W, Since ((w.alloc (.cells #[.slice ap np cp, .slice ad nd cd, .slice ac nc cc, .int .i64 qu, .int .i64 bu, .slice ar nr cr, .slice ag ng cg] 28)).alloc (.cells #[.string ⟨a_s.toArray⟩, .string ⟨a_p.toArray⟩, .int .i64 a_n, .bool a_v0, .string ⟨a_l0.toArray⟩, .bool a_v1, .string ⟨a_l1.toArray⟩, .bool a_v2, .string ⟨a_l2.toArray⟩, .bool a_v3, .string ⟨a_l3.toArray⟩] 39)) W → Calls Tryd.prog 10 #[.agg #[.slice ap np cp, .slice ad nd cd, .slice ac nc cc, .int .i64 qu, .int .i64 bu, .slice ar nr cr, .slice ag ng cg]] W fun e w' => e = .returned (.bool L) ∧ Since W w') := fun W hW => by
    rw [hL.out]; exact lightpol_any ap ad ac ar ag np cp nd cd nc cc nr cr ng cg qu bu P W (hP.next (hS.trans hW)) hf
  have HLA : Hid (∀ W, Since ((w.alloc (.cells #[.slice ap np cp, .slice ad nd cd, .slice ac nc cc, .int .i64 qu, .int .i64 bu, .slice ar nr cr, .slice ag ng cg] 28)).alloc (.cells #[.string ⟨a_s.toArray⟩, .string ⟨a_p.toArray⟩, .int .i64 a_n, .bool a_v0, .string ⟨a_l0.toArray⟩, .bool a_v1, .string ⟨a_l1.toArray⟩, .bool a_v2, .string ⟨a_l2.toArray⟩, .bool a_v3, .string ⟨a_l3.toArray⟩] 39)) W → Calls Tryd.prog 19 #[.agg #[.string ⟨a_s.toArray⟩, .string ⟨a_p.toArray⟩, .int .i64 a_n, .bool a_v0, .string ⟨a_l0.toArray⟩, .bool a_v1, .string ⟨a_l1.toArray⟩, .bool a_v2, .string ⟨a_l2.toArray⟩, .bool a_v3, .string ⟨a_l3.toArray⟩]] W fun e w' => e = .returned (.bool M) ∧ Since W w') := fun W hW => by
    rw [hM.out]; exact light_any a_s a_p a_n a_v0 a_v1 a_v2 a_v3 a_l0 a_l1 a_l2 a_l3 W
  go_enter Tryd.func8, Tryd.ntmps8
  go_wp2_with fail
  have HS := Since.refl ((w.alloc (.cells #[.slice ap np cp, .slice ad nd cd, .slice ac nc cc, .int .i64 qu, .int .i64 bu, .slice ar nr cr, .slice ag ng cg] 28)).alloc (.cells #[.string ⟨a_s.toArray⟩, .string ⟨a_p.toArray⟩, .int .i64 a_n, .bool a_v0, .string ⟨a_l0.toArray⟩, .bool a_v1, .string ⟨a_l1.toArray⟩, .bool a_v2, .string ⟨a_l2.toArray⟩, .bool a_v3, .string ⟨a_l3.toArray⟩] 39))
  generalize ((w.alloc (.cells #[.slice ap np cp, .slice ad nd cd, .slice ac nc cc, .int .i64 qu, .int .i64 bu, .slice ar nr cr, .slice ag ng cg] 28)).alloc (.cells #[.string ⟨a_s.toArray⟩, .string ⟨a_p.toArray⟩, .int .i64 a_n, .bool a_v0, .string ⟨a_l0.toArray⟩, .bool a_v1, .string ⟨a_l1.toArray⟩, .bool a_v2, .string ⟨a_l2.toArray⟩, .bool a_v3, .string ⟨a_l3.toArray⟩] 39)) = w1 at *
  refine (HLV.out _ HS).mono ?_
  rintro e w11 ⟨rfl, hb⟩
  replace HS := HS.trans hb; replace p_c0 := hb.cell p_c0; replace p_c1 := hb.cell p_c1; replace p_c2 := hb.cell p_c2; replace p_c3 := hb.cell p_c3; replace p_c4 := hb.cell p_c4; replace p_c5 := hb.cell p_c5; replace p_c6 := hb.cell p_c6; replace a_c0 := hb.cell a_c0; replace a_c1 := hb.cell a_c1; replace a_c2 := hb.cell a_c2; replace a_c3 := hb.cell a_c3; replace a_c4 := hb.cell a_c4; replace a_c5 := hb.cell a_c5; replace a_c6 := hb.cell a_c6; replace a_c7 := hb.cell a_c7; replace a_c8 := hb.cell a_c8; replace a_c9 := hb.cell a_c9; replace a_c10 := hb.cell a_c10
  clear hb
  go_wp2_with fail
  refine (HLP.out _ HS).mono ?_
  rintro e w12 ⟨rfl, hb⟩
  replace HS := HS.trans hb; replace p_c0 := hb.cell p_c0; replace p_c1 := hb.cell p_c1; replace p_c2 := hb.cell p_c2; replace p_c3 := hb.cell p_c3; replace p_c4 := hb.cell p_c4; replace p_c5 := hb.cell p_c5; replace p_c6 := hb.cell p_c6; replace a_c0 := hb.cell a_c0; replace a_c1 := hb.cell a_c1; replace a_c2 := hb.cell a_c2; replace a_c3 := hb.cell a_c3; replace a_c4 := hb.cell a_c4; replace a_c5 := hb.cell a_c5; replace a_c6 := hb.cell a_c6; replace a_c7 := hb.cell a_c7; replace a_c8 := hb.cell a_c8; replace a_c9 := hb.cell a_c9; replace a_c10 := hb.cell a_c10
  clear hb
  cases L
  · go_wp2_with fail
    go_ret
    exact ⟨rfl, hS.trans HS⟩
  have hft := light_fits hL.out.symm hf
  have lr := hft.2.1
  have lp := hft.2.2.2.1
  have HFA : Hid (∀ W, Since w1 W → Calls Tryd.prog 20 #[.agg #[.slice ap np cp, .slice ad nd cd, .slice ac nc cc, .int .i64 qu, .int .i64 bu, .slice ar nr cr, .slice ag ng cg], .string ⟨s.toArray⟩, .agg #[.string ⟨a_s.toArray⟩, .string ⟨a_p.toArray⟩, .int .i64 a_n, .bool a_v0, .string ⟨a_l0.toArray⟩, .bool a_v1, .string ⟨a_l1.toArray⟩, .bool a_v2, .string ⟨a_l2.toArray⟩, .bool a_v3, .string ⟨a_l3.toArray⟩]] W fun e w' => e = .returned (.int .i64 F) ∧ Since W w') := fun W hW => by
    rw [hF.out]; exact ffact_any ap ad ac ar ag np cp nd cd nc cc nr cr ng cg qu bu P.pr P.pd s a_s a_p a_n a_v0 a_v1 a_v2 a_v3 a_l0 a_l1 a_l2 a_l3 W (hP.next (hS.trans hW)).1 (hP.next (hS.trans hW)).2.1 lr lp hA (hE.next (hS.trans hW))
  have HAT : Hid (∀ W, Since w1 W → Calls Tryd.prog 15 #[.agg #[.slice ap np cp, .slice ad nd cd, .slice ac nc cc, .int .i64 qu, .int .i64 bu, .slice ar nr cr, .slice ag ng cg], .agg #[.string ⟨a_s.toArray⟩, .string ⟨a_p.toArray⟩, .int .i64 a_n, .bool a_v0, .string ⟨a_l0.toArray⟩, .bool a_v1, .string ⟨a_l1.toArray⟩, .bool a_v2, .string ⟨a_l2.toArray⟩, .bool a_v3, .string ⟨a_l3.toArray⟩]] W fun e w' => e = .returned (.int .i64 E) ∧ Since W w') := fun W hW => by
    rw [hE'.out]; exact fatom_any ap ad ac ar ag np cp nd cd nc cc nr cr ng cg qu bu P.pr P.pd a_s a_p a_n a_v0 a_v1 a_v2 a_v3 a_l0 a_l1 a_l2 a_l3 W (hP.next (hS.trans hW)).1 (hP.next (hS.trans hW)).2.1 lr lp hA (hE.next (hS.trans hW))
  have HGO : Hid (∀ W, Since w1 W → Calls Tryd.prog 17 #[.agg #[.slice ap np cp, .slice ad nd cd, .slice ac nc cc, .int .i64 qu, .int .i64 bu, .slice ar nr cr, .slice ag ng cg], .agg #[.string ⟨a_s.toArray⟩, .string ⟨a_p.toArray⟩, .int .i64 a_n, .bool a_v0, .string ⟨a_l0.toArray⟩, .bool a_v1, .string ⟨a_l1.toArray⟩, .bool a_v2, .string ⟨a_l2.toArray⟩, .bool a_v3, .string ⟨a_l3.toArray⟩]] W fun e w' => e = .returned (.int .i64 E) ∧ Since W w') := fun W hW => by
    rw [hE'.out]; exact fgoal_any ap ad ac ar ag np cp nd cd nc cc nr cr ng cg qu bu P.pr P.pd a_s a_p a_n a_v0 a_v1 a_v2 a_v3 a_l0 a_l1 a_l2 a_l3 W (hP.next (hS.trans hW)).1 (hP.next (hS.trans hW)).2.1 lr lp hA (hE.next (hS.trans hW))
  have HPS : Hid (∀ W, Since w1 W → Calls Tryd.prog 18 #[.agg #[.slice ap np cp, .slice ad nd cd, .slice ac nc cc, .int .i64 qu, .int .i64 bu, .slice ar nr cr, .slice ag ng cg], .string ⟨s.toArray⟩] W fun e w' => e = .returned (.bool B) ∧ Since W w') := fun W hW => by
    rw [hB.out]; exact fprin_any ap ad ac ar ag np cp nd cd nc cc nr cr ng cg qu bu P.pr s W (hP.next (hS.trans hW)).1 lr
  have HAR : Hid (∀ W, Since w1 W → Calls Tryd.prog 14 #[.agg #[.slice ap np cp, .slice ad nd cd, .slice ac nc cc, .int .i64 qu, .int .i64 bu, .slice ar nr cr, .slice ag ng cg], .string ⟨q.toArray⟩] W fun e w' => e = .returned (.tuple #[.int .i64 N, .bool I]) ∧ Since W w') := fun W hW => by
    rw [hN.out, hI.out]; exact farity_any ap ad ac ar ag np cp nd cd nc cc nr cr ng cg qu bu P.pd q W (hP.next (hS.trans hW)).2.1 lp
  have HCK : Hid (∀ W, Since w1 W → Calls Tryd.prog 11 #[.agg #[.slice ap np cp, .slice ad nd cd, .slice ac nc cc, .int .i64 qu, .int .i64 bu, .slice ar nr cr, .slice ag ng cg]] W fun e w' => e = .returned (.int .i64 K) ∧ Since W w') := fun W hW => by
    rw [hK.out]; exact fcheck_any ap ad ac ar ag np cp nd cd nc cc nr cr ng cg qu bu P W (hP.next (hS.trans hW)) hft (hE.next (hS.trans hW))
  have HFAR : Hid (∀ W, Since w1 W → Calls Tryd.prog 30 #[.agg #[.slice ap np cp, .slice ad nd cd, .slice ac nc cc, .int .i64 qu, .int .i64 bu, .slice ar nr cr, .slice ag ng cg], .string ⟨s.toArray⟩, .agg #[.string ⟨a_s.toArray⟩, .string ⟨a_p.toArray⟩, .int .i64 a_n, .bool a_v0, .string ⟨a_l0.toArray⟩, .bool a_v1, .string ⟨a_l1.toArray⟩, .bool a_v2, .string ⟨a_l2.toArray⟩, .bool a_v3, .string ⟨a_l3.toArray⟩]] W fun e w' => e = .returned (.int .i64 F) ∧ Since W w') := fun W hW => by
    rw [hF.out]; exact r12fact_any ap ad ac ar ag np cp nd cd nc cc nr cr ng cg qu bu P.pr P.pd s a_s a_p a_n a_v0 a_v1 a_v2 a_v3 a_l0 a_l1 a_l2 a_l3 W (hP.next (hS.trans hW)).1 (hP.next (hS.trans hW)).2.1 lr lp hA
  have HATR : Hid (∀ W, Since w1 W → Calls Tryd.prog 28 #[.agg #[.slice ap np cp, .slice ad nd cd, .slice ac nc cc, .int .i64 qu, .int .i64 bu, .slice ar nr cr, .slice ag ng cg], .agg #[.string ⟨a_s.toArray⟩, .string ⟨a_p.toArray⟩, .int .i64 a_n, .bool a_v0, .string ⟨a_l0.toArray⟩, .bool a_v1, .string ⟨a_l1.toArray⟩, .bool a_v2, .string ⟨a_l2.toArray⟩, .bool a_v3, .string ⟨a_l3.toArray⟩]] W fun e w' => e = .returned (.int .i64 E) ∧ Since W w') := fun W hW => by
    rw [hE'.out]; exact r12atom_any ap ad ac ar ag np cp nd cd nc cc nr cr ng cg qu bu P.pr P.pd a_s a_p a_n a_v0 a_v1 a_v2 a_v3 a_l0 a_l1 a_l2 a_l3 W (hP.next (hS.trans hW)).1 (hP.next (hS.trans hW)).2.1 lr lp hA
  have HGOR : Hid (∀ W, Since w1 W → Calls Tryd.prog 29 #[.agg #[.slice ap np cp, .slice ad nd cd, .slice ac nc cc, .int .i64 qu, .int .i64 bu, .slice ar nr cr, .slice ag ng cg], .agg #[.string ⟨a_s.toArray⟩, .string ⟨a_p.toArray⟩, .int .i64 a_n, .bool a_v0, .string ⟨a_l0.toArray⟩, .bool a_v1, .string ⟨a_l1.toArray⟩, .bool a_v2, .string ⟨a_l2.toArray⟩, .bool a_v3, .string ⟨a_l3.toArray⟩]] W fun e w' => e = .returned (.int .i64 E) ∧ Since W w') := fun W hW => by
    rw [hE'.out]; exact r12goal_any ap ad ac ar ag np cp nd cd nc cc nr cr ng cg qu bu P.pr P.pd a_s a_p a_n a_v0 a_v1 a_v2 a_v3 a_l0 a_l1 a_l2 a_l3 W (hP.next (hS.trans hW)).1 (hP.next (hS.trans hW)).2.1 lr lp hA
  have HPSR : Hid (∀ W, Since w1 W → Calls Tryd.prog 31 #[.agg #[.slice ap np cp, .slice ad nd cd, .slice ac nc cc, .int .i64 qu, .int .i64 bu, .slice ar nr cr, .slice ag ng cg], .string ⟨s.toArray⟩] W fun e w' => e = .returned (.bool B) ∧ Since W w') := fun W hW => by
    rw [hB.out]; exact r12prin_any ap ad ac ar ag np cp nd cd nc cc nr cr ng cg qu bu P.pr s W (hP.next (hS.trans hW)).1 lr
  have HARR : Hid (∀ W, Since w1 W → Calls Tryd.prog 26 #[.agg #[.slice ap np cp, .slice ad nd cd, .slice ac nc cc, .int .i64 qu, .int .i64 bu, .slice ar nr cr, .slice ag ng cg], .string ⟨q.toArray⟩] W fun e w' => e = .returned (.tuple #[.int .i64 N, .bool I]) ∧ Since W w') := fun W hW => by
    rw [hN.out, hI.out]; exact r12arity_any ap ad ac ar ag np cp nd cd nc cc nr cr ng cg qu bu P.pd q W (hP.next (hS.trans hW)).2.1 lp
  have HCKR : Hid (∀ W, Since w1 W → Calls Tryd.prog 27 #[.agg #[.slice ap np cp, .slice ad nd cd, .slice ac nc cc, .int .i64 qu, .int .i64 bu, .slice ar nr cr, .slice ag ng cg]] W fun e w' => e = .returned (.int .i64 K) ∧ Since W w') := fun W hW => by
    rw [hK.out]; exact r12check_any ap ad ac ar ag np cp nd cd nc cc nr cr ng cg qu bu P W (hP.next (hS.trans hW)) hft
  clear hL hM hF hE' hB hK hI hN hf hA hE hP hft lr lp HLV HLP
  go_wp2_with fail
  refine (HLA.out _ HS).mono ?_
  rintro e w13 ⟨rfl, hb⟩
  replace HS := HS.trans hb; replace p_c0 := hb.cell p_c0; replace p_c1 := hb.cell p_c1; replace p_c2 := hb.cell p_c2; replace p_c3 := hb.cell p_c3; replace p_c4 := hb.cell p_c4; replace p_c5 := hb.cell p_c5; replace p_c6 := hb.cell p_c6; replace a_c0 := hb.cell a_c0; replace a_c1 := hb.cell a_c1; replace a_c2 := hb.cell a_c2; replace a_c3 := hb.cell a_c3; replace a_c4 := hb.cell a_c4; replace a_c5 := hb.cell a_c5; replace a_c6 := hb.cell a_c6; replace a_c7 := hb.cell a_c7; replace a_c8 := hb.cell a_c8; replace a_c9 := hb.cell a_c9; replace a_c10 := hb.cell a_c10
  clear hb
  cases M
  · go_wp2_with fail
    go_ret
    exact ⟨rfl, hS.trans HS⟩
  obtain ⟨m, hm⟩ : ∃ z : Nat, Hid (s.length = z) := ⟨_, rfl⟩
  have hm2 := hm.out
  by_cases gm : 300 < m
  · have gm' : (300 : Int) < (m : Int) := by omega
    go_wp2_with fail
    go_ret
    exact ⟨rfl, hS.trans HS⟩
  have gm' : ¬ (300 : Int) < (m : Int) := by omega
  obtain ⟨r, hr⟩ : ∃ z : Nat, Hid (q.length = z) := ⟨_, rfl⟩
  have hr2 := hr.out
  by_cases gr : 300 < r
  · have gr' : (300 : Int) < (r : Int) := by omega
    go_wp2_with fail
    go_ret
    exact ⟨rfl, hS.trans HS⟩
  have gr' : ¬ (300 : Int) < (r : Int) := by omega
  clear HLA
  go_wp2_with fail
  refine (HAR.out _ HS).mono ?_
  rintro e w14 ⟨rfl, hb⟩
  replace HS := HS.trans hb; replace p_c0 := hb.cell p_c0; replace p_c1 := hb.cell p_c1; replace p_c2 := hb.cell p_c2; replace p_c3 := hb.cell p_c3; replace p_c4 := hb.cell p_c4; replace p_c5 := hb.cell p_c5; replace p_c6 := hb.cell p_c6; replace a_c0 := hb.cell a_c0; replace a_c1 := hb.cell a_c1; replace a_c2 := hb.cell a_c2; replace a_c3 := hb.cell a_c3; replace a_c4 := hb.cell a_c4; replace a_c5 := hb.cell a_c5; replace a_c6 := hb.cell a_c6; replace a_c7 := hb.cell a_c7; replace a_c8 := hb.cell a_c8; replace a_c9 := hb.cell a_c9; replace a_c10 := hb.cell a_c10
  clear hb
  go_wp2_with fail
  refine (HARR.out _ HS).mono ?_
  rintro e w15 ⟨rfl, hb⟩
  replace HS := HS.trans hb; replace p_c0 := hb.cell p_c0; replace p_c1 := hb.cell p_c1; replace p_c2 := hb.cell p_c2; replace p_c3 := hb.cell p_c3; replace p_c4 := hb.cell p_c4; replace p_c5 := hb.cell p_c5; replace p_c6 := hb.cell p_c6; replace a_c0 := hb.cell a_c0; replace a_c1 := hb.cell a_c1; replace a_c2 := hb.cell a_c2; replace a_c3 := hb.cell a_c3; replace a_c4 := hb.cell a_c4; replace a_c5 := hb.cell a_c5; replace a_c6 := hb.cell a_c6; replace a_c7 := hb.cell a_c7; replace a_c8 := hb.cell a_c8; replace a_c9 := hb.cell a_c9; replace a_c10 := hb.cell a_c10
  clear hb
  go_wp2_with fail
  have pA : At w15 w.heap.size 0 #[.slice ap np cp, .slice ad nd cd, .slice ac nc cc, .int .i64 qu, .int .i64 bu, .slice ar nr cr, .slice ag ng cg] := PBox.at ⟨p_c0, p_c1, p_c2, p_c3, p_c4, p_c5, p_c6⟩
  have aA : At w15 (w.heap.size + 1) 0 #[.string ⟨a_s.toArray⟩, .string ⟨a_p.toArray⟩, .int .i64 a_n, .bool a_v0, .string ⟨a_l0.toArray⟩, .bool a_v1, .string ⟨a_l1.toArray⟩, .bool a_v2, .string ⟨a_l2.toArray⟩, .bool a_v3, .string ⟨a_l3.toArray⟩] := at_box11 a_s a_p a_n a_v0 a_v1 a_v2 a_v3 a_l0 a_l1 a_l2 a_l3 (a_B.next HS)
  clear a_c0 a_c1 a_c2 a_c3 a_c4 a_c5 a_c6 a_c7 a_c8 a_c9 a_c10 p_c0 p_c1 p_c2 p_c3 p_c4 p_c5 p_c6 HAR HARR
  have ha0 : Since w15 w15.drew := (Since.refl _).drew
  refine hx_begin (S := fun W => Since w15 W) (by kernel_rfl) ha0 (by kernel_rfl) (fun _ _ _ _ _ h => h) (fun hns hQ => ?_)
  refine hx_take (i := 0) (oi := _) (v := .agg #[.slice ap np cp, .slice ad nd cd, .slice ac nc cc, .int .i64 qu, .int .i64 bu, .slice ar nr cr, .slice ag ng cg]) rfl rfl hns (by kernel_rfl) (by kernel_rfl) hQ (by kernel_rfl) (fun W hW => ld_at rfl (by kernel_rfl) (by kernel_rfl) (by kernel_rfl) W (pA.next hW)) ha0 ?_
  refine hx_take (i := 2) (oi := _) (v := .agg #[.slice ap np cp, .slice ad nd cd, .slice ac nc cc, .int .i64 qu, .int .i64 bu, .slice ar nr cr, .slice ag ng cg]) rfl rfl hns (by kernel_rfl) (by kernel_rfl) hQ (by kernel_rfl) (fun W hW => ld_at rfl (by kernel_rfl) (by kernel_rfl) (by kernel_rfl) W (pA.next hW)) ha0 ?_
  refine hx_call (i := 1) (oi := _) 11 #[.agg #[.slice ap np cp, .slice ad nd cd, .slice ac nc cc, .int .i64 qu, .int .i64 bu, .slice ar nr cr, .slice ag ng cg]] rfl rfl (by kernel_rfl) (by kernel_rfl) (by kernel_rfl) (HCK.out _ (HS.trans ha0)) ?_
  rintro e wx61 ⟨rfl, hb⟩
  have ha1 : Since w15 wx61 := ha0.trans hb
  clear hb
  refine ⟨_, rfl, ha1, ?_⟩
  refine hx_call (i := 3) (oi := _) 27 #[.agg #[.slice ap np cp, .slice ad nd cd, .slice ac nc cc, .int .i64 qu, .int .i64 bu, .slice ar nr cr, .slice ag ng cg]] rfl rfl (by kernel_rfl) (by kernel_rfl) (by kernel_rfl) (HCKR.out _ (HS.trans ha1)) ?_
  rintro e wx62 ⟨rfl, hb⟩
  have ha2 : Since w15 wx62 := ha1.trans hb
  clear hb
  refine ⟨_, rfl, ha2, ?_⟩
  refine hx_take (i := 4) (oi := _) (v := .bool true) rfl rfl hns (by kernel_rfl) (by kernel_rfl) hQ (by kernel_rfl) (fun W _ => eqs_intE (s := K) rfl (by kernel_rfl) (by kernel_rfl) W) ha2 ?_
  refine hx_take (i := 5) (oi := _) (v := .bool true) rfl rfl hns (by kernel_rfl) (by kernel_rfl) hQ (by kernel_rfl) (fun _ _ => by kernel_rfl) ha2 ?_
  refine hx_take (i := 6) (oi := _) (v := .agg #[.slice ap np cp, .slice ad nd cd, .slice ac nc cc, .int .i64 qu, .int .i64 bu, .slice ar nr cr, .slice ag ng cg]) rfl rfl hns (by kernel_rfl) (by kernel_rfl) hQ (by kernel_rfl) (fun W hW => ld_at rfl (by kernel_rfl) (by kernel_rfl) (by kernel_rfl) W (pA.next hW)) ha2 ?_
  refine hx_take (i := 7) (oi := _) (v := .agg #[.string ⟨a_s.toArray⟩, .string ⟨a_p.toArray⟩, .int .i64 a_n, .bool a_v0, .string ⟨a_l0.toArray⟩, .bool a_v1, .string ⟨a_l1.toArray⟩, .bool a_v2, .string ⟨a_l2.toArray⟩, .bool a_v3, .string ⟨a_l3.toArray⟩]) rfl rfl hns (by kernel_rfl) (by kernel_rfl) hQ (by kernel_rfl) (fun W hW => ld_at rfl (by kernel_rfl) (by kernel_rfl) (by kernel_rfl) W (aA.next hW)) ha2 ?_
  refine hx_take (i := 9) (oi := _) (v := .agg #[.slice ap np cp, .slice ad nd cd, .slice ac nc cc, .int .i64 qu, .int .i64 bu, .slice ar nr cr, .slice ag ng cg]) rfl rfl hns (by kernel_rfl) (by kernel_rfl) hQ (by kernel_rfl) (fun W hW => ld_at rfl (by kernel_rfl) (by kernel_rfl) (by kernel_rfl) W (pA.next hW)) ha2 ?_
  refine hx_take (i := 10) (oi := _) (v := .agg #[.string ⟨a_s.toArray⟩, .string ⟨a_p.toArray⟩, .int .i64 a_n, .bool a_v0, .string ⟨a_l0.toArray⟩, .bool a_v1, .string ⟨a_l1.toArray⟩, .bool a_v2, .string ⟨a_l2.toArray⟩, .bool a_v3, .string ⟨a_l3.toArray⟩]) rfl rfl hns (by kernel_rfl) (by kernel_rfl) hQ (by kernel_rfl) (fun W hW => ld_at rfl (by kernel_rfl) (by kernel_rfl) (by kernel_rfl) W (aA.next hW)) ha2 ?_
  refine hx_call (i := 8) (oi := _) 15 #[.agg #[.slice ap np cp, .slice ad nd cd, .slice ac nc cc, .int .i64 qu, .int .i64 bu, .slice ar nr cr, .slice ag ng cg], .agg #[.string ⟨a_s.toArray⟩, .string ⟨a_p.toArray⟩, .int .i64 a_n, .bool a_v0, .string ⟨a_l0.toArray⟩, .bool a_v1, .string ⟨a_l1.toArray⟩, .bool a_v2, .string ⟨a_l2.toArray⟩, .bool a_v3, .string ⟨a_l3.toArray⟩]] rfl rfl (by kernel_rfl) (by kernel_rfl) (by kernel_rfl) (HAT.out _ (HS.trans ha2)) ?_
  rintro e wx63 ⟨rfl, hb⟩
  have ha3 : Since w15 wx63 := ha2.trans hb
  clear hb
  refine ⟨_, rfl, ha3, ?_⟩
  refine hx_call (i := 11) (oi := _) 28 #[.agg #[.slice ap np cp, .slice ad nd cd, .slice ac nc cc, .int .i64 qu, .int .i64 bu, .slice ar nr cr, .slice ag ng cg], .agg #[.string ⟨a_s.toArray⟩, .string ⟨a_p.toArray⟩, .int .i64 a_n, .bool a_v0, .string ⟨a_l0.toArray⟩, .bool a_v1, .string ⟨a_l1.toArray⟩, .bool a_v2, .string ⟨a_l2.toArray⟩, .bool a_v3, .string ⟨a_l3.toArray⟩]] rfl rfl (by kernel_rfl) (by kernel_rfl) (by kernel_rfl) (HATR.out _ (HS.trans ha3)) ?_
  rintro e wx64 ⟨rfl, hb⟩
  have ha4 : Since w15 wx64 := ha3.trans hb
  clear hb
  refine ⟨_, rfl, ha4, ?_⟩
  refine hx_take (i := 12) (oi := _) (v := .bool true) rfl rfl hns (by kernel_rfl) (by kernel_rfl) hQ (by kernel_rfl) (fun W _ => eqs_intE (s := E) rfl (by kernel_rfl) (by kernel_rfl) W) ha4 ?_
  refine hx_take (i := 13) (oi := _) (v := .bool true) rfl rfl hns (by kernel_rfl) (by kernel_rfl) hQ (by kernel_rfl) (fun _ _ => by kernel_rfl) ha4 ?_
  refine hx_take (i := 14) (oi := _) (v := .bool true) rfl rfl hns (by kernel_rfl) (by kernel_rfl) hQ (by kernel_rfl) (fun _ _ => by kernel_rfl) ha4 ?_
  refine hx_take (i := 15) (oi := _) (v := .agg #[.slice ap np cp, .slice ad nd cd, .slice ac nc cc, .int .i64 qu, .int .i64 bu, .slice ar nr cr, .slice ag ng cg]) rfl rfl hns (by kernel_rfl) (by kernel_rfl) hQ (by kernel_rfl) (fun W hW => ld_at rfl (by kernel_rfl) (by kernel_rfl) (by kernel_rfl) W (pA.next hW)) ha4 ?_
  refine hx_take (i := 16) (oi := _) (v := .agg #[.string ⟨a_s.toArray⟩, .string ⟨a_p.toArray⟩, .int .i64 a_n, .bool a_v0, .string ⟨a_l0.toArray⟩, .bool a_v1, .string ⟨a_l1.toArray⟩, .bool a_v2, .string ⟨a_l2.toArray⟩, .bool a_v3, .string ⟨a_l3.toArray⟩]) rfl rfl hns (by kernel_rfl) (by kernel_rfl) hQ (by kernel_rfl) (fun W hW => ld_at rfl (by kernel_rfl) (by kernel_rfl) (by kernel_rfl) W (aA.next hW)) ha4 ?_
  refine hx_take (i := 18) (oi := _) (v := .agg #[.slice ap np cp, .slice ad nd cd, .slice ac nc cc, .int .i64 qu, .int .i64 bu, .slice ar nr cr, .slice ag ng cg]) rfl rfl hns (by kernel_rfl) (by kernel_rfl) hQ (by kernel_rfl) (fun W hW => ld_at rfl (by kernel_rfl) (by kernel_rfl) (by kernel_rfl) W (pA.next hW)) ha4 ?_
  refine hx_take (i := 19) (oi := _) (v := .agg #[.string ⟨a_s.toArray⟩, .string ⟨a_p.toArray⟩, .int .i64 a_n, .bool a_v0, .string ⟨a_l0.toArray⟩, .bool a_v1, .string ⟨a_l1.toArray⟩, .bool a_v2, .string ⟨a_l2.toArray⟩, .bool a_v3, .string ⟨a_l3.toArray⟩]) rfl rfl hns (by kernel_rfl) (by kernel_rfl) hQ (by kernel_rfl) (fun W hW => ld_at rfl (by kernel_rfl) (by kernel_rfl) (by kernel_rfl) W (aA.next hW)) ha4 ?_
  refine hx_call (i := 17) (oi := _) 17 #[.agg #[.slice ap np cp, .slice ad nd cd, .slice ac nc cc, .int .i64 qu, .int .i64 bu, .slice ar nr cr, .slice ag ng cg], .agg #[.string ⟨a_s.toArray⟩, .string ⟨a_p.toArray⟩, .int .i64 a_n, .bool a_v0, .string ⟨a_l0.toArray⟩, .bool a_v1, .string ⟨a_l1.toArray⟩, .bool a_v2, .string ⟨a_l2.toArray⟩, .bool a_v3, .string ⟨a_l3.toArray⟩]] rfl rfl (by kernel_rfl) (by kernel_rfl) (by kernel_rfl) (HGO.out _ (HS.trans ha4)) ?_
  rintro e wx65 ⟨rfl, hb⟩
  have ha5 : Since w15 wx65 := ha4.trans hb
  clear hb
  refine ⟨_, rfl, ha5, ?_⟩
  refine hx_call (i := 20) (oi := _) 29 #[.agg #[.slice ap np cp, .slice ad nd cd, .slice ac nc cc, .int .i64 qu, .int .i64 bu, .slice ar nr cr, .slice ag ng cg], .agg #[.string ⟨a_s.toArray⟩, .string ⟨a_p.toArray⟩, .int .i64 a_n, .bool a_v0, .string ⟨a_l0.toArray⟩, .bool a_v1, .string ⟨a_l1.toArray⟩, .bool a_v2, .string ⟨a_l2.toArray⟩, .bool a_v3, .string ⟨a_l3.toArray⟩]] rfl rfl (by kernel_rfl) (by kernel_rfl) (by kernel_rfl) (HGOR.out _ (HS.trans ha5)) ?_
  rintro e wx66 ⟨rfl, hb⟩
  have ha6 : Since w15 wx66 := ha5.trans hb
  clear hb
  refine ⟨_, rfl, ha6, ?_⟩
  refine hx_take (i := 21) (oi := _) (v := .bool true) rfl rfl hns (by kernel_rfl) (by kernel_rfl) hQ (by kernel_rfl) (fun W _ => eqs_intE (s := E) rfl (by kernel_rfl) (by kernel_rfl) W) ha6 ?_
  refine hx_take (i := 22) (oi := _) (v := .bool true) rfl rfl hns (by kernel_rfl) (by kernel_rfl) hQ (by kernel_rfl) (fun _ _ => by kernel_rfl) ha6 ?_
  refine hx_take (i := 23) (oi := _) (v := .bool true) rfl rfl hns (by kernel_rfl) (by kernel_rfl) hQ (by kernel_rfl) (fun _ _ => by kernel_rfl) ha6 ?_
  refine hx_take (i := 24) (oi := _) (v := .agg #[.slice ap np cp, .slice ad nd cd, .slice ac nc cc, .int .i64 qu, .int .i64 bu, .slice ar nr cr, .slice ag ng cg]) rfl rfl hns (by kernel_rfl) (by kernel_rfl) hQ (by kernel_rfl) (fun W hW => ld_at rfl (by kernel_rfl) (by kernel_rfl) (by kernel_rfl) W (pA.next hW)) ha6 ?_
  refine hx_take (i := 25) (oi := _) (v := .string ⟨s.toArray⟩) rfl rfl hns (by kernel_rfl) (by kernel_rfl) hQ (by kernel_rfl) (fun _ _ => by kernel_rfl) ha6 ?_
  refine hx_take (i := 26) (oi := _) (v := .agg #[.string ⟨a_s.toArray⟩, .string ⟨a_p.toArray⟩, .int .i64 a_n, .bool a_v0, .string ⟨a_l0.toArray⟩, .bool a_v1, .string ⟨a_l1.toArray⟩, .bool a_v2, .string ⟨a_l2.toArray⟩, .bool a_v3, .string ⟨a_l3.toArray⟩]) rfl rfl hns (by kernel_rfl) (by kernel_rfl) hQ (by kernel_rfl) (fun W hW => ld_at rfl (by kernel_rfl) (by kernel_rfl) (by kernel_rfl) W (aA.next hW)) ha6 ?_
  refine hx_take (i := 28) (oi := _) (v := .agg #[.slice ap np cp, .slice ad nd cd, .slice ac nc cc, .int .i64 qu, .int .i64 bu, .slice ar nr cr, .slice ag ng cg]) rfl rfl hns (by kernel_rfl) (by kernel_rfl) hQ (by kernel_rfl) (fun W hW => ld_at rfl (by kernel_rfl) (by kernel_rfl) (by kernel_rfl) W (pA.next hW)) ha6 ?_
  refine hx_take (i := 29) (oi := _) (v := .string ⟨s.toArray⟩) rfl rfl hns (by kernel_rfl) (by kernel_rfl) hQ (by kernel_rfl) (fun _ _ => by kernel_rfl) ha6 ?_
  refine hx_take (i := 30) (oi := _) (v := .agg #[.string ⟨a_s.toArray⟩, .string ⟨a_p.toArray⟩, .int .i64 a_n, .bool a_v0, .string ⟨a_l0.toArray⟩, .bool a_v1, .string ⟨a_l1.toArray⟩, .bool a_v2, .string ⟨a_l2.toArray⟩, .bool a_v3, .string ⟨a_l3.toArray⟩]) rfl rfl hns (by kernel_rfl) (by kernel_rfl) hQ (by kernel_rfl) (fun W hW => ld_at rfl (by kernel_rfl) (by kernel_rfl) (by kernel_rfl) W (aA.next hW)) ha6 ?_
  refine hx_call (i := 27) (oi := _) 20 #[.agg #[.slice ap np cp, .slice ad nd cd, .slice ac nc cc, .int .i64 qu, .int .i64 bu, .slice ar nr cr, .slice ag ng cg], .string ⟨s.toArray⟩, .agg #[.string ⟨a_s.toArray⟩, .string ⟨a_p.toArray⟩, .int .i64 a_n, .bool a_v0, .string ⟨a_l0.toArray⟩, .bool a_v1, .string ⟨a_l1.toArray⟩, .bool a_v2, .string ⟨a_l2.toArray⟩, .bool a_v3, .string ⟨a_l3.toArray⟩]] rfl rfl (by kernel_rfl) (by kernel_rfl) (by kernel_rfl) (HFA.out _ (HS.trans ha6)) ?_
  rintro e wx67 ⟨rfl, hb⟩
  have ha7 : Since w15 wx67 := ha6.trans hb
  clear hb
  refine ⟨_, rfl, ha7, ?_⟩
  refine hx_call (i := 31) (oi := _) 30 #[.agg #[.slice ap np cp, .slice ad nd cd, .slice ac nc cc, .int .i64 qu, .int .i64 bu, .slice ar nr cr, .slice ag ng cg], .string ⟨s.toArray⟩, .agg #[.string ⟨a_s.toArray⟩, .string ⟨a_p.toArray⟩, .int .i64 a_n, .bool a_v0, .string ⟨a_l0.toArray⟩, .bool a_v1, .string ⟨a_l1.toArray⟩, .bool a_v2, .string ⟨a_l2.toArray⟩, .bool a_v3, .string ⟨a_l3.toArray⟩]] rfl rfl (by kernel_rfl) (by kernel_rfl) (by kernel_rfl) (HFAR.out _ (HS.trans ha7)) ?_
  rintro e wx68 ⟨rfl, hb⟩
  have ha8 : Since w15 wx68 := ha7.trans hb
  clear hb
  refine ⟨_, rfl, ha8, ?_⟩
  refine hx_take (i := 32) (oi := _) (v := .bool true) rfl rfl hns (by kernel_rfl) (by kernel_rfl) hQ (by kernel_rfl) (fun W _ => eqs_intE (s := F) rfl (by kernel_rfl) (by kernel_rfl) W) ha8 ?_
  refine hx_take (i := 33) (oi := _) (v := .bool true) rfl rfl hns (by kernel_rfl) (by kernel_rfl) hQ (by kernel_rfl) (fun _ _ => by kernel_rfl) ha8 ?_
  refine hx_take (i := 34) (oi := _) (v := .bool true) rfl rfl hns (by kernel_rfl) (by kernel_rfl) hQ (by kernel_rfl) (fun _ _ => by kernel_rfl) ha8 ?_
  refine hx_take (i := 35) (oi := _) (v := .agg #[.slice ap np cp, .slice ad nd cd, .slice ac nc cc, .int .i64 qu, .int .i64 bu, .slice ar nr cr, .slice ag ng cg]) rfl rfl hns (by kernel_rfl) (by kernel_rfl) hQ (by kernel_rfl) (fun W hW => ld_at rfl (by kernel_rfl) (by kernel_rfl) (by kernel_rfl) W (pA.next hW)) ha8 ?_
  refine hx_take (i := 36) (oi := _) (v := .string ⟨s.toArray⟩) rfl rfl hns (by kernel_rfl) (by kernel_rfl) hQ (by kernel_rfl) (fun _ _ => by kernel_rfl) ha8 ?_
  refine hx_take (i := 38) (oi := _) (v := .agg #[.slice ap np cp, .slice ad nd cd, .slice ac nc cc, .int .i64 qu, .int .i64 bu, .slice ar nr cr, .slice ag ng cg]) rfl rfl hns (by kernel_rfl) (by kernel_rfl) hQ (by kernel_rfl) (fun W hW => ld_at rfl (by kernel_rfl) (by kernel_rfl) (by kernel_rfl) W (pA.next hW)) ha8 ?_
  refine hx_take (i := 39) (oi := _) (v := .string ⟨s.toArray⟩) rfl rfl hns (by kernel_rfl) (by kernel_rfl) hQ (by kernel_rfl) (fun _ _ => by kernel_rfl) ha8 ?_
  refine hx_call (i := 37) (oi := _) 18 #[.agg #[.slice ap np cp, .slice ad nd cd, .slice ac nc cc, .int .i64 qu, .int .i64 bu, .slice ar nr cr, .slice ag ng cg], .string ⟨s.toArray⟩] rfl rfl (by kernel_rfl) (by kernel_rfl) (by kernel_rfl) (HPS.out _ (HS.trans ha8)) ?_
  rintro e wx69 ⟨rfl, hb⟩
  have ha9 : Since w15 wx69 := ha8.trans hb
  clear hb
  refine ⟨_, rfl, ha9, ?_⟩
  refine hx_call (i := 40) (oi := _) 31 #[.agg #[.slice ap np cp, .slice ad nd cd, .slice ac nc cc, .int .i64 qu, .int .i64 bu, .slice ar nr cr, .slice ag ng cg], .string ⟨s.toArray⟩] rfl rfl (by kernel_rfl) (by kernel_rfl) (by kernel_rfl) (HPSR.out _ (HS.trans ha9)) ?_
  rintro e wx70 ⟨rfl, hb⟩
  have ha10 : Since w15 wx70 := ha9.trans hb
  clear hb
  refine ⟨_, rfl, ha10, ?_⟩
  refine hx_take (i := 41) (oi := _) (v := .bool true) rfl rfl hns (by kernel_rfl) (by kernel_rfl) hQ (by kernel_rfl) (fun W _ => eqs_bool (s := B) rfl (by kernel_rfl) (by kernel_rfl) W) ha10 ?_
  refine hx_take (i := 42) (oi := _) (v := .bool true) rfl rfl hns (by kernel_rfl) (by kernel_rfl) hQ (by kernel_rfl) (fun _ _ => by kernel_rfl) ha10 ?_
  refine hx_take (i := 43) (oi := _) (v := .bool true) rfl rfl hns (by kernel_rfl) (by kernel_rfl) hQ (by kernel_rfl) (fun _ _ => by kernel_rfl) ha10 ?_
  refine hx_take (i := 44) (oi := _) (v := .int .i64 N) rfl rfl hns (by kernel_rfl) (by kernel_rfl) hQ (by kernel_rfl) (fun _ _ => by kernel_rfl) ha10 ?_
  refine hx_take (i := 45) (oi := _) (v := .int .i64 N) rfl rfl hns (by kernel_rfl) (by kernel_rfl) hQ (by kernel_rfl) (fun _ _ => by kernel_rfl) ha10 ?_
  refine hx_take (i := 46) (oi := _) (v := .bool true) rfl rfl hns (by kernel_rfl) (by kernel_rfl) hQ (by kernel_rfl) (fun W _ => eqs_int (s := N) rfl (by kernel_rfl) (by kernel_rfl) W) ha10 ?_
  refine hx_take (i := 47) (oi := _) (v := .bool true) rfl rfl hns (by kernel_rfl) (by kernel_rfl) hQ (by kernel_rfl) (fun _ _ => by kernel_rfl) ha10 ?_
  refine hx_take (i := 48) (oi := _) (v := .bool true) rfl rfl hns (by kernel_rfl) (by kernel_rfl) hQ (by kernel_rfl) (fun _ _ => by kernel_rfl) ha10 ?_
  refine hx_take (i := 49) (oi := _) (v := .bool I) rfl rfl hns (by kernel_rfl) (by kernel_rfl) hQ (by kernel_rfl) (fun _ _ => by kernel_rfl) ha10 ?_
  refine hx_take (i := 50) (oi := _) (v := .bool I) rfl rfl hns (by kernel_rfl) (by kernel_rfl) hQ (by kernel_rfl) (fun _ _ => by kernel_rfl) ha10 ?_
  refine hx_take (i := 51) (oi := _) (v := .bool true) rfl rfl hns (by kernel_rfl) (by kernel_rfl) hQ (by kernel_rfl) (fun W _ => eqs_bool (s := I) rfl (by kernel_rfl) (by kernel_rfl) W) ha10 ?_
  refine hx_take (i := 52) (oi := _) (v := .bool true) rfl rfl hns (by kernel_rfl) (by kernel_rfl) hQ (by kernel_rfl) (fun _ _ => by kernel_rfl) ha10 ?_
  refine hx_take (i := 53) (oi := _) (v := .bool true) rfl rfl hns (by kernel_rfl) (by kernel_rfl) hQ (by kernel_rfl) (fun _ _ => by kernel_rfl) ha10 ?_
  refine wpAnyH_done (by kernel_rfl) ?_ _
  clear hns hQ
  simp only [List.set_cons_zero, List.set_cons_succ]
  replace HS := HS.trans ha10
  clear pA aA
  go_wp2_with fail
  go_ret
  exact ⟨rfl, hS.trans HS⟩
end Go.Proofs.YtpkggopaigledaaDoor
