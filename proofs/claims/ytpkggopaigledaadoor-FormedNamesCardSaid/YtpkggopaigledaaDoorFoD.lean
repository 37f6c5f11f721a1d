/- formed: Goal, Fact. -/
import Derived.Test.YtpkggopaigledaaDoorFoC
namespace Go.Proofs.YtpkggopaigledaaDoor
open Go.RowKit

set_option maxHeartbeats 1000000 in
set_option maxRecDepth 100000 in
theorem fgoal_any (ap ad ac ar ag : Option Addr) (np cp nd cd nc cc nr cr ng cg : Nat) (qu bu : Int) (pr : List Txt) (pd : List (Txt × Int)) (a_s a_p : List UInt8) (a_n : Int) (a_v0 a_v1 a_v2 a_v3 : Bool) (a_l0 a_l1 a_l2 a_l3 : List UInt8) (w : World) (hT : TRow w (.slice ap np cp) pr) (hP : PRow w (.slice ad nd cd) pd) (lr : pr.length ≤ 1000000) (lp : pd.length ≤ 1000000) (hF : FitsA ((a_s, a_p, a_n, (a_v0, a_l0), (a_v1, a_l1), (a_v2, a_l2), (a_v3, a_l3)) : Atm)) (hE : Env w) :
    Calls Tryd.prog 17 #[.agg #[.slice ap np cp, .slice ad nd cd, .slice ac nc cc, .int .i64 qu, .int .i64 bu, .slice ar nr cr, .slice ag ng cg], .agg #[.string ⟨a_s.toArray⟩, .string ⟨a_p.toArray⟩, .int .i64 a_n, .bool a_v0, .string ⟨a_l0.toArray⟩, .bool a_v1, .string ⟨a_l1.toArray⟩, .bool a_v2, .string ⟨a_l2.toArray⟩, .bool a_v3, .string ⟨a_l3.toArray⟩]] w fun e w' => e = .returned (.int .i64 (atomE pr pd ((a_s, a_p, a_n, (a_v0, a_l0), (a_v1, a_l1), (a_v2, a_l2), (a_v3, a_l3)) : Atm))) ∧ Since w w' := by
  have hS : Since w ((w.alloc (.cells #[.slice ap np cp, .slice ad nd cd, .slice ac nc cc, .int .i64 qu, .int .i64 bu, .slice ar nr cr, .slice ag ng cg] 28)).alloc (.cells #[.string ⟨a_s.toArray⟩, .string ⟨a_p.toArray⟩, .int .i64 a_n, .bool a_v0, .string ⟨a_l0.toArray⟩, .bool a_v1, .string ⟨a_l1.toArray⟩, .bool a_v2, .string ⟨a_l2.toArray⟩, .bool a_v3, .string ⟨a_l3.toArray⟩] 39)) := ((Since.refl _).alloc _).alloc _
  have HC := Lib.hid (fatom_any ap ad ac ar ag np cp nd cd nc cc nr cr ng cg qu bu pr pd a_s a_p a_n a_v0 a_v1 a_v2 a_v3 a_l0 a_l1 a_l2 a_l3 _ (tnext hT hS) (pnext hP hS) lr lp hF (hE.next hS))
  clear hT hP hF hE
  go_enter Tryd.func17, Tryd.ntmps17
  go_wp2_with fail
  refine HC.out.mono ?_
  rintro e w1 ⟨rfl, hb⟩
  go_wp2_with fail
  go_ret
  exact ⟨rfl, hS.trans hb⟩
set_option maxHeartbeats 1000000 in
set_option maxRecDepth 100000 in
theorem ffact1_any (ap ad ac ar ag : Option Addr) (np cp nd cd nc cc nr cr ng cg : Nat) (qu bu : Int) (pr : List Txt) (pd : List (Txt × Int)) (a_s a_p : List UInt8) (a_n : Int) (a_v0 a_v1 a_v2 a_v3 : Bool) (a_l0 a_l1 a_l2 a_l3 : List UInt8) (g k : Nat) (w : World) (p_B : PBox w g ap ad ac ar ag np cp nd cd nc cc nr cr ng cg qu bu) (a_B : Box w k ((a_s, a_p, a_n, (a_v0, a_l0), (a_v1, a_l1), (a_v2, a_l2), (a_v3, a_l3)) : Atm)) (hT : TRow w (.slice ap np cp) pr) (hP : PRow w (.slice ad nd cd) pd) (lr : pr.length ≤ 1000000) (lp : pd.length ≤ 1000000) (hF : FitsA ((a_s, a_p, a_n, (a_v0, a_l0), (a_v1, a_l1), (a_v2, a_l2), (a_v3, a_l3)) : Atm)) (hE : Env w) :
    Calls Tryd.prog 48 #[.pointer (some ⟨g, 0, none⟩), .pointer (some ⟨k, 0, none⟩)] w fun e w' => e = .returned (.int .i64 (atomE pr pd ((a_s, a_p, a_n, (a_v0, a_l0), (a_v1, a_l1), (a_v2, a_l2), (a_v3, a_l3)) : Atm))) ∧ Since w w' := by
  have HC := Lib.hid (fatom_any ap ad ac ar ag np cp nd cd nc cc nr cr ng cg qu bu pr pd a_s a_p a_n a_v0 a_v1 a_v2 a_v3 a_l0 a_l1 a_l2 a_l3 _ hT hP lr lp hF hE)
  clear hT hP hF hE
  obtain ⟨p_c0, p_c1, p_c2, p_c3, p_c4, p_c5, p_c6⟩ := p_B
  obtain ⟨a_c0, a_c1, a_c2, a_c3, a_c4, a_c5, a_c6, a_c7, a_c8, a_c9, a_c10⟩ := a_B.all
  clear a_B
  go_enter Tryd.func48, Tryd.ntmps48
  go_wp2_with fail
  refine HC.out.mono ?_
  rintro e w1 ⟨rfl, hb⟩
  go_wp2_with fail
  go_ret
  exact ⟨rfl, hb⟩
/-- Why a sender's fact may not be. -/
def factE (pr : List Txt) (pd : List (Txt × Int)) (s : Txt) (a : Atm) : Int :=
  firstE [ifE (!(pr.contains s)) 6, atomE pr pd a, ifE (!(groundA a)) 10, ifE (!(a.1 == s)) 11]
set_option maxHeartbeats 4000000 in
set_option maxRecDepth 100000 in
theorem ffact_any (ap ad ac ar ag : Option Addr) (np cp nd cd nc cc nr cr ng cg : Nat) (qu bu : Int) (pr : List Txt) (pd : List (Txt × Int)) (s : Txt) (a_s a_p : List UInt8) (a_n : Int) (a_v0 a_v1 a_v2 a_v3 : Bool) (a_l0 a_l1 a_l2 a_l3 : List UInt8) (w : World) (hT : TRow w (.slice ap np cp) pr) (hP : PRow w (.slice ad nd cd) pd) (lr : pr.length ≤ 1000000) (lp : pd.length ≤ 1000000) (hF : FitsA ((a_s, a_p, a_n, (a_v0, a_l0), (a_v1, a_l1), (a_v2, a_l2), (a_v3, a_l3)) : Atm)) (hE : Env w) :
    Calls Tryd.prog 20 #[.agg #[.slice ap np cp, .slice ad nd cd, .slice ac nc cc, .int .i64 qu, .int .i64 bu, .slice ar nr cr, .slice ag ng cg], .string ⟨s.toArray⟩, .agg #[.string ⟨a_s.toArray⟩, .string ⟨a_p.toArray⟩, .int .i64 a_n, .bool a_v0, .string ⟨a_l0.toArray⟩, .bool a_v1, .string ⟨a_l1.toArray⟩, .bool a_v2, .string ⟨a_l2.toArray⟩, .bool a_v3, .string ⟨a_l3.toArray⟩]] w fun e w' => e = .returned (.int .i64 (factE pr pd s ((a_s, a_p, a_n, (a_v0, a_l0), (a_v1, a_l1), (a_v2, a_l2), (a_v3, a_l3)) : Atm))) ∧ Since w w' := by
  have hS : Since w ((w.alloc (.cells #[.slice ap np cp, .slice ad nd cd, .slice ac nc cc, .int .i64 qu, .int .i64 bu, .slice ar nr cr, .slice ag ng cg] 28)).alloc (.cells #[.string ⟨a_s.toArray⟩, .string ⟨a_p.toArray⟩, .int .i64 a_n, .bool a_v0, .string ⟨a_l0.toArray⟩, .bool a_v1, .string ⟨a_l1.toArray⟩, .bool a_v2, .string ⟨a_l2.toArray⟩, .bool a_v3, .string ⟨a_l3.toArray⟩] 39)) := ((Since.refl _).alloc _).alloc _
  have p_B := (pbox_new w ap ad ac ar ag np cp nd cd nc cc nr cr ng cg qu bu 28).next ((Since.refl _).alloc (.cells #[.string ⟨a_s.toArray⟩, .string ⟨a_p.toArray⟩, .int .i64 a_n, .bool a_v0, .string ⟨a_l0.toArray⟩, .bool a_v1, .string ⟨a_l1.toArray⟩, .bool a_v2, .string ⟨a_l2.toArray⟩, .bool a_v3, .string ⟨a_l3.toArray⟩] 39))
  have a_B : Box ((w.alloc (.cells #[.slice ap np cp, .slice ad nd cd, .slice ac nc cc, .int .i64 qu, .int .i64 bu, .slice ar nr cr, .slice ag ng cg] 28)).alloc (.cells #[.string ⟨a_s.toArray⟩, .string ⟨a_p.toArray⟩, .int .i64 a_n, .bool a_v0, .string ⟨a_l0.toArray⟩, .bool a_v1, .string ⟨a_l1.toArray⟩, .bool a_v2, .string ⟨a_l2.toArray⟩, .bool a_v3, .string ⟨a_l3.toArray⟩] 39)) (w.heap.size + 1) ((a_s, a_p, a_n, (a_v0, a_l0), (a_v1, a_l1), (a_v2, a_l2), (a_v3, a_l3)) : Atm) := by
    have := box_new (w.alloc (.cells #[.slice ap np cp, .slice ad nd cd, .slice ac nc cc, .int .i64 qu, .int .i64 bu, .slice ar nr cr, .slice ag ng cg] 28)) ((a_s, a_p, a_n, (a_v0, a_l0), (a_v1, a_l1), (a_v2, a_l2), (a_v3, a_l3)) : Atm) 39
    rwa [World.size_alloc] at this
  have HTR := Lib.hid (tnext hT hS)
  have HPD := Lib.hid (pnext hP hS)
  have HE := Lib.hid (hE.next hS)
  obtain ⟨Bp, hBp⟩ : ∃ B, Hid (B = pr.contains s) := ⟨_, rfl⟩
  obtain ⟨G, hG⟩ : ∃ G, Hid (G = groundA ((a_s, a_p, a_n, (a_v0, a_l0), (a_v1, a_l1), (a_v2, a_l2), (a_v3, a_l3)) : Atm)) := ⟨_, rfl⟩
  have HFA := Lib.hid hF
  have HPR : Hid (∀ W, TRow W (.slice ap np cp) pr → Calls Tryd.prog 18 #[.agg #[.slice ap np cp, .slice ad nd cd, .slice ac nc cc, .int .i64 qu, .int .i64 bu, .slice ar nr cr, .slice ag ng cg], .string ⟨s.toArray⟩] W fun e w' => e = .returned (.bool Bp) ∧ Since W w') := by
    intro W h; rw [hBp.out]; exact fprin_any ap ad ac ar ag np cp nd cd nc cc nr cr ng cg qu bu pr s W h lr
  have HGR : Hid (∀ W, Env W → Calls Tryd.prog 49 #[.agg #[.string ⟨a_s.toArray⟩, .string ⟨a_p.toArray⟩, .int .i64 a_n, .bool a_v0, .string ⟨a_l0.toArray⟩, .bool a_v1, .string ⟨a_l1.toArray⟩, .bool a_v2, .string ⟨a_l2.toArray⟩, .bool a_v3, .string ⟨a_l3.toArray⟩]] W fun e w' => e = .returned (.bool G) ∧ Since W w') := by
    intro W h; rw [hG.out]; exact ground_any a_s a_p a_n a_v0 a_v1 a_v2 a_v3 a_l0 a_l1 a_l2 a_l3 W hF h
  clear hT hP hE hF
  obtain ⟨p_c0, p_c1, p_c2, p_c3, p_c4, p_c5, p_c6⟩ := p_B
  obtain ⟨a_c0, a_c1, a_c2, a_c3, a_c4, a_c5, a_c6, a_c7, a_c8, a_c9, a_c10⟩ := a_B.all
  go_enter Tryd.func20, Tryd.ntmps20
  go_wp2_with fail
  have RA : Hid (Rule ((w.alloc (.cells #[.slice ap np cp, .slice ad nd cd, .slice ac nc cc, .int .i64 qu, .int .i64 bu, .slice ar nr cr, .slice ag ng cg] 28)).alloc (.cells #[.string ⟨a_s.toArray⟩, .string ⟨a_p.toArray⟩, .int .i64 a_n, .bool a_v0, .string ⟨a_l0.toArray⟩, .bool a_v1, .string ⟨a_l1.toArray⟩, .bool a_v2, .string ⟨a_l2.toArray⟩, .bool a_v3, .string ⟨a_l3.toArray⟩] 39)) (.func (.func 48) #[] #[.pointer (some ⟨w.heap.size, 0, none⟩), .pointer (some ⟨w.heap.size + 1, 0, none⟩)]) (atomE pr pd ((a_s, a_p, a_n, (a_v0, a_l0), (a_v1, a_l1), (a_v2, a_l2), (a_v3, a_l3)) : Atm))) :=
    ⟨_, _, rfl, run_fact1 _, fun W hW => ffact1_any ap ad ac ar ag np cp nd cd nc cc nr cr ng cg qu bu pr pd a_s a_p a_n a_v0 a_v1 a_v2 a_v3 a_l0 a_l1 a_l2 a_l3 _ _ W ((pbox_new w ap ad ac ar ag np cp nd cd nc cc nr cr ng cg qu bu 28).next (((Since.refl _).alloc _).trans hW)) (a_B.next hW) (tnext HTR.out hW) (pnext HPD.out hW) lr lp HFA.out (HE.out.next hW)⟩
  clear a_B HFA HPD
  generalize ((w.alloc (.cells #[.slice ap np cp, .slice ad nd cd, .slice ac nc cc, .int .i64 qu, .int .i64 bu, .slice ar nr cr, .slice ag ng cg] 28)).alloc (.cells #[.string ⟨a_s.toArray⟩, .string ⟨a_p.toArray⟩, .int .i64 a_n, .bool a_v0, .string ⟨a_l0.toArray⟩, .bool a_v1, .string ⟨a_l1.toArray⟩, .bool a_v2, .string ⟨a_l2.toArray⟩, .bool a_v3, .string ⟨a_l3.toArray⟩] 39)) = w1 at *
  have HS : Hid (∀ W', Since w1 W' → (W'.cell? ⟨w.heap.size, 0, none⟩ = some (.slice ap np cp) ∧ W'.cell? ⟨w.heap.size, 1, none⟩ = some (.slice ad nd cd) ∧ W'.cell? ⟨w.heap.size, 2, none⟩ = some (.slice ac nc cc) ∧ W'.cell? ⟨w.heap.size, 3, none⟩ = some (.int .i64 qu) ∧ W'.cell? ⟨w.heap.size, 4, none⟩ = some (.int .i64 bu) ∧ W'.cell? ⟨w.heap.size, 5, none⟩ = some (.slice ar nr cr) ∧ W'.cell? ⟨w.heap.size, 6, none⟩ = some (.slice ag ng cg)) ∧ (W'.cell? ⟨w.heap.size + 1, 0, none⟩ = some (.string ⟨a_s.toArray⟩) ∧ W'.cell? ⟨w.heap.size + 1, 1, none⟩ = some (.string ⟨a_p.toArray⟩) ∧ W'.cell? ⟨w.heap.size + 1, 2, none⟩ = some (.int .i64 a_n) ∧ W'.cell? ⟨w.heap.size + 1, 3, none⟩ = some (.bool a_v0) ∧ W'.cell? ⟨w.heap.size + 1, 4, none⟩ = some (.string ⟨a_l0.toArray⟩) ∧ W'.cell? ⟨w.heap.size + 1, 5, none⟩ = some (.bool a_v1) ∧ W'.cell? ⟨w.heap.size + 1, 6, none⟩ = some (.string ⟨a_l1.toArray⟩) ∧ W'.cell? ⟨w.heap.size + 1, 7, none⟩ = some (.bool a_v2) ∧ W'.cell? ⟨w.heap.size + 1, 8, none⟩ = some (.string ⟨a_l2.toArray⟩) ∧ W'.cell? ⟨w.heap.size + 1, 9, none⟩ = some (.bool a_v3) ∧ W'.cell? ⟨w.heap.size + 1, 10, none⟩ = some (.string ⟨a_l3.toArray⟩)) ∧ Since w1 W') := fun W h => ⟨⟨h.cell p_c0, h.cell p_c1, h.cell p_c2, h.cell p_c3, h.cell p_c4, h.cell p_c5, h.cell p_c6⟩, ⟨h.cell a_c0, h.cell a_c1, h.cell a_c2, h.cell a_c3, h.cell a_c4, h.cell a_c5, h.cell a_c6, h.cell a_c7, h.cell a_c8, h.cell a_c9, h.cell a_c10⟩, h⟩
  go_region_held3 (fun w' => (w'.cell? ⟨w.heap.size, 0, none⟩ = some (.slice ap np cp) ∧ w'.cell? ⟨w.heap.size, 1, none⟩ = some (.slice ad nd cd) ∧ w'.cell? ⟨w.heap.size, 2, none⟩ = some (.slice ac nc cc) ∧ w'.cell? ⟨w.heap.size, 3, none⟩ = some (.int .i64 qu) ∧ w'.cell? ⟨w.heap.size, 4, none⟩ = some (.int .i64 bu) ∧ w'.cell? ⟨w.heap.size, 5, none⟩ = some (.slice ar nr cr) ∧ w'.cell? ⟨w.heap.size, 6, none⟩ = some (.slice ag ng cg)) ∧ (w'.cell? ⟨w.heap.size + 1, 0, none⟩ = some (.string ⟨a_s.toArray⟩) ∧ w'.cell? ⟨w.heap.size + 1, 1, none⟩ = some (.string ⟨a_p.toArray⟩) ∧ w'.cell? ⟨w.heap.size + 1, 2, none⟩ = some (.int .i64 a_n) ∧ w'.cell? ⟨w.heap.size + 1, 3, none⟩ = some (.bool a_v0) ∧ w'.cell? ⟨w.heap.size + 1, 4, none⟩ = some (.string ⟨a_l0.toArray⟩) ∧ w'.cell? ⟨w.heap.size + 1, 5, none⟩ = some (.bool a_v1) ∧ w'.cell? ⟨w.heap.size + 1, 6, none⟩ = some (.string ⟨a_l1.toArray⟩) ∧ w'.cell? ⟨w.heap.size + 1, 7, none⟩ = some (.bool a_v2) ∧ w'.cell? ⟨w.heap.size + 1, 8, none⟩ = some (.string ⟨a_l2.toArray⟩) ∧ w'.cell? ⟨w.heap.size + 1, 9, none⟩ = some (.bool a_v3) ∧ w'.cell? ⟨w.heap.size + 1, 10, none⟩ = some (.string ⟨a_l3.toArray⟩)) ∧ Since w1 w') (first | (refine HS.out _ ?_; (repeat (first | exact Since.refl _ | assumption | refine Since.drew ?_ | refine Since.alloc ?_ _))))
    (first
      | (go_simp; go_at_call 18; (with_reducible refine Calls.mono (HPR.out _ (tnext HTR.out ?_)) ?_); (repeat (first | exact Since.refl _ | assumption | refine Since.drew ?_ | refine Since.alloc ?_ _)); rintro e w3 ⟨rfl, hb3⟩; have hS3 : Since w1 w3 := (by refine Since.trans ?_ hb3; (repeat (first | exact Since.refl _ | assumption | refine Since.drew ?_ | refine Since.alloc ?_ _))))
      | (go_simp; go_at_call 45; have _z := r2; (with_reducible refine Calls.mono (not_rule _ 11 _) ?_); rintro e w7 ⟨g3, rfl, n3, hb7⟩; have hS7 : Since w1 w7 := (by refine Since.trans ?_ hb7; (repeat (first | exact Since.refl _ | assumption | refine Since.drew ?_ | refine Since.alloc ?_ _))); have r3 := Lib.hid n3; replace r1 := Lib.hid (r1.out.next hb7); replace r2 := Lib.hid (r2.out.next hb7); clear n3 _z)
      | (go_simp; go_at_call 45; have _z := r1; (with_reducible refine Calls.mono (not_rule _ 10 _) ?_); rintro e w6 ⟨g2, rfl, n2, hb6⟩; have hS6 : Since w1 w6 := (by refine Since.trans ?_ hb6; (repeat (first | exact Since.refl _ | assumption | refine Since.drew ?_ | refine Since.alloc ?_ _))); have r2 := Lib.hid n2; replace r1 := Lib.hid (r1.out.next hb6); clear n2 _z)
      | (go_simp; go_at_call 45; (with_reducible refine Calls.mono (not_rule _ 6 _) ?_); rintro e w4 ⟨g1, rfl, n1, hb4⟩; have hS4 : Since w1 w4 := (by refine Since.trans ?_ hb4; (repeat (first | exact Since.refl _ | assumption | refine Since.drew ?_ | refine Since.alloc ?_ _))); have r1 := Lib.hid n1; clear n1)
      | (go_simp; go_at_call 49; (with_reducible refine Calls.mono (HGR.out _ (HE.out.next ?_)) ?_); (repeat (first | exact Since.refl _ | assumption | refine Since.drew ?_ | refine Since.alloc ?_ _)); rintro e w5 ⟨rfl, hb5⟩; have hS5 : Since w1 w5 := (by refine Since.trans ?_ hb5; (repeat (first | exact Since.refl _ | assumption | refine Since.drew ?_ | refine Since.alloc ?_ _))); replace r1 := Lib.hid (r1.out.next hb5))
      | (go_simp; go_at_call 42; (with_reducible refine Calls.mono (first4 _ _ _ _ _ _ _ _ _ (r1.out) (RA.out.next hS7) (r2.out) (r3.out)) ?_); rintro e w8 ⟨rfl, hb8⟩; have hS8 : Since w1 w8 := (by refine Since.trans ?_ hb8; (repeat (first | exact Since.refl _ | assumption | refine Since.drew ?_ | refine Since.alloc ?_ _)))))
  all_goals
    go_wp2_with fail
    go_ret
    refine ⟨?_, hS.trans hS8⟩
    refine ret_int ?_
    rw [hBp.out, hG.out]
    rfl
end Go.Proofs.YtpkggopaigledaaDoor
