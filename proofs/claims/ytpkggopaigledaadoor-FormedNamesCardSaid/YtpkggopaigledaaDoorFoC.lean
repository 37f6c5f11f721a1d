/- formed: Atom, Goal, Fact. -/
import Derived.Test.YtpkggopaigledaaDoorFoB
import Derived.Deep.RegionHeld3
namespace Go.Proofs.YtpkggopaigledaaDoor
open Go.RowKit

theorem first2 (w : World) (v0 v1 : Value) (e0 e1 : Int) (h0 : Rule w v0 e0) (h1 : Rule w v1 e1) :
    Calls Tryd.prog 42 #[.slice (some ⟨w.heap.size, 0, none⟩) 2 2] (w.alloc (.cells #[v0, v1] 73)) fun x w' => x = .returned (.int .i64 (firstE [e0, e1])) ∧ Since (w.alloc (.cells #[v0, v1] 73)) w' := by
  refine first_any w.heap.size 0 2 2 [v0, v1] [e0, e1] _ rfl rfl (by omega) (fun k hk => ?_) (fun k hk hk' => ?_)
  · rw [World.cell?_alloc_new]
    match k, hk with
    | 0, _ => rfl
    | 1, _ => rfl
  · match k, hk, hk' with
    | 0, _, _ => exact h0.next ((Since.refl _).alloc _)
    | 1, _, _ => exact h1.next ((Since.refl _).alloc _)
theorem first3 (w : World) (v0 v1 v2 : Value) (e0 e1 e2 : Int) (h0 : Rule w v0 e0) (h1 : Rule w v1 e1) (h2 : Rule w v2 e2) :
    Calls Tryd.prog 42 #[.slice (some ⟨w.heap.size, 0, none⟩) 3 3] (w.alloc (.cells #[v0, v1, v2] 73)) fun x w' => x = .returned (.int .i64 (firstE [e0, e1, e2])) ∧ Since (w.alloc (.cells #[v0, v1, v2] 73)) w' := by
  refine first_any w.heap.size 0 3 3 [v0, v1, v2] [e0, e1, e2] _ rfl rfl (by omega) (fun k hk => ?_) (fun k hk hk' => ?_)
  · rw [World.cell?_alloc_new]
    match k, hk with
    | 0, _ => rfl
    | 1, _ => rfl
    | 2, _ => rfl
  · match k, hk, hk' with
    | 0, _, _ => exact h0.next ((Since.refl _).alloc _)
    | 1, _, _ => exact h1.next ((Since.refl _).alloc _)
    | 2, _, _ => exact h2.next ((Since.refl _).alloc _)
theorem first4 (w : World) (v0 v1 v2 v3 : Value) (e0 e1 e2 e3 : Int) (h0 : Rule w v0 e0) (h1 : Rule w v1 e1) (h2 : Rule w v2 e2) (h3 : Rule w v3 e3) :
    Calls Tryd.prog 42 #[.slice (some ⟨w.heap.size, 0, none⟩) 4 4] (w.alloc (.cells #[v0, v1, v2, v3] 73)) fun x w' => x = .returned (.int .i64 (firstE [e0, e1, e2, e3])) ∧ Since (w.alloc (.cells #[v0, v1, v2, v3] 73)) w' := by
  refine first_any w.heap.size 0 4 4 [v0, v1, v2, v3] [e0, e1, e2, e3] _ rfl rfl (by omega) (fun k hk => ?_) (fun k hk hk' => ?_)
  · rw [World.cell?_alloc_new]
    match k, hk with
    | 0, _ => rfl
    | 1, _ => rfl
    | 2, _ => rfl
    | 3, _ => rfl
  · match k, hk, hk' with
    | 0, _, _ => exact h0.next ((Since.refl _).alloc _)
    | 1, _, _ => exact h1.next ((Since.refl _).alloc _)
    | 2, _, _ => exact h2.next ((Since.refl _).alloc _)
    | 3, _, _ => exact h3.next ((Since.refl _).alloc _)
set_option maxRecDepth 100000 in
theorem run_atom1 (cap : Array Value) (W : World) : (callFunc 43 cap).run Tryd.prog W = .ok (.enter 43 cap) W := by kernel_rfl
set_option maxRecDepth 100000 in
theorem run_fact1 (cap : Array Value) (W : World) : (callFunc 48 cap).run Tryd.prog W = .ok (.enter 48 cap) W := by kernel_rfl

set_option maxHeartbeats 400000 in
theorem fatom1_any (a_s a_p : List UInt8) (a_n : Int) (a_v0 a_v1 a_v2 a_v3 : Bool) (a_l0 a_l1 a_l2 a_l3 : List UInt8) (g : Nat) (w : World) (hB : Box w g ((a_s, a_p, a_n, (a_v0, a_l0), (a_v1, a_l1), (a_v2, a_l2), (a_v3, a_l3)) : Atm)) (hF : FitsA ((a_s, a_p, a_n, (a_v0, a_l0), (a_v1, a_l1), (a_v2, a_l2), (a_v3, a_l3)) : Atm)) (hE : Env w) :
    Calls Tryd.prog 43 #[.pointer (some ⟨g, 0, none⟩)] w fun e w' => e = .returned (.int .i64 (checkA ((a_s, a_p, a_n, (a_v0, a_l0), (a_v1, a_l1), (a_v2, a_l2), (a_v3, a_l3)) : Atm))) ∧ Since w w' := by
  obtain ⟨a_c0, a_c1, a_c2, a_c3, a_c4, a_c5, a_c6, a_c7, a_c8, a_c9, a_c10⟩ := hB.all
  have HC := Lib.hid (check_any a_s a_p a_n a_v0 a_v1 a_v2 a_v3 a_l0 a_l1 a_l2 a_l3 w hF hE)
  clear hB hF hE
  go_enter Tryd.func43, Tryd.ntmps43
  go_wp2_with fail
  refine HC.out.mono ?_
  rintro e w1 ⟨rfl, hb⟩
  go_wp2_with fail
  go_ret
  exact ⟨rfl, hb⟩
def ifE (b : Bool) (e : Int) : Int := if b then e else 0
theorem not_rule (b : Bool) (e : Int) (w : World) :
    Calls Tryd.prog 45 #[.bool b, .int .i64 e] w fun x w' => ∃ g, x = .returned (.func (.func 73) #[] #[.pointer (some ⟨g, 0, none⟩), .pointer (some ⟨g + 1, 0, none⟩)]) ∧ Rule w' (.func (.func 73) #[] #[.pointer (some ⟨g, 0, none⟩), .pointer (some ⟨g + 1, 0, none⟩)]) (ifE b e) ∧ Since w w' := by
  refine (not_any b e w).mono ?_
  rintro x w' ⟨v, rfl, hn, hb⟩
  have hr := hn.rule
  obtain ⟨g, rfl, -, -⟩ := hn
  exact ⟨g, rfl, hr, hb⟩
/-- Why an atom may not be. -/
def atomE (pr : List Txt) (pd : List (Txt × Int)) (a : Atm) : Int :=
  firstE [checkA a, ifE (!(pr.contains a.1)) 6, ifE (!(arityF pd a.2.1).isSome) 7, ifE ((arityF pd a.2.1).getD 0 != a.2.2.1) 8]
set_option maxHeartbeats 4000000 in
set_option maxRecDepth 100000 in
theorem fatom_any (ap ad ac ar ag : Option Addr) (np cp nd cd nc cc nr cr ng cg : Nat) (qu bu : Int) (pr : List Txt) (pd : List (Txt × Int)) (a_s a_p : List UInt8) (a_n : Int) (a_v0 a_v1 a_v2 a_v3 : Bool) (a_l0 a_l1 a_l2 a_l3 : List UInt8) (w : World) (hT : TRow w (.slice ap np cp) pr) (hP : PRow w (.slice ad nd cd) pd) (lr : pr.length ≤ 1000000) (lp : pd.length ≤ 1000000) (hF : FitsA ((a_s, a_p, a_n, (a_v0, a_l0), (a_v1, a_l1), (a_v2, a_l2), (a_v3, a_l3)) : Atm)) (hE : Env w) :
    Calls Tryd.prog 15 #[.agg #[.slice ap np cp, .slice ad nd cd, .slice ac nc cc, .int .i64 qu, .int .i64 bu, .slice ar nr cr, .slice ag ng cg], .agg #[.string ⟨a_s.toArray⟩, .string ⟨a_p.toArray⟩, .int .i64 a_n, .bool a_v0, .string ⟨a_l0.toArray⟩, .bool a_v1, .string ⟨a_l1.toArray⟩, .bool a_v2, .string ⟨a_l2.toArray⟩, .bool a_v3, .string ⟨a_l3.toArray⟩]] w fun e w' => e = .returned (.int .i64 (atomE pr pd ((a_s, a_p, a_n, (a_v0, a_l0), (a_v1, a_l1), (a_v2, a_l2), (a_v3, a_l3)) : Atm))) ∧ Since w w' := by
  have hS : Since w ((w.alloc (.cells #[.slice ap np cp, .slice ad nd cd, .slice ac nc cc, .int .i64 qu, .int .i64 bu, .slice ar nr cr, .slice ag ng cg] 28)).alloc (.cells #[.string ⟨a_s.toArray⟩, .string ⟨a_p.toArray⟩, .int .i64 a_n, .bool a_v0, .string ⟨a_l0.toArray⟩, .bool a_v1, .string ⟨a_l1.toArray⟩, .bool a_v2, .string ⟨a_l2.toArray⟩, .bool a_v3, .string ⟨a_l3.toArray⟩] 39)) := ((Since.refl _).alloc _).alloc _
  have p_B := (pbox_new w ap ad ac ar ag np cp nd cd nc cc nr cr ng cg qu bu 28).next ((Since.refl _).alloc (.cells #[.string ⟨a_s.toArray⟩, .string ⟨a_p.toArray⟩, .int .i64 a_n, .bool a_v0, .string ⟨a_l0.toArray⟩, .bool a_v1, .string ⟨a_l1.toArray⟩, .bool a_v2, .string ⟨a_l2.toArray⟩, .bool a_v3, .string ⟨a_l3.toArray⟩] 39))
  have a_B : Box ((w.alloc (.cells #[.slice ap np cp, .slice ad nd cd, .slice ac nc cc, .int .i64 qu, .int .i64 bu, .slice ar nr cr, .slice ag ng cg] 28)).alloc (.cells #[.string ⟨a_s.toArray⟩, .string ⟨a_p.toArray⟩, .int .i64 a_n, .bool a_v0, .string ⟨a_l0.toArray⟩, .bool a_v1, .string ⟨a_l1.toArray⟩, .bool a_v2, .string ⟨a_l2.toArray⟩, .bool a_v3, .string ⟨a_l3.toArray⟩] 39)) (w.heap.size + 1) ((a_s, a_p, a_n, (a_v0, a_l0), (a_v1, a_l1), (a_v2, a_l2), (a_v3, a_l3)) : Atm) := by
    have := box_new (w.alloc (.cells #[.slice ap np cp, .slice ad nd cd, .slice ac nc cc, .int .i64 qu, .int .i64 bu, .slice ar nr cr, .slice ag ng cg] 28)) ((a_s, a_p, a_n, (a_v0, a_l0), (a_v1, a_l1), (a_v2, a_l2), (a_v3, a_l3)) : Atm) 39
    rwa [World.size_alloc] at this
  have HTR := Lib.hid (tnext hT hS)
  have HPD := Lib.hid (pnext hP hS)
  have HE := Lib.hid (hE.next hS)
  obtain ⟨Bp, hBp⟩ : ∃ B, Hid (B = pr.contains a_s) := ⟨_, rfl⟩
  obtain ⟨n, hn⟩ : ∃ n, Hid (n = (arityF pd a_p).getD 0) := ⟨_, rfl⟩
  obtain ⟨S, hS1⟩ : ∃ S, Hid (S = (arityF pd a_p).isSome) := ⟨_, rfl⟩
  have HFA := Lib.hid hF
  have HAR : Hid (∀ W, PRow W (.slice ad nd cd) pd → Calls Tryd.prog 14 #[.agg #[.slice ap np cp, .slice ad nd cd, .slice ac nc cc, .int .i64 qu, .int .i64 bu, .slice ar nr cr, .slice ag ng cg], .string ⟨a_p.toArray⟩] W fun e w' => e = .returned (.tuple #[.int .i64 n, .bool S]) ∧ Since W w') := by
    intro W h; rw [hn.out, hS1.out]; exact farity_any ap ad ac ar ag np cp nd cd nc cc nr cr ng cg qu bu pd a_p W h lp
  have HPR : Hid (∀ W, TRow W (.slice ap np cp) pr → Calls Tryd.prog 18 #[.agg #[.slice ap np cp, .slice ad nd cd, .slice ac nc cc, .int .i64 qu, .int .i64 bu, .slice ar nr cr, .slice ag ng cg], .string ⟨a_s.toArray⟩] W fun e w' => e = .returned (.bool Bp) ∧ Since W w') := by
    intro W h; rw [hBp.out]; exact fprin_any ap ad ac ar ag np cp nd cd nc cc nr cr ng cg qu bu pr a_s W h lr
  clear hT hP hE hF
  obtain ⟨p_c0, p_c1, p_c2, p_c3, p_c4, p_c5, p_c6⟩ := p_B
  obtain ⟨a_c0, a_c1, a_c2, a_c3, a_c4, a_c5, a_c6, a_c7, a_c8, a_c9, a_c10⟩ := a_B.all
  go_enter Tryd.func15, Tryd.ntmps15
  go_wp2_with fail
  generalize ((w.alloc (.cells #[.slice ap np cp, .slice ad nd cd, .slice ac nc cc, .int .i64 qu, .int .i64 bu, .slice ar nr cr, .slice ag ng cg] 28)).alloc (.cells #[.string ⟨a_s.toArray⟩, .string ⟨a_p.toArray⟩, .int .i64 a_n, .bool a_v0, .string ⟨a_l0.toArray⟩, .bool a_v1, .string ⟨a_l1.toArray⟩, .bool a_v2, .string ⟨a_l2.toArray⟩, .bool a_v3, .string ⟨a_l3.toArray⟩] 39)) = w1 at *
  refine (HAR.out _ HPD.out).mono ?_
  rintro e w2 ⟨rfl, hb⟩
  replace hS := hS.trans hb; replace a_B := a_B.next hb; replace HTR := Lib.hid (tnext HTR.out hb); replace HE := Lib.hid (HE.out.next hb)
  replace p_c0 := hb.cell p_c0; replace p_c1 := hb.cell p_c1; replace p_c2 := hb.cell p_c2; replace p_c3 := hb.cell p_c3; replace p_c4 := hb.cell p_c4; replace p_c5 := hb.cell p_c5; replace p_c6 := hb.cell p_c6
  replace a_c0 := hb.cell a_c0; replace a_c1 := hb.cell a_c1; replace a_c2 := hb.cell a_c2; replace a_c3 := hb.cell a_c3; replace a_c4 := hb.cell a_c4; replace a_c5 := hb.cell a_c5; replace a_c6 := hb.cell a_c6; replace a_c7 := hb.cell a_c7; replace a_c8 := hb.cell a_c8; replace a_c9 := hb.cell a_c9; replace a_c10 := hb.cell a_c10
  clear hb HPD HAR
  go_wp2_with fail
  have RA : Hid (Rule w2 (.func (.func 43) #[] #[.pointer (some ⟨w.heap.size + 1, 0, none⟩)]) (checkA ((a_s, a_p, a_n, (a_v0, a_l0), (a_v1, a_l1), (a_v2, a_l2), (a_v3, a_l3)) : Atm))) :=
    ⟨_, _, rfl, run_atom1 _, fun W hW => fatom1_any a_s a_p a_n a_v0 a_v1 a_v2 a_v3 a_l0 a_l1 a_l2 a_l3 _ W (a_B.next hW) HFA.out (HE.out.next hW)⟩
  clear a_B HE HFA
  have HS : Hid (∀ W', Since w2 W' → (W'.cell? ⟨w.heap.size, 0, none⟩ = some (.slice ap np cp) ∧ W'.cell? ⟨w.heap.size, 1, none⟩ = some (.slice ad nd cd) ∧ W'.cell? ⟨w.heap.size, 2, none⟩ = some (.slice ac nc cc) ∧ W'.cell? ⟨w.heap.size, 3, none⟩ = some (.int .i64 qu) ∧ W'.cell? ⟨w.heap.size, 4, none⟩ = some (.int .i64 bu) ∧ W'.cell? ⟨w.heap.size, 5, none⟩ = some (.slice ar nr cr) ∧ W'.cell? ⟨w.heap.size, 6, none⟩ = some (.slice ag ng cg)) ∧ (W'.cell? ⟨w.heap.size + 1, 0, none⟩ = some (.string ⟨a_s.toArray⟩) ∧ W'.cell? ⟨w.heap.size + 1, 1, none⟩ = some (.string ⟨a_p.toArray⟩) ∧ W'.cell? ⟨w.heap.size + 1, 2, none⟩ = some (.int .i64 a_n) ∧ W'.cell? ⟨w.heap.size + 1, 3, none⟩ = some (.bool a_v0) ∧ W'.cell? ⟨w.heap.size + 1, 4, none⟩ = some (.string ⟨a_l0.toArray⟩) ∧ W'.cell? ⟨w.heap.size + 1, 5, none⟩ = some (.bool a_v1) ∧ W'.cell? ⟨w.heap.size + 1, 6, none⟩ = some (.string ⟨a_l1.toArray⟩) ∧ W'.cell? ⟨w.heap.size + 1, 7, none⟩ = some (.bool a_v2) ∧ W'.cell? ⟨w.heap.size + 1, 8, none⟩ = some (.string ⟨a_l2.toArray⟩) ∧ W'.cell? ⟨w.heap.size + 1, 9, none⟩ = some (.bool a_v3) ∧ W'.cell? ⟨w.heap.size + 1, 10, none⟩ = some (.string ⟨a_l3.toArray⟩)) ∧ Since w2 W') := fun W h => ⟨⟨h.cell p_c0, h.cell p_c1, h.cell p_c2, h.cell p_c3, h.cell p_c4, h.cell p_c5, h.cell p_c6⟩, ⟨h.cell a_c0, h.cell a_c1, h.cell a_c2, h.cell a_c3, h.cell a_c4, h.cell a_c5, h.cell a_c6, h.cell a_c7, h.cell a_c8, h.cell a_c9, h.cell a_c10⟩, h⟩
  go_region_held3 (fun w' => (w'.cell? ⟨w.heap.size, 0, none⟩ = some (.slice ap np cp) ∧ w'.cell? ⟨w.heap.size, 1, none⟩ = some (.slice ad nd cd) ∧ w'.cell? ⟨w.heap.size, 2, none⟩ = some (.slice ac nc cc) ∧ w'.cell? ⟨w.heap.size, 3, none⟩ = some (.int .i64 qu) ∧ w'.cell? ⟨w.heap.size, 4, none⟩ = some (.int .i64 bu) ∧ w'.cell? ⟨w.heap.size, 5, none⟩ = some (.slice ar nr cr) ∧ w'.cell? ⟨w.heap.size, 6, none⟩ = some (.slice ag ng cg)) ∧ (w'.cell? ⟨w.heap.size + 1, 0, none⟩ = some (.string ⟨a_s.toArray⟩) ∧ w'.cell? ⟨w.heap.size + 1, 1, none⟩ = some (.string ⟨a_p.toArray⟩) ∧ w'.cell? ⟨w.heap.size + 1, 2, none⟩ = some (.int .i64 a_n) ∧ w'.cell? ⟨w.heap.size + 1, 3, none⟩ = some (.bool a_v0) ∧ w'.cell? ⟨w.heap.size + 1, 4, none⟩ = some (.string ⟨a_l0.toArray⟩) ∧ w'.cell? ⟨w.heap.size + 1, 5, none⟩ = some (.bool a_v1) ∧ w'.cell? ⟨w.heap.size + 1, 6, none⟩ = some (.string ⟨a_l1.toArray⟩) ∧ w'.cell? ⟨w.heap.size + 1, 7, none⟩ = some (.bool a_v2) ∧ w'.cell? ⟨w.heap.size + 1, 8, none⟩ = some (.string ⟨a_l2.toArray⟩) ∧ w'.cell? ⟨w.heap.size + 1, 9, none⟩ = some (.bool a_v3) ∧ w'.cell? ⟨w.heap.size + 1, 10, none⟩ = some (.string ⟨a_l3.toArray⟩)) ∧ Since w2 w') (first | (refine HS.out _ ?_; (repeat (first | exact Since.refl _ | assumption | refine Since.drew ?_ | refine Since.alloc ?_ _))))
    (first
      | (go_simp; go_at_call 18; (with_reducible refine Calls.mono (HPR.out _ (tnext HTR.out ?_)) ?_); (repeat (first | exact Since.refl _ | assumption | refine Since.drew ?_ | refine Since.alloc ?_ _)); rintro e w3 ⟨rfl, hb3⟩; have hS3 : Since w2 w3 := (by refine Since.trans ?_ hb3; (repeat (first | exact Since.refl _ | assumption | refine Since.drew ?_ | refine Since.alloc ?_ _))))
      | (go_simp; go_at_call 45; have _z := r2; (with_reducible refine Calls.mono (not_rule _ 8 _) ?_); rintro e w6 ⟨g3, rfl, n3, hb6⟩; have hS6 : Since w2 w6 := (by refine Since.trans ?_ hb6; (repeat (first | exact Since.refl _ | assumption | refine Since.drew ?_ | refine Since.alloc ?_ _))); have r3 := Lib.hid n3; replace r1 := Lib.hid (r1.out.next hb6); replace r2 := Lib.hid (r2.out.next hb6); clear n3 _z)
      | (go_simp; go_at_call 45; have _z := r1; (with_reducible refine Calls.mono (not_rule _ 7 _) ?_); rintro e w5 ⟨g2, rfl, n2, hb5⟩; have hS5 : Since w2 w5 := (by refine Since.trans ?_ hb5; (repeat (first | exact Since.refl _ | assumption | refine Since.drew ?_ | refine Since.alloc ?_ _))); have r2 := Lib.hid n2; replace r1 := Lib.hid (r1.out.next hb5); clear n2 _z)
      | (go_simp; go_at_call 45; (with_reducible refine Calls.mono (not_rule _ 6 _) ?_); rintro e w4 ⟨g1, rfl, n1, hb4⟩; have hS4 : Since w2 w4 := (by refine Since.trans ?_ hb4; (repeat (first | exact Since.refl _ | assumption | refine Since.drew ?_ | refine Since.alloc ?_ _))); have r1 := Lib.hid n1; clear n1)
      | (go_simp; go_at_call 42; (with_reducible refine Calls.mono (first4 _ _ _ _ _ _ _ _ _ (RA.out.next hS6) r1.out r2.out r3.out) ?_); rintro e w7 ⟨rfl, hb7⟩; have hS7 : Since w2 w7 := (by refine Since.trans ?_ hb7; (repeat (first | exact Since.refl _ | assumption | refine Since.drew ?_ | refine Since.alloc ?_ _)))))
  all_goals
    go_wp2_with fail
    go_ret
    refine ⟨?_, hS.trans hS7⟩
    refine ret_int ?_
    rw [hBp.out, hn.out, hS1.out]
    rfl
end Go.Proofs.YtpkggopaigledaaDoor
