/- formed: numbers. -/
import Derived.Test.YtpkggopaigledaaDoorFoI
namespace Go.Proofs.YtpkggopaigledaaDoor
open Go.RowKit

def numE (qu bu : Int) (nr ng : Nat) : Int := ifE ((decide (qu < 0) || decide (1000 < qu)) || (decide (bu < 1) || decide (1048576 < bu)) || decide (64 < nr + ng)) 4
set_option maxHeartbeats 8000000 in
set_option maxRecDepth 100000 in
theorem fnumbers_any (ap ad ac ar ag : Option Addr) (np cp nd cd nc cc nr cr ng cg : Nat) (qu bu : Int) (w : World) (lr : nr ≤ 1000000) (lg : ng ≤ 1000000) :
    Calls Tryd.prog 37 #[.agg #[.slice ap np cp, .slice ad nd cd, .slice ac nc cc, .int .i64 qu, .int .i64 bu, .slice ar nr cr, .slice ag ng cg]] w fun e w' => e = .returned (.int .i64 (numE qu bu nr ng)) ∧ Since w w' := by
  have hmf : ∀ (fn : Fn) (first cap : Array Value) (w : World), (Instr.makeFunc fn first cap).run Tryd.prog w = .ok (.func fn first cap) w := fun _ _ _ _ => rfl
  obtain ⟨p_c0, p_c1, p_c2, p_c3, p_c4, p_c5, p_c6⟩ := pbox_new w ap ad ac ar ag np cp nd cd nc cc nr cr ng cg qu bu 28
  have hS0 : Since w (w.alloc (.cells #[.slice ap np cp, .slice ad nd cd, .slice ac nc cc, .int .i64 qu, .int .i64 bu, .slice ar nr cr, .slice ag ng cg] 28)) := (Since.refl _).alloc _
  have hsum : (nr : Int) + (ng : Int) = ((nr + ng : Nat) : Int) := by omega
  have h1 : qu < 0 ∨ (¬ qu < 0 ∧ 1000 < qu) ∨ (¬ qu < 0 ∧ ¬ 1000 < qu) := by omega
  have h2 : bu < 1 ∨ (¬ bu < 1 ∧ 1048576 < bu) ∨ (¬ bu < 1 ∧ ¬ 1048576 < bu) := by omega
  have h3 : (64 < (nr : Int) + (ng : Int)) ∨ ¬ (64 < (nr : Int) + (ng : Int)) := by omega
  obtain ⟨E, hE⟩ : ∃ E, Hid (E = numE qu bu nr ng) := ⟨_, rfl⟩
  rw [← hE.out]
  have hcond : ∀ b : Bool, ((decide (qu < 0) || decide (1000 < qu)) || (decide (bu < 1) || decide (1048576 < bu)) || decide (64 < nr + ng)) = b → E = ifE b 4 := by
    intro b hb
    rw [hE.out, numE, hb]
  have HC := Lib.hid hcond
  clear hcond hE hsum
  rcases h1 with h1 | ⟨h1, h1'⟩ | ⟨h1, h1'⟩ <;> rcases h2 with h2 | ⟨h2, h2'⟩ | ⟨h2, h2'⟩ <;> rcases h3 with h3 | h3
  all_goals
    go_enter Tryd.func37, Tryd.ntmps37
    go_wp2_with fail
    refine (not_any _ 4 _).mono ?_
    rintro e w2 ⟨v, rfl, hv, hb⟩
    obtain ⟨g, rfl, q1, q2⟩ := hv
    go_wp2_with fail
    refine (not1_any g _ 4 _ q1 q2).mono ?_
    rintro e w3 ⟨rfl, hb3⟩
    go_wp2_with fail
    go_ret
    refine ⟨ret_int ?_, (hS0.trans hb).trans hb3⟩
    first
      | (rw [HC.out true (by simp; omega)]; rfl)
      | (rw [HC.out false (by simp; omega)]; rfl)
end Go.Proofs.YtpkggopaigledaaDoor
