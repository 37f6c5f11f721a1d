/- The chapter's examples. -/
import Derived.Test.YtfbkddpapjpgbaaLexV
namespace Go.Proofs.Ytfbkddpapjpgbaa
open Go.RowKit
attribute [local go_sem ↓] run_tokEq

def ex1 : List UInt8 := [112, 40, 88, 41, 37, 32, 110, 111]
def ex2 : List UInt8 := [97, 59, 98]
theorem ex1_all : allL ex1 = ([(1, [112], 0), (3, [40], 1), (2, [88], 2), (3, [41], 3)], 0, 0) := by decide +kernel
theorem ex2_all : (allL ex2).2 = (1, 3) := by decide +kernel
theorem ex1_any (W : World) : Calls Try.prog 11 #[.string ⟨#[112, 40, 88, 41, 37, 32, 110, 111]⟩] W fun e w' => ∃ v, e = .returned (.tuple #[v, .int .i64 0, .int .i64 0]) ∧ w'.ownsRow W.heap.size 25 3 v 4 (([(1, [112], 0), (3, [40], 1), (2, [88], 2), (3, [41], 3)] : List Tk).flatMap tkL) ∧ Since W w' := by
  have h := all_any ex1 W (Nat.le_trans (show ex1.length ≤ 8 by decide) (by unfold maxLen; omega))
  unfold AllPost at h
  rw [ex1_all] at h
  exact h
theorem ex2_any (W : World) : Calls Try.prog 11 #[.string ⟨#[97, 59, 98]⟩] W fun e w' => ∃ v, e = .returned (.tuple #[v, .int .i64 1, .int .i64 3]) ∧ Since W w' := by
  have h := all_any ex2 W (Nat.le_trans (show ex2.length ≤ 3 by decide) (by unfold maxLen; omega))
  unfold AllPost at h
  rw [ex2_all] at h
  exact h.mono fun _ _ ⟨v, e, _, s⟩ => ⟨v, e, s⟩
set_option maxHeartbeats 1000000 in
set_option maxRecDepth 100000 in
theorem lives_any (w : World) : Calls Try.prog 8 #[] w fun e w' => e = .returned (.bool true) ∧ Since w w' := by
  go_enter Try.func8, Try.ntmps8
  go_wp2_with fail
  refine (ex1_any w).mono ?_
  rintro e w1 ⟨v1, rfl, ho1, hS1⟩
  have hr := own_row ho1
  obtain ⟨b, o, c, rfl, hc, hcells⟩ := hr.some (by decide)
  obtain ⟨d0, d1, d2⟩ := tk_cells hcells (i := 2) (by decide)
  clear ho1 hr hcells
  go_wp2_with fail
  refine (ex2_any w1).mono ?_
  rintro e w2 ⟨v2, rfl, hS2⟩
  have c0 := hS2.cell d0; have c1 := hS2.cell d1; have c2 := hS2.cell d2
  have hS3 := Lib.hid (hS1.trans hS2)
  clear hS2 hS1 d0 d1 d2
  simp only [List.getElem_cons_succ, List.getElem_cons_zero] at c0 c1 c2
  go_wp2_with fail
  go_ret
  exact ⟨rfl, hS3.out⟩
end Go.Proofs.Ytfbkddpapjpgbaa
