/- The chapter's example of layer 1 has the results that it states, in every world in which the library's table strings.asciiSpace stands. -/
import Derived.Test.YtncbecpnfcjikaaDoorKit0
namespace Go.Proofs.YtncbecpnfcjikaaDoor
open Go.RowKit

set_option maxHeartbeats 400000 in
theorem lives_any (w : World) (hE : Env w) :
    Calls Tryd.prog 8 #[] w fun e w' => e = .returned (.bool true) ∧ Since w w' := by
  have k1 : constantB [52, 50, 120] = true := by decide +kernel
  have k2 : principalB [52, 50, 120] = false := by decide +kernel
  have k3 : constantB [115, 97, 121, 115] = false := by decide +kernel
  have k4 : variableB [88, 121] = true := by decide +kernel
  have hS := Since.refl w
  go_enter Tryd.func8, Tryd.ntmps8
  go_wp2_with (first | (go_at_call 9; refine (constant_any _ _ (by decide) hE).mono ?_; rintro e w1 ⟨rfl, hb⟩; replace hE := hE.next hb; replace hS := hS.trans hb) | (go_at_call 10; refine (principal_any _ _ (by decide) hE).mono ?_; rintro e w1 ⟨rfl, hb⟩; replace hE := hE.next hb; replace hS := hS.trans hb) | (go_at_call 11; refine (variable_any _ _ (by decide)).mono ?_; rintro e w1 ⟨rfl, rfl⟩))
  go_ret
  exact ⟨rfl, hS⟩
end Go.Proofs.YtncbecpnfcjikaaDoor
