/- UnifyGround returns true at every two atoms; no condition. -/
import Derived.Test.YtohcehjpdmhjlaaUniGround
import Derived.Test.YtohcehjpdmhjlaaRows
import Derived.Test.YtohcehjpdmhjlaaOpen
import Derived.ProofKit
import Derived.OpenShut
import Derived.ShutString
import Derived.ChangeOld
import Derived.Below
import Derived.LaidMore
import Derived.Stop.Joined
namespace Go.Proofs.Ytohcehjpdmhjlaa.unifyGroundDone
open Go.ChangeShapes Go.WideShapes Go.ChangeAt Go.RowKit
open Go.ChangeMaps (open_string shut_string)
set_option linter.unusedVariables false

theorem own : ownKnob Try.prog.godebug = none := by kernel_rfl
theorem laidOut : laidOutB Try.prog = true := by kernel_rfl

set_option maxRecDepth 100000 in
theorem lifted (os : Os) (started : os.Started) (H : Type) (enc : TypeId × Value → H) :
    ReturnsInHanded {} Try.checked os 4 .any (Rows.unifyGroundSpec.pre6 enc Try.prog Try.f4 Rows.unifyGroundRow.domain false) (Rows.unifyGroundSpec.post enc Try.prog Try.f4 false true false false) := by
  refine returnsInHanded_of_change (C := Try.checked) own started (by kernel_rfl) Try.func4
    (ChangeSpec.witness6 (enc := enc) (C := Try.checked) false ⟨#[], #[.agg #[.string ⟨#[]⟩, .string ⟨#[]⟩, .int .i64 0, .bool false, .string ⟨#[]⟩, .bool false, .string ⟨#[]⟩, .bool false, .string ⟨#[]⟩, .bool false, .string ⟨#[]⟩], .agg #[.string ⟨#[]⟩, .string ⟨#[]⟩, .int .i64 0, .bool false, .string ⟨#[]⟩, .bool false, .string ⟨#[]⟩, .bool false, .string ⟨#[]⟩, .bool false, .string ⟨#[]⟩]], []⟩ 8 (by kernel_rfl) (by kernel_rfl) (by kernel_rfl) (by kernel_rfl)) ?_
  intro W base args ds gs before hval0 hW hcnd _
  have hval : ∀ (j : Nat) t v, Try.f4.params[j]? = some t → args[j]? = some v → Value.okWide Try.prog W .any base t v := hval0
  have hW' := hW
  obtain ⟨p, q, hA0, hV, rfl, hfz, hnd⟩ := hW
  have hA : DataW.TrodAll enc Try.prog W 0 (fun _ => true) true Try.f4.params.toList args.toList ds p := hA0
  rw [Try.params4] at hA hval
  obtain ⟨v0, vs0, d0, ds0, p0, q0, hargs, rfl, rfl, h0, r0⟩ := trodAll_cons hA
  obtain ⟨v1, vs1, d1, ds1, p1, q1, rfl, rfl, rfl, h1, r1⟩ := trodAll_cons r0
  obtain ⟨rfl, rfl, rfl⟩ := trodAll_nil r1
  obtain rfl : args = #[v0, v1] := by cases args; simp_all
  obtain ⟨rfl, rfl⟩ := trodVars_none hV
  obtain ⟨ta0, rfl, fa0⟩ := open_atom (hval 0 26 v0 rfl rfl) h0
  obtain ⟨a0_s, a0_p, a0_n, ⟨a0_v0, a0_l0⟩, ⟨a0_v1, a0_l1⟩, ⟨a0_v2, a0_l2⟩, ⟨a0_v3, a0_l3⟩⟩ := ta0
  obtain ⟨ta1, rfl, fa1⟩ := open_atom (hval 1 26 v1 rfl rfl) h1
  obtain ⟨a1_s, a1_p, a1_n, ⟨a1_v0, a1_l0⟩, ⟨a1_v1, a1_l1⟩, ⟨a1_v2, a1_l2⟩, ⟨a1_v3, a1_l3⟩⟩ := ta1
  clear hval0
  refine (ground_walk a0_s a0_p a0_n a0_v0 a0_v1 a0_v2 a0_v3 a0_l0 a0_l1 a0_l2 a0_l3 a1_s a1_p a1_n a1_v0 a1_v1 a1_v2 a1_v3 a1_l0 a1_l1 a1_l2 a1_l3 W fa0.1 fa1.1).mono fun e W' ⟨he, bel⟩ => ?_
  subst he
  exact ⟨_, rfl, _, _, _, [], _, [], hW', trodAll_mk1 (shut_bool Try.underlying4 _), trodAll_since bel (by kernel_rfl) hA0, rfl, Below.frame bel _, fun h => by cases h⟩

theorem over : Rows.unifyGroundRow.holds Try.pinned (OpenSpec.ofChange Rows.unifyGroundSpec) :=
  OpenClaim.holds_of_wide 4 Try.f4 rfl rfl rfl rfl rfl rfl rfl ⟨rfl, rfl, rfl, rfl, rfl⟩ rfl rfl rfl rfl rfl (by kernel_rfl) Try.func4 (by kernel_rfl)
    (of_decide_eq_true (by kernel_rfl)) (by unfold Func.isWrapper; first | (rw [if_pos (by decide +kernel)]; kernel_rfl) | (rw [if_neg (by decide +kernel)]; exact ⟨rfl, rfl⟩))
    (fun os started H enc _ => lifted os started H enc)

theorem proved : Rows.UnifyGroundSaid := over
#print axioms proved
end Go.Proofs.Ytohcehjpdmhjlaa.unifyGroundDone
