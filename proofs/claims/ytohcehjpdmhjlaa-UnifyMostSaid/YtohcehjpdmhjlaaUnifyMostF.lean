/- UnifyMost returns true at every two atoms and all bindings; no condition. -/
import Derived.Test.YtohcehjpdmhjlaaUniMostE
import Derived.Test.YtohcehjpdmhjlaaUniO
import Derived.Test.YtohcehjpdmhjlaaRows
import Derived.Test.YtohcehjpdmhjlaaOpen
import Derived.ProofKit
import Derived.OpenShut
import Derived.ShutString
import Derived.ChangeOld
import Derived.Below
import Derived.LaidMore
import Derived.Stop.Joined
namespace Go.Proofs.Ytohcehjpdmhjlaa.unifyMostDone
open Go.ChangeShapes Go.WideShapes Go.ChangeAt Go.RowKit
open Go.ChangeMaps (open_string shut_string)
set_option linter.unusedVariables false

theorem own : ownKnob Try.prog.godebug = none := by kernel_rfl
theorem laidOut : laidOutB Try.prog = true := by kernel_rfl

set_option maxRecDepth 100000 in
theorem lifted (os : Os) (started : os.Started) (H : Type) (enc : TypeId × Value → H) :
    ReturnsInHanded {} Try.checked os 3 .any (Rows.unifyMostSpec.pre6 enc Try.prog Try.f3 Rows.unifyMostRow.domain false) (Rows.unifyMostSpec.post enc Try.prog Try.f3 false true false false) := by
  refine returnsInHanded_of_change (C := Try.checked) own started (by kernel_rfl) Try.func3
    (ChangeSpec.witness6 (enc := enc) (C := Try.checked) false ⟨#[], #[.agg #[.string ⟨#[]⟩, .string ⟨#[]⟩, .int .i64 0, .bool false, .string ⟨#[]⟩, .bool false, .string ⟨#[]⟩, .bool false, .string ⟨#[]⟩, .bool false, .string ⟨#[]⟩], .agg #[.string ⟨#[]⟩, .string ⟨#[]⟩, .int .i64 0, .bool false, .string ⟨#[]⟩, .bool false, .string ⟨#[]⟩, .bool false, .string ⟨#[]⟩, .bool false, .string ⟨#[]⟩], .slice none 0 0], []⟩ 8 (by kernel_rfl) (by kernel_rfl) (by kernel_rfl) (by kernel_rfl)) ?_
  intro W base args ds gs before hval0 hW hcnd _
  have hval : ∀ (j : Nat) t v, Try.f3.params[j]? = some t → args[j]? = some v → Value.okWide Try.prog W .any base t v := hval0
  have hW' := hW
  obtain ⟨p, q, hA0, hV, rfl, hfz, hnd⟩ := hW
  have hA : DataW.TrodAll enc Try.prog W 0 (fun _ => true) true Try.f3.params.toList args.toList ds p := hA0
  rw [Try.params3] at hA hval
  obtain ⟨v0, vs0, d0, ds0, p0, q0, hargs, rfl, rfl, h0, r0⟩ := trodAll_cons hA
  obtain ⟨v1, vs1, d1, ds1, p1, q1, rfl, rfl, rfl, h1, r1⟩ := trodAll_cons r0
  obtain ⟨v2, vs2, d2, ds2, p2, q2, rfl, rfl, rfl, h2, r2⟩ := trodAll_cons r1
  obtain ⟨rfl, rfl, rfl⟩ := trodAll_nil r2
  obtain rfl : args = #[v0, v1, v2] := by cases args; simp_all
  obtain ⟨rfl, rfl⟩ := trodVars_none hV
  obtain ⟨ta0, rfl, fa0⟩ := open_atom (hval 0 26 v0 rfl rfl) h0
  obtain ⟨a0_s, a0_p, a0_n, ⟨a0_v0, a0_l0⟩, ⟨a0_v1, a0_l1⟩, ⟨a0_v2, a0_l2⟩, ⟨a0_v3, a0_l3⟩⟩ := ta0
  obtain ⟨ta1, rfl, fa1⟩ := open_atom (hval 1 26 v1 rfl rfl) h1
  obtain ⟨a1_s, a1_p, a1_n, ⟨a1_v0, a1_l0⟩, ⟨a1_v1, a1_l1⟩, ⟨a1_v2, a1_l2⟩, ⟨a1_v3, a1_l3⟩⟩ := ta1
  obtain ⟨L2, hL2, fL2⟩ := open_rowOf' slicesP (K := 3) (f := bndC) (Q := fun b : Bnd => b.1.length ≤ maxLen ∧ b.2.2.length ≤ maxLen) (of_decide_eq_true (show decide (27 < Try.prog.types.size) = true by kernel_rfl)) Try.underlying27 cells_binding (fun h => rd_bndC h) (hval 2 27 v2 rfl rfl) h2
  clear hval0
  refine (most_walk a0_s a0_p a0_n a0_v0 a0_v1 a0_v2 a0_v3 a0_l0 a0_l1 a0_l2 a0_l3 a1_s a1_p a1_n a1_v0 a1_v1 a1_v2 a1_v3 a1_l0 a1_l1 a1_l2 a1_l3 v2 L2 W hL2 fL2 fa0.1 fa1.1).mono fun e W' ⟨he, bel⟩ => ?_
  subst he
  exact ⟨_, rfl, _, _, _, [], _, [], hW', trodAll_mk1 (shut_bool Try.underlying4 _), trodAll_since bel (by kernel_rfl) hA0, rfl, Below.frame bel _, fun h => by cases h⟩

theorem over : Rows.unifyMostRow.holds Try.pinned (OpenSpec.ofChange Rows.unifyMostSpec) :=
  OpenClaim.holds_of_wide 3 Try.f3 rfl rfl rfl rfl rfl rfl rfl ⟨rfl, rfl, rfl, rfl, rfl⟩ rfl rfl rfl rfl rfl (by kernel_rfl) Try.func3 (by kernel_rfl)
    (of_decide_eq_true (by kernel_rfl)) (by unfold Func.isWrapper; first | (rw [if_pos (by decide +kernel)]; kernel_rfl) | (rw [if_neg (by decide +kernel)]; exact ⟨rfl, rfl⟩))
    (fun os started H enc _ => lifted os started H enc)

theorem proved : Rows.UnifyMostSaid := over
#print axioms proved
end Go.Proofs.Ytohcehjpdmhjlaa.unifyMostDone
