/- Package term: Ground, names, Vars, Consts: what they answer at every atom. -/
import Derived.Test.YtkdeokgkjmboeaaGreatDoorTerm
namespace Go.Proofs.YtkdeokgkjmboeaaGreatDoor
open Go.RowKit

theorem tmRow_at {W : World} {b o n c : Nat} {L : List Tm} (h : TmRow W (.slice (some ⟨b, o, none⟩) n c) L) : ∀ k, (h : k < L.length) → W.cell? ⟨b, o + k * 2, none⟩ = some (.bool L[k].1) ∧ W.cell? ⟨b, o + k * 2 + 1, none⟩ = some (.string ⟨L[k].2.toArray⟩) := by
  rcases h with ⟨h, _⟩ | ⟨b', o', c', h1, _, h3⟩
  · cases h
  · injection h1 with h1 _ _
    injection h1 with h1
    injection h1 with hb ho _
    subst hb ho
    exact h3
theorem any_ground (L : List Tm) : (!(L.any fun t => t.1)) = L.all fun t => !t.1 := by
  induction L with
  | nil => rfl
  | cons t r ih => rw [List.any_cons, List.all_cons, Bool.not_or, ih]

set_option maxHeartbeats 400000 in
set_option maxRecDepth 100000 in
theorem ground_any (a_s a_p : List UInt8) (a_n : Int) (a_v0 a_v1 a_v2 a_v3 : Bool) (a_l0 a_l1 a_l2 a_l3 : List UInt8) (w : World) (hF : FitsA ((a_s, a_p, a_n, (a_v0, a_l0), (a_v1, a_l1), (a_v2, a_l2), (a_v3, a_l3)) : Atm)) (hE : Env w) :
    Calls Tryz.prog 49 #[.agg #[.string ⟨a_s.toArray⟩, .string ⟨a_p.toArray⟩, .int .i64 a_n, .bool a_v0, .string ⟨a_l0.toArray⟩, .bool a_v1, .string ⟨a_l1.toArray⟩, .bool a_v2, .string ⟨a_l2.toArray⟩, .bool a_v3, .string ⟨a_l3.toArray⟩]] w fun e w' => e = .returned (.bool (groundA ((a_s, a_p, a_n, (a_v0, a_l0), (a_v1, a_l1), (a_v2, a_l2), (a_v3, a_l3)) : Atm))) ∧ Since w w' := by
  have hS : Since w (w.alloc (.cells #[.string ⟨a_s.toArray⟩, .string ⟨a_p.toArray⟩, .int .i64 a_n, .bool a_v0, .string ⟨a_l0.toArray⟩, .bool a_v1, .string ⟨a_l1.toArray⟩, .bool a_v2, .string ⟨a_l2.toArray⟩, .bool a_v3, .string ⟨a_l3.toArray⟩] 26)) := (Since.refl _).alloc _
  have hE0 := hE.next hS
  have HG := Lib.hid (any_ground ((argsL ((a_s, a_p, a_n, (a_v0, a_l0), (a_v1, a_l1), (a_v2, a_l2), (a_v3, a_l3)) : Atm)).take (countA ((a_s, a_p, a_n, (a_v0, a_l0), (a_v1, a_l1), (a_v2, a_l2), (a_v3, a_l3)) : Atm))))
  have HF := Lib.hid hF.2.2
  have HA := Lib.hid (fun w => targs_any a_s a_p a_n a_v0 a_v1 a_v2 a_v3 a_l0 a_l1 a_l2 a_l3 w)
  clear hF hE
  go_enter Tryz.func49, Tryz.ntmps49
  go_wp2_with fail
  refine (HA.out _).mono ?_
  rintro e w1 ⟨rfl, hrow, hb⟩
  rw [World.size_alloc] at hrow
  have hE1 := hE0.next hb
  have HH := Lib.hid (has_var _ _ _ hE1 hrow (fun t ht => HF.out t (List.mem_of_mem_take ht)) (by rw [List.length_take, argsL_len]; omega))
  clear hrow HA
  go_wp2_with fail
  refine HH.out.mono ?_
  rintro e w2 ⟨rfl, hb2⟩
  go_wp2_with fail
  go_ret
  exact ⟨ret_bool HG.out, (hS.trans hb).trans hb2⟩

end Go.Proofs.YtkdeokgkjmboeaaGreatDoor
