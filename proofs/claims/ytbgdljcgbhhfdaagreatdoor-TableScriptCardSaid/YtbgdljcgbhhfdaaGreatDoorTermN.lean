/- Package term: Ground, names, Vars, Consts: what they answer at every atom. -/
import Derived.Test.YtbgdljcgbhhfdaaGreatDoorTerm
namespace Go.Proofs.YtbgdljcgbhhfdaaGreatDoor
open Go.RowKit

theorem tmRow_at {W : World} {b o n c : Nat} {L : List Tm} (h : TmRow W (.slice (some ⟨b, o, none⟩) n c) L) : ∀ k, (h : k < L.length) → W.cell? ⟨b, o + k * 2, none⟩ = some (.bool L[k].1) ∧ W.cell? ⟨b, o + k * 2 + 1, none⟩ = some (.string ⟨L[k].2.toArray⟩) := by
  rcases h with ⟨h, _⟩ | ⟨b', o', c', h1, _, h3⟩
  · cases h
  · injection h1 with h1 _ _
    injection h1 with h1
    injection h1 with hb ho _
    subst hb ho
    exact h3
theorem any_ground (L : List Tm) : (!(L.any fun t => t.1)) = L.all fun t => !t.1 := by
  induction L with
  | nil => rfl
  | cons t r ih => rw [List.any_cons, List.all_cons, Bool.not_or, ih]

set_option maxHeartbeats 400000 in
set_option maxRecDepth 100000 in
theorem ground_any (a_s a_p : List UInt8) (a_n : Int) (a_v0 a_v1 a_v2 a_v3 : Bool) (a_l0 a_l1 a_l2 a_l3 : List UInt8) (w : World) (hF : FitsA ((a_s, a_p, a_n, (a_v0, a_l0), (a_v1, a_l1), (a_v2, a_l2), (a_v3, a_l3)) : Atm)) (hE : Env w) :
    Calls Tryz.prog 73 #[.agg #[.string ⟨a_s.toArray⟩, .string ⟨a_p.toArray⟩, .int .i64 a_n, .bool a_v0, .string ⟨a_l0.toArray⟩, .bool a_v1, .string ⟨a_l1.toArray⟩, .bool a_v2, .string ⟨a_l2.toArray⟩, .bool a_v3, .string ⟨a_l3.toArray⟩]] w fun e w' => e = .returned (.bool (groundA ((a_s, a_p, a_n, (a_v0, a_l0), (a_v1, a_l1), (a_v2, a_l2), (a_v3, a_l3)) : Atm))) ∧ Since w w' := by
  have hS : Since w (w.alloc (.cells #[.string ⟨a_s.toArray⟩, .string ⟨a_p.toArray⟩, .int .i64 a_n, .bool a_v0, .string ⟨a_l0.toArray⟩, .bool a_v1, .string ⟨a_l1.toArray⟩, .bool a_v2, .string ⟨a_l2.toArray⟩, .bool a_v3, .string ⟨a_l3.toArray⟩] 33)) := (Since.refl _).alloc _
  have hE0 := hE.next hS
  have HG := Lib.hid (any_ground ((argsL ((a_s, a_p, a_n, (a_v0, a_l0), (a_v1, a_l1), (a_v2, a_l2), (a_v3, a_l3)) : Atm)).take (countA ((a_s, a_p, a_n, (a_v0, a_l0), (a_v1, a_l1), (a_v2, a_l2), (a_v3, a_l3)) : Atm))))
  have HF := Lib.hid hF.2.2
  have HA := Lib.hid (fun w => targs_any a_s a_p a_n a_v0 a_v1 a_v2 a_v3 a_l0 a_l1 a_l2 a_l3 w)
  clear hF hE
  go_enter Tryz.func73, Tryz.ntmps73
  go_wp2_with fail
  refine (HA.out _).mono ?_
  rintro e w1 ⟨rfl, hrow, hb⟩
  rw [World.size_alloc] at hrow
  have hE1 := hE0.next hb
  have HH := Lib.hid (has_var _ _ _ hE1 hrow (fun t ht => HF.out t (List.mem_of_mem_take ht)) (by rw [List.length_take, argsL_len]; omega))
  clear hrow HA
  go_wp2_with fail
  refine HH.out.mono ?_
  rintro e w2 ⟨rfl, hb2⟩
  go_wp2_with fail
  go_ret
  exact ⟨ret_bool HG.out, (hS.trans hb).trans hb2⟩

/-- slices.Contains at texts, wherever they lie. -/
theorem contains_any (v : Value) (L : List (List UInt8)) (x : List UInt8) (w : World) (h : Row w v L.length (L.map strV)) (hm : L.length ≤ 9223372036854775807) :
    Calls Tryz.prog 82 #[v, .string ⟨x.toArray⟩] w fun e w' => e = .returned (.bool (L.contains x)) ∧ w = w' := by
  by_cases h0 : 0 < L.length
  · obtain ⟨b, o, c, rfl, hc, hcell⟩ := h.some h0
    have hk := Tryz.slices_Contains_string b o L.length c (L.map fun l => ByteArray.mk l.toArray) ⟨x.toArray⟩ w (by simp) hm (by
      intro j hj
      have hj' : j < L.length := by simpa using hj
      have := hcell j (by simpa using hj')
      rw [this]
      simp [strV, hj', List.getD_eq_getElem?_getD])
    refine hk.mono fun e w' he => ⟨?_, he.2.symm⟩
    rw [he.1]
    refine ret_bool ?_
    rw [List.take_of_length_le (by simp), Bool.eq_iff_iff, Lib.containsS_iff, List.contains_iff_mem, List.mem_map]
    constructor
    · rintro ⟨a, ha, e⟩
      have : a = x := by simpa using e
      rw [← this]; exact ha
    · intro h; exact ⟨x, h, rfl⟩
  · have hn : L = [] := List.eq_nil_of_length_eq_zero (by omega)
    subst hn
    obtain ⟨a, c, rfl⟩ := h.len
    refine (Tryz.slices_Contains_string_empty a c ⟨x.toArray⟩ w).mono fun e w' he => ⟨?_, he.2.symm⟩
    rw [he.1]; rfl

/-- The names of terms of one sort, each once, in the order of their first occurrence. -/
def namesF (vars : Bool) : List Tm → List (List UInt8) → List (List UInt8)
  | [], acc => acc
  | t :: r, acc => namesF vars r (if (t.1 == vars) && !acc.contains t.2 then acc ++ [t.2] else acc)
def namesA (a : Atm) (vars : Bool) : List (List UInt8) := namesF vars ((argsL a).take (countA a)) []
/-- A result that is a list of texts in new memory. -/
def Strs (w : World) (L : List (List UInt8)) (e : Ending) (w' : World) : Prop := ∃ v, e = .returned v ∧ w'.ownsRow w.heap.size 9 1 v L.length (L.map strV) ∧ Since w w'

theorem infoStr : (Tryz.prog.info? 9).map (fun i => (i.zero, i.size, i.bytes)) = some (some (.string ByteArray.empty), 1, 16) := by kernel_rfl

end Go.Proofs.YtbgdljcgbhhfdaaGreatDoor
