/- Package term: Ground, names, Vars, Consts: what they answer at every atom. -/
import Derived.Test.YtnfjjckbgnieeaaGreatDoorTerm
namespace Go.Proofs.YtnfjjckbgnieeaaGreatDoor
open Go.RowKit

theorem tmRow_at {W : World} {b o n c : Nat} {L : List Tm} (h : TmRow W (.slice (some ⟨b, o, none⟩) n c) L) : ∀ k, (h : k < L.length) → W.cell? ⟨b, o + k * 2, none⟩ = some (.bool L[k].1) ∧ W.cell? ⟨b, o + k * 2 + 1, none⟩ = some (.string ⟨L[k].2.toArray⟩) := by
  rcases h with ⟨h, _⟩ | ⟨b', o', c', h1, _, h3⟩
  · cases h
  · injection h1 with h1 _ _
    injection h1 with h1
    injection h1 with hb ho _
    subst hb ho
    exact h3
theorem any_ground (L : List Tm) : (!(L.any fun t => t.1)) = L.all fun t => !t.1 := by
  induction L with
  | nil => rfl
  | cons t r ih => rw [List.any_cons, List.all_cons, Bool.not_or, ih]

/-- slices.Contains at texts, wherever they lie. -/
theorem contains_any (v : Value) (L : List (List UInt8)) (x : List UInt8) (w : World) (h : Row w v L.length (L.map strV)) (hm : L.length ≤ 9223372036854775807) :
    Calls Tryz.prog 117 #[v, .string ⟨x.toArray⟩] w fun e w' => e = .returned (.bool (L.contains x)) ∧ w = w' := by
  by_cases h0 : 0 < L.length
  · obtain ⟨b, o, c, rfl, hc, hcell⟩ := h.some h0
    have hk := Tryz.slices_Contains_string b o L.length c (L.map fun l => ByteArray.mk l.toArray) ⟨x.toArray⟩ w (by simp) hm (by
      intro j hj
      have hj' : j < L.length := by simpa using hj
      have := hcell j (by simpa using hj')
      rw [this]
      simp [strV, hj', List.getD_eq_getElem?_getD])
    refine hk.mono fun e w' he => ⟨?_, he.2.symm⟩
    rw [he.1]
    refine ret_bool ?_
    rw [List.take_of_length_le (by simp), Bool.eq_iff_iff, Lib.containsS_iff, List.contains_iff_mem, List.mem_map]
    constructor
    · rintro ⟨a, ha, e⟩
      have : a = x := by simpa using e
      rw [← this]; exact ha
    · intro h; exact ⟨x, h, rfl⟩
  · have hn : L = [] := List.eq_nil_of_length_eq_zero (by omega)
    subst hn
    obtain ⟨a, c, rfl⟩ := h.len
    refine (Tryz.slices_Contains_string_empty a c ⟨x.toArray⟩ w).mono fun e w' he => ⟨?_, he.2.symm⟩
    rw [he.1]; rfl

/-- The names of terms of one sort, each once, in the order of their first occurrence. -/
def namesF (vars : Bool) : List Tm → List (List UInt8) → List (List UInt8)
  | [], acc => acc
  | t :: r, acc => namesF vars r (if (t.1 == vars) && !acc.contains t.2 then acc ++ [t.2] else acc)
def namesA (a : Atm) (vars : Bool) : List (List UInt8) := namesF vars ((argsL a).take (countA a)) []
/-- A result that is a list of texts in new memory. -/
def Strs (w : World) (L : List (List UInt8)) (e : Ending) (w' : World) : Prop := ∃ v, e = .returned v ∧ w'.ownsRow w.heap.size 9 1 v L.length (L.map strV) ∧ Since w w'

theorem infoStr : (Tryz.prog.info? 9).map (fun i => (i.zero, i.size, i.bytes)) = some (some (.string ByteArray.empty), 1, 16) := by kernel_rfl

end Go.Proofs.YtnfjjckbgnieeaaGreatDoor
