/- Terms and atoms as the program holds them: what is read at a place of an atom's box; LightAtom. -/
import Derived.Test.YtnfjjckbgnieeaaGreatDoorBase
namespace Go.Proofs.YtnfjjckbgnieeaaGreatDoor
open Go.RowKit

/-- A term: is it a variable, its name. -/
abbrev Tm := Bool × List UInt8
/-- An atom: who says it, the predicate, N, four terms. -/
abbrev Atm := List UInt8 × List UInt8 × Int × Tm × Tm × Tm × Tm
def argsL (a : Atm) : List Tm := [a.2.2.2.1, a.2.2.2.2.1, a.2.2.2.2.2.1, a.2.2.2.2.2.2]
def tmV (t : Tm) : Value := .agg #[.bool t.1, .string ⟨t.2.toArray⟩]
theorem argsL_len (a : Atm) : (argsL a).length = 4 := rfl

/-- The terms of an atom's box, by places. -/
def ArgsAt (W : World) (b : Nat) (L : List Tm) : Prop :=
  L.length = 4 ∧ ∀ k, (h : k < L.length) → W.cell? ⟨b, 3 + k * 2, none⟩ = some (.bool L[k].1) ∧ W.cell? ⟨b, 3 + k * 2 + 1, none⟩ = some (.string ⟨L[k].2.toArray⟩)
theorem ArgsAt.next {W W' : World} {b : Nat} {L : List Tm} (h : ArgsAt W b L) (hs : Since W W') : ArgsAt W' b L :=
  ⟨h.1, fun k hk => ⟨hs.cell (h.2 k hk).1, hs.cell (h.2 k hk).2⟩⟩
theorem args_new (w : World) (a_s a_p : List UInt8) (a_n : Int) (a_v0 a_v1 a_v2 a_v3 : Bool) (a_l0 a_l1 a_l2 a_l3 : List UInt8) (t : TypeId) : ArgsAt (w.alloc (.cells #[.string ⟨a_s.toArray⟩, .string ⟨a_p.toArray⟩, .int .i64 a_n, .bool a_v0, .string ⟨a_l0.toArray⟩, .bool a_v1, .string ⟨a_l1.toArray⟩, .bool a_v2, .string ⟨a_l2.toArray⟩, .bool a_v3, .string ⟨a_l3.toArray⟩] t)) w.heap.size (argsL ((a_s, a_p, a_n, (a_v0, a_l0), (a_v1, a_l1), (a_v2, a_l2), (a_v3, a_l3)) : Atm)) := by
  refine ⟨rfl, fun k hk => ?_⟩
  have hk' : k < 4 := hk
  rw [World.cell?_alloc_new, World.cell?_alloc_new]
  match k, hk' with
  | 0, _ => exact ⟨rfl, rfl⟩
  | 1, _ => exact ⟨rfl, rfl⟩
  | 2, _ => exact ⟨rfl, rfl⟩
  | 3, _ => exact ⟨rfl, rfl⟩

/-- An atom's eleven cells. -/
def atmC (a : Atm) : Array Value :=
  #[.string ⟨a.1.toArray⟩, .string ⟨a.2.1.toArray⟩, .int .i64 a.2.2.1, .bool a.2.2.2.1.1, .string ⟨a.2.2.2.1.2.toArray⟩, .bool a.2.2.2.2.1.1, .string ⟨a.2.2.2.2.1.2.toArray⟩, .bool a.2.2.2.2.2.1.1, .string ⟨a.2.2.2.2.2.1.2.toArray⟩, .bool a.2.2.2.2.2.2.1, .string ⟨a.2.2.2.2.2.2.2.toArray⟩]
/-- A block whose first cells are an atom's. -/
def Box (W : World) (b : Nat) (a : Atm) : Prop := ∀ j, (h : j < (atmC a).size) → W.cell? ⟨b, j, none⟩ = some (atmC a)[j]
theorem Box.next {W W' : World} {b : Nat} {a : Atm} (h : Box W b a) (hs : Since W W') : Box W' b a := fun j hj => hs.cell (h j hj)
theorem box_new (w : World) (a : Atm) (t : TypeId) : Box (w.alloc (.cells (atmC a) t)) w.heap.size a := by
  intro j hj
  rw [World.cell?_alloc_new, Array.getElem?_eq_getElem hj]
theorem Box.s {W : World} {b : Nat} {a : Atm} (h : Box W b a) : W.cell? ⟨b, 0, none⟩ = some (.string ⟨a.1.toArray⟩) := h 0 (by simp [atmC])
theorem Box.p {W : World} {b : Nat} {a : Atm} (h : Box W b a) : W.cell? ⟨b, 1, none⟩ = some (.string ⟨a.2.1.toArray⟩) := h 1 (by simp [atmC])
theorem Box.n {W : World} {b : Nat} {a : Atm} (h : Box W b a) : W.cell? ⟨b, 2, none⟩ = some (.int .i64 a.2.2.1) := h 2 (by simp [atmC])
theorem Box.args {W : World} {b : Nat} {a : Atm} (h : Box W b a) : ArgsAt W b (argsL a) := by
  refine ⟨rfl, fun k hk => ?_⟩
  have hk' : k < 4 := hk
  match k, hk' with
  | 0, _ => exact ⟨h 3 (by simp [atmC]), h 4 (by simp [atmC])⟩
  | 1, _ => exact ⟨h 5 (by simp [atmC]), h 6 (by simp [atmC])⟩
  | 2, _ => exact ⟨h 7 (by simp [atmC]), h 8 (by simp [atmC])⟩
  | 3, _ => exact ⟨h 9 (by simp [atmC]), h 10 (by simp [atmC])⟩
/-- The eleven cells, one by one. -/
theorem Box.all {W : World} {b : Nat} {a : Atm} (h : Box W b a) :
    W.cell? ⟨b, 0, none⟩ = some (.string ⟨a.1.toArray⟩) ∧ W.cell? ⟨b, 1, none⟩ = some (.string ⟨a.2.1.toArray⟩) ∧ W.cell? ⟨b, 2, none⟩ = some (.int .i64 a.2.2.1) ∧ W.cell? ⟨b, 3, none⟩ = some (.bool a.2.2.2.1.1) ∧ W.cell? ⟨b, 4, none⟩ = some (.string ⟨a.2.2.2.1.2.toArray⟩) ∧ W.cell? ⟨b, 5, none⟩ = some (.bool a.2.2.2.2.1.1) ∧ W.cell? ⟨b, 6, none⟩ = some (.string ⟨a.2.2.2.2.1.2.toArray⟩) ∧ W.cell? ⟨b, 7, none⟩ = some (.bool a.2.2.2.2.2.1.1) ∧ W.cell? ⟨b, 8, none⟩ = some (.string ⟨a.2.2.2.2.2.1.2.toArray⟩) ∧ W.cell? ⟨b, 9, none⟩ = some (.bool a.2.2.2.2.2.2.1) ∧ W.cell? ⟨b, 10, none⟩ = some (.string ⟨a.2.2.2.2.2.2.2.toArray⟩) :=
  ⟨h.s, h.p, h.n, h 3 (by simp [atmC]), h 4 (by simp [atmC]), h 5 (by simp [atmC]), h 6 (by simp [atmC]), h 7 (by simp [atmC]), h 8 (by simp [atmC]), h 9 (by simp [atmC]), h 10 (by simp [atmC])⟩

def lightB (a : Atm) : Bool := decide ((a.1.length : Int) ≤ 300) && decide ((a.2.1.length : Int) ≤ 300) && (argsL a).all fun t => decide ((t.2.length : Int) ≤ 300)
theorem all_step {α : Type} {m : α → Bool} {l : List α} {k : Nat} (h : k < l.length) : (l.drop k).all m = (m l[k] && (l.drop (k + 1)).all m) := by
  rw [List.drop_eq_getElem_cons h, List.all_cons]
theorem all_done {α : Type} {m : α → Bool} {l : List α} {k : Nat} (h : ¬ k < l.length) : (l.drop k).all m = true := by
  rw [List.drop_eq_nil_of_le (by omega), List.all_nil]

set_option maxHeartbeats 400000 in
theorem light_any (a_s a_p : List UInt8) (a_n : Int) (a_v0 a_v1 a_v2 a_v3 : Bool) (a_l0 a_l1 a_l2 a_l3 : List UInt8) (w : World) :
    Calls Tryz.prog 17 #[.agg #[.string ⟨a_s.toArray⟩, .string ⟨a_p.toArray⟩, .int .i64 a_n, .bool a_v0, .string ⟨a_l0.toArray⟩, .bool a_v1, .string ⟨a_l1.toArray⟩, .bool a_v2, .string ⟨a_l2.toArray⟩, .bool a_v3, .string ⟨a_l3.toArray⟩]] w fun e w' => e = .returned (.bool (lightB ((a_s, a_p, a_n, (a_v0, a_l0), (a_v1, a_l1), (a_v2, a_l2), (a_v3, a_l3)) : Atm))) ∧ Since w w' := by
  have hA := args_new w a_s a_p a_n a_v0 a_v1 a_v2 a_v3 a_l0 a_l1 a_l2 a_l3 44
  have hS : Since w (w.alloc (.cells #[.string ⟨a_s.toArray⟩, .string ⟨a_p.toArray⟩, .int .i64 a_n, .bool a_v0, .string ⟨a_l0.toArray⟩, .bool a_v1, .string ⟨a_l1.toArray⟩, .bool a_v2, .string ⟨a_l2.toArray⟩, .bool a_v3, .string ⟨a_l3.toArray⟩] 44)) := (Since.refl _).alloc _
  obtain ⟨L, hL⟩ : ∃ L, Hid (L = argsL ((a_s, a_p, a_n, (a_v0, a_l0), (a_v1, a_l1), (a_v2, a_l2), (a_v3, a_l3)) : Atm)) := ⟨_, rfl⟩
  rw [← hL.out] at hA
  have hB : ∀ b : Bool, b = (decide ((a_s.length : Int) ≤ 300) && decide ((a_p.length : Int) ≤ 300)) → Hid (lightB ((a_s, a_p, a_n, (a_v0, a_l0), (a_v1, a_l1), (a_v2, a_l2), (a_v3, a_l3)) : Atm) = (b && (L.drop 0).all fun t => decide ((t.2.length : Int) ≤ 300))) := by
    intro b hb
    show _ = _
    rw [hb, hL.out]; rfl
  obtain ⟨R, hR⟩ : ∃ R, Hid (R = lightB ((a_s, a_p, a_n, (a_v0, a_l0), (a_v1, a_l1), (a_v2, a_l2), (a_v3, a_l3)) : Atm)) := ⟨_, rfl⟩
  rw [← hR.out] at hB ⊢
  have HB := Lib.hid hB
  have HA := Lib.hid hA
  clear hA hB
  cases h1 : decide ((a_s.length : Int) ≤ 300) <;> cases h2 : decide ((a_p.length : Int) ≤ 300)
  all_goals
    go_enter Tryz.func17, Tryz.ntmps17
    go_wp2
    generalize (w.alloc _) = W at *
    go_loop [3, 4] (fun n i => ∃ (k : Nat) (b : Bool), k ≤ 4 ∧ i = .int .i64 k ∧ n = .bool b ∧ Hid (R = (b && (L.drop k).all fun t => decide ((t.2.length : Int) ≤ 300)))) (fun _ i => 4 - (intOf i).toNat)
    case atStart =>
      refine ⟨0, _, by omega, rfl, rfl, ?_⟩
      exact HB.out _ (by rw [h1, h2]; try rfl)
    case round =>
      obtain ⟨k, b, hk, rfl, rfl, hres⟩ := hrel
      clear h1 h2
      by_cases hlt : (k : Int) < 4
      · have hk4 : k < L.length := by rw [HA.out.1]; omega
        obtain ⟨_, hc⟩ := HA.out.2 k hk4
        have hst := all_step (m := fun t : Tm => decide ((t.2.length : Int) ≤ 300)) hk4
        have HST := Lib.hid hst
        clear hst
        generalize L[k] = t at *
        obtain ⟨tv, tn⟩ := t
        cases b
        · go_wp2
          go_round
          case rel =>
            refine ⟨k + 1, false, by omega, by go_num, rfl, ?_⟩
            have := hres.out
            rw [Bool.false_and] at this
            rw [this, Bool.false_and]; rfl
          case measure => simp [intOf]; omega
        · go_wp2
          go_round
          case rel =>
            refine ⟨k + 1, _, by omega, by go_num, rfl, ?_⟩
            have := hres.out
            rw [Bool.true_and, HST.out] at this
            exact this
          case measure => simp [intOf]; omega
      · go_wp2
        go_ret
        refine ⟨ret_bool ?_, hS⟩
        rw [hres.out, all_done (by rw [HA.out.1]; omega), Bool.and_true]
end Go.Proofs.YtnfjjckbgnieeaaGreatDoor
