/- vouchsafekit: LightAtoms; Same of equal lists of atoms, of declarations, of texts; SameRule. -/
import Derived.Test.YtnfjjckbgnieeaaGreatDoorVParN
import Derived.Test.YtnfjjckbgnieeaaGreatDoorVRows0
namespace Go.Proofs.YtnfjjckbgnieeaaGreatDoor
open Go.RowKit
attribute [local go_sem ↓] run_termEq' run_atomEq
attribute [local go_sem] eqA_self eqT_self

set_option maxHeartbeats 1000000 in
set_option maxRecDepth 100000 in
theorem neqg_sameA {o : Oper} {x y : Operand} {ev : Operand → Value} (a_s a_p : List UInt8) (a_n : Int) (a_v0 a_v1 a_v2 a_v3 : Bool) (a_l0 a_l1 a_l2 a_l3 : List UInt8) (ho : o.op = Op.binOp .neq 44 x y 44) (hx : ev x = .agg #[.string ⟨a_s.toArray⟩, .string ⟨a_p.toArray⟩, .int .i64 a_n, .bool a_v0, .string ⟨a_l0.toArray⟩, .bool a_v1, .string ⟨a_l1.toArray⟩, .bool a_v2, .string ⟨a_l2.toArray⟩, .bool a_v3, .string ⟨a_l3.toArray⟩]) (hy : ev y = .agg #[.string ⟨a_s.toArray⟩, .string ⟨a_p.toArray⟩, .int .i64 a_n, .bool a_v0, .string ⟨a_l0.toArray⟩, .bool a_v1, .string ⟨a_l1.toArray⟩, .bool a_v2, .string ⟨a_l2.toArray⟩, .bool a_v3, .string ⟨a_l3.toArray⟩]) (W : World) :
    (execOp ev o).run Tryz.prog W = .ok (.value (.bool false)) W := by
  simp only [execOp, ho]
  go_simp
set_option maxHeartbeats 1000000 in
theorem neqg_samePd {o : Oper} {x y : Operand} {ev : Operand → Value} (l : List UInt8) (n : Int) (ho : o.op = Op.binOp .neq 36 x y 36) (hx : ev x = .agg #[.string ⟨l.toArray⟩, .int .i64 n]) (hy : ev y = .agg #[.string ⟨l.toArray⟩, .int .i64 n]) (W : World) :
    (execOp ev o).run Tryz.prog W = .ok (.value (.bool false)) W := by
  simp only [execOp, ho]
  go_simp
theorem cat_run2 {a b c : List UInt8} (h : a ++ b = c) (hl : c.length ≤ 1000000) (W : World) : (Op.stringOp .add ⟨a.toArray⟩ ⟨b.toArray⟩).run Tryz.prog W = .ok (.string ⟨c.toArray⟩) W := by
  refine run_cat ?_ ?_ W
  · rw [← h]; apply ByteArray.ext; simp
  · have : (a ++ b).length ≤ 1000000 := by rw [h]; exact hl
    rw [List.length_append] at this
    simpa [ByteArray.size] using this
/-- A policy's cells, as a call hands them back. -/
theorem pol_cells2 {W : World} {D : Nat} {c3 c4 c5 c6 c7 c8 c9 : Value} {P : Pol} {C : List (Clr × Value)} {U : List (Rul × Value)} {G : List (Grn × Value)} (h : POwn W D c3 c4 c5 c6 c7 c8 c9 P C U G) : ∃ a3 e3 a4 e4 a5 e5 a8 e8 a9 e9, c3 = .slice a3 P.pr.length e3 ∧ c4 = .slice a4 P.pd.length e4 ∧ c5 = .slice a5 P.cl.length e5 ∧ c6 = .int .i64 P.qu ∧ c7 = .int .i64 P.bu ∧ c8 = .slice a8 P.ru.length e8 ∧ c9 = .slice a9 P.gr.length e9 := by
  obtain ⟨a3, e3, h3⟩ := own_slice h.pr
  obtain ⟨a4, e4, h4⟩ := own_slice h.pd
  obtain ⟨a5, e5, h5⟩ := own_slice h.cl.row
  obtain ⟨a8, e8, h8⟩ := own_slice h.ru.row
  obtain ⟨a9, e9, h9⟩ := own_slice h.gr.row
  have l5 : C.length = P.cl.length := by rw [← h.eC, List.length_map]
  have l8 : U.length = P.ru.length := by rw [← h.eU, List.length_map]
  have l9 : G.length = P.gr.length := by rw [← h.eG, List.length_map]
  rw [l5] at h5; rw [l8] at h8; rw [l9] at h9
  exact ⟨a3, e3, a4, e4, a5, e5, a8, e8, a9, e9, h3, h4, h5, h.qu, h.bu, h8, h9⟩
theorem tx_flat : ∀ L : List Txt, L.flatMap txtL = L.map strV
  | [] => rfl
  | a :: r => by rw [List.flatMap_cons, List.map_cons, tx_flat r]; rfl
theorem tx_row {W : World} {D : Nat} {v : Value} {L : List Txt} (h : W.ownsRow D 9 1 v L.length (L.flatMap txtL)) : Row W v L.length (L.map strV) := by
  have h1 := row_of_own h
  rwa [tx_flat] at h1
/-- An element of a row of one's own. -/
theorem own_atk {α : Type} {W : World} {D : Nat} {e : TypeId} {K : Nat} {v : Value} {L : List α} {f : α → List Value} (h : W.ownsRow D e K v L.length (L.flatMap f)) (_hK : 0 < K) (hf : ∀ x, (f x).length = K) {k : Nat} (hk : k < L.length) : ∃ b o c, v = .slice (some ⟨b, o, none⟩) L.length c ∧ L.length ≤ c ∧ At W b (o + k * K) (f L[k]).toArray := by
  obtain ⟨b, o, c, h1, h2, h3⟩ := (row_of_own h).some (by omega)
  refine ⟨b, o, c, h1, h2, fun j u hu => ?_⟩
  have hj : j < K := by have := (Array.getElem?_eq_some_iff.1 hu).1; rw [List.size_toArray, hf] at this; exact this
  rw [List.getElem?_toArray, ← flat_at hf L k hk j hj] at hu
  obtain ⟨h4, h5⟩ := List.getElem?_eq_some_iff.1 hu
  rw [Nat.add_assoc, h3 _ h4, h5]
theorem atm_row {W : World} {D : Nat} {v : Value} {L : List Atm} (h : W.ownsRow D 44 11 v L.length (L.flatMap atmL)) : ARow W v L := by
  obtain ⟨a, c, rfl⟩ := own_slice h
  rcases Nat.eq_zero_or_pos L.length with h0 | h0
  · have : L = [] := List.eq_nil_of_length_eq_zero h0
    subst this
    exact KRow.nil _ _
  · obtain ⟨b, o, c', e1, h2, -⟩ := own_atk h (by decide) (fun _ => rfl) h0
    injection e1 with e1 _ e3
    subst e1; subst e3
    refine ⟨_, _, rfl, h2, fun _ => ⟨b, o, rfl, fun k hk => ?_⟩⟩
    obtain ⟨b', o', c'', e1, _, h3⟩ := own_atk h (by decide) (fun _ => rfl) hk
    injection e1 with e1
    injection e1 with e1
    injection e1 with e1 e2
    subst e1; subst e2
    exact h3
theorem prd_row {W : World} {D : Nat} {v : Value} {L : List (Txt × Int)} (h : W.ownsRow D 36 2 v L.length (L.flatMap prdL)) : PRow W v L := by
  obtain ⟨a, c, rfl⟩ := own_slice h
  rcases Nat.eq_zero_or_pos L.length with h0 | h0
  · have : L = [] := List.eq_nil_of_length_eq_zero h0
    subst this
    exact KRow.nil _ _
  · obtain ⟨b, o, c', e1, h2, -⟩ := own_atk h (by decide) (fun _ => rfl) h0
    injection e1 with e1 _ e3
    subst e1; subst e3
    refine ⟨_, _, rfl, h2, fun _ => ⟨b, o, rfl, fun k hk => ?_⟩⟩
    obtain ⟨b', o', c'', e1, _, h3⟩ := own_atk h (by decide) (fun _ => rfl) hk
    injection e1 with e1
    injection e1 with e1
    injection e1 with e1 e2
    subst e1; subst e2
    exact ⟨h3 0 _ rfl, h3 1 _ rfl⟩
end Go.Proofs.YtnfjjckbgnieeaaGreatDoor
