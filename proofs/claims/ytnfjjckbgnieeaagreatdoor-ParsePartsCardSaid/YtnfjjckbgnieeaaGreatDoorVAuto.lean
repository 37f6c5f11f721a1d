/- Single operations as equations, over any types: loads, indices, slices, comparisons. -/
import Derived.Test.YtnfjjckbgnieeaaGreatDoorVHeld
import Derived.Test.YtnfjjckbgnieeaaGreatDoorVRow
namespace Go.Proofs.YtnfjjckbgnieeaaGreatDoor
open Go.RowKit

/-- Cells in a row of a block. -/
def At (W : World) (g o : Nat) (cs : Array Value) : Prop := ∀ j u, cs[j]? = some u → W.cell? ⟨g, o + j, none⟩ = some u
theorem At.next {W W' : World} {g o : Nat} {cs : Array Value} (h : At W g o cs) (hs : Since W W') : At W' g o cs := fun j u hu => hs.cell (h j u hu)
theorem At.one {W : World} {g o : Nat} {v : Value} (h : W.cell? ⟨g, o, none⟩ = some v) : At W g o #[v] := by
  intro j u hu
  match j, hu with
  | 0, hu => have e : v = u := by simpa using hu
             rw [← e]; exact h
theorem at_two {W : World} {g o : Nat} {v x : Value} (h : W.cell? ⟨g, o, none⟩ = some v) (h1 : W.cell? ⟨g, o + 1, none⟩ = some x) : At W g o #[v, x] := by
  intro j u hu
  match j, hu with
  | 0, hu => have e : v = u := by simpa using hu
             rw [← e]; exact h
  | 1, hu => have e : x = u := by simpa using hu
             rw [← e]; exact h1
section
variable {P : Program} {o : Oper} {ty : TypeId} {x y : Operand} {ev : Operand → Value} {g k : Nat}
def aggB (P : Program) (t : TypeId) : Bool := match P.underlying t with | some (.struct _) => true | some (.array _ _) => true | _ => false
def elemK (P : Program) (t : TypeId) : Option Nat := match P.underlying t with | some (.slice e) => (P.info? e).map (·.size) | _ => none
def arrK (P : Program) (t : TypeId) : Option (Nat × Nat) := match P.underlying t with | some (.array n e) => (P.info? e).map (fun i => (n, i.size)) | _ => none
def plainB (P : Program) (t : TypeId) : Bool := match P.underlying t with | some (.struct _) => false | some (.array _ _) => false | some _ => true | none => false
theorem run_isAgg {t : TypeId} {b : Bool} (W : World) (h : match P.underlying t with | some (.struct _) => b = true | some (.array _ _) => b = true | some _ => b = false | none => False) : (isAgg t).run P W = .ok b W := by
  unfold isAgg
  cases hu : P.underlying t with
  | none => rw [hu] at h; exact h.elim
  | some d =>
    rw [hu] at h
    rw [Sem.run_bind, run_underlying hu W]
    cases d <;> simp_all
theorem ld_one (ho : o.op = .load ty x) (hx : ev x = .pointer (some ⟨g, k, none⟩)) (hb : plainB P ty = true) {v : Value} (W : World) (h : W.cell? ⟨g, k, none⟩ = some v) :
    (execOp ev o).run P W = .ok (.value v) W := by
  have ha : (isAgg ty).run P W = .ok false W := run_isAgg W (by
    unfold plainB at hb
    revert hb
    cases P.underlying ty with
    | none => simp
    | some d => cases d <;> simp)
  simp only [execOp, ho, hx, Instr.loadAt, Instr.sureAddr, Sem.run_bind, Sem.run_pure, Result.andThen_ok, loadVar, ha]
  simp [h]
theorem ld_at (ho : o.op = .load ty x) (hx : ev x = .pointer (some ⟨g, k, none⟩)) (hb : aggB P ty = true) {cs : Array Value} (hi : (P.info? ty).map (·.size) = some cs.size) (W : World) (h : At W g k cs) :
    (execOp ev o).run P W = .ok (.value (.agg cs)) W := by
  have ha : (isAgg ty).run P W = .ok true W := run_isAgg W (by
    unfold aggB at hb
    revert hb
    cases P.underlying ty with
    | none => simp
    | some d => cases d <;> simp)
  have hl : (loadCells ⟨g, k, none⟩ cs.toList.length).run P W = .ok cs.toList.toArray W :=
    run_loadCells_list (P := P) W ⟨g, k, none⟩ cs.toList (fun j v hv => by
      rw [add_form]
      exact h j v (by simpa using hv))
  cases hq : P.info? ty with
  | none => simp [hq] at hi
  | some i =>
    have hs : i.size = cs.size := by simpa [hq] using hi
    simp only [Array.length_toList, Array.toArray_toList] at hl
    simp only [execOp, ho, hx, Instr.loadAt, Instr.sureAddr, Sem.run_bind, Sem.run_pure, Result.andThen_ok, loadVar, ha]
    simp [sizeOf, typeInfo, hq, hs, hl, Sem.run_bind]
theorem ix_sl {b p n c K : Nat} {kI : Int} (ho : o.op = .indexAddr ty x y) (hx : ev x = .slice (some ⟨b, p, none⟩) n c) (hy : ev y = .int .i64 kI) (hK : elemK P ty = some K) (hz : kI = (k : Int)) (hlt : k < n) (W : World) :
    (execOp ev o).run P W = .ok (.value (.pointer (some ⟨b, p + k * K, none⟩))) W := by
  subst hz
  have h0 : (0 : Int) ≤ (k : Int) := by omega
  have h1 : (k : Int) < (n : Int) := by omega
  unfold elemK at hK
  revert hK
  cases hu : P.underlying ty with
  | none => intro hK; cases hK
  | some d =>
    intro hK
    cases d with
    | slice e =>
      cases hq : P.info? e with
      | none => simp [hq] at hK
      | some i =>
        have hs : i.size = K := by simpa [hq] using hK
        simp [execOp, ho, hx, hy, Instr.indexAt, asIntOf, run_underlying hu W, sizeOf, typeInfo, hq, hs, h0, hlt, Sem.run_bind, add_form]
    | _ => cases hK
theorem ix_ar {n K p : Nat} {kI : Int} (ho : o.op = .indexAddr ty x y) (hx : ev x = .pointer (some ⟨g, p, none⟩)) (hy : ev y = .int .i64 kI) (hK : arrK P ty = some (n, K)) (hz : kI = (k : Int)) (hlt : k < n) (W : World) :
    (execOp ev o).run P W = .ok (.value (.pointer (some ⟨g, p + k * K, none⟩))) W := by
  subst hz
  have h0 : (0 : Int) ≤ (k : Int) := by omega
  have h1 : (k : Int) < (n : Int) := by omega
  unfold arrK at hK
  revert hK
  cases hu : P.underlying ty with
  | none => intro hK; cases hK
  | some d =>
    intro hK
    cases d with
    | array m e =>
      cases hq : P.info? e with
      | none => simp [hq] at hK
      | some i =>
        have hs : m = n ∧ i.size = K := by simpa [hq] using hK
        obtain ⟨rfl, hs⟩ := hs
        simp [execOp, ho, hx, hy, Instr.indexAt, Instr.sureAddr, asIntOf, run_underlying hu W, sizeOf, typeInfo, hq, hs, h0, hlt, Sem.run_bind, add_form]
    | _ => cases hK
end
section
variable {o : Oper} {x y : Operand} {ev : Operand → Value}
theorem eql_txt {s t : List UInt8} (ho : o.op = .binOp .eql 9 x y 9) (hx : ev x = .string ⟨s.toArray⟩) (hy : ev y = .string ⟨t.toArray⟩) (W : World) :
    (execOp ev o).run Tryz.prog W = .ok (.value (.bool (s == t))) W := by
  simp only [execOp, ho]
  go_simp
theorem eql_int {s t : Int} (ho : o.op = .binOp .eql 3 x y 3) (hx : ev x = .int .i64 s) (hy : ev y = .int .i64 t) (W : World) :
    (execOp ev o).run Tryz.prog W = .ok (.value (.bool (s == t))) W := by
  simp only [execOp, ho]
  go_simp
theorem eql_intE {s t : Int} (ho : o.op = .binOp .eql 30 x y 30) (hx : ev x = .int .i64 s) (hy : ev y = .int .i64 t) (W : World) :
    (execOp ev o).run Tryz.prog W = .ok (.value (.bool (s == t))) W := by
  simp only [execOp, ho]
  go_simp
theorem eqs_int {s : Int} (ho : o.op = .binOp .eql 3 x y 3) (hx : ev x = .int .i64 s) (hy : ev y = .int .i64 s) (W : World) :
    (execOp ev o).run Tryz.prog W = .ok (.value (.bool true)) W := by
  rw [eql_int ho hx hy W, beq_self_eq_true]
theorem eqs_intE {s : Int} (ho : o.op = .binOp .eql 30 x y 30) (hx : ev x = .int .i64 s) (hy : ev y = .int .i64 s) (W : World) :
    (execOp ev o).run Tryz.prog W = .ok (.value (.bool true)) W := by
  rw [eql_intE ho hx hy W, beq_self_eq_true]
theorem eqs_txt {s : List UInt8} (ho : o.op = .binOp .eql 9 x y 9) (hx : ev x = .string ⟨s.toArray⟩) (hy : ev y = .string ⟨s.toArray⟩) (W : World) :
    (execOp ev o).run Tryz.prog W = .ok (.value (.bool true)) W := by
  rw [eql_txt ho hx hy W, beq_self_eq_true]
end
end Go.Proofs.YtnfjjckbgnieeaaGreatDoor
