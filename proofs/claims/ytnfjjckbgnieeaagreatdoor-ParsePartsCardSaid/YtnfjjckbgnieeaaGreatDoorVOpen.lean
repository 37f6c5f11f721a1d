/- Arguments opened to plain data by their readings; and read again behind a call that only made new memory. -/
import Derived.Test.YtnfjjckbgnieeaaGreatDoorVRow
import Derived.OpenShut
import Derived.ChangeStays
import Derived.ChangeOld
import Derived.Deep.Slices
namespace Go.Proofs.YtnfjjckbgnieeaaGreatDoor
open Go.RowKit Go.ChangeShapes Go.WideShapes Go.Deep

theorem sameAt_of_since {w w' : World} (h : Since w w') : ∀ {p : MemPlace}, p.block < w.heap.size → w.sameAt w' p
  | .cell b o, hp => Below.cell h (p := ⟨b, o, none⟩) hp
  | .map b, hp => Below.block h b hp
def slicesOK (P : Program) : Bool := (List.range P.types.size).all fun t => match P.underlying t with | some (.slice e) => decide (0 < P.cellsOf e) | _ => true
theorem slicesOK_of {P : Program} (h : slicesOK P = true) {t e : TypeId} (ht : t < P.types.size) (hu : P.underlying t = some (.slice e)) : 0 < P.cellsOf e := by
  have := List.all_eq_true.1 h t (List.mem_range.2 ht)
  rw [hu] at this
  exact of_decide_eq_true this
theorem kidsP : Kids Tryz.prog (· < Tryz.prog.types.size) := kids_rows (by kernel_rfl) (by kernel_rfl)
theorem slicesP : slicesOK Tryz.prog = true := by kernel_rfl
section
variable {H : Type} {enc : TypeId × Value → H} {P : Program} {w w' : World}
/-- What an argument read before the call it reads behind it, if the call only made new memory. -/
theorem trod_since' (K : Kids P (· < P.types.size)) (hz : slicesOK P = true) (hS : Since w w') {t : TypeId} (ht : t < P.types.size) {v : Value} {d : DataW H} {ps : List MemPlace} (h : DataW.Trod enc P w 0 (fun _ => true) true t v d ps) :
    DataW.Trod enc P w' 0 (fun b => decide (b < w.heap.size)) true t v d ps := by
  obtain ⟨n, hn⟩ := h
  have hlt := DataW.trod_lt n _ _ _ hn
  exact ⟨n, DataW.trod_stays K (fun ht hu => slicesOK_of hz ht hu) (fun h => by cases h) ht hn (fun p hp => sameAt_of_since hS (hlt p hp)) (fun p hp => decide_eq_true (hlt p hp))⟩
theorem trodAll_since' (K : Kids P (· < P.types.size)) (hz : slicesOK P = true) (hS : Since w w') : ∀ {ts : List TypeId} {vs : List Value} {ds : List (DataW H)} {ps : List MemPlace}, (ts.all fun t => decide (t < P.types.size)) = true →
    DataW.TrodAll enc P w 0 (fun _ => true) true ts vs ds ps → DataW.TrodAll enc P w' 0 (fun b => decide (b < w.heap.size)) true ts vs ds ps := by
  intro ts
  induction ts with
  | nil =>
    intro vs ds ps _ h
    obtain ⟨rfl, rfl, rfl⟩ := trodAll_nil h
    exact trodAll_mk0
  | cons t ts ih =>
    intro vs ds ps ht h
    obtain ⟨v, vs1, d, ds1, a, b, rfl, rfl, rfl, h1, h2⟩ := trodAll_cons h
    rw [List.all_cons, Bool.and_eq_true] at ht
    exact trodAll_cons_mk (trod_since' K hz hS (of_decide_eq_true ht.1) h1) (ih ht.2 h2)
end
theorem trodAll_since {H : Type} {enc : TypeId × Value → H} {w w' : World} (hS : Since w w') {ts : List TypeId} {vs : List Value} {ds : List (DataW H)} {ps : List MemPlace} (ht : (ts.all fun t => decide (t < Tryz.prog.types.size)) = true)
    (h : DataW.TrodAll enc Tryz.prog w 0 (fun _ => true) true ts vs ds ps) : DataW.TrodAll enc Tryz.prog w' 0 (fun b => decide (b < w.heap.size)) true ts vs ds ps := trodAll_since' kidsP slicesP hS ht h

end Go.Proofs.YtnfjjckbgnieeaaGreatDoor
