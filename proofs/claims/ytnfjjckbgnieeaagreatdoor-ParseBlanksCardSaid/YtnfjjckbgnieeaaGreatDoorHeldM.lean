/- XHeld's laws for a store, for two operations of which either may come first. XHeld's laws for maps with atoms as keys; facts in a world of which one block has grown. -/
import Derived.Test.YtnfjjckbgnieeaaGreatDoorHeld
import Derived.Test.YtnfjjckbgnieeaaGreatDoorASet
import Derived.Test.YtnfjjckbgnieeaaGreatDoorAuto
namespace Go.Proofs.YtnfjjckbgnieeaaGreatDoor
open Go.RowKit

section
variable {P : Program} {md : Region.Mode} {ops : Array Oper} {Q : Exit → Act → World → Prop} {S : World → Prop} {i j d fuel : Nat} {oi oj : Oper} {listed : Array Bool} {L : List Value} {ds : List Deferred} {w : World}
theorem hx_store (w' : World) (hi : ops[i]? = some oi) (hd : oi.dst = none) (hr : Region.ready md ops listed = [i]) (hw : Region.wanted oi (yielded ops L.toArray) = true)
    (hrun : (execOp (Act.eval ⟨L.toArray, ds⟩) oi).run P w = .ok .skip w') (hS : S w') (h : wpAnyH P md ops Q S fuel (listed.setIfInBounds i true) ⟨L.toArray, ds⟩ w') : wpAnyH P md ops Q S (fuel + 1) listed ⟨L.toArray, ds⟩ w := by
  refine hx_step hi hr hw ?_
  unfold Oper.wp
  rw [hrun, Oper.upon_skip, hd]
  exact ⟨hS, h⟩
theorem hx_two (hi : ops[i]? = some oi) (hj : ops[j]? = some oj) (hr : Region.ready md ops listed = [i, j]) (hwi : Region.wanted oi (yielded ops L.toArray) = true) (hwj : Region.wanted oj (yielded ops L.toArray) = true)
    (h1 : Oper.wp P oi ⟨L.toArray, ds⟩ w (fun a' w' => S w' ∧ wpAnyH P md ops Q S fuel (listed.setIfInBounds i true) a' w') Q)
    (h2 : Oper.wp P oj ⟨L.toArray, ds⟩ w (fun a' w' => S w' ∧ wpAnyH P md ops Q S fuel (listed.setIfInBounds j true) a' w') Q) : wpAnyH P md ops Q S (fuel + 1) listed ⟨L.toArray, ds⟩ w :=
  wpAnyH_ready hr (by simp) (AllReadyH.cons hi (fun K' hK => by
    rw [if_pos hwi]
    exact Oper.wp_mono (fun a w hh => hK.out a w hh.1 (fun _ => hh.2)) h1) (AllReadyH.cons hj (fun K' hK => by
    rw [if_pos hwj]
    exact Oper.wp_mono (fun a w hh => hK.out a w hh.1 (fun _ => hh.2)) h2) AllReadyH.nil))
theorem wp_value {o : Oper} {K : Act → World → Prop} {v : Value} {w' : World} (hd : o.dst = some d) (hrun : (execOp (Act.eval ⟨L.toArray, ds⟩) o).run P w = .ok (.value v) w') (h : K ⟨(L.set d v).toArray, ds⟩ w') : Oper.wp P o ⟨L.toArray, ds⟩ w K Q := by
  unfold Oper.wp
  rw [hrun, Oper.upon_value, hd, put_list]
  exact h
theorem wp_calls {o : Oper} {K : Act → World → Prop} (f : FuncId) (args : Array Value) {R : Ending → World → Prop} (hd : o.dst = some d) (hrun : (execOp (Act.eval ⟨L.toArray, ds⟩) o).run P w = .ok (.enter f args) w) (hc : Calls P f args w R)
    (h : ∀ e w', R e w' → ∃ v, e = .returned v ∧ K ⟨(L.set d v).toArray, ds⟩ w') : Oper.wp P o ⟨L.toArray, ds⟩ w K Q := by
  unfold Oper.wp
  rw [hrun, Oper.upon_enter]
  refine hc.mono fun e w' hR => ?_
  obtain ⟨v, rfl, h2⟩ := h e w' hR
  show K (Act.put _ o.dst v) w'
  rw [hd, put_list]
  exact h2
end
end Go.Proofs.YtnfjjckbgnieeaaGreatDoor

namespace Go.Proofs.YtnfjjckbgnieeaaGreatDoor
open Go.RowKit Go.Maps Go.WideMaps

theorem At.far {W W' : World} {g o : Nat} {cs : Array Value} {row : Option Nat} (h : At W g o cs) (hg : W.grownBy W' row) (hne : some g ≠ row) : At W' g o cs := fun j u hu => by
  have hc := h j u hu
  exact (World.cell?_of_block (hg.block g (World.block_lt_of_cell? _ _ hc) hne)).trans hc
theorem at_box {W : World} {g : Nat} (a_s a_p : List UInt8) (a_n : Int) (a_v0 a_v1 a_v2 a_v3 : Bool) (a_l0 a_l1 a_l2 a_l3 : List UInt8) (h : Box W g ((a_s, a_p, a_n, (a_v0, a_l0), (a_v1, a_l1), (a_v2, a_l2), (a_v3, a_l3)) : Atm)) : At W g 0 #[.string ⟨a_s.toArray⟩, .string ⟨a_p.toArray⟩, .int .i64 a_n, .bool a_v0, .string ⟨a_l0.toArray⟩, .bool a_v1, .string ⟨a_l1.toArray⟩, .bool a_v2, .string ⟨a_l2.toArray⟩, .bool a_v3, .string ⟨a_l3.toArray⟩] := by
  intro j u hu
  refine (congrArg (fun q => W.cell? ⟨g, q, none⟩) (Nat.zero_add j)).trans ?_
  have hj : j < (atmC ((a_s, a_p, a_n, (a_v0, a_l0), (a_v1, a_l1), (a_v2, a_l2), (a_v3, a_l3)) : Atm)).size := (Array.getElem?_eq_some_iff.1 hu).1
  have h2 := h j hj
  have h3 : (atmC ((a_s, a_p, a_n, (a_v0, a_l0), (a_v1, a_l1), (a_v2, a_l2), (a_v3, a_l3)) : Atm))[j]? = some u := hu
  exact h2.trans ((Array.getElem?_eq_getElem hj).symm.trans h3)
theorem Cel.at {W : World} {B : Nat} {cs : Array Value} {T : TypeId} (h : Cel W B cs T) : At W B 0 cs := fun j u hu => by rw [Nat.zero_add, h.cell]; exact hu
theorem since_upd {w0 w w' : World} {b : Nat} (h : Since w0 w) (hg : w.grownBy w' (some b)) (hb : w0.heap.size ≤ b) : Since w0 w' :=
  Below.grown h hg h.size (fun j hj => by cases hj; exact hb)
section
variable {o : Oper} {x y z : Operand} {ev : Operand → Value} {b n : Nat} {L : List Atm}
theorem upd_run {P : Program} {t : TypeId} {k v : Value} {W W' : World} (ho : o.op = Op.mapUpdate t x y z) (hx : ev x = .map (some b)) (hy : ev y = k) (hz : ev z = v) (hrun : (Instr.mapUpdate t (.map (some b)) k v).run P W = .ok () W') :
    (execOp ev o).run P W = .ok .skip W' := by
  simp [execOp, ho, hx, hy, hz, hrun, Result.andThen]
end
end Go.Proofs.YtnfjjckbgnieeaaGreatDoor
