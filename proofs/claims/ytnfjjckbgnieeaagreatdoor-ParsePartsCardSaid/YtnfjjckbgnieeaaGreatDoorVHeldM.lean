/- XHeld's laws for a store, for two operations of which either may come first. XHeld's laws for maps with atoms as keys; facts in a world of which one block has grown. -/
import Derived.Test.YtnfjjckbgnieeaaGreatDoorVHeld
import Derived.Test.YtnfjjckbgnieeaaGreatDoorVASet
import Derived.Test.YtnfjjckbgnieeaaGreatDoorVAuto
namespace Go.Proofs.YtnfjjckbgnieeaaGreatDoor
open Go.RowKit

section
variable {P : Program} {md : Region.Mode} {ops : Array Oper} {Q : Exit → Act → World → Prop} {S : World → Prop} {i j d fuel : Nat} {oi oj : Oper} {listed : Array Bool} {L : List Value} {ds : List Deferred} {w : World}
theorem hx_store (w' : World) (hi : ops[i]? = some oi) (hd : oi.dst = none) (hr : Region.ready md ops listed = [i]) (hw : Region.wanted oi (yielded ops L.toArray) = true)
    (hrun : (execOp (Act.eval ⟨L.toArray, ds⟩) oi).run P w = .ok .skip w') (hS : S w') (h : wpAnyH P md ops Q S fuel (listed.setIfInBounds i true) ⟨L.toArray, ds⟩ w') : wpAnyH P md ops Q S (fuel + 1) listed ⟨L.toArray, ds⟩ w := by
  refine hx_step hi hr hw ?_
  unfold Oper.wp
  rw [hrun, Oper.upon_skip, hd]
  exact ⟨hS, h⟩
theorem hx_two (hi : ops[i]? = some oi) (hj : ops[j]? = some oj) (hr : Region.ready md ops listed = [i, j]) (hwi : Region.wanted oi (yielded ops L.toArray) = true) (hwj : Region.wanted oj (yielded ops L.toArray) = true)
    (h1 : Oper.wp P oi ⟨L.toArray, ds⟩ w (fun a' w' => S w' ∧ wpAnyH P md ops Q S fuel (listed.setIfInBounds i true) a' w') Q)
    (h2 : Oper.wp P oj ⟨L.toArray, ds⟩ w (fun a' w' => S w' ∧ wpAnyH P md ops Q S fuel (listed.setIfInBounds j true) a' w') Q) : wpAnyH P md ops Q S (fuel + 1) listed ⟨L.toArray, ds⟩ w :=
  wpAnyH_ready hr (by simp) (AllReadyH.cons hi (fun K' hK => by
    rw [if_pos hwi]
    exact Oper.wp_mono (fun a w hh => hK.out a w hh.1 (fun _ => hh.2)) h1) (AllReadyH.cons hj (fun K' hK => by
    rw [if_pos hwj]
    exact Oper.wp_mono (fun a w hh => hK.out a w hh.1 (fun _ => hh.2)) h2) AllReadyH.nil))
theorem wp_value {o : Oper} {K : Act → World → Prop} {v : Value} {w' : World} (hd : o.dst = some d) (hrun : (execOp (Act.eval ⟨L.toArray, ds⟩) o).run P w = .ok (.value v) w') (h : K ⟨(L.set d v).toArray, ds⟩ w') : Oper.wp P o ⟨L.toArray, ds⟩ w K Q := by
  unfold Oper.wp
  rw [hrun, Oper.upon_value, hd, put_list]
  exact h
theorem wp_calls {o : Oper} {K : Act → World → Prop} (f : FuncId) (args : Array Value) {R : Ending → World → Prop} (hd : o.dst = some d) (hrun : (execOp (Act.eval ⟨L.toArray, ds⟩) o).run P w = .ok (.enter f args) w) (hc : Calls P f args w R)
    (h : ∀ e w', R e w' → ∃ v, e = .returned v ∧ K ⟨(L.set d v).toArray, ds⟩ w') : Oper.wp P o ⟨L.toArray, ds⟩ w K Q := by
  unfold Oper.wp
  rw [hrun, Oper.upon_enter]
  refine hc.mono fun e w' hR => ?_
  obtain ⟨v, rfl, h2⟩ := h e w' hR
  show K (Act.put _ o.dst v) w'
  rw [hd, put_list]
  exact h2
end
end Go.Proofs.YtnfjjckbgnieeaaGreatDoor

namespace Go.Proofs.YtnfjjckbgnieeaaGreatDoor
open Go.RowKit Go.Maps Go.WideMaps

theorem At.far {W W' : World} {g o : Nat} {cs : Array Value} {row : Option Nat} (h : At W g o cs) (hg : W.grownBy W' row) (hne : some g ≠ row) : At W' g o cs := fun j u hu => by
  have hc := h j u hu
  exact (World.cell?_of_block (hg.block g (World.block_lt_of_cell? _ _ hc) hne)).trans hc
theorem Cel.at {W : World} {B : Nat} {cs : Array Value} {T : TypeId} (h : Cel W B cs T) : At W B 0 cs := fun j u hu => by rw [Nat.zero_add, h.cell]; exact hu
end Go.Proofs.YtnfjjckbgnieeaaGreatDoor
