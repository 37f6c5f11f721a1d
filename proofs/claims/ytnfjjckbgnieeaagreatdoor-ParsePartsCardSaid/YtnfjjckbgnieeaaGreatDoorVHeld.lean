/- A region that draws its order, operation by operation, over a frame that is left as a chain of 'set's: nothing is simplified, the kernel reckons. -/
import Derived.Test.YtnfjjckbgnieeaaGreatDoorVBase
import Derived.Deep.RegionHeld3
namespace Go.Proofs.YtnfjjckbgnieeaaGreatDoor
open Go.RowKit

theorem put_list (L : List Value) (ds : List Deferred) (i : Nat) (v : Value) : Act.put ⟨L.toArray, ds⟩ (some i) v = ⟨(L.set i v).toArray, ds⟩ := by simp [Act.put]
section
variable {P : Program} {md : Region.Mode} {ops : Array Oper} {Q : Exit → Act → World → Prop} {S : World → Prop} {i d fuel : Nat} {oi : Oper} {listed : Array Bool} {L : List Value} {ds : List Deferred} {w : World}
theorem hx_begin {id : Nat} {a : Act} {w : World} (hm : P.follows .mixedOrders = true) (hS : S w.drew) (hns : Region.noSelect ops = true) (hQ : ∀ c a i v w, Q (.panic c) (a.put (some i) v) w → Q (.panic c) a w)
    (h : Region.noSelect ops = true → (∀ c a i v w, Q (.panic c) (a.put (some i) v) w → Q (.panic c) a w) → wpAnyH P .any ops Q S ops.size (Array.replicate ops.size false) a w.drew) : (Code.region id ops true).wp P Q a w :=
  wp_region_held_drew hm hS (fun _ => h hns hQ)
theorem hx_take {v : Value} (hi : ops[i]? = some oi) (hd : oi.dst = some d) (hs : Region.noSelect ops = true) (hf : Region.free md ops listed i = true) (hr : (Region.ready md ops listed).contains i = true)
    (hQ : ∀ c a i v w, Q (.panic c) (a.put (some i) v) w → Q (.panic c) a w) (hw : Region.wanted oi (yielded ops L.toArray) = true) (hrun : ∀ w, S w → (execOp (Act.eval ⟨L.toArray, ds⟩) oi).run P w = .ok (.value v) w) (hS : S w)
    (h : wpAnyH P md ops Q S fuel (listed.setIfInBounds i true) ⟨(L.set d v).toArray, ds⟩ w) : wpAnyH P md ops Q S (fuel + 1) listed ⟨L.toArray, ds⟩ w :=
  wpAnyH_take hi hs hf hr (fun c a w h => hQ c a d _ w (hd ▸ h)) (.inl ⟨hw, hrun⟩) hS (by rw [hd, put_list]; exact h)
theorem hx_step {a : Act} (hi : ops[i]? = some oi) (hr : Region.ready md ops listed = [i]) (hw : Region.wanted oi (yielded ops a.tmps) = true)
    (h : Oper.wp P oi a w (fun a' w' => S w' ∧ wpAnyH P md ops Q S fuel (listed.setIfInBounds i true) a' w') Q) : wpAnyH P md ops Q S (fuel + 1) listed a w :=
  wpAnyH_ready hr (by simp) (AllReadyH.cons hi (fun K' hK => by
    rw [if_pos hw]
    exact Oper.wp_mono (fun a w hh => hK.out a w hh.1 (fun _ => hh.2)) h) AllReadyH.nil)
theorem hx_call (f : FuncId) (args : Array Value) {R : Ending → World → Prop} (hi : ops[i]? = some oi) (hd : oi.dst = some d) (hr : Region.ready md ops listed = [i]) (hw : Region.wanted oi (yielded ops L.toArray) = true)
    (hrun : (execOp (Act.eval ⟨L.toArray, ds⟩) oi).run P w = .ok (.enter f args) w) (hc : Calls P f args w R)
    (h : ∀ e w', R e w' → ∃ v, e = .returned v ∧ S w' ∧ wpAnyH P md ops Q S fuel (listed.setIfInBounds i true) ⟨(L.set d v).toArray, ds⟩ w') : wpAnyH P md ops Q S (fuel + 1) listed ⟨L.toArray, ds⟩ w := by
  refine hx_step hi hr hw ?_
  unfold Oper.wp
  rw [hrun, Oper.upon_enter]
  refine hc.mono fun e w' hR => ?_
  obtain ⟨v, rfl, h1, h2⟩ := h e w' hR
  refine ⟨h1, ?_⟩
  rw [hd, put_list]
  exact h2
theorem hx_make (v : Value) (w' : World) (hi : ops[i]? = some oi) (hd : oi.dst = some d) (hr : Region.ready md ops listed = [i]) (hw : Region.wanted oi (yielded ops L.toArray) = true)
    (hrun : (execOp (Act.eval ⟨L.toArray, ds⟩) oi).run P w = .ok (.value v) w') (hS : S w') (h : wpAnyH P md ops Q S fuel (listed.setIfInBounds i true) ⟨(L.set d v).toArray, ds⟩ w') : wpAnyH P md ops Q S (fuel + 1) listed ⟨L.toArray, ds⟩ w := by
  refine hx_step hi hr hw ?_
  unfold Oper.wp
  rw [hrun, Oper.upon_value, hd, put_list]
  exact ⟨hS, h⟩
end
end Go.Proofs.YtnfjjckbgnieeaaGreatDoor
