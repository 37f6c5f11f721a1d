/- XHeld's laws with the list of what is done as a list: it is written out anew behind each operation. -/
import Derived.Test.YtiadjmfdahendaaDoorHeld
namespace Go.Proofs.YtiadjmfdahendaaDoor
open Go.RowKit

section
variable {P : Program} {md : Region.Mode} {ops : Array Oper} {Q : Exit → Act → World → Prop} {S : World → Prop} {i d fuel : Nat} {oi : Oper} {lb : List Bool} {L : List Value} {ds : List Deferred} {w : World}
theorem hy_begin {id : Nat} {a : Act} {w : World} (hm : P.follows .mixedOrders = true) (hS : S w.drew) (hns : Region.noSelect ops = true) (hQ : ∀ c a i v w, Q (.panic c) (a.put (some i) v) w → Q (.panic c) a w)
    (lb : List Bool) (n : Nat) (hn : ops.size = n) (hlb : List.replicate n false = lb) (h : Region.noSelect ops = true → (∀ c a i v w, Q (.panic c) (a.put (some i) v) w → Q (.panic c) a w) → wpAnyH P .any ops Q S n lb.toArray a w.drew) : (Code.region id ops true).wp P Q a w :=
  wp_region_held_drew hm hS (fun _ => by
    have := h hns hQ
    rw [← hlb, List.toArray_replicate, ← hn] at this
    exact this)
theorem hy_take {v : Value} (hi : ops[i]? = some oi) (hd : oi.dst = some d) (hs : Region.noSelect ops = true) (hf : Region.free md ops lb.toArray i = true) (hr : (Region.ready md ops lb.toArray).contains i = true)
    (hQ : ∀ c a i v w, Q (.panic c) (a.put (some i) v) w → Q (.panic c) a w) (hw : Region.wanted oi (yielded ops L.toArray) = true) (hrun : ∀ w, S w → (execOp (Act.eval ⟨L.toArray, ds⟩) oi).run P w = .ok (.value v) w) (hS : S w)
    (h : wpAnyH P md ops Q S fuel ((lb.set i true).toArray) ⟨(L.set d v).toArray, ds⟩ w) : wpAnyH P md ops Q S (fuel + 1) lb.toArray ⟨L.toArray, ds⟩ w :=
  wpAnyH_take hi hs hf hr (fun c a w h => hQ c a d _ w (hd ▸ h)) (.inl ⟨hw, hrun⟩) hS (by rw [hd, put_list, List.setIfInBounds_toArray]; exact h)
theorem hy_off (hi : ops[i]? = some oi) (hd : oi.dst = some d) (hs : Region.noSelect ops = true) (hf : Region.free md ops lb.toArray i = true) (hr : (Region.ready md ops lb.toArray).contains i = true)
    (hQ : ∀ c a i v w, Q (.panic c) (a.put (some i) v) w → Q (.panic c) a w) (hw : Region.wanted oi (yielded ops L.toArray) = false) (hS : S w)
    (h : wpAnyH P md ops Q S fuel ((lb.set i true).toArray) ⟨(L.set d undef).toArray, ds⟩ w) : wpAnyH P md ops Q S (fuel + 1) lb.toArray ⟨L.toArray, ds⟩ w :=
  wpAnyH_take hi hs hf hr (fun c a w h => hQ c a d _ w (hd ▸ h)) (.inr ⟨hw, rfl⟩) hS (by rw [hd, put_list, List.setIfInBounds_toArray]; exact h)
theorem hy_step {a : Act} (hi : ops[i]? = some oi) (hr : Region.ready md ops lb.toArray = [i]) (hw : Region.wanted oi (yielded ops a.tmps) = true)
    (h : Oper.wp P oi a w (fun a' w' => S w' ∧ wpAnyH P md ops Q S fuel ((lb.set i true).toArray) a' w') Q) : wpAnyH P md ops Q S (fuel + 1) lb.toArray a w :=
  wpAnyH_ready hr (by simp) (AllReadyH.cons hi (fun K' hK => by
    rw [if_pos hw]
    rw [List.setIfInBounds_toArray] at hK
    exact Oper.wp_mono (fun a w hh => hK.out a w hh.1 (fun _ => hh.2)) h) AllReadyH.nil)
theorem hy_call (f : FuncId) (args : Array Value) {R : Ending → World → Prop} (hi : ops[i]? = some oi) (hd : oi.dst = some d) (hr : Region.ready md ops lb.toArray = [i]) (hw : Region.wanted oi (yielded ops L.toArray) = true)
    (hrun : (execOp (Act.eval ⟨L.toArray, ds⟩) oi).run P w = .ok (.enter f args) w) (hc : Calls P f args w R)
    (h : ∀ e w', R e w' → ∃ v, e = .returned v ∧ S w' ∧ wpAnyH P md ops Q S fuel ((lb.set i true).toArray) ⟨(L.set d v).toArray, ds⟩ w') : wpAnyH P md ops Q S (fuel + 1) lb.toArray ⟨L.toArray, ds⟩ w := by
  refine hy_step hi hr hw ?_
  unfold Oper.wp
  rw [hrun, Oper.upon_enter]
  refine hc.mono fun e w' hR => ?_
  obtain ⟨v, rfl, h1, h2⟩ := h e w' hR
  refine ⟨h1, ?_⟩
  rw [hd, put_list]
  exact h2
theorem hy_make (v : Value) (w' : World) (hi : ops[i]? = some oi) (hd : oi.dst = some d) (hr : Region.ready md ops lb.toArray = [i]) (hw : Region.wanted oi (yielded ops L.toArray) = true)
    (hrun : (execOp (Act.eval ⟨L.toArray, ds⟩) oi).run P w = .ok (.value v) w') (hS : S w') (h : wpAnyH P md ops Q S fuel ((lb.set i true).toArray) ⟨(L.set d v).toArray, ds⟩ w') : wpAnyH P md ops Q S (fuel + 1) lb.toArray ⟨L.toArray, ds⟩ w := by
  refine hy_step hi hr hw ?_
  unfold Oper.wp
  rw [hrun, Oper.upon_value, hd, put_list]
  exact ⟨hS, h⟩
/-- At the end: of the frame one slot alone is kept. -/
theorem hy_done (k : Nat) (v : Value) (hr : Region.ready md ops lb.toArray = []) (h0 : L.toArray.getD k undef = v) (h : ∀ L' : List Value, L'.toArray.getD k undef = v → Q .normal ⟨L'.toArray, ds⟩ w) : wpAnyH P md ops Q S fuel lb.toArray ⟨L.toArray, ds⟩ w :=
  wpAnyH_done hr (h L h0) _
end
end Go.Proofs.YtiadjmfdahendaaDoor
