/- XHeld's laws for a store, for two operations of which either may come first, for any step. -/
import Derived.Test.YtpkggopaigledaaDoorHeldG
namespace Go.Proofs.YtpkggopaigledaaDoor
open Go.RowKit

section
variable {P : Program} {md : Region.Mode} {ops : Array Oper} {Q : Exit → Act → World → Prop} {S : World → Prop} {i j d fuel : Nat} {oi oj : Oper} {listed : Array Bool} {L : List Value} {ds : List Deferred} {w : World}
theorem hx_store (w' : World) (hi : ops[i]? = some oi) (hd : oi.dst = none) (hr : Region.ready md ops listed = [i]) (hw : Region.wanted oi (yielded ops L.toArray) = true)
    (hrun : (execOp (Act.eval ⟨L.toArray, ds⟩) oi).run P w = .ok .skip w') (hS : S w') (h : wpAnyH P md ops Q S fuel (listed.setIfInBounds i true) ⟨L.toArray, ds⟩ w') : wpAnyH P md ops Q S (fuel + 1) listed ⟨L.toArray, ds⟩ w := by
  refine hx_step hi hr hw ?_
  unfold Oper.wp
  rw [hrun, Oper.upon_skip, hd]
  exact ⟨hS, h⟩
theorem hx_two (hi : ops[i]? = some oi) (hj : ops[j]? = some oj) (hr : Region.ready md ops listed = [i, j]) (hwi : Region.wanted oi (yielded ops L.toArray) = true) (hwj : Region.wanted oj (yielded ops L.toArray) = true)
    (h1 : Oper.wp P oi ⟨L.toArray, ds⟩ w (fun a' w' => S w' ∧ wpAnyH P md ops Q S fuel (listed.setIfInBounds i true) a' w') Q)
    (h2 : Oper.wp P oj ⟨L.toArray, ds⟩ w (fun a' w' => S w' ∧ wpAnyH P md ops Q S fuel (listed.setIfInBounds j true) a' w') Q) : wpAnyH P md ops Q S (fuel + 1) listed ⟨L.toArray, ds⟩ w :=
  wpAnyH_ready hr (by simp) (AllReadyH.cons hi (fun K' hK => by
    rw [if_pos hwi]
    exact Oper.wp_mono (fun a w hh => hK.out a w hh.1 (fun _ => hh.2)) h1) (AllReadyH.cons hj (fun K' hK => by
    rw [if_pos hwj]
    exact Oper.wp_mono (fun a w hh => hK.out a w hh.1 (fun _ => hh.2)) h2) AllReadyH.nil))
theorem wp_value {o : Oper} {K : Act → World → Prop} {v : Value} {w' : World} (hd : o.dst = some d) (hrun : (execOp (Act.eval ⟨L.toArray, ds⟩) o).run P w = .ok (.value v) w') (h : K ⟨(L.set d v).toArray, ds⟩ w') : Oper.wp P o ⟨L.toArray, ds⟩ w K Q := by
  unfold Oper.wp
  rw [hrun, Oper.upon_value, hd, put_list]
  exact h
theorem wp_calls {o : Oper} {K : Act → World → Prop} (f : FuncId) (args : Array Value) {R : Ending → World → Prop} (hd : o.dst = some d) (hrun : (execOp (Act.eval ⟨L.toArray, ds⟩) o).run P w = .ok (.enter f args) w) (hc : Calls P f args w R)
    (h : ∀ e w', R e w' → ∃ v, e = .returned v ∧ K ⟨(L.set d v).toArray, ds⟩ w') : Oper.wp P o ⟨L.toArray, ds⟩ w K Q := by
  unfold Oper.wp
  rw [hrun, Oper.upon_enter]
  refine hc.mono fun e w' hR => ?_
  obtain ⟨v, rfl, h2⟩ := h e w' hR
  show K (Act.put _ o.dst v) w'
  rw [hd, put_list]
  exact h2
end
set_option maxHeartbeats 1000000 in
theorem st_txts (o : Oper) (x y : Operand) (ho : o.op = Op.store 22 x y) (ev : Operand → Value) (g : Nat) (hx : ev x = .pointer (some ⟨g, 0, none⟩)) (a : Option Addr) (n c : Nat) (hy : ev y = .slice a n c) (v0 : Value) (T : TypeId) (W : World) (h : Cel W g #[v0] T) :
    (execOp ev o).run Tryd.prog W = .ok .skip (W.setCell ⟨g, 0, none⟩ (.slice a n c)) := by
  have h1 := h.one
  have h2 := h.free 0
  simp only [execOp, ho]
  go_simp
theorem reads_own {w : World} {base : Nat} {e : TypeId} {v : Value} {n : Nat} {xs : List Value} (h : w.ownsRow base e 1 v n xs) : ∃ A c, v = .slice A n c ∧ Reads w w.heap.size 1 A n xs := by
  have hlt := h.lt
  have hcl : ∀ g, v.ownBlock = some g → ∀ j u, xs[j]? = some u → w.cell? ((⟨g, 0, none⟩ : Addr).add j) = some u := fun g hg => h.cells hg
  obtain ⟨hl, h | ⟨g, cap, cur, hv, hr⟩⟩ := h
  · obtain ⟨rfl, rfl⟩ := h
    exact ⟨none, 0, rfl, by omega, fun h => absurd h (Nat.lt_irrefl 0)⟩
  · subst hv
    have ho : (Value.slice (some ⟨g, 0, none⟩) n cap).ownBlock = some g := rfl
    exact ⟨_, _, rfl, by omega, fun _ => ⟨⟨g, 0, none⟩, rfl, (hlt g ho).2, hcl g ho⟩⟩
theorem own_sinceF {w w' : World} {base : Nat} {e : TypeId} {size : Nat} {v : Value} {n : Nat} {xs : List Value} (h : w.ownsRow base e size v n xs) (hs : Since w w') : w'.ownsRow base e size v n xs :=
  h.kept (row := none) ⟨hs.os, hs.tape, hs.output, hs.size, fun k hk _ => hs.block k hk⟩ (by
    cases hv : v.ownBlock with
    | none => exact .inl rfl
    | some g => exact .inr (by simp))
end Go.Proofs.YtpkggopaigledaaDoor
