/- Same[Binding] of two rows of the same bindings; LightBindings. -/
import Derived.Test.YtohcehjpdmhjlaaDoorUniAH
import Derived.Test.YtohcehjpdmhjlaaDoorEq
namespace Go.Proofs.YtohcehjpdmhjlaaDoor
open Go.RowKit

def eqB (a b : Bnd) : Bool := decide (a.1 = b.1) && eqT a.2 b.2
theorem eqB_self (a : Bnd) : eqB a a = true := by
  unfold eqB
  rw [eqT_self]
  simp
theorem run_bndEq (s t : List UInt8) (v u : Bool) (l m : List UInt8) (W : World) : (Op.equalIn 10000 49 (.agg #[.string ⟨s.toArray⟩, .bool v, .string ⟨l.toArray⟩]) (.agg #[.string ⟨t.toArray⟩, .bool u, .string ⟨m.toArray⟩])).run Tryd.prog W = .ok (eqB (s, (v, l)) (t, (u, m))) W := by
  have h := fun W => run_termEq 9997 v u l m W
  go_simp
  by_cases h0 : s = t <;> by_cases h1 : v = u <;> by_cases h2 : l = m <;> simp [h0, h1, h2, eqB, eqT]
attribute [local go_sem ↓] run_bndEq
attribute [local go_sem] eqB_self
set_option maxHeartbeats 1000000 in
set_option maxRecDepth 100000 in
theorem same_bnd (v1 v2 : Value) (L : List Bnd) (w : World) (h1 : RowOf 3 bndC w v1 L) (h2 : RowOf 3 bndC w v2 L) (hm : L.length ≤ 1000000) :
    Calls Tryd.prog 19 #[v1, v2] w fun e w' => e = .returned (.bool true) ∧ Since w w' := by
  obtain ⟨a1, c1, rfl⟩ := h1.form
  obtain ⟨a2, c2, rfl⟩ := h2.form
  have H1 := Lib.hid h1
  have H2 := Lib.hid h2
  have hq : ((L.length : Int) != (L.length : Int)) = false := by simp
  clear h1 h2
  go_enter Tryd.func19, Tryd.ntmps19
  go_wp2_with fail
  go_loopw [5] (fun i wr => ∃ k : Nat, k ≤ L.length ∧ i = .int .i64 (k : Int) ∧ Since w wr) (fun i _ => L.length - (intOf i).toNat)
  case atStart => exact ⟨0, by omega, rfl, Since.refl _⟩
  case round =>
    obtain ⟨k, hk, rfl, hS⟩ := hrel
    by_cases hlt : k < L.length
    · obtain ⟨b1, o1, he1, _, hc1, hat1⟩ := bnd_get (H1.out.next hS) (by omega)
      obtain ⟨b2, o2, he2, _, hc2, hat2⟩ := bnd_get (H2.out.next hS) (by omega)
      cases he1
      cases he2
      obtain ⟨d0, d1, d2⟩ := hat1 k hlt
      obtain ⟨e0, e1, e2⟩ := hat2 k hlt
      have hg2 : (k : Int) < (L.length : Int) := by omega
      have hg0 : (0 : Int) ≤ (k : Int) := by omega
      clear hat1 hat2
      generalize L[k] = x at *
      obtain ⟨xs, xv, xt⟩ := x
      simp only at d0 d1 d2 e0 e1 e2
      go_wp2_with fail
      go_quiet (fail)
      go_wp2_with fail
      go_roundw
      case rel => exact ⟨k + 1, by omega, by go_num, hS.drewN _⟩
      case measure => simp [intOf]; omega
    · go_wp2_with fail
      go_ret
      exact ⟨rfl, hS⟩
/-- Few bindings of short names. -/
def lightBs (L : List Bnd) : Bool := decide (L.length ≤ 20) && L.all fun b => decide (b.1.length ≤ 300) && decide (b.2.2.length ≤ 300)
theorem lightBs_len {L : List Bnd} (h : lightBs L = true) : L.length ≤ 20 := by
  unfold lightBs at h
  rw [Bool.and_eq_true, decide_eq_true_eq] at h
  exact h.1
theorem all_dropB {L : List Bnd} {f : Bnd → Bool} {k : Nat} (h : k < L.length) : (L.drop k).all f = (f L[k] && (L.drop (k + 1)).all f) := by
  rw [List.drop_eq_getElem_cons h, List.all_cons]
end Go.Proofs.YtohcehjpdmhjlaaDoor
