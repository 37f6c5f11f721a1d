/- Same[Binding] of two rows of the same bindings; LightBindings. -/
import Derived.Test.YtohcehjpdmhjlaaUniA
import Derived.Test.YtohcehjpdmhjlaaEq
namespace Go.Proofs.Ytohcehjpdmhjlaa
open Go.RowKit

def eqB (a b : Bnd) : Bool := decide (a.1 = b.1) && eqT a.2 b.2
theorem eqB_self (a : Bnd) : eqB a a = true := by
  unfold eqB
  rw [eqT_self]
  simp
theorem run_bndEq (s t : List UInt8) (v u : Bool) (l m : List UInt8) (W : World) : (Op.equalIn 10000 37 (.agg #[.string ⟨s.toArray⟩, .bool v, .string ⟨l.toArray⟩]) (.agg #[.string ⟨t.toArray⟩, .bool u, .string ⟨m.toArray⟩])).run Try.prog W = .ok (eqB (s, (v, l)) (t, (u, m))) W := by
  have h := fun W => run_termEq 9997 v u l m W
  go_simp
  by_cases h0 : s = t <;> by_cases h1 : v = u <;> by_cases h2 : l = m <;> simp [h0, h1, h2, eqB, eqT]
attribute [local go_sem ↓] run_bndEq
attribute [local go_sem] eqB_self
set_option maxHeartbeats 1000000 in
set_option maxRecDepth 100000 in
theorem same_bnd (v1 v2 : Value) (L : List Bnd) (w : World) (h1 : RowOf 3 bndC w v1 L) (h2 : RowOf 3 bndC w v2 L) (hm : L.length ≤ 1000000) :
    Calls Try.prog 10 #[v1, v2] w fun e w' => e = .returned (.bool true) ∧ Since w w' := by
  obtain ⟨a1, c1, rfl⟩ := h1.form
  obtain ⟨a2, c2, rfl⟩ := h2.form
  have H1 := Lib.hid h1
  have H2 := Lib.hid h2
  have hq : ((L.length : Int) != (L.length : Int)) = false := by simp
  clear h1 h2
  go_enter Try.func10, Try.ntmps10
  go_wp2_with fail
  go_loopw [5] (fun i wr => ∃ k : Nat, k ≤ L.length ∧ i = .int .i64 (k : Int) ∧ Since w wr) (fun i _ => L.length - (intOf i).toNat)
  case atStart => exact ⟨0, by omega, rfl, Since.refl _⟩
  case round =>
    obtain ⟨k, hk, rfl, hS⟩ := hrel
    by_cases hlt : k < L.length
    · obtain ⟨b1, o1, he1, _, hc1, hat1⟩ := bnd_get (H1.out.next hS) (by omega)
      obtain ⟨b2, o2, he2, _, hc2, hat2⟩ := bnd_get (H2.out.next hS) (by omega)
      cases he1
      cases he2
      obtain ⟨d0, d1, d2⟩ := hat1 k hlt
      obtain ⟨e0, e1, e2⟩ := hat2 k hlt
      have hg2 : (k : Int) < (L.length : Int) := by omega
      have hg0 : (0 : Int) ≤ (k : Int) := by omega
      clear hat1 hat2
      generalize L[k] = x at *
      obtain ⟨xs, xv, xt⟩ := x
      simp only at d0 d1 d2 e0 e1 e2
      go_wp2_with fail
      go_quiet (fail)
      go_wp2_with fail
      go_roundw
      case rel => exact ⟨k + 1, by omega, by go_num, hS.drewN _⟩
      case measure => simp [intOf]; omega
    · go_wp2_with fail
      go_ret
      exact ⟨rfl, hS⟩
/-- Few bindings of short names. -/
def lightBs (L : List Bnd) : Bool := decide (L.length ≤ 20) && L.all fun b => decide (b.1.length ≤ 300) && decide (b.2.2.length ≤ 300)
theorem lightBs_len {L : List Bnd} (h : lightBs L = true) : L.length ≤ 20 := by
  unfold lightBs at h
  rw [Bool.and_eq_true, decide_eq_true_eq] at h
  exact h.1
theorem all_dropB {L : List Bnd} {f : Bnd → Bool} {k : Nat} (h : k < L.length) : (L.drop k).all f = (f L[k] && (L.drop (k + 1)).all f) := by
  rw [List.drop_eq_getElem_cons h, List.all_cons]
set_option maxHeartbeats 1000000 in
set_option maxRecDepth 100000 in
theorem lightBs_any (v : Value) (L : List Bnd) (w : World) (hv : RowOf 3 bndC w v L) (hlen : ∀ b ∈ L, b.1.length ≤ maxLen ∧ b.2.2.length ≤ maxLen) :
    Calls Try.prog 7 #[v] w fun e w' => e = .returned (.bool (lightBs L)) ∧ Since w w' := by
  obtain ⟨a, c, rfl⟩ := hv.form
  have HV := Lib.hid hv
  have HF := Lib.hid hlen
  clear hv hlen
  by_cases hl : L.length ≤ 20
  · obtain ⟨f, hf⟩ : ∃ f : Bnd → Bool, Hid (f = fun b => decide (b.1.length ≤ 300) && decide (b.2.2.length ≤ 300)) := ⟨_, rfl⟩
    obtain ⟨R, hR⟩ : ∃ R, Hid (R = lightBs L) := ⟨_, rfl⟩
    have hR0 : Hid (R = (L.drop 0).all f) := by
      show _ = _
      rw [hR.out, hf.out, lightBs, decide_eq_true hl]; rfl
    rw [← hR.out]
    clear hR
    have hl2 : ¬ (20 : Int) < (L.length : Int) := by omega
    go_enter Try.func7, Try.ntmps7
    go_wp2_with fail
    go_loopw [3] (fun i wr => ∃ k : Nat, k ≤ L.length ∧ i = .int .i64 (k : Int) ∧ Since w wr ∧ Hid (R = (L.drop k).all f)) (fun i _ => L.length - (intOf i).toNat)
    case atStart => exact ⟨0, by omega, rfl, Since.refl _, hR0.out⟩
    case round =>
      clear hR0
      obtain ⟨k, hk, rfl, hS, hres⟩ := hrel
      by_cases hlt : k < L.length
      · obtain ⟨b, o, he, _, hc, hat⟩ := bnd_get (HV.out.next hS) (by omega)
        cases he
        obtain ⟨d0, d1, d2⟩ := hat k hlt
        have hg2 : (k : Int) < (L.length : Int) := by omega
        have hg0 : (0 : Int) ≤ (k : Int) := by omega
        have hst : Hid (R = (f L[k] && (L.drop (k + 1)).all f)) := by
          show _ = _
          rw [hres.out, all_dropB hlt]
        obtain ⟨m1, m2⟩ := HF.out _ (List.getElem_mem hlt)
        unfold maxLen at m1 m2
        clear hat hres
        generalize L[k] = x at *
        obtain ⟨xs, xv, xt⟩ := x
        simp only at d0 d1 d2 m1 m2
        by_cases p1 : xs.length ≤ 300
        · have p1a : ¬ (300 : Int) < (xs.length : Int) := by omega
          by_cases p2 : xt.length ≤ 300
          · have p2a : ¬ (300 : Int) < (xt.length : Int) := by omega
            have hnx : Hid (R = (L.drop (k + 1)).all f) := by
              show _ = _
              rw [hst.out, hf.out]; simp [p1, p2]
            clear hst
            go_wp2_with fail
            go_roundw
            case rel => exact ⟨k + 1, by omega, by go_num, hS, hnx.out⟩
            case measure => simp [intOf]; omega
          · have p2a : (300 : Int) < (xt.length : Int) := by omega
            have hnx : Hid (R = false) := by
              show _ = _
              rw [hst.out, hf.out]; simp [p2]
            clear hst
            go_wp2_with fail
            go_ret
            exact ⟨by rw [hnx.out]; rfl, hS⟩
        · have p1a : (300 : Int) < (xs.length : Int) := by omega
          have hnx : Hid (R = false) := by
            show _ = _
            rw [hst.out, hf.out]; simp [p1]
          clear hst
          go_wp2_with fail
          go_ret
          exact ⟨by rw [hnx.out]; rfl, hS⟩
      · have hnx : Hid (R = true) := by
          show _ = _
          rw [hres.out, List.drop_eq_nil_of_le (by omega)]; rfl
        clear hres
        go_wp2_with fail
        go_ret
        exact ⟨by rw [hnx.out]; rfl, hS⟩
  · have hR : lightBs L = false := by unfold lightBs; rw [decide_eq_false hl]; rfl
    have hl2 : (20 : Int) < (L.length : Int) := by omega
    rw [hR]
    go_enter Try.func7, Try.ntmps7
    go_wp2_with fail
    go_ret
    exact ⟨rfl, Since.refl _⟩
end Go.Proofs.Ytohcehjpdmhjlaa
