/- Same[Token]: rows of tokens, one for one. -/
import Derived.Test.YtfbkddpapjpgbaaLexV
namespace Go.Proofs.Ytfbkddpapjpgbaa
open Go.RowKit
attribute [local go_sem ↓] run_tokEq

/-- A token in a row of tokens, as a walk writes its places. -/
theorem tk_at {w : World} {b o : Nat} {L : List Tk} (h : ∀ (j : Nat) (h : j < (L.flatMap tkL).length), w.cell? ⟨b, o + j, none⟩ = some (L.flatMap tkL)[j]) {i : Nat} (hi : i < L.length) :
    w.cell? ⟨b, o + i * 3, none⟩ = some (.int .i64 L[i].1) ∧ w.cell? ⟨b, o + i * 3 + 1, none⟩ = some (.string ⟨L[i].2.1.toArray⟩) ∧ w.cell? ⟨b, o + i * 3 + 2, none⟩ = some (.int .i64 (L[i].2.2 : Int)) := by
  obtain ⟨h0, h1, h2⟩ := tk_cells h hi
  rw [Nat.mul_comm 3 i] at h0 h1 h2
  exact ⟨h0, h1, h2⟩
theorem drop_eqK {L1 L2 : List Tk} {k : Nat} (h1 : k < L1.length) (h2 : k < L2.length) : decide (L1.drop k = L2.drop k) = (eqK L1[k] L2[k] && decide (L1.drop (k + 1) = L2.drop (k + 1))) := by
  rw [List.drop_eq_getElem_cons h1, List.drop_eq_getElem_cons h2, Bool.eq_iff_iff, Bool.and_eq_true, decide_eq_true_eq, decide_eq_true_eq, eqK_iff, List.cons.injEq]

set_option maxHeartbeats 400000 in
theorem same_tok (v1 v2 : Value) (L1 L2 : List Tk) (w : World) (h1 : Row w v1 L1.length (L1.flatMap tkL)) (h2 : Row w v2 L2.length (L2.flatMap tkL)) (hm1 : L1.length ≤ 1000000) (hm2 : L2.length ≤ 1000000) :
    Calls Try.prog 12 #[v1, v2] w fun e w' => e = .returned (.bool (decide (L1 = L2))) ∧ Since w w' := by
  by_cases hl : L1.length = L2.length
  · have hq : ((L1.length : Int) != (L2.length : Int)) = false := by simp [hl]
    by_cases h0 : 0 < L1.length
    · obtain ⟨b1, o1, c1, rfl, hn1, hc1⟩ := h1.some h0
      obtain ⟨b2, o2, c2, rfl, hn2, hc2⟩ := h2.some (by omega)
      clear h1 h2
      have HL := Lib.hid hl
      have HC1 := Lib.hid hc1
      have HC2 := Lib.hid hc2
      clear hl hc1 hc2
      go_enter Try.func12, Try.ntmps12
      go_wp2
      go_loopw [5] (fun i wr => ∃ k : Nat, k ≤ L1.length ∧ i = .int .i64 k ∧ Hid (decide (L1 = L2) = decide (L1.drop k = L2.drop k)) ∧ Since w wr) (fun i _ => L1.length - (intOf i).toNat)
      case atStart => exact ⟨0, Nat.zero_le _, rfl, rfl, Since.refl _⟩
      case round =>
        obtain ⟨k, hk, rfl, hres, hS⟩ := hrel
        by_cases hlt : k < L1.length
        · have hlt2 : k < L2.length := by rw [← HL.out]; exact hlt
          obtain ⟨d1, d2, d3⟩ := tk_at HC1.out hlt
          obtain ⟨e1, e2, e3⟩ := tk_at HC2.out hlt2
          replace d1 := hS.cell d1; replace d2 := hS.cell d2; replace d3 := hS.cell d3
          replace e1 := hS.cell e1; replace e2 := hS.cell e2; replace e3 := hS.cell e3
          have hst := drop_eqK hlt hlt2
          have HST := Lib.hid hst
          clear hst
          have hk2 : (k : Int) < (L2.length : Int) := by omega
          generalize L1[k] = x at *
          generalize L2[k] = y at *
          obtain ⟨xk, xt, xa⟩ := x
          obtain ⟨yk, yt, ya⟩ := y
          simp only at d1 d2 d3 e1 e2 e3
          cases he : eqK (xk, xt, xa) (yk, yt, ya)
          · go_wp2
            go_quiet (fail)
            go_wp2
            go_ret
            refine ⟨ret_bool ?_, hS.drewN _⟩
            rw [hres.out, HST.out, he, Bool.false_and]
          · go_wp2
            go_quiet (fail)
            go_wp2
            go_roundw
            case rel =>
              refine ⟨k + 1, by omega, by go_num, ?_, hS.drewN _⟩
              have := hres.out
              rw [HST.out, he, Bool.true_and] at this
              exact this
            case measure => simp [intOf]; omega
        · go_wp2
          go_ret
          refine ⟨ret_bool ?_, hS⟩
          rw [hres.out, List.drop_eq_nil_of_le (by omega), List.drop_eq_nil_of_le (by rw [← HL.out]; omega)]
          simp
    · have e1 : L1 = [] := List.eq_nil_of_length_eq_zero (by omega)
      have e2 : L2 = [] := List.eq_nil_of_length_eq_zero (by omega)
      subst e1 e2
      obtain ⟨a1, c1, rfl⟩ := h1.len
      obtain ⟨a2, c2, rfl⟩ := h2.len
      clear h1 h2
      go_enter Try.func12, Try.ntmps12
      go_wp2
      go_loop [5] (fun i => i = .int .i64 0) (fun _ => 0)
      case atStart => rfl
      case round =>
        subst hrel
        go_wp2
        go_ret
        exact ⟨rfl, Since.refl _⟩
  · have hq : ((L1.length : Int) != (L2.length : Int)) = true := by simp; omega
    obtain ⟨a1, c1, rfl⟩ := h1.len
    obtain ⟨a2, c2, rfl⟩ := h2.len
    clear h1 h2
    go_enter Try.func12, Try.ntmps12
    go_wp2
    go_ret
    exact ⟨ret_bool (by rw [eq_comm]; exact decide_eq_false (fun e => hl (by rw [e]))), Since.refl _⟩
end Go.Proofs.Ytfbkddpapjpgbaa
