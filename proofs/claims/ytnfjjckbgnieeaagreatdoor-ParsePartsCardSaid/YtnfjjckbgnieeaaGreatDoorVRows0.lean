/- Words for what lies in memory: a slice that reads as a list of cells; what stands in a later world. -/
import Derived.Test.YtnfjjckbgnieeaaGreatDoorVSpPlain
namespace Go.Proofs.YtnfjjckbgnieeaaGreatDoor
open Go.RowKit

set_option maxHeartbeats 400000 in
theorem same_str (v1 v2 : Value) (L1 L2 : List (List UInt8)) (w : World) (h1 : Row w v1 L1.length (L1.map strV)) (h2 : Row w v2 L2.length (L2.map strV)) (hm1 : L1.length ≤ maxLen) (hm2 : L2.length ≤ maxLen) :
    Calls Tryz.prog 39 #[v1, v2] w fun e w' => e = .returned (.bool (decide (L1 = L2))) ∧ Since w w' := by
  unfold maxLen at hm1 hm2
  by_cases hl : L1.length = L2.length
  · have hq : ((L1.length : Int) != (L2.length : Int)) = false := by simp [hl]
    by_cases h0 : 0 < L1.length
    · obtain ⟨b1, o1, c1, rfl, hn1, hc1⟩ := h1.some h0
      obtain ⟨b2, o2, c2, rfl, hn2, hc2⟩ := h2.some (by omega)
      clear h1 h2
      have HL := Lib.hid hl
      have HC1 := Lib.hid hc1
      have HC2 := Lib.hid hc2
      clear hl hc1 hc2
      go_enter Tryz.func39, Tryz.ntmps39
      go_wp2
      go_loopw [5] (fun i wr => ∃ k : Nat, k ≤ L1.length ∧ i = .int .i64 k ∧ Hid (decide (L1 = L2) = decide (L1.drop k = L2.drop k)) ∧ Since w wr) (fun i _ => L1.length - (intOf i).toNat)
      case atStart => exact ⟨0, Nat.zero_le _, rfl, rfl, Since.refl _⟩
      case round =>
        obtain ⟨k, hk, rfl, hres, hS⟩ := hrel
        by_cases hlt : k < L1.length
        · have hlt2 : k < L2.length := by rw [← HL.out]; exact hlt
          have d1 := hS.cell (HC1.out k (by simpa using hlt))
          have d2 := hS.cell (HC2.out k (by simpa using hlt2))
          have hst := drop_eq_step hlt hlt2
          simp only [List.getElem_map, strV] at d1 d2
          have HST := Lib.hid hst
          clear hst
          have hk2 : (k : Int) < (L2.length : Int) := by omega
          generalize L1[k] = x at *
          generalize L2[k] = y at *
          cases he : (x == y)
          · go_wp2
            go_quiet (fail)
            go_wp2
            go_ret
            refine ⟨ret_bool ?_, hS.drewN _⟩
            rw [hres.out, HST.out, he, Bool.false_and]
          · have hx : x = y := by simpa using he
            subst hx
            clear he
            go_wp2
            go_quiet (fail)
            go_wp2
            go_roundw
            case rel =>
              refine ⟨k + 1, by omega, by go_num, ?_, hS.drewN _⟩
              have := hres.out
              rw [HST.out, beq_self_eq_true, Bool.true_and] at this
              exact this
            case measure => simp [intOf]; omega
        · go_wp2
          go_ret
          refine ⟨ret_bool ?_, hS⟩
          rw [hres.out, List.drop_eq_nil_of_le (by omega), List.drop_eq_nil_of_le (by rw [← HL.out]; omega)]
          simp
    · have e1 : L1 = [] := List.eq_nil_of_length_eq_zero (by omega)
      have e2 : L2 = [] := List.eq_nil_of_length_eq_zero (by omega)
      subst e1 e2
      obtain ⟨a1, c1, rfl⟩ := h1.len
      obtain ⟨a2, c2, rfl⟩ := h2.len
      clear h1 h2
      go_enter Tryz.func39, Tryz.ntmps39
      go_wp2
      go_loop [5] (fun i => i = .int .i64 0) (fun _ => 0)
      case atStart => rfl
      case round =>
        subst hrel
        go_wp2
        go_ret
        exact ⟨rfl, Since.refl _⟩
  · have hq : ((L1.length : Int) != (L2.length : Int)) = true := by simp; omega
    obtain ⟨a1, c1, rfl⟩ := h1.len
    obtain ⟨a2, c2, rfl⟩ := h2.len
    clear h1 h2
    go_enter Tryz.func39, Tryz.ntmps39
    go_wp2
    go_ret
    exact ⟨ret_bool (by rw [eq_comm]; exact decide_eq_false (fun e => hl (by rw [e]))), Since.refl _⟩
end Go.Proofs.YtnfjjckbgnieeaaGreatDoor
