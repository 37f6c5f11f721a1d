/- sort.Search at the two closures of package subst; what stands for a name (Get). -/
import Derived.Test.YtdlnmkdbjgbimaaGreatDoorUniA
namespace Go.Proofs.YtdlnmkdbjgbimaaGreatDoor
open Go.RowKit

set_option maxHeartbeats 1000000 in
set_option maxRecDepth 100000 in
theorem search_get (B1 B2 n r : Nat) (w : World) (hr : r ≤ n) (hn : n ≤ 1000000)
    (hf : ∀ W (k : Nat), Since w W → k < n → Calls Tryz.prog 85 #[.int .i64 (k : Int), .pointer (some ⟨B1, 0, none⟩), .pointer (some ⟨B2, 0, none⟩)] W fun e w' => e = .returned (.bool (decide (r ≤ k))) ∧ Since W w') :
    Calls Tryz.prog 84 #[.int .i64 (n : Int), .func (.func 85) #[] #[.pointer (some ⟨B1, 0, none⟩), .pointer (some ⟨B2, 0, none⟩)]] w fun e w' => e = .returned (.int .i64 (r : Int)) ∧ Since w w' := by
  have HF := Lib.hid hf
  clear hf
  go_enter Tryz.func84, Tryz.ntmps84
  go_wp2_with fail
  go_loopw [5, 6] (fun i j wr => ∃ p q : Nat, p ≤ r ∧ r ≤ q ∧ q ≤ n ∧ i = .int .i64 (p : Int) ∧ j = .int .i64 (q : Int) ∧ Since w wr) (fun i j _ => (intOf j).toNat - (intOf i).toNat)
  case atStart => exact ⟨0, n, by omega, by omega, by omega, rfl, rfl, Since.refl _⟩
  case round =>
    obtain ⟨p, q, hp, hq, hqn, rfl, rfl, hS⟩ := hrel
    by_cases hlt : p < q
    · have hlt2 : (p : Int) < (q : Int) := by omega
      obtain ⟨h, hh⟩ : ∃ h, Hid (h = (p + q) / 2) := ⟨_, rfl⟩
      have hh1 := hh.out
      have hk := HF.out wr h hS (by omega)
      have hhi : (h : Int) = ((p : Int) + (q : Int)) / 2 := by omega
      rw [hhi] at hk
      have HH := Lib.hid hhi
      have HK := Lib.hid hk
      clear hk hhi
      have e1 : IntKind.i64.wrap ((p : Int) + (q : Int)) = (p : Int) + (q : Int) := IntWalk.i64_in _ (by omega)
      have e2 : IntKind.u64.wrap ((p : Int) + (q : Int)) = (p : Int) + (q : Int) := IntWalk.u64_in _ (by omega)
      cases hd : decide (r ≤ h)
      · rw [hd] at HK
        have hd2 := of_decide_eq_false hd
        go_wp2_with fail
        refine HK.out.mono ?_
        rintro e w2 ⟨rfl, hb⟩
        go_wp2_with fail
        go_roundw
        case rel => exact ⟨h + 1, q, by omega, hq, hqn, by have := HH.out; simp; omega, rfl, hS.trans hb⟩
        case measure => have := HH.out; simp [intOf]; omega
      · rw [hd] at HK
        have hd2 := of_decide_eq_true hd
        go_wp2_with fail
        refine HK.out.mono ?_
        rintro e w2 ⟨rfl, hb⟩
        go_wp2_with fail
        go_roundw
        case rel => exact ⟨p, h, hp, hd2, by omega, rfl, by rw [HH.out], hS.trans hb⟩
        case measure => have := HH.out; simp [intOf]; omega
    · have hlt2 : ¬ (p : Int) < (q : Int) := by omega
      go_wp2_with fail
      go_ret
      exact ⟨ret_int (by omega), hS⟩
set_option maxHeartbeats 1000000 in
set_option maxRecDepth 100000 in
theorem search_with (B1 B2 n r : Nat) (w : World) (hr : r ≤ n) (hn : n ≤ 1000000)
    (hf : ∀ W (k : Nat), Since w W → k < n → Calls Tryz.prog 100 #[.int .i64 (k : Int), .pointer (some ⟨B1, 0, none⟩), .pointer (some ⟨B2, 0, none⟩)] W fun e w' => e = .returned (.bool (decide (r ≤ k))) ∧ Since W w') :
    Calls Tryz.prog 84 #[.int .i64 (n : Int), .func (.func 100) #[] #[.pointer (some ⟨B1, 0, none⟩), .pointer (some ⟨B2, 0, none⟩)]] w fun e w' => e = .returned (.int .i64 (r : Int)) ∧ Since w w' := by
  have HF := Lib.hid hf
  clear hf
  go_enter Tryz.func84, Tryz.ntmps84
  go_wp2_with fail
  go_loopw [5, 6] (fun i j wr => ∃ p q : Nat, p ≤ r ∧ r ≤ q ∧ q ≤ n ∧ i = .int .i64 (p : Int) ∧ j = .int .i64 (q : Int) ∧ Since w wr) (fun i j _ => (intOf j).toNat - (intOf i).toNat)
  case atStart => exact ⟨0, n, by omega, by omega, by omega, rfl, rfl, Since.refl _⟩
  case round =>
    obtain ⟨p, q, hp, hq, hqn, rfl, rfl, hS⟩ := hrel
    by_cases hlt : p < q
    · have hlt2 : (p : Int) < (q : Int) := by omega
      obtain ⟨h, hh⟩ : ∃ h, Hid (h = (p + q) / 2) := ⟨_, rfl⟩
      have hh1 := hh.out
      have hk := HF.out wr h hS (by omega)
      have hhi : (h : Int) = ((p : Int) + (q : Int)) / 2 := by omega
      rw [hhi] at hk
      have HH := Lib.hid hhi
      have HK := Lib.hid hk
      clear hk hhi
      have e1 : IntKind.i64.wrap ((p : Int) + (q : Int)) = (p : Int) + (q : Int) := IntWalk.i64_in _ (by omega)
      have e2 : IntKind.u64.wrap ((p : Int) + (q : Int)) = (p : Int) + (q : Int) := IntWalk.u64_in _ (by omega)
      cases hd : decide (r ≤ h)
      · rw [hd] at HK
        have hd2 := of_decide_eq_false hd
        go_wp2_with fail
        refine HK.out.mono ?_
        rintro e w2 ⟨rfl, hb⟩
        go_wp2_with fail
        go_roundw
        case rel => exact ⟨h + 1, q, by omega, hq, hqn, by have := HH.out; simp; omega, rfl, hS.trans hb⟩
        case measure => have := HH.out; simp [intOf]; omega
      · rw [hd] at HK
        have hd2 := of_decide_eq_true hd
        go_wp2_with fail
        refine HK.out.mono ?_
        rintro e w2 ⟨rfl, hb⟩
        go_wp2_with fail
        go_roundw
        case rel => exact ⟨p, h, hp, hd2, by omega, rfl, by rw [HH.out], hS.trans hb⟩
        case measure => have := HH.out; simp [intOf]; omega
    · have hlt2 : ¬ (p : Int) < (q : Int) := by omega
      go_wp2_with fail
      go_ret
      exact ⟨ret_int (by omega), hS⟩
end Go.Proofs.YtdlnmkdbjgbimaaGreatDoor
