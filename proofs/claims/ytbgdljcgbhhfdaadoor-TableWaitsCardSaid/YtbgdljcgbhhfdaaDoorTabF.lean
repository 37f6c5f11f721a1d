/- slices.Index, slices.Contains of ints. -/
import Derived.Test.YtbgdljcgbhhfdaaDoorTabE
namespace Go.Proofs.YtbgdljcgbhhfdaaDoor
open Go.RowKit

def posI : Option Nat → Int
  | some j => (j : Int)
  | none => -1
set_option maxHeartbeats 2000000 in
theorem index_ints (v : Value) (L : List Int) (x : Int) (w : World) (hv : IRow w v L) (hm : L.length ≤ 1000000) :
    Calls Tryd.prog 47 #[v, .int .i64 x] w fun e w' => e = .returned (.int .i64 (posI (posF L x 0))) ∧ Since w w' := by
  obtain ⟨a, c, rfl⟩ := hv.slice
  have HV := Lib.hid hv
  obtain ⟨R, hR⟩ : ∃ R, Hid (R = posF L x 0) := ⟨_, rfl⟩
  have hR0 : Hid (R = posF (L.drop 0) x 0) := by show _ = _; rw [List.drop_zero]; exact hR.out
  rw [← hR.out]
  clear hv hR
  go_enter Tryd.func47, Tryd.ntmps47
  go_wp2_with fail
  go_loopw [5, 8] (fun _ m wr => ∃ k : Nat, k ≤ L.length ∧ m = .int .i64 (k : Int) ∧ Since w wr ∧ Hid (R = posF (L.drop k) x k)) (fun _ m _ => L.length - (intOf m).toNat)
  case atStart => exact ⟨0, by omega, rfl, Since.refl _, hR0⟩
  case round =>
  clear hR0
  obtain ⟨k, hk, rfl, hS, hres⟩ := hrel
  by_cases hlt : k < L.length
  · have hlt2 : (k : Int) < (L.length : Int) := by omega
    have hlt0 : (0 : Int) ≤ (k : Int) := by omega
    obtain ⟨b, o, rfl, hc, hat⟩ := (inext HV.out hS).get (by omega)
    have d := hat k hlt
    simp only [IntAt, Nat.mul_one] at d
    have hst := hres.out
    rw [List.drop_eq_getElem_cons hlt, posF] at hst
    obtain ⟨y, hy⟩ : ∃ y, Hid (y = L[k]) := ⟨L[k], rfl⟩
    rw [← hy.out] at d hst
    clear hat hy hres
    by_cases hxy : y = x
    · subst hxy
      rw [if_pos rfl] at hst
      subst hst
      go_wp2_with fail
      go_ret
      exact ⟨rfl, hS⟩
    · rw [if_neg hxy] at hst
      have HST := Lib.hid hst
      have hne : (x == y) = false := beq_false_of_ne (fun e => hxy e.symm)
      clear hst
      go_wp2_with fail
      go_roundw
      case rel => exact ⟨k + 1, by omega, by go_num, hS, HST.out⟩
      case measure => simp [intOf]; omega
  · have hlt2 : ¬ (k : Int) < (L.length : Int) := by omega
    have hR : R = none := by rw [hres.out, List.drop_eq_nil_of_le (by omega)]; rfl
    subst hR
    clear hres
    go_wp2_with fail
    go_ret
    exact ⟨rfl, hS⟩
set_option maxHeartbeats 1000000 in
theorem contains_ints (v : Value) (L : List Int) (x : Int) (w : World) (hv : IRow w v L) (hm : L.length ≤ 1000000) :
    Calls Tryd.prog 34 #[v, .int .i64 x] w fun e w' => e = .returned (.bool (posF L x 0).isSome) ∧ Since w w' := by
  have HI := Lib.hid (index_ints v L x w hv hm)
  obtain ⟨R, hR⟩ : ∃ R, Hid (R = posF L x 0) := ⟨_, rfl⟩
  rw [← hR.out] at HI ⊢
  clear hv hR
  go_enter Tryd.func34, Tryd.ntmps34
  go_wp2_with fail
  refine HI.out.mono ?_
  rintro e w1 ⟨rfl, hb⟩
  clear HI
  cases R with
  | none =>
    simp only [posI]
    go_wp2_with fail
    go_ret
    exact ⟨rfl, hb⟩
  | some j =>
    simp only [posI]
    have hj : (0 : Int) ≤ (j : Int) := by omega
    go_wp2_with fail
    go_ret
    exact ⟨rfl, hb⟩
end Go.Proofs.YtbgdljcgbhhfdaaDoor
