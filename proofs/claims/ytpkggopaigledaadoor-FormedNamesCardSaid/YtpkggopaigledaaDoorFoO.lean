/- vouchsafekit: LightTexts. -/
import Derived.Test.YtpkggopaigledaaDoorFoN
namespace Go.Proofs.YtpkggopaigledaaDoor
open Go.RowKit

def lightT : Int → Int → List Txt → Bool
  | _, _, [] => true
  | bytes, n, x :: r => if bytes < n + (x.length : Int) then false else lightT bytes (n + (x.length : Int)) r
def lightTs (most bytes : Int) (L : List Txt) : Bool := if most < (L.length : Int) then false else lightT bytes 0 L
set_option maxHeartbeats 2000000 in
set_option maxRecDepth 100000 in
theorem lighttexts_any (v : Value) (most bytes : Int) (L : List Txt) (w : World) (hT : TRow w v L) (hmo : most ≤ 1000000) (hl : ∀ x ∈ L, x.length ≤ 140737488355328) (hb0 : bytes ≤ 100000) :
    Calls Tryd.prog 32 #[v, .int .i64 most, .int .i64 bytes] w fun e w' => e = .returned (.bool (lightTs most bytes L)) ∧ Since w w' := by
  obtain ⟨a, c, rfl⟩ := hT.slice
  have HT := Lib.hid hT
  clear hT
  by_cases hm : most < (L.length : Int)
  · go_enter Tryd.func32, Tryd.ntmps32
    go_wp2_with fail
    go_ret
    exact ⟨ret_bool (by rw [lightTs, if_pos hm]), Since.refl _⟩
  · have lm : L.length ≤ 1000000 := by omega
    obtain ⟨R, hR⟩ : ∃ R, Hid (R = lightTs most bytes L) := ⟨_, rfl⟩
    rw [← hR.out]
    have hR0 : Hid (R = lightT bytes 0 (L.drop 0)) := by show _ = _; rw [hR.out, lightTs, if_neg hm]; rfl
    clear hR
    go_enter Tryd.func32, Tryd.ntmps32
    go_wp2_with fail
    go_loopw [7, 8] (fun s m wr => ∃ k : Nat, ∃ n : Int, k ≤ L.length ∧ s = .int .i64 n ∧ 0 ≤ n ∧ n ≤ 100000 ∧ m = .int .i64 (k : Int) ∧ Hid (R = lightT bytes n (L.drop k)) ∧ Since w wr) (fun _ m _ => L.length - (intOf m).toNat)
    case atStart => exact ⟨0, 0, by omega, rfl, by omega, by omega, rfl, hR0, Since.refl _⟩
    case round =>
      obtain ⟨k, n, hk, rfl, hn0, hn1, rfl, hF, hSr⟩ := hrel
      by_cases hlt : k < L.length
      · have hlt2 : (k : Int) < (L.length : Int) := by omega
        have hlt0 : (0 : Int) ≤ (k : Int) := by omega
        obtain ⟨b, o, rfl, hc, hat⟩ := (tnext HT.out hSr).get (by omega)
        have d1 := hat k hlt
        have hxl := hl _ (List.getElem_mem hlt)
        have hnx : Hid (R = if bytes < n + (L[k].length : Int) then false else lightT bytes (n + (L[k].length : Int)) (L.drop (k + 1))) := by
          show _ = _
          rw [hF.out, List.drop_eq_getElem_cons hlt, lightT]
        unfold TxtAt at d1
        rw [Nat.mul_one] at d1
        simp only [strV] at d1
        obtain ⟨s, hs⟩ : ∃ s, Hid (s = L[k]) := ⟨L[k], rfl⟩
        rw [← hs.out] at d1 hnx hxl
        clear hat hF
        obtain ⟨q, hq⟩ : ∃ q : Nat, Hid (s.length = q) := ⟨_, rfl⟩
        have hxl2 : q ≤ 140737488355328 := by have := hq.out; omega
        have hw : IntKind.i64.wrap (n + (q : Int)) = n + (q : Int) := IntWalk.i64_in _ (by omega)
        by_cases hbb : bytes < n + (q : Int)
        · have e : Hid (R = false) := by show _ = _; rw [hnx.out, hq.out, if_pos hbb]
          have e2 := e.out
          subst e2
          have hq2 := hq.out
          go_wp2_with fail
          go_ret
          exact ⟨rfl, hSr⟩
        · have e : Hid (R = lightT bytes (n + (q : Int)) (L.drop (k + 1))) := by show _ = _; rw [hnx.out, hq.out, if_neg hbb]
          have hq2 := hq.out
          go_wp2_with fail
          go_roundw
          case rel => exact ⟨k + 1, n + (q : Int), by omega, by go_num, by omega, by omega, by go_num, e, hSr⟩
          case measure => simp [intOf]; omega
      · have hlt2 : ¬ (k : Int) < (L.length : Int) := by omega
        have e : Hid (R = true) := by show _ = _; rw [hF.out, List.drop_eq_nil_of_le (by omega)]; rfl
        have e2 := e.out
        subst e2
        go_wp2_with fail
        go_ret
        exact ⟨rfl, hSr⟩
end Go.Proofs.YtpkggopaigledaaDoor
