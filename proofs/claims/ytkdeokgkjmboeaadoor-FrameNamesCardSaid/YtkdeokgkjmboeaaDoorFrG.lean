/- slices.Equal at atoms; frame.Same. -/
import Derived.Test.YtkdeokgkjmboeaaDoorFrF
import Derived.Test.YtkdeokgkjmboeaaDoorEq
import Derived.Deep.QuietTactic
import Derived.BigQuiet
namespace Go.Proofs.YtkdeokgkjmboeaaDoor
open Go.RowKit
attribute [local go_sem ↓] run_atomEq

def sameA : List Atm → List Atm → Bool
  | [], [] => true
  | x :: r, y :: q => eqA x y && sameA r q
  | _, _ => false
theorem sameA_iff : ∀ {L M : List Atm}, sameA L M = true ↔ L = M
  | [], [] => by simp [sameA]
  | [], _ :: _ => by simp [sameA]
  | _ :: _, [] => by simp [sameA]
  | x :: r, y :: q => by rw [sameA, Bool.and_eq_true, eqA_iff, sameA_iff, List.cons.injEq]
theorem drop_eqA {L1 L2 : List Atm} {k : Nat} (h1 : k < L1.length) (h2 : k < L2.length) : sameA (L1.drop k) (L2.drop k) = (eqA L1[k] L2[k] && sameA (L1.drop (k + 1)) (L2.drop (k + 1))) := by
  rw [List.drop_eq_getElem_cons h1, List.drop_eq_getElem_cons h2, sameA]
theorem sameA_len {L M : List Atm} (h : L.length ≠ M.length) : sameA L M = false := by
  cases hs : sameA L M
  · rfl
  · exact absurd (by rw [sameA_iff.1 hs]) h
set_option maxHeartbeats 4000000 in
set_option maxRecDepth 100000 in
theorem equal_any (v1 v2 : Value) (L1 L2 : List Atm) (w : World) (h1 : AtmRow w v1 L1) (h2 : AtmRow w v2 L2) (hm1 : L1.length ≤ 1000000) (hm2 : L2.length ≤ 1000000) :
    Calls Tryd.prog 34 #[v1, v2] w fun e w' => e = .returned (.bool (sameA L1 L2)) ∧ ∃ m, w' = w.drewN m := by
  obtain ⟨a1, c1, rfl⟩ := h1.form
  obtain ⟨a2, c2, rfl⟩ := h2.form
  by_cases hl : L1.length = L2.length
  · have hq : ((L1.length : Int) != (L2.length : Int)) = false := by simp [hl]
    have HL := Lib.hid hl
    have H1 := Lib.hid h1
    have H2 := Lib.hid h2
    clear hl h1 h2
    go_enter Tryd.func34, Tryd.ntmps34
    go_wp2_with fail
    go_loopw [5, 13] (fun _ i wr => ∃ k : Nat, k ≤ L1.length ∧ i = .int .i64 (k : Int) ∧ Hid (sameA L1 L2 = sameA (L1.drop k) (L2.drop k)) ∧ ∃ m, wr = w.drewN m) (fun _ i _ => L1.length - (intOf i).toNat)
    case atStart => exact ⟨0, Nat.zero_le _, rfl, rfl, 0, rfl⟩
    case round =>
      obtain ⟨k, hk, rfl, hres, m, rfl⟩ := hrel
      by_cases hlt : k < L1.length
      · have hlt2 : k < L2.length := by rw [← HL.out]; exact hlt
        obtain ⟨_, b1, o1, he1, _, hc1⟩ := H1.out.get (by omega)
        cases he1
        obtain ⟨_, b2, o2, he2, _, hc2⟩ := H2.out.get (by omega)
        cases he2
        have d1 := hc1 k hlt
        have d2 := hc2 k hlt2
        have HST := Lib.hid (drop_eqA hlt hlt2)
        clear hc1 hc2
        have hk2 : (k : Int) < (L2.length : Int) := by omega
        have hk1 : (k : Int) < (L1.length : Int) := by omega
        generalize L1[k] = x at *
        generalize L2[k] = y at *
        obtain ⟨a_s, a_p, a_n, ⟨a_v0, a_l0⟩, ⟨a_v1, a_l1⟩, ⟨a_v2, a_l2⟩, ⟨a_v3, a_l3⟩⟩ := x
        obtain ⟨b_s, b_p, b_n, ⟨b_v0, b_l0⟩, ⟨b_v1, b_l1⟩, ⟨b_v2, b_l2⟩, ⟨b_v3, b_l3⟩⟩ := y
        obtain ⟨a_c0, a_c1, a_c2, a_c3, a_c4, a_c5, a_c6, a_c7, a_c8, a_c9, a_c10⟩ := d1.all
        obtain ⟨b_c0, b_c1, b_c2, b_c3, b_c4, b_c5, b_c6, b_c7, b_c8, b_c9, b_c10⟩ := d2.all
        clear d1 d2
        cases he : eqA ((a_s, a_p, a_n, (a_v0, a_l0), (a_v1, a_l1), (a_v2, a_l2), (a_v3, a_l3)) : Atm) ((b_s, b_p, b_n, (b_v0, b_l0), (b_v1, b_l1), (b_v2, b_l2), (b_v3, b_l3)) : Atm)
        · rw [he] at HST
          have hnx : Hid (sameA L1 L2 = false) := by show _ = _; rw [hres.out, HST.out, Bool.false_and]
          clear hres HST
          go_wp2_with fail
          go_quiet (fail)
          go_wp2_with fail
          go_ret
          refine ⟨ret_bool hnx.out.symm, ?_⟩
          first | exact ⟨_, rfl⟩ | exact ⟨_, by rw [World.drewN_drewN]⟩
        · rw [he] at HST
          have hnx : Hid (sameA L1 L2 = sameA (L1.drop (k + 1)) (L2.drop (k + 1))) := by show _ = _; rw [hres.out, HST.out, Bool.true_and]
          clear hres HST
          go_wp2_with fail
          go_quiet (fail)
          go_wp2_with fail
          go_roundw
          case rel =>
            refine ⟨k + 1, by omega, by go_num, hnx.out, ?_⟩
            first | exact ⟨_, rfl⟩ | exact ⟨_, by rw [World.drewN_drewN]⟩
          case measure => simp [intOf]; omega
      · have hnx : Hid (sameA L1 L2 = true) := by
          show _ = _
          have := HL.out
          rw [hres.out, List.drop_eq_nil_of_le (by omega), List.drop_eq_nil_of_le (by omega)]; rfl
        clear hres
        go_wp2_with fail
        go_ret
        exact ⟨ret_bool hnx.out.symm, m, rfl⟩
  · have hq : ((L1.length : Int) != (L2.length : Int)) = true := by simp; omega
    have hnx : Hid (sameA L1 L2 = false) := sameA_len hl
    clear hl h1 h2
    go_enter Tryd.func34, Tryd.ntmps34
    go_wp2_with fail
    go_ret
    exact ⟨ret_bool hnx.out.symm, 0, rfl⟩
def sameR (x y : Rsp) : Bool := (x.1 == y.1) && ((x.2.1 == y.2.1) && ((x.2.2.2 == y.2.2.2) && sameA x.2.2.1 y.2.2.1))
theorem sameR_iff {x y : Rsp} : sameR x y = true ↔ x = y := by
  obtain ⟨a, b, c, d⟩ := x
  obtain ⟨a', b', c', d'⟩ := y
  simp only [sameR, Bool.and_eq_true, beq_iff_eq, sameA_iff, Prod.mk.injEq]
  exact ⟨fun ⟨h1, h2, h3, h4⟩ => ⟨h1, h2, h4, h3⟩, fun ⟨h1, h2, h3, h4⟩ => ⟨h1, h2, h4, h3⟩⟩
theorem sameR_not {x y : Rsp} (h : x ≠ y) : sameR x y = false := by
  cases hs : sameR x y
  · rfl
  · exact absurd (sameR_iff.1 hs) h
set_option maxHeartbeats 4000000 in
set_option maxRecDepth 100000 in
theorem fsame_any (k1 k2 : Int) (ch1 ch2 : Bool) (v1 v2 : Value) (L1 L2 : List Atm) (t1 t2 : List UInt8) (w : World) (h1 : AtmRow w v1 L1) (h2 : AtmRow w v2 L2) (hm1 : L1.length ≤ 1000000) (hm2 : L2.length ≤ 1000000) :
    Calls Tryd.prog 16 #[.agg #[.int .i64 k1, .bool ch1, v1, .string ⟨t1.toArray⟩], .agg #[.int .i64 k2, .bool ch2, v2, .string ⟨t2.toArray⟩]] w fun e w' => e = .returned (.bool (sameR (k1, ch1, L1, t1) (k2, ch2, L2, t2))) ∧ Since w w' := by
  obtain ⟨a1, c1, rfl⟩ := h1.form
  obtain ⟨a2, c2, rfl⟩ := h2.form
  have hA : Since w ((w.alloc (.cells #[.int .i64 k1, .bool ch1, .slice a1 L1.length c1, .string ⟨t1.toArray⟩] 32)).alloc (.cells #[.int .i64 k2, .bool ch2, .slice a2 L2.length c2, .string ⟨t2.toArray⟩] 32)) := ((Since.refl _).alloc _).alloc _
  have HQ := Lib.hid (equal_any (.slice a1 L1.length c1) (.slice a2 L2.length c2) L1 L2 _ (h1.next hA) (h2.next hA) hm1 hm2)
  have hR : Hid (sameR (k1, ch1, L1, t1) (k2, ch2, L2, t2) = ((k1 == k2) && ((ch1 == ch2) && ((t1 == t2) && sameA L1 L2)))) := rfl
  generalize sameR (k1, ch1, L1, t1) (k2, ch2, L2, t2) = R at *
  generalize sameA L1 L2 = D at *
  clear h1 h2
  cases e1 : (k1 == k2)
  · have hRv : Hid (R = false) := by show _ = _; rw [hR.out, e1]; rfl
    clear hR
    go_enter Tryd.func16, Tryd.ntmps16
    go_wp2_with fail
    go_ret
    exact ⟨ret_bool hRv.out.symm, hA⟩
  · cases e2 : (ch1 == ch2)
    · have hRv : Hid (R = false) := by show _ = _; rw [hR.out, e1, e2]; rfl
      clear hR
      go_enter Tryd.func16, Tryd.ntmps16
      go_wp2_with fail
      go_ret
      exact ⟨ret_bool hRv.out.symm, hA⟩
    · cases e3 : (t1 == t2)
      · have hRv : Hid (R = false) := by show _ = _; rw [hR.out, e1, e2, e3]; rfl
        clear hR
        go_enter Tryd.func16, Tryd.ntmps16
        go_wp2_with fail
        go_ret
        exact ⟨ret_bool hRv.out.symm, hA⟩
      · have hRv : Hid (R = D) := by show _ = _; rw [hR.out, e1, e2, e3]; rfl
        clear hR
        go_enter Tryd.func16, Tryd.ntmps16
        go_wp2_with fail
        refine HQ.out.mono ?_
        rintro e w1 ⟨rfl, m, rfl⟩
        go_wp2_with fail
        go_ret
        exact ⟨ret_bool hRv.out.symm, hA.drewN m⟩
end Go.Proofs.YtkdeokgkjmboeaaDoor
