/- Bindings that may be: both Checks tell 0. -/
import Derived.Test.YtdlnmkdbjgbimaaGreatDoorUniD
namespace Go.Proofs.YtdlnmkdbjgbimaaGreatDoor
open Go.RowKit

theorem inv_at {L : List Bnd} (h : InvB L) {k : Nat} (hk : k < L.length) : L[k].2.2.isEmpty = false ∧ (L[k].2.1 = true → getB L L[k].2.2 = none) := by
  obtain ⟨_, h2, h3⟩ := h.2 _ (List.getElem_mem hk)
  exact ⟨by rw [List.isEmpty_eq_false_iff]; exact h2, h3⟩
set_option maxHeartbeats 2000000 in
set_option maxRecDepth 100000 in
theorem ucheck_any (v : Value) (L : List Bnd) (w : World) (hv : RowOf 3 bndC w v L) (hi : InvB L) (hm : L.length ≤ 1000000) :
    Calls Tryz.prog 65 #[v] w fun e w' => e = .returned (.int .i64 0) ∧ Since w w' := by
  obtain ⟨a, c, rfl⟩ := hv.form
  have HV := Lib.hid hv
  have HI := Lib.hid hi
  have HRI := Lib.hid (rises_any (.slice a L.length c) L w hv hi.1 hm)
  have HG := Lib.hid (fun s W (h : RowOf 3 bndC W (.slice a L.length c) L) => get_any (.slice a L.length c) L s W h hi.1 hm)
  clear hv hi
  go_enter Tryz.func65, Tryz.ntmps65
  go_wp2_with fail
  refine HRI.out.mono ?_
  rintro e w1 ⟨rfl, hS0⟩
  go_wp2_with fail
  go_loopw [12] (fun i wr => ∃ k : Nat, k ≤ L.length ∧ i = .int .i64 (k : Int) ∧ Since w wr) (fun i _ => L.length - (intOf i).toNat)
  case atStart => exact ⟨0, by omega, rfl, hS0⟩
  case round =>
    clear hS0
    obtain ⟨k, hk, rfl, hS⟩ := hrel
    by_cases hlt : k < L.length
    · obtain ⟨b, o, he, _, hc, hat⟩ := bnd_get (HV.out.next hS) (by omega)
      cases he
      obtain ⟨d0, d1, d2⟩ := hat k hlt
      obtain ⟨hx1, hx2⟩ := inv_at HI.out hlt
      have hg2 : (k : Int) < (L.length : Int) := by omega
      clear hat
      generalize L[k] = x at *
      obtain ⟨xs, xv, xt⟩ := x
      simp only at d0 d1 d2 hx1 hx2
      have hS2 : Since w (wr.alloc (.cells #[.string ⟨xs.toArray⟩, .bool xv, .string ⟨xt.toArray⟩] 101)) := hS.alloc _
      have K : Hid (Cel (wr.alloc (.cells #[.string ⟨xs.toArray⟩, .bool xv, .string ⟨xt.toArray⟩] 101)) wr.heap.size #[.string ⟨xs.toArray⟩, .bool xv, .string ⟨xt.toArray⟩] 101) := heap_alloc_new wr _
      obtain ⟨k0, k1, k2⟩ := K.out.three
      have HC := Lib.hid (HG.out xt _ (HV.out.next hS2))
      cases hg : getB L xt with
      | none =>
        rw [hg] at HC
        simp only [gtV] at HC
        clear hx2
        go_wp2_with fail
        refine HC.out.mono ?_
        rintro e w2 ⟨rfl, hb⟩
        have hb2 := hb.alloc (.cells #[.bool false, .string ⟨#[]⟩] 26)
        replace K := Lib.hid (K.out.next hb2)
        replace hS2 := hS2.trans hb2
        clear k0 k1 k2 hb hb2
        obtain ⟨k0, k1, k2⟩ := K.out.three
        cases xv
        · go_wp2_with fail
          go_roundw
          case rel => exact ⟨k + 1, by omega, by go_num, hS2⟩
          case measure => simp [intOf]; omega
        · go_wp2_with fail
          go_roundw
          case rel => exact ⟨k + 1, by omega, by go_num, hS2⟩
          case measure => simp [intOf]; omega
      | some y =>
        have hxv : xv = false := by
          cases xv
          · rfl
          · rw [hx2 rfl] at hg; cases hg
        subst hxv
        rw [hg] at HC
        obtain ⟨yv, yt⟩ := y
        simp only [gtV] at HC
        clear hx2
        go_wp2_with fail
        refine HC.out.mono ?_
        rintro e w2 ⟨rfl, hb⟩
        have hb2 := hb.alloc (.cells #[.bool yv, .string ⟨yt.toArray⟩] 26)
        replace K := Lib.hid (K.out.next hb2)
        replace hS2 := hS2.trans hb2
        clear k0 k1 k2 hb hb2
        obtain ⟨k0, k1, k2⟩ := K.out.three
        go_wp2_with fail
        go_roundw
        case rel => exact ⟨k + 1, by omega, by go_num, hS2⟩
        case measure => simp [intOf]; omega
    · have hlt2 : ¬ (k : Int) < (L.length : Int) := by omega
      go_wp2_with fail
      go_ret
      exact ⟨rfl, hS⟩
set_option maxHeartbeats 2000000 in
set_option maxRecDepth 100000 in
theorem rcheckb_any (v : Value) (L : List Bnd) (w : World) (hv : RowOf 3 bndC w v L) (hi : InvB L) (hm : L.length ≤ 1000000) :
    Calls Tryz.prog 94 #[v] w fun e w' => e = .returned (.int .i64 0) ∧ Since w w' := by
  obtain ⟨a, c, rfl⟩ := hv.form
  have HV := Lib.hid hv
  have HI := Lib.hid hi
  have HG := Lib.hid (fun s W (h : RowOf 3 bndC W (.slice a L.length c) L) => rget_any (.slice a L.length c) L s W h hm)
  clear hv hi
  go_enter Tryz.func94, Tryz.ntmps94
  go_wp2_with fail
  go_loopw [3] (fun i wr => ∃ k : Nat, k ≤ L.length ∧ i = .int .i64 (k : Int) ∧ Since w wr) (fun i _ => L.length - (intOf i).toNat)
  case atStart => exact ⟨0, by omega, rfl, Since.refl _⟩
  case round =>
    obtain ⟨k, hk, rfl, hS⟩ := hrel
    by_cases hlt : k < L.length
    · obtain ⟨b, o, he, _, hc, hat⟩ := bnd_get (HV.out.next hS) (by omega)
      cases he
      obtain ⟨d0, d1, d2⟩ := hat k hlt
      obtain ⟨hx1, hx2⟩ := inv_at HI.out hlt
      have hg3 : (k : Int) < (L.length : Int) := by omega
      have hfirst : Hid (k = 0 ∨ ∃ m, k = m + 1 ∧ ∃ y : Bnd, BndAt wr b (o + m * 3) y ∧ Op.bytesLess y.1 L[k].1 = true) := by
        show _
        cases k with
        | zero => exact .inl rfl
        | succ m => exact .inr ⟨m, rfl, L[m], hat m (by omega), (less_lt _ _).trans (decide_eq_true (rises_at HI.out.1 hlt))⟩
      clear hat
      have hnew := HG.out L[k].2.2 
      generalize L[k] = x at *
      obtain ⟨xs, xv, xt⟩ := x
      simp only at d0 d1 d2 hx1 hx2 hfirst hnew
      have HC := Lib.hid hnew
      clear hnew
      rcases hfirst.out with rfl | ⟨m, rfl, y, hy, hless⟩
      · have h0 : decide ((0 : Int) < 0) = false := rfl
        have d0' : wr.cell? ⟨b, o, none⟩ = some (.string ⟨xs.toArray⟩) := by simpa using d0
        have d1' : wr.cell? ⟨b, o + 1, none⟩ = some (.bool xv) := by simpa using d1
        have d2' : wr.cell? ⟨b, o + 2, none⟩ = some (.string ⟨xt.toArray⟩) := by simpa using d2
        clear hfirst d0 d1 d2
        go_wp2_with fail
        go_quiet (fail)
        have hS2 := hS.drewN nq
        have f0 : (wr.drewN nq).cell? ⟨b, o, none⟩ = some (.string ⟨xs.toArray⟩) := d0'
        have f1 : (wr.drewN nq).cell? ⟨b, o + 1, none⟩ = some (.bool xv) := d1'
        have f2 : (wr.drewN nq).cell? ⟨b, o + 2, none⟩ = some (.string ⟨xt.toArray⟩) := d2'
        generalize wr.drewN nq = wd at *
        cases xv
        · go_wp2_with fail
          go_roundw
          case rel => exact ⟨1, by omega, by go_num, hS2⟩
          case measure => simp [intOf]; omega
        · have hgn := hx2 rfl
          have HC2 := Lib.hid (HC.out _ (HV.out.next hS2))
          rw [hgn] at HC2
          simp only [gtV] at HC2
          go_wp2_with fail
          refine HC2.out.mono ?_
          rintro e w2 ⟨rfl, hb⟩
          go_wp2_with fail
          go_roundw
          case rel => exact ⟨1, by omega, by go_num, (hS2.trans hb).alloc _⟩
          case measure => simp [intOf]; omega
      · have y0 := hy.1
        obtain ⟨ys, yt⟩ := y
        simp only at y0 hless
        have hg0 : decide ((0 : Int) < (m : Int) + 1) = true := decide_eq_true (by omega)
        have hg1 : IntKind.i64.wrap ((m : Int) + 1 - 1) = (m : Int) := by rw [IntWalk.i64_in _ (by omega)]; omega
        have hg5 : IntKind.i64.wrap (m : Int) = (m : Int) := IntWalk.i64_in _ (by omega)
        have hg6 : (0 : Int) ≤ (m : Int) := by omega
        have hg2 : (m : Int) < (L.length : Int) := by omega
        have hg3 : (m : Int) + 1 < (L.length : Int) := by omega
        have hg4 : (0 : Int) ≤ (m : Int) + 1 := by omega
        clear hfirst hy
        go_wp2_with fail
        go_quiet (fail)
        have hS2 := hS.drewN nq
        have f1 : (wr.drewN nq).cell? ⟨b, o + (m + 1) * 3 + 1, none⟩ = some (.bool xv) := d1
        have f2 : (wr.drewN nq).cell? ⟨b, o + (m + 1) * 3 + 2, none⟩ = some (.string ⟨xt.toArray⟩) := d2
        generalize wr.drewN nq = wd at *
        cases xv
        · go_wp2_with fail
          go_roundw
          case rel => exact ⟨m + 1 + 1, by omega, by go_num, hS2⟩
          case measure => simp [intOf]; omega
        · have hgn := hx2 rfl
          have HC2 := Lib.hid (HC.out _ (HV.out.next hS2))
          rw [hgn] at HC2
          simp only [gtV] at HC2
          go_wp2_with fail
          refine HC2.out.mono ?_
          rintro e w2 ⟨rfl, hb⟩
          go_wp2_with fail
          go_roundw
          case rel => exact ⟨m + 1 + 1, by omega, by go_num, (hS2.trans hb).alloc _⟩
          case measure => simp [intOf]; omega
    · have hlt2 : ¬ (k : Int) < (L.length : Int) := by omega
      go_wp2_with fail
      go_ret
      exact ⟨rfl, hS⟩
end Go.Proofs.YtdlnmkdbjgbimaaGreatDoor
