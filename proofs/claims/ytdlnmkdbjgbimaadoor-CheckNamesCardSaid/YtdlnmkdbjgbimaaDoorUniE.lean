/- Bindings that may be: both Checks tell 0. -/
import Derived.Test.YtdlnmkdbjgbimaaDoorUniD
namespace Go.Proofs.YtdlnmkdbjgbimaaDoor
open Go.RowKit

theorem inv_at {L : List Bnd} (h : InvB L) {k : Nat} (hk : k < L.length) : L[k].2.2.isEmpty = false ∧ (L[k].2.1 = true → getB L L[k].2.2 = none) := by
  obtain ⟨_, h2, h3⟩ := h.2 _ (List.getElem_mem hk)
  exact ⟨by rw [List.isEmpty_eq_false_iff]; exact h2, h3⟩
set_option maxHeartbeats 2000000 in
set_option maxRecDepth 100000 in
theorem ucheck_any (v : Value) (L : List Bnd) (w : World) (hv : RowOf 3 bndC w v L) (hi : InvB L) (hm : L.length ≤ 1000000) :
    Calls Tryd.prog 72 #[v] w fun e w' => e = .returned (.int .i64 0) ∧ Since w w' := by
  obtain ⟨a, c, rfl⟩ := hv.form
  have HV := Lib.hid hv
  have HI := Lib.hid hi
  have HRI := Lib.hid (rises_any (.slice a L.length c) L w hv hi.1 hm)
  have HG := Lib.hid (fun s W (h : RowOf 3 bndC W (.slice a L.length c) L) => get_any (.slice a L.length c) L s W h hi.1 hm)
  clear hv hi
  go_enter Tryd.func72, Tryd.ntmps72
  go_wp2_with fail
  refine HRI.out.mono ?_
  rintro e w1 ⟨rfl, hS0⟩
  go_wp2_with fail
  go_loopw [12] (fun i wr => ∃ k : Nat, k ≤ L.length ∧ i = .int .i64 (k : Int) ∧ Since w wr) (fun i _ => L.length - (intOf i).toNat)
  case atStart => exact ⟨0, by omega, rfl, hS0⟩
  case round =>
    clear hS0
    obtain ⟨k, hk, rfl, hS⟩ := hrel
    by_cases hlt : k < L.length
    · obtain ⟨b, o, he, _, hc, hat⟩ := bnd_get (HV.out.next hS) (by omega)
      cases he
      obtain ⟨d0, d1, d2⟩ := hat k hlt
      obtain ⟨hx1, hx2⟩ := inv_at HI.out hlt
      have hg2 : (k : Int) < (L.length : Int) := by omega
      clear hat
      generalize L[k] = x at *
      obtain ⟨xs, xv, xt⟩ := x
      simp only at d0 d1 d2 hx1 hx2
      have hS2 : Since w (wr.alloc (.cells #[.string ⟨xs.toArray⟩, .bool xv, .string ⟨xt.toArray⟩] 100)) := hS.alloc _
      have K : Hid (Cel (wr.alloc (.cells #[.string ⟨xs.toArray⟩, .bool xv, .string ⟨xt.toArray⟩] 100)) wr.heap.size #[.string ⟨xs.toArray⟩, .bool xv, .string ⟨xt.toArray⟩] 100) := heap_alloc_new wr _
      obtain ⟨k0, k1, k2⟩ := K.out.three
      have HC := Lib.hid (HG.out xt _ (HV.out.next hS2))
      cases hg : getB L xt with
      | none =>
        rw [hg] at HC
        simp only [gtV] at HC
        clear hx2
        go_wp2_with fail
        refine HC.out.mono ?_
        rintro e w2 ⟨rfl, hb⟩
        have hb2 := hb.alloc (.cells #[.bool false, .string ⟨#[]⟩] 26)
        replace K := Lib.hid (K.out.next hb2)
        replace hS2 := hS2.trans hb2
        clear k0 k1 k2 hb hb2
        obtain ⟨k0, k1, k2⟩ := K.out.three
        cases xv
        · go_wp2_with fail
          go_roundw
          case rel => exact ⟨k + 1, by omega, by go_num, hS2⟩
          case measure => simp [intOf]; omega
        · go_wp2_with fail
          go_roundw
          case rel => exact ⟨k + 1, by omega, by go_num, hS2⟩
          case measure => simp [intOf]; omega
      | some y =>
        have hxv : xv = false := by
          cases xv
          · rfl
          · rw [hx2 rfl] at hg; cases hg
        subst hxv
        rw [hg] at HC
        obtain ⟨yv, yt⟩ := y
        simp only [gtV] at HC
        clear hx2
        go_wp2_with fail
        refine HC.out.mono ?_
        rintro e w2 ⟨rfl, hb⟩
        have hb2 := hb.alloc (.cells #[.bool yv, .string ⟨yt.toArray⟩] 26)
        replace K := Lib.hid (K.out.next hb2)
        replace hS2 := hS2.trans hb2
        clear k0 k1 k2 hb hb2
        obtain ⟨k0, k1, k2⟩ := K.out.three
        go_wp2_with fail
        go_roundw
        case rel => exact ⟨k + 1, by omega, by go_num, hS2⟩
        case measure => simp [intOf]; omega
    · have hlt2 : ¬ (k : Int) < (L.length : Int) := by omega
      go_wp2_with fail
      go_ret
      exact ⟨rfl, hS⟩
end Go.Proofs.YtdlnmkdbjgbimaaDoor
