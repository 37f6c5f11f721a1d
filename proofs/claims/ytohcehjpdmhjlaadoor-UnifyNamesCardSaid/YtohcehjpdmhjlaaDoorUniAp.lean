/- subst.Apply: an atom of 0 to 4 terms under bindings. -/
import Derived.Test.YtohcehjpdmhjlaaDoorUniK
namespace Go.Proofs.YtohcehjpdmhjlaaDoor
open Go.RowKit

set_option maxHeartbeats 4000000 in
set_option maxRecDepth 100000 in
theorem apply_any (v : Value) (L : List Bnd) (a_s a_p : List UInt8) (a_n : Int) (a_v0 a_v1 a_v2 a_v3 : Bool) (a_l0 a_l1 a_l2 a_l3 : List UInt8) (n : Nat) (ha : a_n = (n : Int)) (hn : n ≤ 4) (w : World) (hv : RowOf 3 bndC w v L) (hr : Rises L) (hm : L.length ≤ 1000000) :
    Calls Tryd.prog 25 #[v, .agg #[.string ⟨a_s.toArray⟩, .string ⟨a_p.toArray⟩, .int .i64 a_n, .bool a_v0, .string ⟨a_l0.toArray⟩, .bool a_v1, .string ⟨a_l1.toArray⟩, .bool a_v2, .string ⟨a_l2.toArray⟩, .bool a_v3, .string ⟨a_l3.toArray⟩]] w fun e w' => e = .returned (.agg (atmC (applyA L ((a_s, a_p, a_n, (a_v0, a_l0), (a_v1, a_l1), (a_v2, a_l2), (a_v3, a_l3)) : Atm)))) ∧ Since w w' := by
  have HV := Lib.hid hv
  have HT := Lib.hid (fun tv tl W (h : RowOf 3 bndC W v L) => sterm_any v L tv tl W h hr hm)
  have hc0 : Hid (n = countA ((a_s, a_p, a_n, (a_v0, a_l0), (a_v1, a_l1), (a_v2, a_l2), (a_v3, a_l3)) : Atm)) := by
    show _ = _
    rw [ha]; unfold countA; simp only; omega
  have hmx : max (n : Int) 0 = (n : Int) := by omega
  have hmn : min (n : Int) 4 = (n : Int) := by omega
  subst ha
  have hS1 : Since w ((w.alloc (.cells (atmC ((a_s, a_p, (n : Int), (a_v0, a_l0), (a_v1, a_l1), (a_v2, a_l2), (a_v3, a_l3)) : Atm)) 26)).alloc (.cells (atmC zeroAtmU) 26)) := ((Since.refl _).alloc _).alloc _
  have K1 : Hid (Cel ((w.alloc (.cells (atmC ((a_s, a_p, (n : Int), (a_v0, a_l0), (a_v1, a_l1), (a_v2, a_l2), (a_v3, a_l3)) : Atm)) 26)).alloc (.cells (atmC zeroAtmU) 26)) w.heap.size (atmC ((a_s, a_p, (n : Int), (a_v0, a_l0), (a_v1, a_l1), (a_v2, a_l2), (a_v3, a_l3)) : Atm)) 26) := Lib.hid ((show Cel (w.alloc (.cells (atmC ((a_s, a_p, (n : Int), (a_v0, a_l0), (a_v1, a_l1), (a_v2, a_l2), (a_v3, a_l3)) : Atm)) 26)) w.heap.size _ _ from heap_alloc_new w _).next ((Since.refl _).alloc _))
  have K2 : Hid (Cel ((w.alloc (.cells (atmC ((a_s, a_p, (n : Int), (a_v0, a_l0), (a_v1, a_l1), (a_v2, a_l2), (a_v3, a_l3)) : Atm)) 26)).alloc (.cells (atmC zeroAtmU) 26)) (w.heap.size + 1) (atmC zeroAtmU) 26) := by
    have h := heap_alloc_new (w.alloc (.cells (atmC ((a_s, a_p, (n : Int), (a_v0, a_l0), (a_v1, a_l1), (a_v2, a_l2), (a_v3, a_l3)) : Atm)) 26)) (.cells (atmC zeroAtmU) 26)
    rw [World.size_alloc] at h
    exact h
  clear hv hr
  go_enter Tryd.func25, Tryd.ntmps25
  go_wp2_with fail
  have hS1' : Since w ((w.alloc (.cells #[.string ⟨a_s.toArray⟩, .string ⟨a_p.toArray⟩, .int .i64 (n : Int), .bool a_v0, .string ⟨a_l0.toArray⟩, .bool a_v1, .string ⟨a_l1.toArray⟩, .bool a_v2, .string ⟨a_l2.toArray⟩, .bool a_v3, .string ⟨a_l3.toArray⟩] 26)).alloc (.cells #[.string ⟨#[]⟩, .string ⟨#[]⟩, .int .i64 0, .bool false, .string ⟨#[]⟩, .bool false, .string ⟨#[]⟩, .bool false, .string ⟨#[]⟩, .bool false, .string ⟨#[]⟩] 26)) := hS1
  go_loopw [10] (fun i wr => ∃ k : Nat, k ≤ n ∧ i = .int .i64 (k : Int) ∧ Since w wr ∧ Hid (Cel wr w.heap.size (atmC (partA L k ((a_s, a_p, (n : Int), (a_v0, a_l0), (a_v1, a_l1), (a_v2, a_l2), (a_v3, a_l3)) : Atm))) 26) ∧ Hid (Cel wr (w.heap.size + 1) (atmC zeroAtmU) 26)) (fun i _ => n - (intOf i).toNat)
  case atStart => exact ⟨0, by omega, rfl, hS1, K1.out, K2.out⟩
  case round =>
    clear K1 K2 hS1 hS1'
    obtain ⟨k, hk, rfl, hS, K1, K2⟩ := hrel
    have hpc : Hid (countA (partA L k ((a_s, a_p, (n : Int), (a_v0, a_l0), (a_v1, a_l1), (a_v2, a_l2), (a_v3, a_l3)) : Atm)) = n) := hc0.out.symm
    have hpe : Hid (k = n → partA L k ((a_s, a_p, (n : Int), (a_v0, a_l0), (a_v1, a_l1), (a_v2, a_l2), (a_v3, a_l3)) : Atm) = applyA L ((a_s, a_p, (n : Int), (a_v0, a_l0), (a_v1, a_l1), (a_v2, a_l2), (a_v3, a_l3)) : Atm)) := by
      intro e
      rw [e]
      show partA L n _ = partA L (countA _) _
      rw [← hc0.out]
    have hps : Hid (∀ (h4 : k < 4) (h2 : k < (argsL (partA L k ((a_s, a_p, (n : Int), (a_v0, a_l0), (a_v1, a_l1), (a_v2, a_l2), (a_v3, a_l3)) : Atm))).length), ((atmC (partA L k ((a_s, a_p, (n : Int), (a_v0, a_l0), (a_v1, a_l1), (a_v2, a_l2), (a_v3, a_l3)) : Atm))).setIfInBounds (3 + k * 2) (.bool (termS L ((argsL (partA L k ((a_s, a_p, (n : Int), (a_v0, a_l0), (a_v1, a_l1), (a_v2, a_l2), (a_v3, a_l3)) : Atm)))[k]'h2)).1)).setIfInBounds (3 + k * 2 + 1) (.string ⟨(termS L ((argsL (partA L k ((a_s, a_p, (n : Int), (a_v0, a_l0), (a_v1, a_l1), (a_v2, a_l2), (a_v3, a_l3)) : Atm)))[k]'h2)).2.toArray⟩) = atmC (partA L (k + 1) ((a_s, a_p, (n : Int), (a_v0, a_l0), (a_v1, a_l1), (a_v2, a_l2), (a_v3, a_l3)) : Atm))) := by
      intro h4 h2
      exact partA_set L ((a_s, a_p, (n : Int), (a_v0, a_l0), (a_v1, a_l1), (a_v2, a_l2), (a_v3, a_l3)) : Atm) k h4 h2
    generalize partA L k ((a_s, a_p, (n : Int), (a_v0, a_l0), (a_v1, a_l1), (a_v2, a_l2), (a_v3, a_l3)) : Atm) = x at *
    obtain ⟨x_s, x_p, x_n, ⟨x_v0, x_l0⟩, ⟨x_v1, x_l1⟩, ⟨x_v2, x_l2⟩, ⟨x_v3, x_l3⟩⟩ := x
    by_cases hlt : k < n
    · have hlt2 : (k : Int) < (n : Int) := by omega
      have hk4 : k < 4 := by omega
      have hk4i : (k : Int) < 4 := by omega
      have ha4 : k < (argsL ((x_s, x_p, x_n, (x_v0, x_l0), (x_v1, x_l1), (x_v2, x_l2), (x_v3, x_l3)) : Atm)).length := by rw [argsL_len]; exact hk4
      obtain ⟨d0, d1⟩ := K1.out.box'.args.2 k ha4
      have hset := hps.out hk4 ha4
      clear hps hpe hpc
      generalize (argsL ((x_s, x_p, x_n, (x_v0, x_l0), (x_v1, x_l1), (x_v2, x_l2), (x_v3, x_l3)) : Atm))[k]'ha4 = t at *
      have HC := Lib.hid (HT.out t.1 t.2)
      rw [show ((t.1, t.2) : Tm) = t from rfl] at HC
      generalize termS L t = y at *
      obtain ⟨tv, tl⟩ := t
      obtain ⟨yv, yt⟩ := y
      simp only at d0 d1 HC hset
      simp only [tmV] at HC
      have HSET := Lib.hid hset
      clear hset
      go_wp2_with fail
      refine (HC.out _ (HV.out.next hS)).mono ?_
      rintro e w3 ⟨rfl, hb3⟩
      have hS3 := hS.trans hb3
      replace d0 := hb3.cell d0
      replace d1 := hb3.cell d1
      replace K1 := Lib.hid (K1.out.next hb3)
      replace K2 := Lib.hid (K2.out.next hb3)
      have hfr := K1.out.free
      have hlw := K1.out.lt
      go_wp2_with fail
      go_roundw
      case rel => exact ⟨k + 1, by omega, by go_num, (hS3.setCell (Nat.le_refl _) _).setCell (Nat.le_refl _) _, (K1.out.set (ds := _) rfl).set HSET.out, (K2.out.far (by simp) _).far (by simp) _⟩
      case measure => simp [intOf]; omega
    · have hlt2 : ¬ (k : Int) < (n : Int) := by omega
      have hfin := hpe.out (by omega)
      have HFIN := Lib.hid hfin
      clear hps hpe hpc hfin
      obtain ⟨x0, x1, x2, x3, x4, x5, x6, x7, x8, x9, x10⟩ := K1.out.box'.all
      have hone : Hid ((#[.string ⟨x_s.toArray⟩, .string ⟨x_p.toArray⟩, .int .i64 x_n, .bool x_v0, .string ⟨x_l0.toArray⟩, .bool x_v1, .string ⟨x_l1.toArray⟩, .bool x_v2, .string ⟨x_l2.toArray⟩, .bool x_v3, .string ⟨x_l3.toArray⟩] : Array Value).all (·.oneCell') = true) := by show _ = _; simp [Value.oneCell']
      go_wp2_with (refine wpList_store_row rfl 26 (.tmp 4) (.tmp 23) rfl (w.heap.size + 1) #[.string ⟨x_s.toArray⟩, .string ⟨x_p.toArray⟩, .int .i64 x_n, .bool x_v0, .string ⟨x_l0.toArray⟩, .bool x_v1, .string ⟨x_l1.toArray⟩, .bool x_v2, .string ⟨x_l2.toArray⟩, .bool x_v3, .string ⟨x_l3.toArray⟩] rfl rfl 26 (atmC zeroAtmU) K2.out ainfoA rfl hone.out ?_)
      have hbx : Box (wr.setRow (w.heap.size + 1) #[.string ⟨x_s.toArray⟩, .string ⟨x_p.toArray⟩, .int .i64 x_n, .bool x_v0, .string ⟨x_l0.toArray⟩, .bool x_v1, .string ⟨x_l1.toArray⟩, .bool x_v2, .string ⟨x_l2.toArray⟩, .bool x_v3, .string ⟨x_l3.toArray⟩]) (w.heap.size + 1) ((x_s, x_p, x_n, (x_v0, x_l0), (x_v1, x_l1), (x_v2, x_l2), (x_v3, x_l3)) : Atm) := Cel.box' (T := 26) (K2.out.row (atmC ((x_s, x_p, x_n, (x_v0, x_l0), (x_v1, x_l1), (x_v2, x_l2), (x_v3, x_l3)) : Atm)))
      obtain ⟨e0, e1, e2, e3, e4, e5, e6, e7, e8, e9, e10⟩ := hbx.all
      refine bodyPost_ret (v := .agg #[.string ⟨x_s.toArray⟩, .string ⟨x_p.toArray⟩, .int .i64 x_n, .bool x_v0, .string ⟨x_l0.toArray⟩, .bool x_v1, .string ⟨x_l1.toArray⟩, .bool x_v2, .string ⟨x_l2.toArray⟩, .bool x_v3, .string ⟨x_l3.toArray⟩]) (by simp [results, Tryd.results25, go_sem, e0, e1, e2, e3, e4, e5, e6, e7, e8, e9, e10]) rfl ?_
      exact ⟨by rw [← HFIN.out]; rfl, grown_rowU wr _ _ (Nat.le_succ _) hS⟩
end Go.Proofs.YtohcehjpdmhjlaaDoor
