/- The reference: an atom under bindings (Apply). -/
import Derived.Test.YtohcehjpdmhjlaaUniD
import Derived.Laws.Rows
import Derived.Laws.Tables
namespace Go.Proofs.Ytohcehjpdmhjlaa
open Go.RowKit

theorem ainfoA : (Try.prog.info? 26).map (·.size) = some 11 := by kernel_rfl
def zeroAtmU : Atm := ([], [], 0, (false, []), (false, []), (false, []), (false, []))
/-- The first k terms of an atom under bindings. -/
def partA (l : List Bnd) (k : Nat) (a : Atm) : Atm :=
  let f := fun (i : Nat) (t : Tm) => if i < k then termS l t else t
  (a.1, a.2.1, a.2.2.1, f 0 a.2.2.2.1, f 1 a.2.2.2.2.1, f 2 a.2.2.2.2.2.1, f 3 a.2.2.2.2.2.2)
theorem partA_zero (l : List Bnd) (a : Atm) : partA l 0 a = a := rfl
theorem partA_end (l : List Bnd) (a : Atm) : partA l (countA a) a = applyA l a := rfl
theorem partA_set (l : List Bnd) (a : Atm) : ∀ (k : Nat) (_ : k < 4) (h2 : k < (argsL (partA l k a)).length),
    ((atmC (partA l k a)).setIfInBounds (3 + k * 2) (.bool (termS l ((argsL (partA l k a))[k]'h2)).1)).setIfInBounds (3 + k * 2 + 1) (.string ⟨(termS l ((argsL (partA l k a))[k]'h2)).2.toArray⟩) = atmC (partA l (k + 1) a)
  | 0, _, _ => rfl
  | 1, _, _ => rfl
  | 2, _, _ => rfl
  | 3, _, _ => rfl
theorem grown_rowU {w : World} (W : World) (B : Nat) (cs : Array Value) (hB : w.heap.size ≤ B) (h : Since w W) : Since w (W.setRow B cs) :=
  Below.grown h (row := some B) ⟨rfl, rfl, rfl, by simp, fun k hk hne => setRow_other W B k cs (fun e => hne (by rw [e]))⟩ h.size (fun k hk => by injection hk with hk; omega)
theorem Cel.box' {W : World} {B : Nat} {a : Atm} {T : TypeId} (h : Cel W B (atmC a) T) : Box W B a := by
  intro j hj
  rw [h.cell j, Array.getElem?_eq_getElem hj]
set_option maxHeartbeats 4000000 in
set_option maxRecDepth 100000 in
theorem rapplyb_any (v : Value) (L : List Bnd) (a_s a_p : List UInt8) (a_n : Int) (a_v0 a_v1 a_v2 a_v3 : Bool) (a_l0 a_l1 a_l2 a_l3 : List UInt8) (w : World) (hv : RowOf 3 bndC w v L) (hm : L.length ≤ 1000000) :
    Calls Try.prog 12 #[v, .agg #[.string ⟨a_s.toArray⟩, .string ⟨a_p.toArray⟩, .int .i64 a_n, .bool a_v0, .string ⟨a_l0.toArray⟩, .bool a_v1, .string ⟨a_l1.toArray⟩, .bool a_v2, .string ⟨a_l2.toArray⟩, .bool a_v3, .string ⟨a_l3.toArray⟩]] w fun e w' => e = .returned (.agg (atmC (applyA L ((a_s, a_p, a_n, (a_v0, a_l0), (a_v1, a_l1), (a_v2, a_l2), (a_v3, a_l3)) : Atm)))) ∧ Since w w' := by
  have HV := Lib.hid hv
  have HT := Lib.hid (fun tv tl W (h : RowOf 3 bndC W v L) => rtermb_any v L tv tl W h hm)
  obtain ⟨c, hc0⟩ : ∃ c, Hid (c = countA ((a_s, a_p, a_n, (a_v0, a_l0), (a_v1, a_l1), (a_v2, a_l2), (a_v3, a_l3)) : Atm)) := ⟨_, rfl⟩
  have hc4 : c ≤ 4 := by rw [hc0.out]; unfold countA; omega
  have hS1 : Since w ((w.alloc (.cells (atmC ((a_s, a_p, a_n, (a_v0, a_l0), (a_v1, a_l1), (a_v2, a_l2), (a_v3, a_l3)) : Atm)) 26)).alloc (.cells (atmC zeroAtmU) 26)) := ((Since.refl _).alloc _).alloc _
  have K1 : Hid (Cel ((w.alloc (.cells (atmC ((a_s, a_p, a_n, (a_v0, a_l0), (a_v1, a_l1), (a_v2, a_l2), (a_v3, a_l3)) : Atm)) 26)).alloc (.cells (atmC zeroAtmU) 26)) w.heap.size (atmC ((a_s, a_p, a_n, (a_v0, a_l0), (a_v1, a_l1), (a_v2, a_l2), (a_v3, a_l3)) : Atm)) 26) := Lib.hid ((show Cel (w.alloc (.cells (atmC ((a_s, a_p, a_n, (a_v0, a_l0), (a_v1, a_l1), (a_v2, a_l2), (a_v3, a_l3)) : Atm)) 26)) w.heap.size _ _ from heap_alloc_new w _).next ((Since.refl _).alloc _))
  have K2 : Hid (Cel ((w.alloc (.cells (atmC ((a_s, a_p, a_n, (a_v0, a_l0), (a_v1, a_l1), (a_v2, a_l2), (a_v3, a_l3)) : Atm)) 26)).alloc (.cells (atmC zeroAtmU) 26)) (w.heap.size + 1) (atmC zeroAtmU) 26) := by
    have h := heap_alloc_new (w.alloc (.cells (atmC ((a_s, a_p, a_n, (a_v0, a_l0), (a_v1, a_l1), (a_v2, a_l2), (a_v3, a_l3)) : Atm)) 26)) (.cells (atmC zeroAtmU) 26)
    rw [World.size_alloc] at h
    exact h
  clear hv
  go_enter Try.func12, Try.ntmps12
  go_wp2_with fail
  have hS1' : Since w ((w.alloc (.cells #[.string ⟨a_s.toArray⟩, .string ⟨a_p.toArray⟩, .int .i64 a_n, .bool a_v0, .string ⟨a_l0.toArray⟩, .bool a_v1, .string ⟨a_l1.toArray⟩, .bool a_v2, .string ⟨a_l2.toArray⟩, .bool a_v3, .string ⟨a_l3.toArray⟩] 26)).alloc (.cells #[.string ⟨#[]⟩, .string ⟨#[]⟩, .int .i64 0, .bool false, .string ⟨#[]⟩, .bool false, .string ⟨#[]⟩, .bool false, .string ⟨#[]⟩, .bool false, .string ⟨#[]⟩] 26)) := hS1
  go_loopw [5] (fun i wr => ∃ k : Nat, k ≤ c ∧ i = .int .i64 (k : Int) ∧ Since w wr ∧ Hid (Cel wr w.heap.size (atmC (partA L k ((a_s, a_p, a_n, (a_v0, a_l0), (a_v1, a_l1), (a_v2, a_l2), (a_v3, a_l3)) : Atm))) 26) ∧ Hid (Cel wr (w.heap.size + 1) (atmC zeroAtmU) 26)) (fun i _ => c - (intOf i).toNat)
  case atStart => exact ⟨0, by omega, rfl, hS1, K1.out, K2.out⟩
  case round =>
    clear K1 K2 hS1 hS1'
    obtain ⟨k, hk, rfl, hS, K1, K2⟩ := hrel
    have hpc : Hid (countA (partA L k ((a_s, a_p, a_n, (a_v0, a_l0), (a_v1, a_l1), (a_v2, a_l2), (a_v3, a_l3)) : Atm)) = c) := hc0.out.symm
    have hpe : Hid (k = c → partA L k ((a_s, a_p, a_n, (a_v0, a_l0), (a_v1, a_l1), (a_v2, a_l2), (a_v3, a_l3)) : Atm) = applyA L ((a_s, a_p, a_n, (a_v0, a_l0), (a_v1, a_l1), (a_v2, a_l2), (a_v3, a_l3)) : Atm)) := by
      intro e
      rw [e, hc0.out]; rfl
    have hps : Hid (∀ (h4 : k < 4) (h2 : k < (argsL (partA L k ((a_s, a_p, a_n, (a_v0, a_l0), (a_v1, a_l1), (a_v2, a_l2), (a_v3, a_l3)) : Atm))).length), ((atmC (partA L k ((a_s, a_p, a_n, (a_v0, a_l0), (a_v1, a_l1), (a_v2, a_l2), (a_v3, a_l3)) : Atm))).setIfInBounds (3 + k * 2) (.bool (termS L ((argsL (partA L k ((a_s, a_p, a_n, (a_v0, a_l0), (a_v1, a_l1), (a_v2, a_l2), (a_v3, a_l3)) : Atm)))[k]'h2)).1)).setIfInBounds (3 + k * 2 + 1) (.string ⟨(termS L ((argsL (partA L k ((a_s, a_p, a_n, (a_v0, a_l0), (a_v1, a_l1), (a_v2, a_l2), (a_v3, a_l3)) : Atm)))[k]'h2)).2.toArray⟩) = atmC (partA L (k + 1) ((a_s, a_p, a_n, (a_v0, a_l0), (a_v1, a_l1), (a_v2, a_l2), (a_v3, a_l3)) : Atm))) := by
      intro h4 h2
      exact partA_set L ((a_s, a_p, a_n, (a_v0, a_l0), (a_v1, a_l1), (a_v2, a_l2), (a_v3, a_l3)) : Atm) k h4 h2
    generalize partA L k ((a_s, a_p, a_n, (a_v0, a_l0), (a_v1, a_l1), (a_v2, a_l2), (a_v3, a_l3)) : Atm) = x at *
    obtain ⟨x_s, x_p, x_n, ⟨x_v0, x_l0⟩, ⟨x_v1, x_l1⟩, ⟨x_v2, x_l2⟩, ⟨x_v3, x_l3⟩⟩ := x
    have hbx := K1.out.box'
    obtain ⟨x_c0, x_c1, x_c2, x_c3, x_c4, x_c5, x_c6, x_c7, x_c8, x_c9, x_c10⟩ := hbx.all
    have HCN := Lib.hid (fun W => rcount_any x_s x_p x_n x_v0 x_v1 x_v2 x_v3 x_l0 x_l1 x_l2 x_l3 W)
    rw [hpc.out] at HCN
    go_wp2_with fail
    refine (HCN.out _).mono ?_
    rintro e w2 ⟨rfl, hb⟩
    have hS2 := hS.trans hb
    replace K1 := Lib.hid (K1.out.next hb)
    replace K2 := Lib.hid (K2.out.next hb)
    clear x_c0 x_c1 x_c2 x_c3 x_c4 x_c5 x_c6 x_c7 x_c8 x_c9 x_c10 hbx HCN
    by_cases hlt : k < c
    · have hlt2 : (k : Int) < (c : Int) := by omega
      have hk4 : k < 4 := by omega
      have hk4i : (k : Int) < 4 := by omega
      have ha4 : k < (argsL ((x_s, x_p, x_n, (x_v0, x_l0), (x_v1, x_l1), (x_v2, x_l2), (x_v3, x_l3)) : Atm)).length := by rw [argsL_len]; exact hk4
      obtain ⟨d0, d1⟩ := K1.out.box'.args.2 k ha4
      have hset := hps.out hk4 ha4
      clear hps hpe hpc
      generalize (argsL ((x_s, x_p, x_n, (x_v0, x_l0), (x_v1, x_l1), (x_v2, x_l2), (x_v3, x_l3)) : Atm))[k]'ha4 = t at *
      have HC := Lib.hid (HT.out t.1 t.2)
      rw [show ((t.1, t.2) : Tm) = t from rfl] at HC
      generalize termS L t = y at *
      obtain ⟨tv, tl⟩ := t
      obtain ⟨yv, yt⟩ := y
      simp only at d0 d1 HC hset
      simp only [tmV] at HC
      have HSET := Lib.hid hset
      clear hset
      go_wp2_with fail
      refine (HC.out _ (HV.out.next hS2)).mono ?_
      rintro e w3 ⟨rfl, hb3⟩
      have hS3 := hS2.trans hb3
      replace d0 := hb3.cell d0
      replace d1 := hb3.cell d1
      replace K1 := Lib.hid (K1.out.next hb3)
      replace K2 := Lib.hid (K2.out.next hb3)
      have hfr := K1.out.free
      have hlw := K1.out.lt
      go_wp2_with fail
      go_roundw
      case rel => exact ⟨k + 1, by omega, by go_num, (hS3.setCell (Nat.le_refl _) _).setCell (Nat.le_refl _) _, (K1.out.set (ds := _) rfl).set HSET.out, (K2.out.far (by simp) _).far (by simp) _⟩
      case measure => simp [intOf]; omega
    · have hlt2 : ¬ (k : Int) < (c : Int) := by omega
      have hfin := hpe.out (by omega)
      have HFIN := Lib.hid hfin
      clear hps hpe hpc hfin
      obtain ⟨x0, x1, x2, x3, x4, x5, x6, x7, x8, x9, x10⟩ := K1.out.box'.all
      have hone : Hid ((#[.string ⟨x_s.toArray⟩, .string ⟨x_p.toArray⟩, .int .i64 x_n, .bool x_v0, .string ⟨x_l0.toArray⟩, .bool x_v1, .string ⟨x_l1.toArray⟩, .bool x_v2, .string ⟨x_l2.toArray⟩, .bool x_v3, .string ⟨x_l3.toArray⟩] : Array Value).all (·.oneCell') = true) := by show _ = _; simp [Value.oneCell']
      go_wp2_with (refine wpList_store_row rfl 26 (.tmp 4) (.tmp 21) rfl (w.heap.size + 1) #[.string ⟨x_s.toArray⟩, .string ⟨x_p.toArray⟩, .int .i64 x_n, .bool x_v0, .string ⟨x_l0.toArray⟩, .bool x_v1, .string ⟨x_l1.toArray⟩, .bool x_v2, .string ⟨x_l2.toArray⟩, .bool x_v3, .string ⟨x_l3.toArray⟩] rfl rfl 26 (atmC zeroAtmU) K2.out ainfoA rfl hone.out ?_)
      have hbx : Box (w2.setRow (w.heap.size + 1) #[.string ⟨x_s.toArray⟩, .string ⟨x_p.toArray⟩, .int .i64 x_n, .bool x_v0, .string ⟨x_l0.toArray⟩, .bool x_v1, .string ⟨x_l1.toArray⟩, .bool x_v2, .string ⟨x_l2.toArray⟩, .bool x_v3, .string ⟨x_l3.toArray⟩]) (w.heap.size + 1) ((x_s, x_p, x_n, (x_v0, x_l0), (x_v1, x_l1), (x_v2, x_l2), (x_v3, x_l3)) : Atm) := Cel.box' (T := 26) (K2.out.row (atmC ((x_s, x_p, x_n, (x_v0, x_l0), (x_v1, x_l1), (x_v2, x_l2), (x_v3, x_l3)) : Atm)))
      obtain ⟨e0, e1, e2, e3, e4, e5, e6, e7, e8, e9, e10⟩ := hbx.all
      refine bodyPost_ret (v := .agg #[.string ⟨x_s.toArray⟩, .string ⟨x_p.toArray⟩, .int .i64 x_n, .bool x_v0, .string ⟨x_l0.toArray⟩, .bool x_v1, .string ⟨x_l1.toArray⟩, .bool x_v2, .string ⟨x_l2.toArray⟩, .bool x_v3, .string ⟨x_l3.toArray⟩]) (by simp [results, Try.results12, go_sem, e0, e1, e2, e3, e4, e5, e6, e7, e8, e9, e10]) rfl ?_
      exact ⟨by rw [← HFIN.out]; rfl, grown_rowU w2 _ _ (Nat.le_succ _) hS2⟩
end Go.Proofs.Ytohcehjpdmhjlaa
