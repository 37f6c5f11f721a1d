/- Rename: an atom of 0 to 4 terms, its variables marked. -/
import Derived.Test.YtohcehjpdmhjlaaDoorUniAp
import Derived.Test.YtohcehjpdmhjlaaDoorUniR
import Derived.Deep.RegionLaw
namespace Go.Proofs.YtohcehjpdmhjlaaDoor
open Go.RowKit

theorem run_catU {a b c : ByteArray} (h : a ++ b = c) (hl : a.size + b.size ≤ 1000000) (W : World) : (Op.stringOp .add a b).run Tryd.prog W = .ok (.string c) W := by
  subst h
  exact run_string_add W a b (by omega) (by omega)
/-- The first k terms of an atom marked. -/
def partM (x : List UInt8) (k : Nat) (a : Atm) : Atm :=
  let f := fun (i : Nat) (t : Tm) => if i < k then markT x t else t
  (a.1, a.2.1, a.2.2.1, f 0 a.2.2.2.1, f 1 a.2.2.2.2.1, f 2 a.2.2.2.2.2.1, f 3 a.2.2.2.2.2.2)
def markA (x : List UInt8) (a : Atm) : Atm := partM x (countA a) a
theorem partM_at (x : List UInt8) (a : Atm) : ∀ (k : Nat) (h : k < (argsL (partM x k a)).length) (h2 : k < (argsL a).length), (argsL (partM x k a))[k]'h = (argsL a)[k]'h2
  | 0, _, _ => rfl
  | 1, _, _ => rfl
  | 2, _, _ => rfl
  | 3, _, _ => rfl
  | k + 4, h, _ => absurd h (by rw [argsL_len]; omega)
theorem partM_set (x : List UInt8) (a : Atm) : ∀ (k : Nat) (_ : k < 4) (h2 : k < (argsL (partM x k a)).length), ((argsL (partM x k a))[k]'h2).1 = true →
    (atmC (partM x k a)).setIfInBounds (3 + k * 2 + 1) (.string ⟨(((argsL (partM x k a))[k]'h2).2 ++ x).toArray⟩) = atmC (partM x (k + 1) a)
  | 0, _, h2, h => by
    obtain ⟨s, p, n, ⟨v0, l0⟩, ⟨v1, l1⟩, ⟨v2, l2⟩, ⟨v3, l3⟩⟩ := a
    have e : v0 = true := h
    subst e; rfl
  | 1, _, h2, h => by
    obtain ⟨s, p, n, ⟨v0, l0⟩, ⟨v1, l1⟩, ⟨v2, l2⟩, ⟨v3, l3⟩⟩ := a
    have e : v1 = true := h
    subst e; rfl
  | 2, _, h2, h => by
    obtain ⟨s, p, n, ⟨v0, l0⟩, ⟨v1, l1⟩, ⟨v2, l2⟩, ⟨v3, l3⟩⟩ := a
    have e : v2 = true := h
    subst e; rfl
  | 3, _, h2, h => by
    obtain ⟨s, p, n, ⟨v0, l0⟩, ⟨v1, l1⟩, ⟨v2, l2⟩, ⟨v3, l3⟩⟩ := a
    have e : v3 = true := h
    subst e; rfl
theorem partM_skip (x : List UInt8) (a : Atm) : ∀ (k : Nat) (_ : k < 4) (h2 : k < (argsL (partM x k a)).length), ((argsL (partM x k a))[k]'h2).1 = false → partM x (k + 1) a = partM x k a
  | 0, _, h2, h => by
    obtain ⟨s, p, n, ⟨v0, l0⟩, ⟨v1, l1⟩, ⟨v2, l2⟩, ⟨v3, l3⟩⟩ := a
    have e : v0 = false := h
    subst e; rfl
  | 1, _, h2, h => by
    obtain ⟨s, p, n, ⟨v0, l0⟩, ⟨v1, l1⟩, ⟨v2, l2⟩, ⟨v3, l3⟩⟩ := a
    have e : v1 = false := h
    subst e; rfl
  | 2, _, h2, h => by
    obtain ⟨s, p, n, ⟨v0, l0⟩, ⟨v1, l1⟩, ⟨v2, l2⟩, ⟨v3, l3⟩⟩ := a
    have e : v2 = false := h
    subst e; rfl
  | 3, _, h2, h => by
    obtain ⟨s, p, n, ⟨v0, l0⟩, ⟨v1, l1⟩, ⟨v2, l2⟩, ⟨v3, l3⟩⟩ := a
    have e : v3 = false := h
    subst e; rfl
set_option maxHeartbeats 4000000 in
set_option maxRecDepth 100000 in
theorem rename_any (a_s a_p : List UInt8) (a_n : Int) (a_v0 a_v1 a_v2 a_v3 : Bool) (a_l0 a_l1 a_l2 a_l3 : List UInt8) (n : Nat) (ha : a_n = (n : Int)) (hn : n ≤ 4) (m : Int) (hm0 : 0 ≤ m) (d : List UInt8) (hd : d.length ≤ 40) (hlt : ∀ t ∈ argsL ((a_s, a_p, a_n, (a_v0, a_l0), (a_v1, a_l1), (a_v2, a_l2), (a_v3, a_l3)) : Atm), t.2.length ≤ 300) (w : World)
    (hit : ∀ W, Since w W → Calls Tryd.prog 26 #[.int .i64 m] W fun e w' => e = .returned (.string ⟨d.toArray⟩) ∧ Since W w') :
    Calls Tryd.prog 10 #[.agg #[.string ⟨a_s.toArray⟩, .string ⟨a_p.toArray⟩, .int .i64 a_n, .bool a_v0, .string ⟨a_l0.toArray⟩, .bool a_v1, .string ⟨a_l1.toArray⟩, .bool a_v2, .string ⟨a_l2.toArray⟩, .bool a_v3, .string ⟨a_l3.toArray⟩], .int .i64 m] w fun e w' => e = .returned (.agg (atmC (markA (35 :: d) ((a_s, a_p, a_n, (a_v0, a_l0), (a_v1, a_l1), (a_v2, a_l2), (a_v3, a_l3)) : Atm)))) ∧ Since w w' := by
  have HIT := Lib.hid hit
  have hc0 : Hid (n = countA ((a_s, a_p, a_n, (a_v0, a_l0), (a_v1, a_l1), (a_v2, a_l2), (a_v3, a_l3)) : Atm)) := by
    show _ = _
    rw [ha]; unfold countA; simp only; omega
  have HLT := Lib.hid hlt
  have hmx : max (n : Int) 0 = (n : Int) := by omega
  have hmn : min (n : Int) 4 = (n : Int) := by omega
  have hm1 : ¬ m < 0 := by omega
  have hm2 : decide (m < 0) = false := decide_eq_false hm1
  subst ha
  have hS1 : Since w ((w.alloc (.cells (atmC ((a_s, a_p, (n : Int), (a_v0, a_l0), (a_v1, a_l1), (a_v2, a_l2), (a_v3, a_l3)) : Atm)) 26)).alloc (.cells (atmC zeroAtmU) 26)) := ((Since.refl _).alloc _).alloc _
  have K1 : Hid (Cel ((w.alloc (.cells (atmC ((a_s, a_p, (n : Int), (a_v0, a_l0), (a_v1, a_l1), (a_v2, a_l2), (a_v3, a_l3)) : Atm)) 26)).alloc (.cells (atmC zeroAtmU) 26)) w.heap.size (atmC ((a_s, a_p, (n : Int), (a_v0, a_l0), (a_v1, a_l1), (a_v2, a_l2), (a_v3, a_l3)) : Atm)) 26) := Lib.hid ((show Cel (w.alloc (.cells (atmC ((a_s, a_p, (n : Int), (a_v0, a_l0), (a_v1, a_l1), (a_v2, a_l2), (a_v3, a_l3)) : Atm)) 26)) w.heap.size _ _ from heap_alloc_new w _).next ((Since.refl _).alloc _))
  have K2 : Hid (Cel ((w.alloc (.cells (atmC ((a_s, a_p, (n : Int), (a_v0, a_l0), (a_v1, a_l1), (a_v2, a_l2), (a_v3, a_l3)) : Atm)) 26)).alloc (.cells (atmC zeroAtmU) 26)) (w.heap.size + 1) (atmC zeroAtmU) 26) := by
    have h := heap_alloc_new (w.alloc (.cells (atmC ((a_s, a_p, (n : Int), (a_v0, a_l0), (a_v1, a_l1), (a_v2, a_l2), (a_v3, a_l3)) : Atm)) 26)) (.cells (atmC zeroAtmU) 26)
    rw [World.size_alloc] at h
    exact h
  clear hit hlt
  go_enter Tryd.func10, Tryd.ntmps10
  go_wp2_with fail
  go_loopw [13] (fun i wr => ∃ k : Nat, k ≤ n ∧ i = .int .i64 (k : Int) ∧ Since w wr ∧ Hid (Cel wr w.heap.size (atmC (partM (35 :: d) k ((a_s, a_p, (n : Int), (a_v0, a_l0), (a_v1, a_l1), (a_v2, a_l2), (a_v3, a_l3)) : Atm))) 26) ∧ Hid (Cel wr (w.heap.size + 1) (atmC zeroAtmU) 26)) (fun i _ => n - (intOf i).toNat)
  case atStart => exact ⟨0, by omega, rfl, hS1, K1.out, K2.out⟩
  case round =>
    clear K1 K2 hS1
    obtain ⟨k, hk, rfl, hS, K1, K2⟩ := hrel
    have hpe : Hid (k = n → partM (35 :: d) k ((a_s, a_p, (n : Int), (a_v0, a_l0), (a_v1, a_l1), (a_v2, a_l2), (a_v3, a_l3)) : Atm) = markA (35 :: d) ((a_s, a_p, (n : Int), (a_v0, a_l0), (a_v1, a_l1), (a_v2, a_l2), (a_v3, a_l3)) : Atm)) := by
      intro e
      rw [e]
      show partM _ n _ = partM _ (countA _) _
      rw [← hc0.out]
    by_cases hlt : k < n
    · have hlt2 : (k : Int) < (n : Int) := by omega
      have hk4 : k < 4 := by omega
      have hk4i : (k : Int) < 4 := by omega
      have ha4 : k < (argsL (partM (35 :: d) k ((a_s, a_p, (n : Int), (a_v0, a_l0), (a_v1, a_l1), (a_v2, a_l2), (a_v3, a_l3)) : Atm))).length := by rw [argsL_len]; exact hk4
      have hll := HLT.out _ (List.getElem_mem (show k < (argsL ((a_s, a_p, (n : Int), (a_v0, a_l0), (a_v1, a_l1), (a_v2, a_l2), (a_v3, a_l3)) : Atm)).length by rw [argsL_len]; exact hk4))
      rw [← partM_at (35 :: d) ((a_s, a_p, (n : Int), (a_v0, a_l0), (a_v1, a_l1), (a_v2, a_l2), (a_v3, a_l3)) : Atm) k ha4] at hll
      obtain ⟨d0, d1⟩ := (Cel.box' K1.out).args.2 k ha4
      have hst := partM_set (35 :: d) ((a_s, a_p, (n : Int), (a_v0, a_l0), (a_v1, a_l1), (a_v2, a_l2), (a_v3, a_l3)) : Atm) k hk4 ha4
      have hsk := partM_skip (35 :: d) ((a_s, a_p, (n : Int), (a_v0, a_l0), (a_v1, a_l1), (a_v2, a_l2), (a_v3, a_l3)) : Atm) k hk4 ha4
      generalize (argsL (partM (35 :: d) k ((a_s, a_p, (n : Int), (a_v0, a_l0), (a_v1, a_l1), (a_v2, a_l2), (a_v3, a_l3)) : Atm)))[k]'ha4 = t at *
      obtain ⟨tv, tl⟩ := t
      simp only at d0 d1 hst hsk hll
      cases tv
      · have hsk2 := Lib.hid (hsk rfl)
        clear hst hsk
        go_wp2_with fail
        go_roundw
        case rel => exact ⟨k + 1, by omega, by go_num, hS, by rw [hsk2.out]; exact K1.out, K2.out⟩
        case measure => simp [intOf]; omega
      · have HST := Lib.hid (hst rfl)
        clear hst hsk
        obtain ⟨c, hc⟩ : ∃ c, Hid (c = tl ++ (35 :: d)) := ⟨_, rfl⟩
        have c1 : (ByteArray.mk #[35]) ++ (ByteArray.mk d.toArray) = ByteArray.mk (35 :: d).toArray := by
          apply ByteArray.ext
          simp
        have c2 : (ByteArray.mk tl.toArray) ++ (ByteArray.mk (35 :: d).toArray) = ByteArray.mk c.toArray := by
          apply ByteArray.ext
          rw [hc.out]
          simp
        have ha1 := fun W => run_catU c1 (by show 1 + d.length ≤ 1000000; omega) W
        have ha2 := fun W => run_catU c2 (by show tl.length + (35 :: d).length ≤ 1000000; simp only [List.length_cons]; omega) W
        rw [← hc.out] at HST
        clear c1 c2 hc
        go_wp2_with fail
        go_region_law (first
          | (go_simp; go_at_call 26; (with_reducible refine Calls.mono (HIT.out _ ?_) ?_); (first | exact hS.drew | exact hS); rintro e w8 ⟨rfl, hb8⟩; have hS8 : Since wr w8 := Since.trans ((Since.refl wr).drew) hb8; have d8 := hS8.cell d1; have K8 := K1.out.next hS8; have f8 := K8.free; have l8 := K8.lt; have K28 := K2.out.next hS8))
        all_goals go_wp2_with fail
        all_goals
          go_roundw
          case rel => exact ⟨k + 1, by omega, by go_num, (hS.trans hS8).setCell (Nat.le_refl _) _, K8.set HST.out, K28.far (by simp) _⟩
          case measure => simp [intOf]; omega
    · have hlt2 : ¬ (k : Int) < (n : Int) := by omega
      have hfin := hpe.out (by omega)
      have HFIN := Lib.hid hfin
      clear hpe hfin
      generalize partM (35 :: d) k ((a_s, a_p, (n : Int), (a_v0, a_l0), (a_v1, a_l1), (a_v2, a_l2), (a_v3, a_l3)) : Atm) = x at *
      obtain ⟨x_s, x_p, x_n, ⟨x_v0, x_l0⟩, ⟨x_v1, x_l1⟩, ⟨x_v2, x_l2⟩, ⟨x_v3, x_l3⟩⟩ := x
      obtain ⟨x0, x1, x2, x3, x4, x5, x6, x7, x8, x9, x10⟩ := (Cel.box' K1.out).all
      have hone : Hid (((#[.string ⟨x_s.toArray⟩, .string ⟨x_p.toArray⟩, .int .i64 x_n, .bool x_v0, .string ⟨x_l0.toArray⟩, .bool x_v1, .string ⟨x_l1.toArray⟩, .bool x_v2, .string ⟨x_l2.toArray⟩, .bool x_v3, .string ⟨x_l3.toArray⟩] : Array Value).all (·.oneCell')) = true) := by show _ = _; simp [Value.oneCell']
      go_wp2_with (refine wpList_store_row rfl 26 (.tmp 4) (.tmp 34) rfl (w.heap.size + 1) #[.string ⟨x_s.toArray⟩, .string ⟨x_p.toArray⟩, .int .i64 x_n, .bool x_v0, .string ⟨x_l0.toArray⟩, .bool x_v1, .string ⟨x_l1.toArray⟩, .bool x_v2, .string ⟨x_l2.toArray⟩, .bool x_v3, .string ⟨x_l3.toArray⟩] rfl rfl 26 (atmC zeroAtmU) K2.out ainfoA rfl hone.out ?_)
      have hbx : Box (wr.setRow (w.heap.size + 1) #[.string ⟨x_s.toArray⟩, .string ⟨x_p.toArray⟩, .int .i64 x_n, .bool x_v0, .string ⟨x_l0.toArray⟩, .bool x_v1, .string ⟨x_l1.toArray⟩, .bool x_v2, .string ⟨x_l2.toArray⟩, .bool x_v3, .string ⟨x_l3.toArray⟩]) (w.heap.size + 1) ((x_s, x_p, x_n, (x_v0, x_l0), (x_v1, x_l1), (x_v2, x_l2), (x_v3, x_l3)) : Atm) := Cel.box' (T := 26) (K2.out.row (atmC ((x_s, x_p, x_n, (x_v0, x_l0), (x_v1, x_l1), (x_v2, x_l2), (x_v3, x_l3)) : Atm)))
      obtain ⟨e0, e1, e2, e3, e4, e5, e6, e7, e8, e9, e10⟩ := hbx.all
      refine bodyPost_ret (v := .agg #[.string ⟨x_s.toArray⟩, .string ⟨x_p.toArray⟩, .int .i64 x_n, .bool x_v0, .string ⟨x_l0.toArray⟩, .bool x_v1, .string ⟨x_l1.toArray⟩, .bool x_v2, .string ⟨x_l2.toArray⟩, .bool x_v3, .string ⟨x_l3.toArray⟩]) (by simp [results, Tryd.results10, go_sem, e0, e1, e2, e3, e4, e5, e6, e7, e8, e9, e10]) rfl ?_
      exact ⟨by rw [← HFIN.out]; rfl, grown_rowU wr _ _ (Nat.le_succ _) hS⟩
end Go.Proofs.YtohcehjpdmhjlaaDoor
