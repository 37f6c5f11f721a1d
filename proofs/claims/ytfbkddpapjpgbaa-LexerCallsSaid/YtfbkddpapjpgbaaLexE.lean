/- lexer.Each: an iterator that keeps state of its own: what it yields, whatever the rounds do with their own blocks. -/
import Derived.Test.YtfbkddpapjpgbaaLexW
import Derived.RangeFuncNested
import Derived.RangeFuncBound
import Derived.RangeFuncCalls
import Derived.RangeFuncLeaves
import Derived.Shelf.Abstract
import Derived.Shelf.RegionOpen
import Derived.WalkKit
import Derived.OwnWalkIn
import Derived.TacticsInMore
import Derived.LoopNIn
import Derived.LoopIn
import Derived.Maps.AppendAt
namespace Go.Proofs.Ytfbkddpapjpgbaa
open Go.RowKit Go.Shelf
attribute [local go_sem] Oper.semAt_some

abbrev Item := Tk × Int
def noTk : Tk := (0, [], 0)
def itemsL (s : List UInt8) : List Item := (toksL s).1.map (fun t => (t, 0)) ++ (match (toksL s).2 with | none => [] | some (_, x) => [(noTk, x)])
def argV (x : Item) : Array Value := #[.agg #[.int .i64 x.1.1, .string ⟨x.1.2.1.toArray⟩, .int .i64 (x.1.2.2 : Int)], .int .i64 x.2]
/-- What a round keeps of the iterator's two blocks. -/
def KeepsTwo (b : Nat) (A B : World) : Prop := A.heap.size ≤ B.heap.size ∧ ∀ k, k = b ∨ k = b + 1 → k < A.heap.size → B.heap[k]? = A.heap[k]?
theorem KeepsTwo.one {b k : Nat} {A B : World} {t : TypeId} {v : Value} (h : KeepsTwo b A B) (hk : k = b ∨ k = b + 1) (ho : OneIs A k t v) : OneIs B k t v := (h.2 k hk ho.lt).trans ho
theorem each_any (s : List UInt8) (w : World) :
    Calls Try.prog 28 #[.string ⟨s.toArray⟩] w fun e w' => e = .returned (.func (.func 38) #[] #[.pointer (some ⟨w.heap.size, 0, none⟩)]) ∧ w.alloc (.cells #[.string ⟨s.toArray⟩] 9) = w' := by
  go_enter Try.func28, Try.ntmps28
  go_wp2_with fail
  go_ret
  exact ⟨rfl, rfl⟩
set_option maxHeartbeats 8000000 in
set_option maxRecDepth 100000 in
theorem each1_in (n : Nat) (hn : 1 ≤ n) (s : List UInt8) (hs : s.length ≤ 65536) (l Bs : Nat) (J : Nat → List Item → World → Prop)
    (hJ : ∀ b pre A B row, J b pre A → World.grownBy A B row → (row = none ∨ row = some (b + 1)) → J b pre B)
    (hY : ∀ b pre x A, J b pre A → b + 1 < A.heap.size → pre.length ≤ s.length → YieldAt Fence.wide (n - 1) Try.prog l (argV x) A fun e A' => e = .returned (.bool true) ∧ J b (pre ++ [x]) A' ∧ KeepsTwo b A A')
    (W : World) (hB : OneIs W Bs 9 (.string ⟨s.toArray⟩)) (h0 : J W.heap.size [] W) :
    CallsIn Fence.wide n Try.prog 38 #[.func (.yield l) #[] #[], .pointer (some ⟨Bs, 0, none⟩)] W fun e W' => (∃ v, e = .returned v) ∧ ∃ b, J b (itemsL s) W' := by
  have hB1 := hB.cell
  have g : decide ((65536 : Int) < (s.length : Int)) = false := decide_eq_false (by omega)
  have hs1 : s.length ≤ maxLen := by unfold maxLen; omega
  refine callsIn_of_wp Try.func38 rfl trivial ?_ rfl
  simp only [Try.ntmps38, List.size_toArray, List.length_cons, List.length_nil, Nat.reduceAdd, Nat.reduceSub, Array.replicate_succ, Array.replicate_zero, List.push_toArray, List.append_toArray, List.nil_append, List.cons_append]
  gi_wp2_with (first | (refine ⟨trivial, ?_⟩; gi_at_call 25; refine (callsIn_wide.2 (long_any _ _ hs1)).mono ?_; rintro e w1 ⟨rfl, rfl⟩) | (refine ⟨trivial, ?_⟩; gi_at_call 26; refine (callsIn_wide.2 (scan_any _ _)).mono ?_; rintro e w1 ⟨rfl, rfl⟩))
  have hO1 : OneIs ((W.alloc (.cells #[.string ⟨s.toArray⟩] 9)).alloc (.cells #[.int .i64 0] 3)) (W.heap.size + 1) 3 (.int .i64 ((0 : Nat) : Int)) := by
    have := heap_alloc_new (W.alloc (.cells #[.string ⟨s.toArray⟩] 9)) (.cells #[.int .i64 0] 3)
    rwa [World.size_alloc] at this
  have hO2 : OneIs ((W.alloc (.cells #[.string ⟨s.toArray⟩] 9)).alloc (.cells #[.int .i64 0] 3)) W.heap.size 9 (.string ⟨s.toArray⟩) := OneIs.alloc (heap_alloc_new W _) _
  have hj0 : J W.heap.size [] ((W.alloc (.cells #[.string ⟨s.toArray⟩] 9)).alloc (.cells #[.int .i64 0] 3)) := hJ _ _ W _ none h0 (grown_alloc (grown_alloc (World.grownBy.refl W _) _) _) (.inl rfl)
  have hl1 : l = l := rfl
  generalize (W.alloc (.cells #[.string ⟨s.toArray⟩] 9)).alloc (.cells #[.int .i64 0] 3) = W1 at *
  generalize W.heap.size = b at *
  gi_loopw [4, 5, 6, 7] (fun _ _ _ _ wr => ∃ (i : Nat) (acc : List Tk), i ≤ s.length ∧ acc.length ≤ i ∧ OneIs wr (b + 1) 3 (.int .i64 (i : Int)) ∧ OneIs wr b 9 (.string ⟨s.toArray⟩) ∧ J b (acc.map fun t => (t, 0)) wr ∧ Hid (LeftL s acc i)) (fun _ _ _ _ wr => s.length - curI wr (b + 1))
  case atStart => exact ⟨0, [], by omega, by simp, hO1, hO2, hj0, left_0 s⟩
  case round =>
    clear hO1 hO2 hj0 hl1
    obtain ⟨i, acc, hi, hacc, hOi, hOs, hJs, hleft⟩ := hrel
    have hst := left_step hi hleft.out
    have HST := Lib.hid hst
    have HOI := Lib.hid hOi
    have HOS := Lib.hid hOs
    have q1 := hOi.lt
    clear hst hleft hOi hOs
    have HSC := Lib.hid (scan1_any s i (b + 1) b wr hs hi HOI.out HOS.out (by omega))
    gi_wp2_with fail
    refine ⟨trivial, ?_⟩
    refine (callsIn_wide.2 HSC.out).mono ?_
    rintro e w5 ⟨hgr, hpost⟩
    have hJ5 := hJ _ _ _ _ _ hJs hgr (.inr rfl)
    have hOs5 := HOS.out.grown hgr (by intro e; injection e with e; omega)
    have hsz5 := hgr.size
    have HOS5 := Lib.hid hOs5
    clear hgr hOs5 HOS HSC hJs
    have hst := HST.out
    clear HST
    cases hn1 : nextL s i with
    | none =>
      rw [hn1] at hpost hst
      simp only at hpost hst
      subst hpost
      have HT := Lib.hid hst
      clear hst hn1
      gi_wp2
      refine ⟨fun _ h => (by cases h), ?_⟩
      gi_wp2
      refine bodyPost_ret (results_none rfl _ _ _) rfl ?_
      refine ⟨⟨_, rfl⟩, b, ?_⟩
      rw [itemsL, HT.out]
      simp only [List.append_nil]
      exact hJ _ _ _ _ none hJ5 (grown_alloc (World.grownBy.refl _ _) _) (.inl rfl)
    | some y =>
      cases y with
      | error x =>
        rw [hn1] at hpost hst
        simp only at hpost hst
        have hx : (x != 0) = true := by
          have := (toksF_err (s.length + 1) s 0 (i + skipN false (s.drop i)) x (by rw [show toksF (s.length + 1) s 0 = toksL s from rfl, hst])).2
          simpa using this
        have hx0 : ¬ x = 0 := by simpa using hx
        subst hpost
        have HT := Lib.hid hst
        clear hst hn1
        generalize i + skipN false (s.drop i) = a at *
        have hJ6 := hJ _ _ _ (w5.alloc (.cells #[.int .i64 0, .string ⟨#[]⟩, .int .i64 0] 25)) none hJ5 (grown_alloc (World.grownBy.refl _ _) _) (.inl rfl)
        obtain ⟨fn, tmps, assign, body, hy, hR⟩ := hY b _ (noTk, x) _ hJ6 (by rw [World.size_alloc]; omega) (by rw [List.length_map]; omega)
        have hy1 : (Instr.yield l #[.agg #[.int .i64 0, .string ⟨#[]⟩, .int .i64 0], .int .i64 x]).run Try.prog (w5.alloc (.cells #[.int .i64 0, .string ⟨#[]⟩, .int .i64 0] 25)) = _ := hy
        clear hy
        gi_wp2
        refine hR.mono ?_
        rintro e w7 ⟨rfl, hJ7, hk7⟩
        gi_wp2
        refine bodyPost_ret (results_none rfl _ _ _) rfl ?_
        refine ⟨⟨_, rfl⟩, b, ?_⟩
        rw [itemsL, HT.out]
        exact hJ7
      | ok p =>
        obtain ⟨q, u⟩ := p
        rw [hn1] at hpost hst
        simp only at hpost hst
        obtain ⟨rfl, hO5⟩ := hpost
        obtain ⟨hl1, hl2, hl3⟩ := hst
        have HL := Lib.hid hl1
        have HO5 := Lib.hid hO5
        clear hn1 hl1 hO5
        have hia : i ≤ i + skipN false (s.drop i) := Nat.le_add_right _ _
        generalize i + skipN false (s.drop i) = a at *
        have hJ6 := hJ _ _ _ (w5.alloc (.cells #[.int .i64 q, .string ⟨u.toArray⟩, .int .i64 a] 25)) none hJ5 (grown_alloc (World.grownBy.refl _ _) _) (.inl rfl)
        obtain ⟨fn, tmps, assign, body, hy, hR⟩ := hY b _ ((q, u, a), 0) _ hJ6 (by rw [World.size_alloc]; omega) (by rw [List.length_map]; omega)
        have hy1 : (Instr.yield l #[.agg #[.int .i64 q, .string ⟨u.toArray⟩, .int .i64 a], .int .i64 0]).run Try.prog (w5.alloc (.cells #[.int .i64 q, .string ⟨u.toArray⟩, .int .i64 a] 25)) = _ := hy
        clear hy
        gi_wp2
        refine hR.mono ?_
        rintro e w7 ⟨rfl, hJ7, hk7⟩
        have hO7 := hk7.one (.inr rfl) (HO5.out.alloc _)
        have hS7 := hk7.one (.inl rfl) (HOS5.out.alloc _)
        gi_wp2
        go_roundw
        case rel => exact ⟨a + u.length, acc ++ [(q, u, a)], hl3, by simp; omega, hO7, hS7, by rw [List.map_append]; exact hJ7, HL.out⟩
        case measure => exact meas (k := a + u.length) HOI.out.cur (by omega) (by omega) hO7
end Go.Proofs.Ytfbkddpapjpgbaa
