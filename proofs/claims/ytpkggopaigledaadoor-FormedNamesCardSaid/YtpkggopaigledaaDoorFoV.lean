/- vouchsafekit.A at the names of the examples of layer 12. vouchsafekit.Small. vouchsafelaw12.lives. -/
import Derived.Test.YtpkggopaigledaaDoorFoB
import Derived.LoopN
import Derived.Test.YtpkggopaigledaaDoorInv
import Derived.Test.YtpkggopaigledaaDoorFoN
namespace Go.Proofs.YtpkggopaigledaaDoor
open Go.RowKit

set_option maxHeartbeats 400000 in
theorem kC_new (l : List UInt8) (w : World) :
    Calls Tryd.prog 54 #[.string ⟨l.toArray⟩] w fun e w' => e = .returned (.agg #[.bool false, .string ⟨l.toArray⟩]) ∧ w.alloc (.cells #[.bool false, .string ⟨l.toArray⟩] 36) = w' := by
  go_enter Tryd.func54, Tryd.ntmps54
  go_wp2
  exact bodyPost_ret (v := .agg #[.bool false, .string ⟨l.toArray⟩]) (by simp [results, Tryd.results54, go_sem]) rfl ⟨rfl, rfl⟩
theorem kC_since (l : List UInt8) (w : World) :
    Calls Tryd.prog 54 #[.string ⟨l.toArray⟩] w fun e w' => e = .returned (.agg #[.bool false, .string ⟨l.toArray⟩]) ∧ Since w w' := by
  refine (kC_new l w).mono ?_
  rintro e w' ⟨rfl, rfl⟩
  exact ⟨rfl, (Since.refl _).alloc _⟩
set_option maxHeartbeats 2000000 in
set_option maxRecDepth 100000 in
theorem kA_X (s p : List UInt8) (b o c : Nat) (w : World) (q0 : w.cell? ⟨b, o, none⟩ = some (.string ⟨#[88]⟩)) :
    Calls Tryd.prog 25 #[.string ⟨s.toArray⟩, .string ⟨p.toArray⟩, .slice (some ⟨b, o, none⟩) 1 c] w fun e w' => e = .returned (.agg #[.string ⟨s.toArray⟩, .string ⟨p.toArray⟩, .int .i64 1, .bool true, .string ⟨#[88]⟩, .bool false, .string ⟨#[]⟩, .bool false, .string ⟨#[]⟩, .bool false, .string ⟨#[]⟩]) ∧ Since w w' := by
  have hblt : b < w.heap.size := World.block_lt_of_cell? w _ q0
  have hblt1 : b < w.heap.size + 1 := by omega
  have hblt2 : b < w.heap.size + 1 + 1 := by omega
  have hblt3 : b < w.heap.size + 1 + 1 + 1 := by omega
  go_enter Tryd.func25, Tryd.ntmps25
  go_wp2_with fail
  refine wp_loop_rounds 2 ?_
  rw [rounds_succ]
  go_wp2_with (go_at_call 54; refine (kC_new [88] _).mono ?_; rintro e w1 ⟨rfl, rfl⟩)
  rw [rounds_succ]
  go_wp2_with fail
  refine bodyPost_ret (v := .agg #[.string ⟨s.toArray⟩, .string ⟨p.toArray⟩, .int .i64 1, .bool true, .string ⟨#[88]⟩, .bool false, .string ⟨#[]⟩, .bool false, .string ⟨#[]⟩, .bool false, .string ⟨#[]⟩]) (by simp [results, Tryd.results25, go_sem]) rfl ⟨rfl, ?_⟩
  repeat (first | exact Since.refl _ | refine Since.alloc ?_ _ | refine Since.setCell ?_ (by simp) _)

set_option maxHeartbeats 2000000 in
set_option maxRecDepth 100000 in
theorem kA_X_Y (s p : List UInt8) (b o c : Nat) (w : World) (q0 : w.cell? ⟨b, o, none⟩ = some (.string ⟨#[88]⟩)) (q1 : w.cell? ⟨b, o + 1, none⟩ = some (.string ⟨#[89]⟩)) :
    Calls Tryd.prog 25 #[.string ⟨s.toArray⟩, .string ⟨p.toArray⟩, .slice (some ⟨b, o, none⟩) 2 c] w fun e w' => e = .returned (.agg #[.string ⟨s.toArray⟩, .string ⟨p.toArray⟩, .int .i64 2, .bool true, .string ⟨#[88]⟩, .bool true, .string ⟨#[89]⟩, .bool false, .string ⟨#[]⟩, .bool false, .string ⟨#[]⟩]) ∧ Since w w' := by
  have hblt : b < w.heap.size := World.block_lt_of_cell? w _ q0
  have hblt1 : b < w.heap.size + 1 := by omega
  have hblt2 : b < w.heap.size + 1 + 1 := by omega
  have hblt3 : b < w.heap.size + 1 + 1 + 1 := by omega
  have hblt4 : b < w.heap.size + 1 + 1 + 1 + 1 := by omega
  go_enter Tryd.func25, Tryd.ntmps25
  go_wp2_with fail
  refine wp_loop_rounds 3 ?_
  rw [rounds_succ]
  go_wp2_with (go_at_call 54; refine (kC_new [88] _).mono ?_; rintro e w1 ⟨rfl, rfl⟩)
  rw [rounds_succ]
  go_wp2_with (go_at_call 54; refine (kC_new [89] _).mono ?_; rintro e w1 ⟨rfl, rfl⟩)
  rw [rounds_succ]
  go_wp2_with fail
  refine bodyPost_ret (v := .agg #[.string ⟨s.toArray⟩, .string ⟨p.toArray⟩, .int .i64 2, .bool true, .string ⟨#[88]⟩, .bool true, .string ⟨#[89]⟩, .bool false, .string ⟨#[]⟩, .bool false, .string ⟨#[]⟩]) (by simp [results, Tryd.results25, go_sem]) rfl ⟨rfl, ?_⟩
  repeat (first | exact Since.refl _ | refine Since.alloc ?_ _ | refine Since.setCell ?_ (by simp) _)

set_option maxHeartbeats 2000000 in
set_option maxRecDepth 100000 in
theorem kA_Y (s p : List UInt8) (b o c : Nat) (w : World) (q0 : w.cell? ⟨b, o, none⟩ = some (.string ⟨#[89]⟩)) :
    Calls Tryd.prog 25 #[.string ⟨s.toArray⟩, .string ⟨p.toArray⟩, .slice (some ⟨b, o, none⟩) 1 c] w fun e w' => e = .returned (.agg #[.string ⟨s.toArray⟩, .string ⟨p.toArray⟩, .int .i64 1, .bool true, .string ⟨#[89]⟩, .bool false, .string ⟨#[]⟩, .bool false, .string ⟨#[]⟩, .bool false, .string ⟨#[]⟩]) ∧ Since w w' := by
  have hblt : b < w.heap.size := World.block_lt_of_cell? w _ q0
  have hblt1 : b < w.heap.size + 1 := by omega
  have hblt2 : b < w.heap.size + 1 + 1 := by omega
  have hblt3 : b < w.heap.size + 1 + 1 + 1 := by omega
  go_enter Tryd.func25, Tryd.ntmps25
  go_wp2_with fail
  refine wp_loop_rounds 2 ?_
  rw [rounds_succ]
  go_wp2_with (go_at_call 54; refine (kC_new [89] _).mono ?_; rintro e w1 ⟨rfl, rfl⟩)
  rw [rounds_succ]
  go_wp2_with fail
  refine bodyPost_ret (v := .agg #[.string ⟨s.toArray⟩, .string ⟨p.toArray⟩, .int .i64 1, .bool true, .string ⟨#[89]⟩, .bool false, .string ⟨#[]⟩, .bool false, .string ⟨#[]⟩, .bool false, .string ⟨#[]⟩]) (by simp [results, Tryd.results25, go_sem]) rfl ⟨rfl, ?_⟩
  repeat (first | exact Since.refl _ | refine Since.alloc ?_ _ | refine Since.setCell ?_ (by simp) _)

set_option maxHeartbeats 2000000 in
set_option maxRecDepth 100000 in
theorem kA_Z (s p : List UInt8) (b o c : Nat) (w : World) (q0 : w.cell? ⟨b, o, none⟩ = some (.string ⟨#[90]⟩)) :
    Calls Tryd.prog 25 #[.string ⟨s.toArray⟩, .string ⟨p.toArray⟩, .slice (some ⟨b, o, none⟩) 1 c] w fun e w' => e = .returned (.agg #[.string ⟨s.toArray⟩, .string ⟨p.toArray⟩, .int .i64 1, .bool true, .string ⟨#[90]⟩, .bool false, .string ⟨#[]⟩, .bool false, .string ⟨#[]⟩, .bool false, .string ⟨#[]⟩]) ∧ Since w w' := by
  have hblt : b < w.heap.size := World.block_lt_of_cell? w _ q0
  have hblt1 : b < w.heap.size + 1 := by omega
  have hblt2 : b < w.heap.size + 1 + 1 := by omega
  have hblt3 : b < w.heap.size + 1 + 1 + 1 := by omega
  go_enter Tryd.func25, Tryd.ntmps25
  go_wp2_with fail
  refine wp_loop_rounds 2 ?_
  rw [rounds_succ]
  go_wp2_with (go_at_call 54; refine (kC_new [90] _).mono ?_; rintro e w1 ⟨rfl, rfl⟩)
  rw [rounds_succ]
  go_wp2_with fail
  refine bodyPost_ret (v := .agg #[.string ⟨s.toArray⟩, .string ⟨p.toArray⟩, .int .i64 1, .bool true, .string ⟨#[90]⟩, .bool false, .string ⟨#[]⟩, .bool false, .string ⟨#[]⟩, .bool false, .string ⟨#[]⟩]) (by simp [results, Tryd.results25, go_sem]) rfl ⟨rfl, ?_⟩
  repeat (first | exact Since.refl _ | refine Since.alloc ?_ _ | refine Since.setCell ?_ (by simp) _)

set_option maxHeartbeats 2000000 in
set_option maxRecDepth 100000 in
theorem kA_a (s p : List UInt8) (b o c : Nat) (w : World) (q0 : w.cell? ⟨b, o, none⟩ = some (.string ⟨#[97]⟩)) :
    Calls Tryd.prog 25 #[.string ⟨s.toArray⟩, .string ⟨p.toArray⟩, .slice (some ⟨b, o, none⟩) 1 c] w fun e w' => e = .returned (.agg #[.string ⟨s.toArray⟩, .string ⟨p.toArray⟩, .int .i64 1, .bool false, .string ⟨#[97]⟩, .bool false, .string ⟨#[]⟩, .bool false, .string ⟨#[]⟩, .bool false, .string ⟨#[]⟩]) ∧ Since w w' := by
  have hblt : b < w.heap.size := World.block_lt_of_cell? w _ q0
  have hblt1 : b < w.heap.size + 1 := by omega
  have hblt2 : b < w.heap.size + 1 + 1 := by omega
  have hblt3 : b < w.heap.size + 1 + 1 + 1 := by omega
  go_enter Tryd.func25, Tryd.ntmps25
  go_wp2_with fail
  refine wp_loop_rounds 2 ?_
  rw [rounds_succ]
  go_wp2_with (go_at_call 54; refine (kC_new [97] _).mono ?_; rintro e w1 ⟨rfl, rfl⟩)
  rw [rounds_succ]
  go_wp2_with fail
  refine bodyPost_ret (v := .agg #[.string ⟨s.toArray⟩, .string ⟨p.toArray⟩, .int .i64 1, .bool false, .string ⟨#[97]⟩, .bool false, .string ⟨#[]⟩, .bool false, .string ⟨#[]⟩, .bool false, .string ⟨#[]⟩]) (by simp [results, Tryd.results25, go_sem]) rfl ⟨rfl, ?_⟩
  repeat (first | exact Since.refl _ | refine Since.alloc ?_ _ | refine Since.setCell ?_ (by simp) _)

set_option maxHeartbeats 2000000 in
set_option maxRecDepth 100000 in
theorem kA_xz45 (s p : List UInt8) (b o c : Nat) (w : World) (q0 : w.cell? ⟨b, o, none⟩ = some (.string ⟨#[120, 45]⟩)) :
    Calls Tryd.prog 25 #[.string ⟨s.toArray⟩, .string ⟨p.toArray⟩, .slice (some ⟨b, o, none⟩) 1 c] w fun e w' => e = .returned (.agg #[.string ⟨s.toArray⟩, .string ⟨p.toArray⟩, .int .i64 1, .bool false, .string ⟨#[120, 45]⟩, .bool false, .string ⟨#[]⟩, .bool false, .string ⟨#[]⟩, .bool false, .string ⟨#[]⟩]) ∧ Since w w' := by
  have hblt : b < w.heap.size := World.block_lt_of_cell? w _ q0
  have hblt1 : b < w.heap.size + 1 := by omega
  have hblt2 : b < w.heap.size + 1 + 1 := by omega
  have hblt3 : b < w.heap.size + 1 + 1 + 1 := by omega
  go_enter Tryd.func25, Tryd.ntmps25
  go_wp2_with fail
  refine wp_loop_rounds 2 ?_
  rw [rounds_succ]
  go_wp2_with (go_at_call 54; refine (kC_new [120, 45] _).mono ?_; rintro e w1 ⟨rfl, rfl⟩)
  rw [rounds_succ]
  go_wp2_with fail
  refine bodyPost_ret (v := .agg #[.string ⟨s.toArray⟩, .string ⟨p.toArray⟩, .int .i64 1, .bool false, .string ⟨#[120, 45]⟩, .bool false, .string ⟨#[]⟩, .bool false, .string ⟨#[]⟩, .bool false, .string ⟨#[]⟩]) (by simp [results, Tryd.results25, go_sem]) rfl ⟨rfl, ?_⟩
  repeat (first | exact Since.refl _ | refine Since.alloc ?_ _ | refine Since.setCell ?_ (by simp) _)

set_option maxHeartbeats 2000000 in
set_option maxRecDepth 100000 in
theorem kA_none (s p : List UInt8) (w : World) :
    Calls Tryd.prog 25 #[.string ⟨s.toArray⟩, .string ⟨p.toArray⟩, .slice none 0 0] w fun e w' => e = .returned (.agg #[.string ⟨s.toArray⟩, .string ⟨p.toArray⟩, .int .i64 0, .bool false, .string ⟨#[]⟩, .bool false, .string ⟨#[]⟩, .bool false, .string ⟨#[]⟩, .bool false, .string ⟨#[]⟩]) ∧ Since w w' := by
  go_enter Tryd.func25, Tryd.ntmps25
  go_wp2_with fail
  refine wp_loop_rounds 1 ?_
  rw [rounds_succ]
  go_wp2_with fail
  refine bodyPost_ret (v := .agg #[.string ⟨s.toArray⟩, .string ⟨p.toArray⟩, .int .i64 0, .bool false, .string ⟨#[]⟩, .bool false, .string ⟨#[]⟩, .bool false, .string ⟨#[]⟩, .bool false, .string ⟨#[]⟩]) (by simp [results, Tryd.results25, go_sem]) rfl ⟨rfl, ?_⟩
  repeat (first | exact Since.refl _ | refine Since.alloc ?_ _ | refine Since.setCell ?_ (by simp) _)
end Go.Proofs.YtpkggopaigledaaDoor

namespace Go.Proofs.YtpkggopaigledaaDoor
open Go.RowKit

theorem krow_one {α : Type} {K : Nat} {R : World → Nat → Nat → α → Prop} {W : World} {B : Nat} {x : α} (h : R W B 0 x) : KRow K R W (.slice (some ⟨B, 0, none⟩) 1 1) [x] := by
  refine ⟨_, _, rfl, Nat.le_refl _, fun _ => ⟨B, 0, rfl, fun k hk => ?_⟩⟩
  match k, hk with
  | 0, _ => simpa using h
theorem krow_two {α : Type} {K : Nat} {R : World → Nat → Nat → α → Prop} {W : World} {B : Nat} {x y : α} (h : R W B 0 x) (h1 : R W B (0 + 1 * K) y) : KRow K R W (.slice (some ⟨B, 0, none⟩) 2 2) [x, y] := by
  refine ⟨_, _, rfl, Nat.le_refl _, fun _ => ⟨B, 0, rfl, fun k hk => ?_⟩⟩
  match k, hk with
  | 0, _ => simpa using h
  | 1, _ => exact h1
theorem krow_three {α : Type} {K : Nat} {R : World → Nat → Nat → α → Prop} {W : World} {B : Nat} {x y z : α} (h : R W B 0 x) (h1 : R W B (0 + 1 * K) y) (h2 : R W B (0 + 2 * K) z) : KRow K R W (.slice (some ⟨B, 0, none⟩) 3 3) [x, y, z] := by
  refine ⟨_, _, rfl, Nat.le_refl _, fun _ => ⟨B, 0, rfl, fun k hk => ?_⟩⟩
  match k, hk with
  | 0, _ => simpa using h
  | 1, _ => exact h1
  | 2, _ => exact h2
theorem Cel.atm {W : World} {B o : Nat} {cs : Array Value} {T : TypeId} {a : Atm} (h : Cel W B cs T) (hc : ∀ j u, (atmC a)[j]? = some u → cs[o + j]? = some u) : AtAt W B o a := fun j u hu => (h.cell _).trans (hc j u hu)
theorem sub11 {A B : Array Value} {o : Nat} (hl : A.size = 11) (h0 : B[o + 0]? = A[0]?) (h1 : B[o + 1]? = A[1]?) (h2 : B[o + 2]? = A[2]?) (h3 : B[o + 3]? = A[3]?) (h4 : B[o + 4]? = A[4]?) (h5 : B[o + 5]? = A[5]?) (h6 : B[o + 6]? = A[6]?) (h7 : B[o + 7]? = A[7]?) (h8 : B[o + 8]? = A[8]?) (h9 : B[o + 9]? = A[9]?) (h10 : B[o + 10]? = A[10]?) : ∀ j u, A[j]? = some u → B[o + j]? = some u := by
  intro j u hu
  have hj : j < 11 := by have := (Array.getElem?_eq_some_iff.1 hu).1; omega
  match j, hj with
  | 0, _ => exact h0.trans hu
  | 1, _ => exact h1.trans hu
  | 2, _ => exact h2.trans hu
  | 3, _ => exact h3.trans hu
  | 4, _ => exact h4.trans hu
  | 5, _ => exact h5.trans hu
  | 6, _ => exact h6.trans hu
  | 7, _ => exact h7.trans hu
  | 8, _ => exact h8.trans hu
  | 9, _ => exact h9.trans hu
  | 10, _ => exact h10.trans hu
theorem polInfo : (Tryd.prog.info? 28).map (·.size) = some 7 := by kernel_rfl
theorem cel_new (w : World) (cs : Array Value) (T : TypeId) : Cel (w.alloc (.cells cs T)) w.heap.size cs T := heap_alloc_new w _
theorem since_allocs : ∀ (l : List Obj) (w : World), Since w (l.foldl World.alloc w)
  | [], _ => Since.refl _
  | o :: l, w => ((Since.refl w).alloc o).trans (since_allocs l (w.alloc o))
theorem cel_at {cs : Array Value} {T : TypeId} : ∀ {l : List Obj} {w w1 : World}, Since (l.foldl World.alloc w) w1 → ∀ (j : Nat), l[j]? = some (.cells cs T) → Cel w1 (w.heap.size + j) cs T
  | [], _, _, _, j, hj => by cases hj
  | o :: l, w, w1, hb, 0, hj => by
    have e : o = .cells cs T := by simpa using hj
    subst e
    exact (cel_new w cs T).next ((since_allocs l _).trans hb)
  | o :: l, w, w1, hb, j + 1, hj => by
    have h := cel_at (l := l) (w := w.alloc o) hb j (by simpa using hj)
    rw [World.size_alloc] at h
    rwa [show w.heap.size + (j + 1) = w.heap.size + 1 + j by omega]
def smallP : Pol := ⟨[[97, 108, 105, 99, 101], [98, 111, 98], [99, 97, 114, 111, 108]], [([112], 1), ([113], 2), ([111, 112, 101, 110], 0)], [([97, 108, 105, 99, 101], [[99, 97, 114, 111, 108], [98, 111, 98]])], 3, 100, [((([97, 108, 105, 99, 101], [112], 1, (true, [88]), (false, []), (false, []), (false, [])) : Atm), [(([98, 111, 98], [113], 2, (true, [88]), (true, [89]), (false, []), (false, [])) : Atm), (([99, 97, 114, 111, 108], [112], 1, (true, [89]), (false, []), (false, []), (false, [])) : Atm)])], [([98, 111, 98], (([97, 108, 105, 99, 101], [113], 2, (true, [88]), (true, [89]), (false, []), (false, [])) : Atm), [(([99, 97, 114, 111, 108], [112], 1, (true, [88]), (false, []), (false, []), (false, [])) : Atm)])]⟩
set_option maxHeartbeats 0 in
set_option maxRecDepth 100000 in
theorem ksmall_any (w : World) :
    Calls Tryd.prog 24 #[] w fun e w' => ∃ ap ad ac ar ag : Option Addr, e = .returned (.agg #[.slice ap 3 3, .slice ad 3 3, .slice ac 1 1, .int .i64 3, .int .i64 100, .slice ar 1 1, .slice ag 1 1]) ∧ PolAt w' ap ad ac ar ag 3 3 3 3 1 1 1 1 1 1 3 100 smallP ∧ Since w w' := by
  have hw0 := Since.refl w
  go_enter Tryd.func24, Tryd.ntmps24
  go_wp2_with fail
  refine (kA_X [97, 108, 105, 99, 101] [112] _ 0 _ _ (cel_at (l := [_, _, _, _, _, _]) (Since.refl _) 5 rfl |>.cell 0)).mono ?_
  rintro e w1 ⟨rfl, hb⟩
  have c0 : Cel w1 (w.heap.size) #[.slice none 0 0, .slice none 0 0, .slice none 0 0, .int .i64 0, .int .i64 0, .slice none 0 0, .slice none 0 0] 28 := cel_at (l := [_, _, _, _, _, _]) hb 0 rfl
  have c1 : Cel w1 (w.heap.size + 1) #[.string ⟨#[97, 108, 105, 99, 101]⟩, .string ⟨#[98, 111, 98]⟩, .string ⟨#[99, 97, 114, 111, 108]⟩] 9 := cel_at (l := [_, _, _, _, _, _]) hb 1 rfl
  have c2 : Cel w1 (w.heap.size + 1 + 1) #[.string ⟨#[112]⟩, .int .i64 1, .string ⟨#[113]⟩, .int .i64 2, .string ⟨#[111, 112, 101, 110]⟩, .int .i64 0] 47 := cel_at (l := [_, _, _, _, _, _]) hb 2 rfl
  have c3 : Cel w1 (w.heap.size + 1 + 1 + 1) #[.string ⟨#[99, 97, 114, 111, 108]⟩, .string ⟨#[98, 111, 98]⟩] 9 := cel_at (l := [_, _, _, _, _, _]) hb 3 rfl
  have c4 : Cel w1 (w.heap.size + 1 + 1 + 1 + 1) #[.string ⟨#[97, 108, 105, 99, 101]⟩, .slice (some ⟨w.heap.size + 1 + 1 + 1, 0, none⟩) 2 2] 49 := cel_at (l := [_, _, _, _, _, _]) hb 4 rfl
  replace hw0 := hw0.trans ((((((((Since.refl _).alloc _).alloc _).alloc _).alloc _).alloc _).alloc _).trans hb)
  clear hb
  go_wp2_with fail
  refine (kA_X_Y [98, 111, 98] [113] _ 0 _ _ (cel_at (l := [_]) (Since.refl _) 0 rfl |>.cell 0) (cel_at (l := [_]) (Since.refl _) 0 rfl |>.cell 1)).mono ?_
  rintro e w2 ⟨rfl, hb⟩
  replace c0 := c0.next (((Since.refl _).alloc _).trans hb)
  replace c1 := c1.next (((Since.refl _).alloc _).trans hb)
  replace c2 := c2.next (((Since.refl _).alloc _).trans hb)
  replace c3 := c3.next (((Since.refl _).alloc _).trans hb)
  replace c4 := c4.next (((Since.refl _).alloc _).trans hb)
  replace hw0 := hw0.trans (((Since.refl _).alloc _).trans hb)
  clear hb
  go_wp2_with fail
  refine (kA_Y [99, 97, 114, 111, 108] [112] _ 0 _ _ (cel_at (l := [_]) (Since.refl _) 0 rfl |>.cell 0)).mono ?_
  rintro e w3 ⟨rfl, hb⟩
  have hz3 : w.heap.size < w3.heap.size := Nat.lt_of_lt_of_le c0.lt (Nat.le_trans (by simp) hb.size)
  have hz31 : w.heap.size + 1 < w3.heap.size := Nat.lt_of_lt_of_le c1.lt (Nat.le_trans (by simp) hb.size)
  replace c0 := c0.next (((Since.refl _).alloc _).trans hb)
  replace c1 := c1.next (((Since.refl _).alloc _).trans hb)
  replace c2 := c2.next (((Since.refl _).alloc _).trans hb)
  replace c3 := c3.next (((Since.refl _).alloc _).trans hb)
  replace c4 := c4.next (((Since.refl _).alloc _).trans hb)
  replace hw0 := hw0.trans (((Since.refl _).alloc _).trans hb)
  clear hb
  go_wp2_with fail
  refine (kA_X_Y [97, 108, 105, 99, 101] [113] _ 0 _ _ (cel_at (l := [_, _, _]) (Since.refl _) 2 rfl |>.cell 0) (cel_at (l := [_, _, _]) (Since.refl _) 2 rfl |>.cell 1)).mono ?_
  rintro e w4 ⟨rfl, hb⟩
  replace c0 := c0.next (((((Since.refl _).alloc _).alloc _).alloc _).trans hb)
  replace c1 := c1.next (((((Since.refl _).alloc _).alloc _).alloc _).trans hb)
  replace c2 := c2.next (((((Since.refl _).alloc _).alloc _).alloc _).trans hb)
  replace c3 := c3.next (((((Since.refl _).alloc _).alloc _).alloc _).trans hb)
  replace c4 := c4.next (((((Since.refl _).alloc _).alloc _).alloc _).trans hb)
  have c5 : Cel w4 (w3.heap.size) #[.string ⟨#[98, 111, 98]⟩, .string ⟨#[113]⟩, .int .i64 2, .bool true, .string ⟨#[88]⟩, .bool true, .string ⟨#[89]⟩, .bool false, .string ⟨#[]⟩, .bool false, .string ⟨#[]⟩, .string ⟨#[99, 97, 114, 111, 108]⟩, .string ⟨#[112]⟩, .int .i64 1, .bool true, .string ⟨#[89]⟩, .bool false, .string ⟨#[]⟩, .bool false, .string ⟨#[]⟩, .bool false, .string ⟨#[]⟩] 39 := cel_at (l := [_, _, _]) hb 0 rfl
  have c6 : Cel w4 (w3.heap.size + 1) #[.string ⟨#[97, 108, 105, 99, 101]⟩, .string ⟨#[112]⟩, .int .i64 1, .bool true, .string ⟨#[88]⟩, .bool false, .string ⟨#[]⟩, .bool false, .string ⟨#[]⟩, .bool false, .string ⟨#[]⟩, .slice (some ⟨w3.heap.size, 0, none⟩) 2 2] 42 := cel_at (l := [_, _, _]) hb 1 rfl
  replace hw0 := hw0.trans (((((Since.refl _).alloc _).alloc _).alloc _).trans hb)
  clear hb
  go_wp2_with fail
  refine (kA_X [99, 97, 114, 111, 108] [112] _ 0 _ _ (cel_at (l := [_]) (Since.refl _) 0 rfl |>.cell 0)).mono ?_
  rintro e w5 ⟨rfl, hb⟩
  have hz5 : w.heap.size < w5.heap.size := Nat.lt_of_lt_of_le c0.lt (Nat.le_trans (by simp) hb.size)
  replace c0 := c0.next (((Since.refl _).alloc _).trans hb)
  replace c1 := c1.next (((Since.refl _).alloc _).trans hb)
  replace c2 := c2.next (((Since.refl _).alloc _).trans hb)
  replace c3 := c3.next (((Since.refl _).alloc _).trans hb)
  replace c4 := c4.next (((Since.refl _).alloc _).trans hb)
  replace c5 := c5.next (((Since.refl _).alloc _).trans hb)
  replace c6 := c6.next (((Since.refl _).alloc _).trans hb)
  replace hw0 := hw0.trans (((Since.refl _).alloc _).trans hb)
  clear hb
  have hw1 : Since w ((w5.alloc (.cells #[.string ⟨#[99, 97, 114, 111, 108]⟩, .string ⟨#[112]⟩, .int .i64 1, .bool true, .string ⟨#[88]⟩, .bool false, .string ⟨#[]⟩, .bool false, .string ⟨#[]⟩, .bool false, .string ⟨#[]⟩] 39)).alloc (.cells #[.string ⟨#[98, 111, 98]⟩, .string ⟨#[97, 108, 105, 99, 101]⟩, .string ⟨#[113]⟩, .int .i64 2, .bool true, .string ⟨#[88]⟩, .bool true, .string ⟨#[89]⟩, .bool false, .string ⟨#[]⟩, .bool false, .string ⟨#[]⟩, .slice (some ⟨w5.heap.size, 0, none⟩) 1 1] 54)) := (hw0.alloc _).alloc _
  replace c0 := c0.next (((Since.refl _).alloc (.cells #[.string ⟨#[99, 97, 114, 111, 108]⟩, .string ⟨#[112]⟩, .int .i64 1, .bool true, .string ⟨#[88]⟩, .bool false, .string ⟨#[]⟩, .bool false, .string ⟨#[]⟩, .bool false, .string ⟨#[]⟩] 39)).alloc (.cells #[.string ⟨#[98, 111, 98]⟩, .string ⟨#[97, 108, 105, 99, 101]⟩, .string ⟨#[113]⟩, .int .i64 2, .bool true, .string ⟨#[88]⟩, .bool true, .string ⟨#[89]⟩, .bool false, .string ⟨#[]⟩, .bool false, .string ⟨#[]⟩, .slice (some ⟨w5.heap.size, 0, none⟩) 1 1] 54))
  replace c1 := c1.next (((Since.refl _).alloc (.cells #[.string ⟨#[99, 97, 114, 111, 108]⟩, .string ⟨#[112]⟩, .int .i64 1, .bool true, .string ⟨#[88]⟩, .bool false, .string ⟨#[]⟩, .bool false, .string ⟨#[]⟩, .bool false, .string ⟨#[]⟩] 39)).alloc (.cells #[.string ⟨#[98, 111, 98]⟩, .string ⟨#[97, 108, 105, 99, 101]⟩, .string ⟨#[113]⟩, .int .i64 2, .bool true, .string ⟨#[88]⟩, .bool true, .string ⟨#[89]⟩, .bool false, .string ⟨#[]⟩, .bool false, .string ⟨#[]⟩, .slice (some ⟨w5.heap.size, 0, none⟩) 1 1] 54))
  replace c2 := c2.next (((Since.refl _).alloc (.cells #[.string ⟨#[99, 97, 114, 111, 108]⟩, .string ⟨#[112]⟩, .int .i64 1, .bool true, .string ⟨#[88]⟩, .bool false, .string ⟨#[]⟩, .bool false, .string ⟨#[]⟩, .bool false, .string ⟨#[]⟩] 39)).alloc (.cells #[.string ⟨#[98, 111, 98]⟩, .string ⟨#[97, 108, 105, 99, 101]⟩, .string ⟨#[113]⟩, .int .i64 2, .bool true, .string ⟨#[88]⟩, .bool true, .string ⟨#[89]⟩, .bool false, .string ⟨#[]⟩, .bool false, .string ⟨#[]⟩, .slice (some ⟨w5.heap.size, 0, none⟩) 1 1] 54))
  replace c3 := c3.next (((Since.refl _).alloc (.cells #[.string ⟨#[99, 97, 114, 111, 108]⟩, .string ⟨#[112]⟩, .int .i64 1, .bool true, .string ⟨#[88]⟩, .bool false, .string ⟨#[]⟩, .bool false, .string ⟨#[]⟩, .bool false, .string ⟨#[]⟩] 39)).alloc (.cells #[.string ⟨#[98, 111, 98]⟩, .string ⟨#[97, 108, 105, 99, 101]⟩, .string ⟨#[113]⟩, .int .i64 2, .bool true, .string ⟨#[88]⟩, .bool true, .string ⟨#[89]⟩, .bool false, .string ⟨#[]⟩, .bool false, .string ⟨#[]⟩, .slice (some ⟨w5.heap.size, 0, none⟩) 1 1] 54))
  replace c4 := c4.next (((Since.refl _).alloc (.cells #[.string ⟨#[99, 97, 114, 111, 108]⟩, .string ⟨#[112]⟩, .int .i64 1, .bool true, .string ⟨#[88]⟩, .bool false, .string ⟨#[]⟩, .bool false, .string ⟨#[]⟩, .bool false, .string ⟨#[]⟩] 39)).alloc (.cells #[.string ⟨#[98, 111, 98]⟩, .string ⟨#[97, 108, 105, 99, 101]⟩, .string ⟨#[113]⟩, .int .i64 2, .bool true, .string ⟨#[88]⟩, .bool true, .string ⟨#[89]⟩, .bool false, .string ⟨#[]⟩, .bool false, .string ⟨#[]⟩, .slice (some ⟨w5.heap.size, 0, none⟩) 1 1] 54))
  replace c5 := c5.next (((Since.refl _).alloc (.cells #[.string ⟨#[99, 97, 114, 111, 108]⟩, .string ⟨#[112]⟩, .int .i64 1, .bool true, .string ⟨#[88]⟩, .bool false, .string ⟨#[]⟩, .bool false, .string ⟨#[]⟩, .bool false, .string ⟨#[]⟩] 39)).alloc (.cells #[.string ⟨#[98, 111, 98]⟩, .string ⟨#[97, 108, 105, 99, 101]⟩, .string ⟨#[113]⟩, .int .i64 2, .bool true, .string ⟨#[88]⟩, .bool true, .string ⟨#[89]⟩, .bool false, .string ⟨#[]⟩, .bool false, .string ⟨#[]⟩, .slice (some ⟨w5.heap.size, 0, none⟩) 1 1] 54))
  replace c6 := c6.next (((Since.refl _).alloc (.cells #[.string ⟨#[99, 97, 114, 111, 108]⟩, .string ⟨#[112]⟩, .int .i64 1, .bool true, .string ⟨#[88]⟩, .bool false, .string ⟨#[]⟩, .bool false, .string ⟨#[]⟩, .bool false, .string ⟨#[]⟩] 39)).alloc (.cells #[.string ⟨#[98, 111, 98]⟩, .string ⟨#[97, 108, 105, 99, 101]⟩, .string ⟨#[113]⟩, .int .i64 2, .bool true, .string ⟨#[88]⟩, .bool true, .string ⟨#[89]⟩, .bool false, .string ⟨#[]⟩, .bool false, .string ⟨#[]⟩, .slice (some ⟨w5.heap.size, 0, none⟩) 1 1] 54))
  have c7 : Cel ((w5.alloc (.cells #[.string ⟨#[99, 97, 114, 111, 108]⟩, .string ⟨#[112]⟩, .int .i64 1, .bool true, .string ⟨#[88]⟩, .bool false, .string ⟨#[]⟩, .bool false, .string ⟨#[]⟩, .bool false, .string ⟨#[]⟩] 39)).alloc (.cells #[.string ⟨#[98, 111, 98]⟩, .string ⟨#[97, 108, 105, 99, 101]⟩, .string ⟨#[113]⟩, .int .i64 2, .bool true, .string ⟨#[88]⟩, .bool true, .string ⟨#[89]⟩, .bool false, .string ⟨#[]⟩, .bool false, .string ⟨#[]⟩, .slice (some ⟨w5.heap.size, 0, none⟩) 1 1] 54)) (w5.heap.size) #[.string ⟨#[99, 97, 114, 111, 108]⟩, .string ⟨#[112]⟩, .int .i64 1, .bool true, .string ⟨#[88]⟩, .bool false, .string ⟨#[]⟩, .bool false, .string ⟨#[]⟩, .bool false, .string ⟨#[]⟩] 39 := cel_at (l := [_, _]) (Since.refl _) 0 rfl
  have c8 : Cel ((w5.alloc (.cells #[.string ⟨#[99, 97, 114, 111, 108]⟩, .string ⟨#[112]⟩, .int .i64 1, .bool true, .string ⟨#[88]⟩, .bool false, .string ⟨#[]⟩, .bool false, .string ⟨#[]⟩, .bool false, .string ⟨#[]⟩] 39)).alloc (.cells #[.string ⟨#[98, 111, 98]⟩, .string ⟨#[97, 108, 105, 99, 101]⟩, .string ⟨#[113]⟩, .int .i64 2, .bool true, .string ⟨#[88]⟩, .bool true, .string ⟨#[89]⟩, .bool false, .string ⟨#[]⟩, .bool false, .string ⟨#[]⟩, .slice (some ⟨w5.heap.size, 0, none⟩) 1 1] 54)) (w5.heap.size + 1) #[.string ⟨#[98, 111, 98]⟩, .string ⟨#[97, 108, 105, 99, 101]⟩, .string ⟨#[113]⟩, .int .i64 2, .bool true, .string ⟨#[88]⟩, .bool true, .string ⟨#[89]⟩, .bool false, .string ⟨#[]⟩, .bool false, .string ⟨#[]⟩, .slice (some ⟨w5.heap.size, 0, none⟩) 1 1] 54 := cel_at (l := [_, _]) (Since.refl _) 1 rfl
  have hone : Hid (((#[.slice (some ⟨w.heap.size + 1, 0, none⟩) 3 3, .slice (some ⟨w.heap.size + 1 + 1, 0, none⟩) 3 3, .slice (some ⟨w.heap.size + 1 + 1 + 1 + 1, 0, none⟩) 1 1, .int .i64 3, .int .i64 100, .slice (some ⟨w3.heap.size + 1, 0, none⟩) 1 1, .slice (some ⟨w5.heap.size + 1, 0, none⟩) 1 1] : Array Value).all (·.oneCell')) = true) := by show _ = _; simp [Value.oneCell']
  obtain ⟨n1, n2, n3, n4⟩ : w.heap.size < w3.heap.size ∧ w.heap.size < w5.heap.size ∧ w.heap.size + 1 < w3.heap.size ∧ True := ⟨hz3, hz5, hz31, trivial⟩
  go_wp2_with (refine wpList_store_row rfl 28 (.tmp 0) (.tmp 25) rfl w.heap.size #[.slice (some ⟨w.heap.size + 1, 0, none⟩) 3 3, .slice (some ⟨w.heap.size + 1 + 1, 0, none⟩) 3 3, .slice (some ⟨w.heap.size + 1 + 1 + 1 + 1, 0, none⟩) 1 1, .int .i64 3, .int .i64 100, .slice (some ⟨w3.heap.size + 1, 0, none⟩) 1 1, .slice (some ⟨w5.heap.size + 1, 0, none⟩) 1 1] rfl rfl 28 #[.slice none 0 0, .slice none 0 0, .slice none 0 0, .int .i64 0, .int .i64 0, .slice none 0 0, .slice none 0 0] c0 polInfo rfl hone.out ?_)
  have hz := hw1.size
  obtain ⟨e0, e1, e2, e3, e4, e5, e6⟩ : PBox (((w5.alloc (.cells #[.string ⟨#[99, 97, 114, 111, 108]⟩, .string ⟨#[112]⟩, .int .i64 1, .bool true, .string ⟨#[88]⟩, .bool false, .string ⟨#[]⟩, .bool false, .string ⟨#[]⟩, .bool false, .string ⟨#[]⟩] 39)).alloc (.cells #[.string ⟨#[98, 111, 98]⟩, .string ⟨#[97, 108, 105, 99, 101]⟩, .string ⟨#[113]⟩, .int .i64 2, .bool true, .string ⟨#[88]⟩, .bool true, .string ⟨#[89]⟩, .bool false, .string ⟨#[]⟩, .bool false, .string ⟨#[]⟩, .slice (some ⟨w5.heap.size, 0, none⟩) 1 1] 54)).setRow w.heap.size #[.slice (some ⟨w.heap.size + 1, 0, none⟩) 3 3, .slice (some ⟨w.heap.size + 1 + 1, 0, none⟩) 3 3, .slice (some ⟨w.heap.size + 1 + 1 + 1 + 1, 0, none⟩) 1 1, .int .i64 3, .int .i64 100, .slice (some ⟨w3.heap.size + 1, 0, none⟩) 1 1, .slice (some ⟨w5.heap.size + 1, 0, none⟩) 1 1]) w.heap.size (some ⟨w.heap.size + 1, 0, none⟩) (some ⟨w.heap.size + 1 + 1, 0, none⟩) (some ⟨w.heap.size + 1 + 1 + 1 + 1, 0, none⟩) (some ⟨w3.heap.size + 1, 0, none⟩) (some ⟨w5.heap.size + 1, 0, none⟩) 3 3 3 3 1 1 1 1 1 1 3 100 := ⟨(c0.row _).cell 0, (c0.row _).cell 1, (c0.row _).cell 2, (c0.row _).cell 3, (c0.row _).cell 4, (c0.row _).cell 5, (c0.row _).cell 6⟩
  replace c1 := c1.farRow (B := w.heap.size) (by omega) #[.slice (some ⟨w.heap.size + 1, 0, none⟩) 3 3, .slice (some ⟨w.heap.size + 1 + 1, 0, none⟩) 3 3, .slice (some ⟨w.heap.size + 1 + 1 + 1 + 1, 0, none⟩) 1 1, .int .i64 3, .int .i64 100, .slice (some ⟨w3.heap.size + 1, 0, none⟩) 1 1, .slice (some ⟨w5.heap.size + 1, 0, none⟩) 1 1]
  replace c2 := c2.farRow (B := w.heap.size) (by omega) #[.slice (some ⟨w.heap.size + 1, 0, none⟩) 3 3, .slice (some ⟨w.heap.size + 1 + 1, 0, none⟩) 3 3, .slice (some ⟨w.heap.size + 1 + 1 + 1 + 1, 0, none⟩) 1 1, .int .i64 3, .int .i64 100, .slice (some ⟨w3.heap.size + 1, 0, none⟩) 1 1, .slice (some ⟨w5.heap.size + 1, 0, none⟩) 1 1]
  replace c3 := c3.farRow (B := w.heap.size) (by omega) #[.slice (some ⟨w.heap.size + 1, 0, none⟩) 3 3, .slice (some ⟨w.heap.size + 1 + 1, 0, none⟩) 3 3, .slice (some ⟨w.heap.size + 1 + 1 + 1 + 1, 0, none⟩) 1 1, .int .i64 3, .int .i64 100, .slice (some ⟨w3.heap.size + 1, 0, none⟩) 1 1, .slice (some ⟨w5.heap.size + 1, 0, none⟩) 1 1]
  replace c4 := c4.farRow (B := w.heap.size) (by omega) #[.slice (some ⟨w.heap.size + 1, 0, none⟩) 3 3, .slice (some ⟨w.heap.size + 1 + 1, 0, none⟩) 3 3, .slice (some ⟨w.heap.size + 1 + 1 + 1 + 1, 0, none⟩) 1 1, .int .i64 3, .int .i64 100, .slice (some ⟨w3.heap.size + 1, 0, none⟩) 1 1, .slice (some ⟨w5.heap.size + 1, 0, none⟩) 1 1]
  replace c5 := c5.farRow (B := w.heap.size) (by omega) #[.slice (some ⟨w.heap.size + 1, 0, none⟩) 3 3, .slice (some ⟨w.heap.size + 1 + 1, 0, none⟩) 3 3, .slice (some ⟨w.heap.size + 1 + 1 + 1 + 1, 0, none⟩) 1 1, .int .i64 3, .int .i64 100, .slice (some ⟨w3.heap.size + 1, 0, none⟩) 1 1, .slice (some ⟨w5.heap.size + 1, 0, none⟩) 1 1]
  replace c6 := c6.farRow (B := w.heap.size) (by omega) #[.slice (some ⟨w.heap.size + 1, 0, none⟩) 3 3, .slice (some ⟨w.heap.size + 1 + 1, 0, none⟩) 3 3, .slice (some ⟨w.heap.size + 1 + 1 + 1 + 1, 0, none⟩) 1 1, .int .i64 3, .int .i64 100, .slice (some ⟨w3.heap.size + 1, 0, none⟩) 1 1, .slice (some ⟨w5.heap.size + 1, 0, none⟩) 1 1]
  replace c7 := c7.farRow (B := w.heap.size) (by omega) #[.slice (some ⟨w.heap.size + 1, 0, none⟩) 3 3, .slice (some ⟨w.heap.size + 1 + 1, 0, none⟩) 3 3, .slice (some ⟨w.heap.size + 1 + 1 + 1 + 1, 0, none⟩) 1 1, .int .i64 3, .int .i64 100, .slice (some ⟨w3.heap.size + 1, 0, none⟩) 1 1, .slice (some ⟨w5.heap.size + 1, 0, none⟩) 1 1]
  replace c8 := c8.farRow (B := w.heap.size) (by omega) #[.slice (some ⟨w.heap.size + 1, 0, none⟩) 3 3, .slice (some ⟨w.heap.size + 1 + 1, 0, none⟩) 3 3, .slice (some ⟨w.heap.size + 1 + 1 + 1 + 1, 0, none⟩) 1 1, .int .i64 3, .int .i64 100, .slice (some ⟨w3.heap.size + 1, 0, none⟩) 1 1, .slice (some ⟨w5.heap.size + 1, 0, none⟩) 1 1]
  replace hw1 := since_setRow hw1 (Nat.le_refl _) #[.slice (some ⟨w.heap.size + 1, 0, none⟩) 3 3, .slice (some ⟨w.heap.size + 1 + 1, 0, none⟩) 3 3, .slice (some ⟨w.heap.size + 1 + 1 + 1 + 1, 0, none⟩) 1 1, .int .i64 3, .int .i64 100, .slice (some ⟨w3.heap.size + 1, 0, none⟩) 1 1, .slice (some ⟨w5.heap.size + 1, 0, none⟩) 1 1]
  have hP : PolAt (((w5.alloc (.cells #[.string ⟨#[99, 97, 114, 111, 108]⟩, .string ⟨#[112]⟩, .int .i64 1, .bool true, .string ⟨#[88]⟩, .bool false, .string ⟨#[]⟩, .bool false, .string ⟨#[]⟩, .bool false, .string ⟨#[]⟩] 39)).alloc (.cells #[.string ⟨#[98, 111, 98]⟩, .string ⟨#[97, 108, 105, 99, 101]⟩, .string ⟨#[113]⟩, .int .i64 2, .bool true, .string ⟨#[88]⟩, .bool true, .string ⟨#[89]⟩, .bool false, .string ⟨#[]⟩, .bool false, .string ⟨#[]⟩, .slice (some ⟨w5.heap.size, 0, none⟩) 1 1] 54)).setRow w.heap.size #[.slice (some ⟨w.heap.size + 1, 0, none⟩) 3 3, .slice (some ⟨w.heap.size + 1 + 1, 0, none⟩) 3 3, .slice (some ⟨w.heap.size + 1 + 1 + 1 + 1, 0, none⟩) 1 1, .int .i64 3, .int .i64 100, .slice (some ⟨w3.heap.size + 1, 0, none⟩) 1 1, .slice (some ⟨w5.heap.size + 1, 0, none⟩) 1 1]) (some ⟨w.heap.size + 1, 0, none⟩) (some ⟨w.heap.size + 1 + 1, 0, none⟩) (some ⟨w.heap.size + 1 + 1 + 1 + 1, 0, none⟩) (some ⟨w3.heap.size + 1, 0, none⟩) (some ⟨w5.heap.size + 1, 0, none⟩) 3 3 3 3 1 1 1 1 1 1 3 100 smallP := ⟨krow_three (c1.cell 0) (c1.cell 1) (c1.cell 2), krow_three ⟨c2.cell 0, c2.cell 1⟩ ⟨c2.cell 2, c2.cell 3⟩ ⟨c2.cell 4, c2.cell 5⟩, krow_one ⟨c4.cell 0, _, c4.cell 1, krow_two (c3.cell 0) (c3.cell 1)⟩, rfl, rfl, krow_one ⟨c6.atm (sub11 rfl rfl rfl rfl rfl rfl rfl rfl rfl rfl rfl rfl), _, c6.cell 11, krow_two (c5.atm (sub11 rfl rfl rfl rfl rfl rfl rfl rfl rfl rfl rfl rfl)) (c5.atm (sub11 rfl rfl rfl rfl rfl rfl rfl rfl rfl rfl rfl rfl))⟩, krow_one ⟨c8.cell 0, c8.atm (sub11 rfl rfl rfl rfl rfl rfl rfl rfl rfl rfl rfl rfl), _, c8.cell 12, krow_one (c7.atm (sub11 rfl rfl rfl rfl rfl rfl rfl rfl rfl rfl rfl rfl))⟩⟩
  clear c1 c2 c3 c4 c5 c6 c7 c8 c0 hone hz n1 n2 n3 n4
  refine bodyPost_ret (v := .agg #[.slice (some ⟨w.heap.size + 1, 0, none⟩) 3 3, .slice (some ⟨w.heap.size + 1 + 1, 0, none⟩) 3 3, .slice (some ⟨w.heap.size + 1 + 1 + 1 + 1, 0, none⟩) 1 1, .int .i64 3, .int .i64 100, .slice (some ⟨w3.heap.size + 1, 0, none⟩) 1 1, .slice (some ⟨w5.heap.size + 1, 0, none⟩) 1 1]) (by simp [results, Tryd.results24, go_sem, e0, e1, e2, e3, e4, e5, e6]) rfl ⟨_, _, _, _, _, rfl, hP, hw1⟩
end Go.Proofs.YtpkggopaigledaaDoor

namespace Go.Proofs.YtpkggopaigledaaDoor
open Go.RowKit

def emptyP : Pol := ⟨[], [], [], 0, 0, [], []⟩
def loneP : Pol := ⟨[[97]], [([112], 1)], [], 0, 1, [((([97], [112], 1, (true, [88]), (false, []), (false, []), (false, [])) : Atm), [])], []⟩
theorem empty_at (W : World) : PolAt W none none none none none 0 0 0 0 0 0 0 0 0 0 0 0 emptyP := ⟨KRow.nil _ _, KRow.nil _ _, KRow.nil _ _, rfl, rfl, KRow.nil _ _, KRow.nil _ _⟩
theorem fits_lit {a : Atm} (h : (decide (a.1.length ≤ 100) && (decide (a.2.1.length ≤ 100) && (argsL a).all fun t => decide (t.2.length ≤ 100))) = true) : FitsA a := by
  simp only [Bool.and_eq_true, decide_eq_true_eq, List.all_eq_true] at h
  unfold FitsA maxLen
  exact ⟨by omega, by omega, fun t ht => by have := h.2.2 t ht; omega⟩
/-- Sizes of a literal policy. -/
def litB (P : Pol) : Bool := P.pr.all (fun x => decide (x.length ≤ 100)) && (decide (P.pr.length ≤ 100) && (P.pd.all (fun x => decide (x.1.length ≤ 100)) && (decide (P.pd.length ≤ 100) && (P.cl.all (fun x => decide (x.1.length ≤ 100) && decide (x.2.length ≤ 100)) && (decide (P.cl.length ≤ 100) &&
  (P.ru.all (fun x => atB x.1 && (x.2.all atB && decide (x.2.length ≤ 100))) && (P.gr.all (fun x => atB x.2.1 && (x.2.2.all atB && decide (x.2.2.length ≤ 100))) && (decide (P.ru.length ≤ 100) && decide (P.gr.length ≤ 100)))))))))
where atB (a : Atm) : Bool := decide (a.1.length ≤ 100) && (decide (a.2.1.length ≤ 100) && (argsL a).all fun t => decide (t.2.length ≤ 100))
theorem lit_fits {P : Pol} (h : litB P = true) : PolFits P := by
  simp only [litB, Bool.and_eq_true, List.all_eq_true, decide_eq_true_eq] at h
  obtain ⟨h1, h2, h3, h4, h5, h6, h7, h8, h9, h10⟩ := h
  have hA : ∀ a : Atm, litB.atB a = true → FitsA a := fun a ha => fits_lit ha
  refine ⟨fun x hx => by have := h1 x hx; unfold maxLen; omega, by omega, fun x hx => by have := h3 x hx; unfold maxLen; omega, by omega, fun x hx => ⟨by have := h5 x hx; unfold maxLen; omega, by have := h5 x hx; omega⟩, by omega, fun x hx => ⟨hA _ (h7 x hx).1, fun a ha => hA a ((h7 x hx).2.1 a ha), by have := (h7 x hx).2.2; omega⟩, fun x hx => ⟨hA _ (h8 x hx).1, fun a ha => hA a ((h8 x hx).2.1 a ha), by have := (h8 x hx).2.2; omega⟩, by omega, by omega⟩
theorem empty_chk : checkE emptyP = 4 := by kernel_rfl
theorem lone_chk : checkE loneP = 9 := by kernel_rfl
theorem small_chk : checkE smallP = 0 := by kernel_rfl
set_option maxHeartbeats 0 in
set_option maxRecDepth 100000 in
theorem lives12_any (w : World) (hE : Env w) :
    Calls Tryd.prog 9 #[] w fun e w' => e = .returned (.bool true) ∧ Since w w' := by
  have HE := Lib.hid hE
  clear hE
  have hw0 := Since.refl w
  go_enter Tryd.func9, Tryd.ntmps9
  go_wp2_with fail
  refine (kA_X [97] [112] _ 0 _ _ (cel_at (l := [_, _, _]) (Since.refl _) 2 rfl |>.cell 0)).mono ?_
  rintro e w1 ⟨rfl, hb⟩
  have c1 := cel_at (l := [.cells #[.string ⟨#[97]⟩] 9, .cells #[.string ⟨#[112]⟩, .int .i64 1] 47, .cells #[.string ⟨#[88]⟩] 9]) hb 0 rfl
  have c2 := cel_at (l := [.cells #[.string ⟨#[97]⟩] 9, .cells #[.string ⟨#[112]⟩, .int .i64 1] 47, .cells #[.string ⟨#[88]⟩] 9]) hb 1 rfl
  replace hw0 := hw0.trans ((((hw0.alloc _).alloc _).alloc _).trans hb)
  clear hb
  have hs : Since w1 ((w1.alloc (.cells #[.string ⟨#[97]⟩, .string ⟨#[112]⟩, .int .i64 1, .bool true, .string ⟨#[88]⟩, .bool false, .string ⟨#[]⟩, .bool false, .string ⟨#[]⟩, .bool false, .string ⟨#[]⟩, .slice none 0 0] 42)).alloc (.cells #[.slice (some ⟨w.heap.size, 0, none⟩) 1 1, .slice (some ⟨w.heap.size + 1, 0, none⟩) 1 1, .slice none 0 0, .int .i64 0, .int .i64 1, .slice (some ⟨w1.heap.size, 0, none⟩) 1 1, .slice none 0 0] 28)) := ((Since.refl _).alloc _).alloc _
  replace c1 := c1.next hs
  replace c2 := c2.next hs
  have c3 : Cel ((w1.alloc (.cells #[.string ⟨#[97]⟩, .string ⟨#[112]⟩, .int .i64 1, .bool true, .string ⟨#[88]⟩, .bool false, .string ⟨#[]⟩, .bool false, .string ⟨#[]⟩, .bool false, .string ⟨#[]⟩, .slice none 0 0] 42)).alloc (.cells #[.slice (some ⟨w.heap.size, 0, none⟩) 1 1, .slice (some ⟨w.heap.size + 1, 0, none⟩) 1 1, .slice none 0 0, .int .i64 0, .int .i64 1, .slice (some ⟨w1.heap.size, 0, none⟩) 1 1, .slice none 0 0] 28)) w1.heap.size #[.string ⟨#[97]⟩, .string ⟨#[112]⟩, .int .i64 1, .bool true, .string ⟨#[88]⟩, .bool false, .string ⟨#[]⟩, .bool false, .string ⟨#[]⟩, .bool false, .string ⟨#[]⟩, .slice none 0 0] 42 := cel_at (l := [_, _]) (Since.refl _) 0 rfl
  have c4 : Cel ((w1.alloc (.cells #[.string ⟨#[97]⟩, .string ⟨#[112]⟩, .int .i64 1, .bool true, .string ⟨#[88]⟩, .bool false, .string ⟨#[]⟩, .bool false, .string ⟨#[]⟩, .bool false, .string ⟨#[]⟩, .slice none 0 0] 42)).alloc (.cells #[.slice (some ⟨w.heap.size, 0, none⟩) 1 1, .slice (some ⟨w.heap.size + 1, 0, none⟩) 1 1, .slice none 0 0, .int .i64 0, .int .i64 1, .slice (some ⟨w1.heap.size, 0, none⟩) 1 1, .slice none 0 0] 28)) (w1.heap.size + 1) #[.slice (some ⟨w.heap.size, 0, none⟩) 1 1, .slice (some ⟨w.heap.size + 1, 0, none⟩) 1 1, .slice none 0 0, .int .i64 0, .int .i64 1, .slice (some ⟨w1.heap.size, 0, none⟩) 1 1, .slice none 0 0] 28 := cel_at (l := [_, _]) (Since.refl _) 1 rfl
  have hp : PolAt ((w1.alloc (.cells #[.string ⟨#[97]⟩, .string ⟨#[112]⟩, .int .i64 1, .bool true, .string ⟨#[88]⟩, .bool false, .string ⟨#[]⟩, .bool false, .string ⟨#[]⟩, .bool false, .string ⟨#[]⟩, .slice none 0 0] 42)).alloc (.cells #[.slice (some ⟨w.heap.size, 0, none⟩) 1 1, .slice (some ⟨w.heap.size + 1, 0, none⟩) 1 1, .slice none 0 0, .int .i64 0, .int .i64 1, .slice (some ⟨w1.heap.size, 0, none⟩) 1 1, .slice none 0 0] 28)) (some ⟨w.heap.size, 0, none⟩) (some ⟨w.heap.size + 1, 0, none⟩) none (some ⟨w1.heap.size, 0, none⟩) none 1 1 1 1 0 0 1 1 0 0 0 1 loneP := ⟨krow_one (c1.cell 0), krow_one ⟨c2.cell 0, c2.cell 1⟩, KRow.nil _ _, rfl, rfl, krow_one ⟨c3.atm (sub11 rfl rfl rfl rfl rfl rfl rfl rfl rfl rfl rfl rfl), _, c3.cell 11, KRow.nil _ _⟩, KRow.nil _ _⟩
  obtain ⟨e0, e1, e2, e3, e4, e5, e6⟩ : PBox ((w1.alloc (.cells #[.string ⟨#[97]⟩, .string ⟨#[112]⟩, .int .i64 1, .bool true, .string ⟨#[88]⟩, .bool false, .string ⟨#[]⟩, .bool false, .string ⟨#[]⟩, .bool false, .string ⟨#[]⟩, .slice none 0 0] 42)).alloc (.cells #[.slice (some ⟨w.heap.size, 0, none⟩) 1 1, .slice (some ⟨w.heap.size + 1, 0, none⟩) 1 1, .slice none 0 0, .int .i64 0, .int .i64 1, .slice (some ⟨w1.heap.size, 0, none⟩) 1 1, .slice none 0 0] 28)) (w1.heap.size + 1) (some ⟨w.heap.size, 0, none⟩) (some ⟨w.heap.size + 1, 0, none⟩) none (some ⟨w1.heap.size, 0, none⟩) none 1 1 1 1 0 0 1 1 0 0 0 1 := ⟨c4.cell 0, c4.cell 1, c4.cell 2, c4.cell 3, c4.cell 4, c4.cell 5, c4.cell 6⟩
  replace hw0 := hw0.trans hs
  have HP := Lib.hid hp
  clear c1 c2 c3 c4 hs hp
  go_wp2_with fail
  generalize ((w1.alloc (.cells #[.string ⟨#[97]⟩, .string ⟨#[112]⟩, .int .i64 1, .bool true, .string ⟨#[88]⟩, .bool false, .string ⟨#[]⟩, .bool false, .string ⟨#[]⟩, .bool false, .string ⟨#[]⟩, .slice none 0 0] 42)).alloc (.cells #[.slice (some ⟨w.heap.size, 0, none⟩) 1 1, .slice (some ⟨w.heap.size + 1, 0, none⟩) 1 1, .slice none 0 0, .int .i64 0, .int .i64 1, .slice (some ⟨w1.heap.size, 0, none⟩) 1 1, .slice none 0 0] 28)) = w2 at *
  refine (fcheck_any none none none none none 0 0 0 0 0 0 0 0 0 0 0 0 emptyP w2 (empty_at _) (lit_fits (by kernel_rfl)) (HE.out.next hw0)).mono ?_
  rintro e w3 ⟨rfl, hb⟩
  rw [empty_chk]
  replace hw0 := hw0.trans hb
  replace HP := Lib.hid (HP.out.next hb)
  replace e0 := hb.cell e0; replace e1 := hb.cell e1; replace e2 := hb.cell e2; replace e3 := hb.cell e3; replace e4 := hb.cell e4; replace e5 := hb.cell e5; replace e6 := hb.cell e6
  clear hb
  go_wp2_with fail
  refine (fcheck_any (some ⟨w.heap.size, 0, none⟩) (some ⟨w.heap.size + 1, 0, none⟩) none (some ⟨w1.heap.size, 0, none⟩) none 1 1 1 1 0 0 1 1 0 0 0 1 loneP w3 HP.out (lit_fits (by kernel_rfl)) (HE.out.next hw0)).mono ?_
  rintro e w4 ⟨rfl, hb⟩
  rw [lone_chk]
  replace hw0 := hw0.trans hb
  clear hb HP
  go_wp2_with fail
  refine (ksmall_any w4).mono ?_
  rintro e w5 ⟨ap, ad, ac, ar, ag, rfl, hp, hb⟩
  replace hw0 := hw0.trans hb
  have HP := Lib.hid hp
  clear hb hp
  go_wp2_with fail
  refine (fcheck_any ap ad ac ar ag 3 3 3 3 1 1 1 1 1 1 3 100 smallP w5 HP.out (lit_fits (by kernel_rfl)) (HE.out.next hw0)).mono ?_
  rintro e w6 ⟨rfl, hb⟩
  rw [small_chk]
  replace hw0 := hw0.trans hb
  clear hb HP
  go_wp2_with fail
  go_ret
  exact ⟨rfl, hw0⟩
end Go.Proofs.YtpkggopaigledaaDoor
