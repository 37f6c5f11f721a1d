/- vouchsafekit.A at the names of the examples of layer 6. -/
import Derived.Test.YtohcehjpdmhjlaaDoorUniI
import Derived.Test.YtohcehjpdmhjlaaDoorEq
import Derived.LoopN
namespace Go.Proofs.YtohcehjpdmhjlaaDoor
open Go.RowKit

set_option maxHeartbeats 400000 in
theorem kC_new (l : List UInt8) (w : World) :
    Calls Tryd.prog 21 #[.string ⟨l.toArray⟩] w fun e w' => e = .returned (.agg #[.bool false, .string ⟨l.toArray⟩]) ∧ w.alloc (.cells #[.bool false, .string ⟨l.toArray⟩] 23) = w' := by
  go_enter Tryd.func21, Tryd.ntmps21
  go_wp2
  exact bodyPost_ret (v := .agg #[.bool false, .string ⟨l.toArray⟩]) (by simp [results, Tryd.results21, go_sem]) rfl ⟨rfl, rfl⟩
theorem kC_since (l : List UInt8) (w : World) :
    Calls Tryd.prog 21 #[.string ⟨l.toArray⟩] w fun e w' => e = .returned (.agg #[.bool false, .string ⟨l.toArray⟩]) ∧ Since w w' := by
  refine (kC_new l w).mono ?_
  rintro e w' ⟨rfl, rfl⟩
  exact ⟨rfl, (Since.refl _).alloc _⟩
set_option maxHeartbeats 2000000 in
set_option maxRecDepth 100000 in
theorem kA_X_b (s p : List UInt8) (b o c : Nat) (w : World) (q0 : w.cell? ⟨b, o, none⟩ = some (.string ⟨#[88]⟩)) (q1 : w.cell? ⟨b, o + 1, none⟩ = some (.string ⟨#[98]⟩)) :
    Calls Tryd.prog 18 #[.string ⟨s.toArray⟩, .string ⟨p.toArray⟩, .slice (some ⟨b, o, none⟩) 2 c] w fun e w' => e = .returned (.agg #[.string ⟨s.toArray⟩, .string ⟨p.toArray⟩, .int .i64 2, .bool true, .string ⟨#[88]⟩, .bool false, .string ⟨#[98]⟩, .bool false, .string ⟨#[]⟩, .bool false, .string ⟨#[]⟩]) ∧ Since w w' := by
  have hblt : b < w.heap.size := World.block_lt_of_cell? w _ q0
  have hblt1 : b < w.heap.size + 1 := by omega
  have hblt2 : b < w.heap.size + 1 + 1 := by omega
  have hblt3 : b < w.heap.size + 1 + 1 + 1 := by omega
  have hblt4 : b < w.heap.size + 1 + 1 + 1 + 1 := by omega
  go_enter Tryd.func18, Tryd.ntmps18
  go_wp2_with fail
  refine wp_loop_rounds 3 ?_
  rw [rounds_succ]
  go_wp2_with (go_at_call 21; refine (kC_new [88] _).mono ?_; rintro e w1 ⟨rfl, rfl⟩)
  rw [rounds_succ]
  go_wp2_with (go_at_call 21; refine (kC_new [98] _).mono ?_; rintro e w1 ⟨rfl, rfl⟩)
  rw [rounds_succ]
  go_wp2_with fail
  refine bodyPost_ret (v := .agg #[.string ⟨s.toArray⟩, .string ⟨p.toArray⟩, .int .i64 2, .bool true, .string ⟨#[88]⟩, .bool false, .string ⟨#[98]⟩, .bool false, .string ⟨#[]⟩, .bool false, .string ⟨#[]⟩]) (by simp [results, Tryd.results18, go_sem]) rfl ⟨rfl, ?_⟩
  repeat (first | exact Since.refl _ | refine Since.alloc ?_ _ | refine Since.setCell ?_ (by simp) _)

set_option maxHeartbeats 2000000 in
set_option maxRecDepth 100000 in
theorem kA_a_Y (s p : List UInt8) (b o c : Nat) (w : World) (q0 : w.cell? ⟨b, o, none⟩ = some (.string ⟨#[97]⟩)) (q1 : w.cell? ⟨b, o + 1, none⟩ = some (.string ⟨#[89]⟩)) :
    Calls Tryd.prog 18 #[.string ⟨s.toArray⟩, .string ⟨p.toArray⟩, .slice (some ⟨b, o, none⟩) 2 c] w fun e w' => e = .returned (.agg #[.string ⟨s.toArray⟩, .string ⟨p.toArray⟩, .int .i64 2, .bool false, .string ⟨#[97]⟩, .bool true, .string ⟨#[89]⟩, .bool false, .string ⟨#[]⟩, .bool false, .string ⟨#[]⟩]) ∧ Since w w' := by
  have hblt : b < w.heap.size := World.block_lt_of_cell? w _ q0
  have hblt1 : b < w.heap.size + 1 := by omega
  have hblt2 : b < w.heap.size + 1 + 1 := by omega
  have hblt3 : b < w.heap.size + 1 + 1 + 1 := by omega
  have hblt4 : b < w.heap.size + 1 + 1 + 1 + 1 := by omega
  go_enter Tryd.func18, Tryd.ntmps18
  go_wp2_with fail
  refine wp_loop_rounds 3 ?_
  rw [rounds_succ]
  go_wp2_with (go_at_call 21; refine (kC_new [97] _).mono ?_; rintro e w1 ⟨rfl, rfl⟩)
  rw [rounds_succ]
  go_wp2_with (go_at_call 21; refine (kC_new [89] _).mono ?_; rintro e w1 ⟨rfl, rfl⟩)
  rw [rounds_succ]
  go_wp2_with fail
  refine bodyPost_ret (v := .agg #[.string ⟨s.toArray⟩, .string ⟨p.toArray⟩, .int .i64 2, .bool false, .string ⟨#[97]⟩, .bool true, .string ⟨#[89]⟩, .bool false, .string ⟨#[]⟩, .bool false, .string ⟨#[]⟩]) (by simp [results, Tryd.results18, go_sem]) rfl ⟨rfl, ?_⟩
  repeat (first | exact Since.refl _ | refine Since.alloc ?_ _ | refine Since.setCell ?_ (by simp) _)

set_option maxHeartbeats 2000000 in
set_option maxRecDepth 100000 in
theorem kA_X_Y (s p : List UInt8) (b o c : Nat) (w : World) (q0 : w.cell? ⟨b, o, none⟩ = some (.string ⟨#[88]⟩)) (q1 : w.cell? ⟨b, o + 1, none⟩ = some (.string ⟨#[89]⟩)) :
    Calls Tryd.prog 18 #[.string ⟨s.toArray⟩, .string ⟨p.toArray⟩, .slice (some ⟨b, o, none⟩) 2 c] w fun e w' => e = .returned (.agg #[.string ⟨s.toArray⟩, .string ⟨p.toArray⟩, .int .i64 2, .bool true, .string ⟨#[88]⟩, .bool true, .string ⟨#[89]⟩, .bool false, .string ⟨#[]⟩, .bool false, .string ⟨#[]⟩]) ∧ Since w w' := by
  have hblt : b < w.heap.size := World.block_lt_of_cell? w _ q0
  have hblt1 : b < w.heap.size + 1 := by omega
  have hblt2 : b < w.heap.size + 1 + 1 := by omega
  have hblt3 : b < w.heap.size + 1 + 1 + 1 := by omega
  have hblt4 : b < w.heap.size + 1 + 1 + 1 + 1 := by omega
  go_enter Tryd.func18, Tryd.ntmps18
  go_wp2_with fail
  refine wp_loop_rounds 3 ?_
  rw [rounds_succ]
  go_wp2_with (go_at_call 21; refine (kC_new [88] _).mono ?_; rintro e w1 ⟨rfl, rfl⟩)
  rw [rounds_succ]
  go_wp2_with (go_at_call 21; refine (kC_new [89] _).mono ?_; rintro e w1 ⟨rfl, rfl⟩)
  rw [rounds_succ]
  go_wp2_with fail
  refine bodyPost_ret (v := .agg #[.string ⟨s.toArray⟩, .string ⟨p.toArray⟩, .int .i64 2, .bool true, .string ⟨#[88]⟩, .bool true, .string ⟨#[89]⟩, .bool false, .string ⟨#[]⟩, .bool false, .string ⟨#[]⟩]) (by simp [results, Tryd.results18, go_sem]) rfl ⟨rfl, ?_⟩
  repeat (first | exact Since.refl _ | refine Since.alloc ?_ _ | refine Since.setCell ?_ (by simp) _)

set_option maxHeartbeats 2000000 in
set_option maxRecDepth 100000 in
theorem kA_Y_a (s p : List UInt8) (b o c : Nat) (w : World) (q0 : w.cell? ⟨b, o, none⟩ = some (.string ⟨#[89]⟩)) (q1 : w.cell? ⟨b, o + 1, none⟩ = some (.string ⟨#[97]⟩)) :
    Calls Tryd.prog 18 #[.string ⟨s.toArray⟩, .string ⟨p.toArray⟩, .slice (some ⟨b, o, none⟩) 2 c] w fun e w' => e = .returned (.agg #[.string ⟨s.toArray⟩, .string ⟨p.toArray⟩, .int .i64 2, .bool true, .string ⟨#[89]⟩, .bool false, .string ⟨#[97]⟩, .bool false, .string ⟨#[]⟩, .bool false, .string ⟨#[]⟩]) ∧ Since w w' := by
  have hblt : b < w.heap.size := World.block_lt_of_cell? w _ q0
  have hblt1 : b < w.heap.size + 1 := by omega
  have hblt2 : b < w.heap.size + 1 + 1 := by omega
  have hblt3 : b < w.heap.size + 1 + 1 + 1 := by omega
  have hblt4 : b < w.heap.size + 1 + 1 + 1 + 1 := by omega
  go_enter Tryd.func18, Tryd.ntmps18
  go_wp2_with fail
  refine wp_loop_rounds 3 ?_
  rw [rounds_succ]
  go_wp2_with (go_at_call 21; refine (kC_new [89] _).mono ?_; rintro e w1 ⟨rfl, rfl⟩)
  rw [rounds_succ]
  go_wp2_with (go_at_call 21; refine (kC_new [97] _).mono ?_; rintro e w1 ⟨rfl, rfl⟩)
  rw [rounds_succ]
  go_wp2_with fail
  refine bodyPost_ret (v := .agg #[.string ⟨s.toArray⟩, .string ⟨p.toArray⟩, .int .i64 2, .bool true, .string ⟨#[89]⟩, .bool false, .string ⟨#[97]⟩, .bool false, .string ⟨#[]⟩, .bool false, .string ⟨#[]⟩]) (by simp [results, Tryd.results18, go_sem]) rfl ⟨rfl, ?_⟩
  repeat (first | exact Since.refl _ | refine Since.alloc ?_ _ | refine Since.setCell ?_ (by simp) _)

end Go.Proofs.YtohcehjpdmhjlaaDoor
