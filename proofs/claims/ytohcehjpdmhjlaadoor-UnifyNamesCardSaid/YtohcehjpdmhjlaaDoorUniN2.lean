/- vouchsafekit.A at the further names of UnifyNames; V. -/
import Derived.Test.YtohcehjpdmhjlaaDoorUniN
namespace Go.Proofs.YtohcehjpdmhjlaaDoor
open Go.RowKit

set_option maxHeartbeats 2000000 in
set_option maxRecDepth 100000 in
theorem kA_A_B (s p : List UInt8) (b o c : Nat) (w : World) (q0 : w.cell? ⟨b, o, none⟩ = some (.string ⟨#[65]⟩)) (q1 : w.cell? ⟨b, o + 1, none⟩ = some (.string ⟨#[66]⟩)) :
    Calls Tryd.prog 18 #[.string ⟨s.toArray⟩, .string ⟨p.toArray⟩, .slice (some ⟨b, o, none⟩) 2 c] w fun e w' => e = .returned (.agg #[.string ⟨s.toArray⟩, .string ⟨p.toArray⟩, .int .i64 2, .bool true, .string ⟨#[65]⟩, .bool true, .string ⟨#[66]⟩, .bool false, .string ⟨#[]⟩, .bool false, .string ⟨#[]⟩]) ∧ Since w w' := by
  have hblt : b < w.heap.size := World.block_lt_of_cell? w _ q0
  have hblt1 : b < w.heap.size + 1 := by omega
  have hblt2 : b < w.heap.size + 1 + 1 := by omega
  have hblt3 : b < w.heap.size + 1 + 1 + 1 := by omega
  have hblt4 : b < w.heap.size + 1 + 1 + 1 + 1 := by omega
  go_enter Tryd.func18, Tryd.ntmps18
  go_wp2_with fail
  refine wp_loop_rounds 3 ?_
  rw [rounds_succ]
  go_wp2_with (go_at_call 21; refine (kC_new [65] _).mono ?_; rintro e w1 ⟨rfl, rfl⟩)
  rw [rounds_succ]
  go_wp2_with (go_at_call 21; refine (kC_new [66] _).mono ?_; rintro e w1 ⟨rfl, rfl⟩)
  rw [rounds_succ]
  go_wp2_with fail
  refine bodyPost_ret (v := .agg #[.string ⟨s.toArray⟩, .string ⟨p.toArray⟩, .int .i64 2, .bool true, .string ⟨#[65]⟩, .bool true, .string ⟨#[66]⟩, .bool false, .string ⟨#[]⟩, .bool false, .string ⟨#[]⟩]) (by simp [results, Tryd.results18, go_sem]) rfl ⟨rfl, ?_⟩
  repeat (first | exact Since.refl _ | refine Since.alloc ?_ _ | refine Since.setCell ?_ (by simp) _)

set_option maxHeartbeats 2000000 in
set_option maxRecDepth 100000 in
theorem kA_B_C (s p : List UInt8) (b o c : Nat) (w : World) (q0 : w.cell? ⟨b, o, none⟩ = some (.string ⟨#[66]⟩)) (q1 : w.cell? ⟨b, o + 1, none⟩ = some (.string ⟨#[67]⟩)) :
    Calls Tryd.prog 18 #[.string ⟨s.toArray⟩, .string ⟨p.toArray⟩, .slice (some ⟨b, o, none⟩) 2 c] w fun e w' => e = .returned (.agg #[.string ⟨s.toArray⟩, .string ⟨p.toArray⟩, .int .i64 2, .bool true, .string ⟨#[66]⟩, .bool true, .string ⟨#[67]⟩, .bool false, .string ⟨#[]⟩, .bool false, .string ⟨#[]⟩]) ∧ Since w w' := by
  have hblt : b < w.heap.size := World.block_lt_of_cell? w _ q0
  have hblt1 : b < w.heap.size + 1 := by omega
  have hblt2 : b < w.heap.size + 1 + 1 := by omega
  have hblt3 : b < w.heap.size + 1 + 1 + 1 := by omega
  have hblt4 : b < w.heap.size + 1 + 1 + 1 + 1 := by omega
  go_enter Tryd.func18, Tryd.ntmps18
  go_wp2_with fail
  refine wp_loop_rounds 3 ?_
  rw [rounds_succ]
  go_wp2_with (go_at_call 21; refine (kC_new [66] _).mono ?_; rintro e w1 ⟨rfl, rfl⟩)
  rw [rounds_succ]
  go_wp2_with (go_at_call 21; refine (kC_new [67] _).mono ?_; rintro e w1 ⟨rfl, rfl⟩)
  rw [rounds_succ]
  go_wp2_with fail
  refine bodyPost_ret (v := .agg #[.string ⟨s.toArray⟩, .string ⟨p.toArray⟩, .int .i64 2, .bool true, .string ⟨#[66]⟩, .bool true, .string ⟨#[67]⟩, .bool false, .string ⟨#[]⟩, .bool false, .string ⟨#[]⟩]) (by simp [results, Tryd.results18, go_sem]) rfl ⟨rfl, ?_⟩
  repeat (first | exact Since.refl _ | refine Since.alloc ?_ _ | refine Since.setCell ?_ (by simp) _)

set_option maxHeartbeats 2000000 in
set_option maxRecDepth 100000 in
theorem kA_X_X (s p : List UInt8) (b o c : Nat) (w : World) (q0 : w.cell? ⟨b, o, none⟩ = some (.string ⟨#[88]⟩)) (q1 : w.cell? ⟨b, o + 1, none⟩ = some (.string ⟨#[88]⟩)) :
    Calls Tryd.prog 18 #[.string ⟨s.toArray⟩, .string ⟨p.toArray⟩, .slice (some ⟨b, o, none⟩) 2 c] w fun e w' => e = .returned (.agg #[.string ⟨s.toArray⟩, .string ⟨p.toArray⟩, .int .i64 2, .bool true, .string ⟨#[88]⟩, .bool true, .string ⟨#[88]⟩, .bool false, .string ⟨#[]⟩, .bool false, .string ⟨#[]⟩]) ∧ Since w w' := by
  have hblt : b < w.heap.size := World.block_lt_of_cell? w _ q0
  have hblt1 : b < w.heap.size + 1 := by omega
  have hblt2 : b < w.heap.size + 1 + 1 := by omega
  have hblt3 : b < w.heap.size + 1 + 1 + 1 := by omega
  have hblt4 : b < w.heap.size + 1 + 1 + 1 + 1 := by omega
  go_enter Tryd.func18, Tryd.ntmps18
  go_wp2_with fail
  refine wp_loop_rounds 3 ?_
  rw [rounds_succ]
  go_wp2_with (go_at_call 21; refine (kC_new [88] _).mono ?_; rintro e w1 ⟨rfl, rfl⟩)
  rw [rounds_succ]
  go_wp2_with (go_at_call 21; refine (kC_new [88] _).mono ?_; rintro e w1 ⟨rfl, rfl⟩)
  rw [rounds_succ]
  go_wp2_with fail
  refine bodyPost_ret (v := .agg #[.string ⟨s.toArray⟩, .string ⟨p.toArray⟩, .int .i64 2, .bool true, .string ⟨#[88]⟩, .bool true, .string ⟨#[88]⟩, .bool false, .string ⟨#[]⟩, .bool false, .string ⟨#[]⟩]) (by simp [results, Tryd.results18, go_sem]) rfl ⟨rfl, ?_⟩
  repeat (first | exact Since.refl _ | refine Since.alloc ?_ _ | refine Since.setCell ?_ (by simp) _)

set_option maxHeartbeats 2000000 in
set_option maxRecDepth 100000 in
theorem kA_a_b (s p : List UInt8) (b o c : Nat) (w : World) (q0 : w.cell? ⟨b, o, none⟩ = some (.string ⟨#[97]⟩)) (q1 : w.cell? ⟨b, o + 1, none⟩ = some (.string ⟨#[98]⟩)) :
    Calls Tryd.prog 18 #[.string ⟨s.toArray⟩, .string ⟨p.toArray⟩, .slice (some ⟨b, o, none⟩) 2 c] w fun e w' => e = .returned (.agg #[.string ⟨s.toArray⟩, .string ⟨p.toArray⟩, .int .i64 2, .bool false, .string ⟨#[97]⟩, .bool false, .string ⟨#[98]⟩, .bool false, .string ⟨#[]⟩, .bool false, .string ⟨#[]⟩]) ∧ Since w w' := by
  have hblt : b < w.heap.size := World.block_lt_of_cell? w _ q0
  have hblt1 : b < w.heap.size + 1 := by omega
  have hblt2 : b < w.heap.size + 1 + 1 := by omega
  have hblt3 : b < w.heap.size + 1 + 1 + 1 := by omega
  have hblt4 : b < w.heap.size + 1 + 1 + 1 + 1 := by omega
  go_enter Tryd.func18, Tryd.ntmps18
  go_wp2_with fail
  refine wp_loop_rounds 3 ?_
  rw [rounds_succ]
  go_wp2_with (go_at_call 21; refine (kC_new [97] _).mono ?_; rintro e w1 ⟨rfl, rfl⟩)
  rw [rounds_succ]
  go_wp2_with (go_at_call 21; refine (kC_new [98] _).mono ?_; rintro e w1 ⟨rfl, rfl⟩)
  rw [rounds_succ]
  go_wp2_with fail
  refine bodyPost_ret (v := .agg #[.string ⟨s.toArray⟩, .string ⟨p.toArray⟩, .int .i64 2, .bool false, .string ⟨#[97]⟩, .bool false, .string ⟨#[98]⟩, .bool false, .string ⟨#[]⟩, .bool false, .string ⟨#[]⟩]) (by simp [results, Tryd.results18, go_sem]) rfl ⟨rfl, ?_⟩
  repeat (first | exact Since.refl _ | refine Since.alloc ?_ _ | refine Since.setCell ?_ (by simp) _)

set_option maxHeartbeats 2000000 in
set_option maxRecDepth 100000 in
theorem kA_X (s p : List UInt8) (b o c : Nat) (w : World) (q0 : w.cell? ⟨b, o, none⟩ = some (.string ⟨#[88]⟩)) :
    Calls Tryd.prog 18 #[.string ⟨s.toArray⟩, .string ⟨p.toArray⟩, .slice (some ⟨b, o, none⟩) 1 c] w fun e w' => e = .returned (.agg #[.string ⟨s.toArray⟩, .string ⟨p.toArray⟩, .int .i64 1, .bool true, .string ⟨#[88]⟩, .bool false, .string ⟨#[]⟩, .bool false, .string ⟨#[]⟩, .bool false, .string ⟨#[]⟩]) ∧ Since w w' := by
  have hblt : b < w.heap.size := World.block_lt_of_cell? w _ q0
  have hblt1 : b < w.heap.size + 1 := by omega
  have hblt2 : b < w.heap.size + 1 + 1 := by omega
  have hblt3 : b < w.heap.size + 1 + 1 + 1 := by omega
  go_enter Tryd.func18, Tryd.ntmps18
  go_wp2_with fail
  refine wp_loop_rounds 2 ?_
  rw [rounds_succ]
  go_wp2_with (go_at_call 21; refine (kC_new [88] _).mono ?_; rintro e w1 ⟨rfl, rfl⟩)
  rw [rounds_succ]
  go_wp2_with fail
  refine bodyPost_ret (v := .agg #[.string ⟨s.toArray⟩, .string ⟨p.toArray⟩, .int .i64 1, .bool true, .string ⟨#[88]⟩, .bool false, .string ⟨#[]⟩, .bool false, .string ⟨#[]⟩, .bool false, .string ⟨#[]⟩]) (by simp [results, Tryd.results18, go_sem]) rfl ⟨rfl, ?_⟩
  repeat (first | exact Since.refl _ | refine Since.alloc ?_ _ | refine Since.setCell ?_ (by simp) _)

set_option maxHeartbeats 2000000 in
set_option maxRecDepth 100000 in
theorem kA_X_b_Y (s p : List UInt8) (b o c : Nat) (w : World) (q0 : w.cell? ⟨b, o, none⟩ = some (.string ⟨#[88]⟩)) (q1 : w.cell? ⟨b, o + 1, none⟩ = some (.string ⟨#[98]⟩)) (q2 : w.cell? ⟨b, o + 2, none⟩ = some (.string ⟨#[89]⟩)) :
    Calls Tryd.prog 18 #[.string ⟨s.toArray⟩, .string ⟨p.toArray⟩, .slice (some ⟨b, o, none⟩) 3 c] w fun e w' => e = .returned (.agg #[.string ⟨s.toArray⟩, .string ⟨p.toArray⟩, .int .i64 3, .bool true, .string ⟨#[88]⟩, .bool false, .string ⟨#[98]⟩, .bool true, .string ⟨#[89]⟩, .bool false, .string ⟨#[]⟩]) ∧ Since w w' := by
  have hblt : b < w.heap.size := World.block_lt_of_cell? w _ q0
  have hblt1 : b < w.heap.size + 1 := by omega
  have hblt2 : b < w.heap.size + 1 + 1 := by omega
  have hblt3 : b < w.heap.size + 1 + 1 + 1 := by omega
  have hblt4 : b < w.heap.size + 1 + 1 + 1 + 1 := by omega
  have hblt5 : b < w.heap.size + 1 + 1 + 1 + 1 + 1 := by omega
  go_enter Tryd.func18, Tryd.ntmps18
  go_wp2_with fail
  refine wp_loop_rounds 4 ?_
  rw [rounds_succ]
  go_wp2_with (go_at_call 21; refine (kC_new [88] _).mono ?_; rintro e w1 ⟨rfl, rfl⟩)
  rw [rounds_succ]
  go_wp2_with (go_at_call 21; refine (kC_new [98] _).mono ?_; rintro e w1 ⟨rfl, rfl⟩)
  rw [rounds_succ]
  go_wp2_with (go_at_call 21; refine (kC_new [89] _).mono ?_; rintro e w1 ⟨rfl, rfl⟩)
  rw [rounds_succ]
  go_wp2_with fail
  refine bodyPost_ret (v := .agg #[.string ⟨s.toArray⟩, .string ⟨p.toArray⟩, .int .i64 3, .bool true, .string ⟨#[88]⟩, .bool false, .string ⟨#[98]⟩, .bool true, .string ⟨#[89]⟩, .bool false, .string ⟨#[]⟩]) (by simp [results, Tryd.results18, go_sem]) rfl ⟨rfl, ?_⟩
  repeat (first | exact Since.refl _ | refine Since.alloc ?_ _ | refine Since.setCell ?_ (by simp) _)

set_option maxHeartbeats 2000000 in
set_option maxRecDepth 100000 in
theorem kA_Xz3512_b_Yz3512 (s p : List UInt8) (b o c : Nat) (w : World) (q0 : w.cell? ⟨b, o, none⟩ = some (.string ⟨#[88, 35, 49, 50]⟩)) (q1 : w.cell? ⟨b, o + 1, none⟩ = some (.string ⟨#[98]⟩)) (q2 : w.cell? ⟨b, o + 2, none⟩ = some (.string ⟨#[89, 35, 49, 50]⟩)) :
    Calls Tryd.prog 18 #[.string ⟨s.toArray⟩, .string ⟨p.toArray⟩, .slice (some ⟨b, o, none⟩) 3 c] w fun e w' => e = .returned (.agg #[.string ⟨s.toArray⟩, .string ⟨p.toArray⟩, .int .i64 3, .bool true, .string ⟨#[88, 35, 49, 50]⟩, .bool false, .string ⟨#[98]⟩, .bool true, .string ⟨#[89, 35, 49, 50]⟩, .bool false, .string ⟨#[]⟩]) ∧ Since w w' := by
  have hblt : b < w.heap.size := World.block_lt_of_cell? w _ q0
  have hblt1 : b < w.heap.size + 1 := by omega
  have hblt2 : b < w.heap.size + 1 + 1 := by omega
  have hblt3 : b < w.heap.size + 1 + 1 + 1 := by omega
  have hblt4 : b < w.heap.size + 1 + 1 + 1 + 1 := by omega
  have hblt5 : b < w.heap.size + 1 + 1 + 1 + 1 + 1 := by omega
  go_enter Tryd.func18, Tryd.ntmps18
  go_wp2_with fail
  refine wp_loop_rounds 4 ?_
  rw [rounds_succ]
  go_wp2_with (go_at_call 21; refine (kC_new [88, 35, 49, 50] _).mono ?_; rintro e w1 ⟨rfl, rfl⟩)
  rw [rounds_succ]
  go_wp2_with (go_at_call 21; refine (kC_new [98] _).mono ?_; rintro e w1 ⟨rfl, rfl⟩)
  rw [rounds_succ]
  go_wp2_with (go_at_call 21; refine (kC_new [89, 35, 49, 50] _).mono ?_; rintro e w1 ⟨rfl, rfl⟩)
  rw [rounds_succ]
  go_wp2_with fail
  refine bodyPost_ret (v := .agg #[.string ⟨s.toArray⟩, .string ⟨p.toArray⟩, .int .i64 3, .bool true, .string ⟨#[88, 35, 49, 50]⟩, .bool false, .string ⟨#[98]⟩, .bool true, .string ⟨#[89, 35, 49, 50]⟩, .bool false, .string ⟨#[]⟩]) (by simp [results, Tryd.results18, go_sem]) rfl ⟨rfl, ?_⟩
  repeat (first | exact Since.refl _ | refine Since.alloc ?_ _ | refine Since.setCell ?_ (by simp) _)

set_option maxHeartbeats 400000 in
theorem kV_since (l : List UInt8) (w : World) :
    Calls Tryd.prog 20 #[.string ⟨l.toArray⟩] w fun e w' => e = .returned (.agg #[.bool true, .string ⟨l.toArray⟩]) ∧ Since w w' := by
  go_enter Tryd.func20, Tryd.ntmps20
  go_wp2
  exact bodyPost_ret (v := .agg #[.bool true, .string ⟨l.toArray⟩]) (by simp [results, Tryd.results20, go_sem]) rfl ⟨rfl, (Since.refl _).alloc _⟩
end Go.Proofs.YtohcehjpdmhjlaaDoor
