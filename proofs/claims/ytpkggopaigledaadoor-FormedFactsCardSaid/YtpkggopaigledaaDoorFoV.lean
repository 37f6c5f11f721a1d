/- vouchsafekit.A at the names of the examples of layer 12. -/
import Derived.Test.YtpkggopaigledaaDoorFoB
import Derived.LoopN
namespace Go.Proofs.YtpkggopaigledaaDoor
open Go.RowKit

set_option maxHeartbeats 400000 in
theorem kC_new (l : List UInt8) (w : World) :
    Calls Tryd.prog 54 #[.string ⟨l.toArray⟩] w fun e w' => e = .returned (.agg #[.bool false, .string ⟨l.toArray⟩]) ∧ w.alloc (.cells #[.bool false, .string ⟨l.toArray⟩] 36) = w' := by
  go_enter Tryd.func54, Tryd.ntmps54
  go_wp2
  exact bodyPost_ret (v := .agg #[.bool false, .string ⟨l.toArray⟩]) (by simp [results, Tryd.results54, go_sem]) rfl ⟨rfl, rfl⟩
theorem kC_since (l : List UInt8) (w : World) :
    Calls Tryd.prog 54 #[.string ⟨l.toArray⟩] w fun e w' => e = .returned (.agg #[.bool false, .string ⟨l.toArray⟩]) ∧ Since w w' := by
  refine (kC_new l w).mono ?_
  rintro e w' ⟨rfl, rfl⟩
  exact ⟨rfl, (Since.refl _).alloc _⟩
set_option maxHeartbeats 2000000 in
set_option maxRecDepth 100000 in
theorem kA_X (s p : List UInt8) (b o c : Nat) (w : World) (q0 : w.cell? ⟨b, o, none⟩ = some (.string ⟨#[88]⟩)) :
    Calls Tryd.prog 25 #[.string ⟨s.toArray⟩, .string ⟨p.toArray⟩, .slice (some ⟨b, o, none⟩) 1 c] w fun e w' => e = .returned (.agg #[.string ⟨s.toArray⟩, .string ⟨p.toArray⟩, .int .i64 1, .bool true, .string ⟨#[88]⟩, .bool false, .string ⟨#[]⟩, .bool false, .string ⟨#[]⟩, .bool false, .string ⟨#[]⟩]) ∧ Since w w' := by
  have hblt : b < w.heap.size := World.block_lt_of_cell? w _ q0
  have hblt1 : b < w.heap.size + 1 := by omega
  have hblt2 : b < w.heap.size + 1 + 1 := by omega
  have hblt3 : b < w.heap.size + 1 + 1 + 1 := by omega
  go_enter Tryd.func25, Tryd.ntmps25
  go_wp2_with fail
  refine wp_loop_rounds 2 ?_
  rw [rounds_succ]
  go_wp2_with (go_at_call 54; refine (kC_new [88] _).mono ?_; rintro e w1 ⟨rfl, rfl⟩)
  rw [rounds_succ]
  go_wp2_with fail
  refine bodyPost_ret (v := .agg #[.string ⟨s.toArray⟩, .string ⟨p.toArray⟩, .int .i64 1, .bool true, .string ⟨#[88]⟩, .bool false, .string ⟨#[]⟩, .bool false, .string ⟨#[]⟩, .bool false, .string ⟨#[]⟩]) (by simp [results, Tryd.results25, go_sem]) rfl ⟨rfl, ?_⟩
  repeat (first | exact Since.refl _ | refine Since.alloc ?_ _ | refine Since.setCell ?_ (by simp) _)

set_option maxHeartbeats 2000000 in
set_option maxRecDepth 100000 in
theorem kA_X_Y (s p : List UInt8) (b o c : Nat) (w : World) (q0 : w.cell? ⟨b, o, none⟩ = some (.string ⟨#[88]⟩)) (q1 : w.cell? ⟨b, o + 1, none⟩ = some (.string ⟨#[89]⟩)) :
    Calls Tryd.prog 25 #[.string ⟨s.toArray⟩, .string ⟨p.toArray⟩, .slice (some ⟨b, o, none⟩) 2 c] w fun e w' => e = .returned (.agg #[.string ⟨s.toArray⟩, .string ⟨p.toArray⟩, .int .i64 2, .bool true, .string ⟨#[88]⟩, .bool true, .string ⟨#[89]⟩, .bool false, .string ⟨#[]⟩, .bool false, .string ⟨#[]⟩]) ∧ Since w w' := by
  have hblt : b < w.heap.size := World.block_lt_of_cell? w _ q0
  have hblt1 : b < w.heap.size + 1 := by omega
  have hblt2 : b < w.heap.size + 1 + 1 := by omega
  have hblt3 : b < w.heap.size + 1 + 1 + 1 := by omega
  have hblt4 : b < w.heap.size + 1 + 1 + 1 + 1 := by omega
  go_enter Tryd.func25, Tryd.ntmps25
  go_wp2_with fail
  refine wp_loop_rounds 3 ?_
  rw [rounds_succ]
  go_wp2_with (go_at_call 54; refine (kC_new [88] _).mono ?_; rintro e w1 ⟨rfl, rfl⟩)
  rw [rounds_succ]
  go_wp2_with (go_at_call 54; refine (kC_new [89] _).mono ?_; rintro e w1 ⟨rfl, rfl⟩)
  rw [rounds_succ]
  go_wp2_with fail
  refine bodyPost_ret (v := .agg #[.string ⟨s.toArray⟩, .string ⟨p.toArray⟩, .int .i64 2, .bool true, .string ⟨#[88]⟩, .bool true, .string ⟨#[89]⟩, .bool false, .string ⟨#[]⟩, .bool false, .string ⟨#[]⟩]) (by simp [results, Tryd.results25, go_sem]) rfl ⟨rfl, ?_⟩
  repeat (first | exact Since.refl _ | refine Since.alloc ?_ _ | refine Since.setCell ?_ (by simp) _)

set_option maxHeartbeats 2000000 in
set_option maxRecDepth 100000 in
theorem kA_Y (s p : List UInt8) (b o c : Nat) (w : World) (q0 : w.cell? ⟨b, o, none⟩ = some (.string ⟨#[89]⟩)) :
    Calls Tryd.prog 25 #[.string ⟨s.toArray⟩, .string ⟨p.toArray⟩, .slice (some ⟨b, o, none⟩) 1 c] w fun e w' => e = .returned (.agg #[.string ⟨s.toArray⟩, .string ⟨p.toArray⟩, .int .i64 1, .bool true, .string ⟨#[89]⟩, .bool false, .string ⟨#[]⟩, .bool false, .string ⟨#[]⟩, .bool false, .string ⟨#[]⟩]) ∧ Since w w' := by
  have hblt : b < w.heap.size := World.block_lt_of_cell? w _ q0
  have hblt1 : b < w.heap.size + 1 := by omega
  have hblt2 : b < w.heap.size + 1 + 1 := by omega
  have hblt3 : b < w.heap.size + 1 + 1 + 1 := by omega
  go_enter Tryd.func25, Tryd.ntmps25
  go_wp2_with fail
  refine wp_loop_rounds 2 ?_
  rw [rounds_succ]
  go_wp2_with (go_at_call 54; refine (kC_new [89] _).mono ?_; rintro e w1 ⟨rfl, rfl⟩)
  rw [rounds_succ]
  go_wp2_with fail
  refine bodyPost_ret (v := .agg #[.string ⟨s.toArray⟩, .string ⟨p.toArray⟩, .int .i64 1, .bool true, .string ⟨#[89]⟩, .bool false, .string ⟨#[]⟩, .bool false, .string ⟨#[]⟩, .bool false, .string ⟨#[]⟩]) (by simp [results, Tryd.results25, go_sem]) rfl ⟨rfl, ?_⟩
  repeat (first | exact Since.refl _ | refine Since.alloc ?_ _ | refine Since.setCell ?_ (by simp) _)

set_option maxHeartbeats 2000000 in
set_option maxRecDepth 100000 in
theorem kA_Z (s p : List UInt8) (b o c : Nat) (w : World) (q0 : w.cell? ⟨b, o, none⟩ = some (.string ⟨#[90]⟩)) :
    Calls Tryd.prog 25 #[.string ⟨s.toArray⟩, .string ⟨p.toArray⟩, .slice (some ⟨b, o, none⟩) 1 c] w fun e w' => e = .returned (.agg #[.string ⟨s.toArray⟩, .string ⟨p.toArray⟩, .int .i64 1, .bool true, .string ⟨#[90]⟩, .bool false, .string ⟨#[]⟩, .bool false, .string ⟨#[]⟩, .bool false, .string ⟨#[]⟩]) ∧ Since w w' := by
  have hblt : b < w.heap.size := World.block_lt_of_cell? w _ q0
  have hblt1 : b < w.heap.size + 1 := by omega
  have hblt2 : b < w.heap.size + 1 + 1 := by omega
  have hblt3 : b < w.heap.size + 1 + 1 + 1 := by omega
  go_enter Tryd.func25, Tryd.ntmps25
  go_wp2_with fail
  refine wp_loop_rounds 2 ?_
  rw [rounds_succ]
  go_wp2_with (go_at_call 54; refine (kC_new [90] _).mono ?_; rintro e w1 ⟨rfl, rfl⟩)
  rw [rounds_succ]
  go_wp2_with fail
  refine bodyPost_ret (v := .agg #[.string ⟨s.toArray⟩, .string ⟨p.toArray⟩, .int .i64 1, .bool true, .string ⟨#[90]⟩, .bool false, .string ⟨#[]⟩, .bool false, .string ⟨#[]⟩, .bool false, .string ⟨#[]⟩]) (by simp [results, Tryd.results25, go_sem]) rfl ⟨rfl, ?_⟩
  repeat (first | exact Since.refl _ | refine Since.alloc ?_ _ | refine Since.setCell ?_ (by simp) _)

set_option maxHeartbeats 2000000 in
set_option maxRecDepth 100000 in
theorem kA_a (s p : List UInt8) (b o c : Nat) (w : World) (q0 : w.cell? ⟨b, o, none⟩ = some (.string ⟨#[97]⟩)) :
    Calls Tryd.prog 25 #[.string ⟨s.toArray⟩, .string ⟨p.toArray⟩, .slice (some ⟨b, o, none⟩) 1 c] w fun e w' => e = .returned (.agg #[.string ⟨s.toArray⟩, .string ⟨p.toArray⟩, .int .i64 1, .bool false, .string ⟨#[97]⟩, .bool false, .string ⟨#[]⟩, .bool false, .string ⟨#[]⟩, .bool false, .string ⟨#[]⟩]) ∧ Since w w' := by
  have hblt : b < w.heap.size := World.block_lt_of_cell? w _ q0
  have hblt1 : b < w.heap.size + 1 := by omega
  have hblt2 : b < w.heap.size + 1 + 1 := by omega
  have hblt3 : b < w.heap.size + 1 + 1 + 1 := by omega
  go_enter Tryd.func25, Tryd.ntmps25
  go_wp2_with fail
  refine wp_loop_rounds 2 ?_
  rw [rounds_succ]
  go_wp2_with (go_at_call 54; refine (kC_new [97] _).mono ?_; rintro e w1 ⟨rfl, rfl⟩)
  rw [rounds_succ]
  go_wp2_with fail
  refine bodyPost_ret (v := .agg #[.string ⟨s.toArray⟩, .string ⟨p.toArray⟩, .int .i64 1, .bool false, .string ⟨#[97]⟩, .bool false, .string ⟨#[]⟩, .bool false, .string ⟨#[]⟩, .bool false, .string ⟨#[]⟩]) (by simp [results, Tryd.results25, go_sem]) rfl ⟨rfl, ?_⟩
  repeat (first | exact Since.refl _ | refine Since.alloc ?_ _ | refine Since.setCell ?_ (by simp) _)

set_option maxHeartbeats 2000000 in
set_option maxRecDepth 100000 in
theorem kA_xz45 (s p : List UInt8) (b o c : Nat) (w : World) (q0 : w.cell? ⟨b, o, none⟩ = some (.string ⟨#[120, 45]⟩)) :
    Calls Tryd.prog 25 #[.string ⟨s.toArray⟩, .string ⟨p.toArray⟩, .slice (some ⟨b, o, none⟩) 1 c] w fun e w' => e = .returned (.agg #[.string ⟨s.toArray⟩, .string ⟨p.toArray⟩, .int .i64 1, .bool false, .string ⟨#[120, 45]⟩, .bool false, .string ⟨#[]⟩, .bool false, .string ⟨#[]⟩, .bool false, .string ⟨#[]⟩]) ∧ Since w w' := by
  have hblt : b < w.heap.size := World.block_lt_of_cell? w _ q0
  have hblt1 : b < w.heap.size + 1 := by omega
  have hblt2 : b < w.heap.size + 1 + 1 := by omega
  have hblt3 : b < w.heap.size + 1 + 1 + 1 := by omega
  go_enter Tryd.func25, Tryd.ntmps25
  go_wp2_with fail
  refine wp_loop_rounds 2 ?_
  rw [rounds_succ]
  go_wp2_with (go_at_call 54; refine (kC_new [120, 45] _).mono ?_; rintro e w1 ⟨rfl, rfl⟩)
  rw [rounds_succ]
  go_wp2_with fail
  refine bodyPost_ret (v := .agg #[.string ⟨s.toArray⟩, .string ⟨p.toArray⟩, .int .i64 1, .bool false, .string ⟨#[120, 45]⟩, .bool false, .string ⟨#[]⟩, .bool false, .string ⟨#[]⟩, .bool false, .string ⟨#[]⟩]) (by simp [results, Tryd.results25, go_sem]) rfl ⟨rfl, ?_⟩
  repeat (first | exact Since.refl _ | refine Since.alloc ?_ _ | refine Since.setCell ?_ (by simp) _)

set_option maxHeartbeats 2000000 in
set_option maxRecDepth 100000 in
theorem kA_none (s p : List UInt8) (w : World) :
    Calls Tryd.prog 25 #[.string ⟨s.toArray⟩, .string ⟨p.toArray⟩, .slice none 0 0] w fun e w' => e = .returned (.agg #[.string ⟨s.toArray⟩, .string ⟨p.toArray⟩, .int .i64 0, .bool false, .string ⟨#[]⟩, .bool false, .string ⟨#[]⟩, .bool false, .string ⟨#[]⟩, .bool false, .string ⟨#[]⟩]) ∧ Since w w' := by
  go_enter Tryd.func25, Tryd.ntmps25
  go_wp2_with fail
  refine wp_loop_rounds 1 ?_
  rw [rounds_succ]
  go_wp2_with fail
  refine bodyPost_ret (v := .agg #[.string ⟨s.toArray⟩, .string ⟨p.toArray⟩, .int .i64 0, .bool false, .string ⟨#[]⟩, .bool false, .string ⟨#[]⟩, .bool false, .string ⟨#[]⟩, .bool false, .string ⟨#[]⟩]) (by simp [results, Tryd.results25, go_sem]) rfl ⟨rfl, ?_⟩
  repeat (first | exact Since.refl _ | refine Since.alloc ?_ _ | refine Since.setCell ?_ (by simp) _)
end Go.Proofs.YtpkggopaigledaaDoor
