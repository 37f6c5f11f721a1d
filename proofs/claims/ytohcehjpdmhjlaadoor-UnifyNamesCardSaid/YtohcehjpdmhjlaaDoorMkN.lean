/- Marked at the names of the chapter's examples that bear no mark. -/
import Derived.Test.YtohcehjpdmhjlaaDoorMkR
namespace Go.Proofs.YtohcehjpdmhjlaaDoor
open Go.RowKit

set_option maxHeartbeats 2000000 in
set_option maxRecDepth 100000 in
theorem marked_first (w : World) :
    Calls Tryd.prog 15 #[.string ⟨#[35, 49]⟩] w fun e w' => e = .returned (.tuple #[.string ⟨#[]⟩, .int .i64 0, .bool false]) ∧ Since w w' := by
  have HLI : Hid (∀ W, Calls Tryd.prog 30 #[.string ⟨#[35, 49]⟩, .int .u8 35] W fun e w' => e = .returned (.int .i64 0) ∧ w' = W) := by
    intro W
    have h := Tryd.strings_LastIndexByte ⟨#[35, 49]⟩ 35 (by decide) W
    rw [show Lib.lastIndexByte ⟨#[35, 49]⟩ 35 = 0 by decide +kernel] at h
    exact h
  go_enter Tryd.func15, Tryd.ntmps15
  go_wp2_with fail
  refine (HLI.out _).mono ?_
  rintro e w1 ⟨rfl, rfl⟩
  go_wp2_with fail
  refine bodyPost_ret (v := .tuple #[.string ⟨#[]⟩, .int .i64 0, .bool false]) (by simp [results, Tryd.results15, go_sem]) rfl ?_
  exact ⟨rfl, Since.refl _⟩
set_option maxHeartbeats 2000000 in
set_option maxRecDepth 100000 in
theorem marked_zero (w : World) :
    Calls Tryd.prog 15 #[.string ⟨#[88, 35, 48, 49]⟩] w fun e w' => e = .returned (.tuple #[.string ⟨#[]⟩, .int .i64 0, .bool false]) ∧ Since w w' := by
  have HLI : Hid (∀ W, Calls Tryd.prog 30 #[.string ⟨#[88, 35, 48, 49]⟩, .int .u8 35] W fun e w' => e = .returned (.int .i64 1) ∧ w' = W) := by
    intro W
    have h := Tryd.strings_LastIndexByte ⟨#[88, 35, 48, 49]⟩ 35 (by decide) W
    rw [show Lib.lastIndexByte ⟨#[88, 35, 48, 49]⟩ 35 = 1 by decide +kernel] at h
    exact h
  have HAT : Hid (∀ W, Calls Tryd.prog 31 #[.string ⟨#[48, 49]⟩] W fun e w' => e = .returned (.tuple #[.int .i64 1, .nilIface]) ∧ Since W w') := by
    intro W
    refine (Tryd.strconv_Atoi ⟨#[48, 49]⟩ 1 (by decide) (by decide +kernel) W).mono ?_
    rintro e w' ⟨rfl, t, rfl⟩
    exact ⟨rfl, Lib.bytesWorld_below _ _ _⟩
  have HIT : Hid (∀ W, Calls Tryd.prog 26 #[.int .i64 1] W fun e w' => e = .returned (.string ⟨#[49]⟩) ∧ Since W w') := by
    intro W
    refine (Tryd.strconv_Itoa_small 1 (by decide) W).mono ?_
    rintro e w' ⟨rfl, rfl⟩
    refine ⟨?_, Since.refl _⟩
    rw [show Lib.decDigits 1 = [49] by decide +kernel]
  have c1 : (ByteArray.mk #[88, 35, 48, 49]).extract 2 4 = ByteArray.mk #[48, 49] := by decide +kernel
  go_enter Tryd.func15, Tryd.ntmps15
  go_wp2_with fail
  refine (HLI.out _).mono ?_
  rintro e w1 ⟨rfl, rfl⟩
  go_wp2_with fail
  refine (HAT.out _).mono ?_
  rintro e w2 ⟨rfl, hb2⟩
  go_wp2_with fail
  refine (HIT.out _).mono ?_
  rintro e w3 ⟨rfl, hb3⟩
  go_wp2_with fail
  refine bodyPost_ret (v := .tuple #[.string ⟨#[]⟩, .int .i64 0, .bool false]) (by simp [results, Tryd.results15, go_sem]) rfl ?_
  exact ⟨rfl, hb2.trans hb3⟩
/-- The package's error for bad syntax stands. -/
def EnvS (w : World) : Prop := ∃ tp p, w.var? Tryd.prog "strconv.ErrSyntax" = some #[.iface tp p]
set_option maxHeartbeats 2000000 in
set_option maxRecDepth 100000 in
theorem marked_bare (w : World) (hE : EnvS w) :
    Calls Tryd.prog 15 #[.string ⟨#[88, 35]⟩] w fun e w' => e = .returned (.tuple #[.string ⟨#[]⟩, .int .i64 0, .bool false]) ∧ Since w w' := by
  have HLI : Hid (∀ W, Calls Tryd.prog 30 #[.string ⟨#[88, 35]⟩, .int .u8 35] W fun e w' => e = .returned (.int .i64 1) ∧ w' = W) := by
    intro W
    have h := Tryd.strings_LastIndexByte ⟨#[88, 35]⟩ 35 (by decide) W
    rw [show Lib.lastIndexByte ⟨#[88, 35]⟩ 35 = 1 by decide +kernel] at h
    exact h
  obtain ⟨tp, p, hv⟩ := hE
  have HAT := Lib.hid (Tryd.strconv_Atoi_syntax_var ⟨#[]⟩ (by decide) (by decide +kernel) tp p w hv)
  have c1 : (ByteArray.mk #[88, 35]).extract 2 2 = ByteArray.mk #[] := by decide +kernel
  clear hv
  go_enter Tryd.func15, Tryd.ntmps15
  go_wp2_with fail
  refine (HLI.out _).mono ?_
  rintro e w1 ⟨rfl, rfl⟩
  go_wp2_with fail
  refine (HAT.out).mono ?_
  rintro e w2 ⟨N, rfl, _, _, hb2⟩
  go_wp2_with fail
  refine bodyPost_ret (v := .tuple #[.string ⟨#[]⟩, .int .i64 0, .bool false]) (by simp [results, Tryd.results15, go_sem]) rfl ?_
  exact ⟨rfl, hb2⟩
end Go.Proofs.YtohcehjpdmhjlaaDoor
