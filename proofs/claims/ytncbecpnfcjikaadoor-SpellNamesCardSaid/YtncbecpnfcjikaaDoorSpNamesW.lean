/- SpellNames returns true, in every world in which the library's table strings.asciiSpace stands. -/
import Derived.Test.YtncbecpnfcjikaaDoorSpLives
namespace Go.Proofs.YtncbecpnfcjikaaDoor
open Go.RowKit

theorem words2_any (w : World) (hE : Env w) :
    Calls Tryd.prog 16 #[] w fun e w' => e = .returned (.slice (some ⟨w.heap.size, 0, none⟩) 8 8) ∧ w'.cell? ⟨w.heap.size, 2, none⟩ = some (.string ⟨#[99, 97, 110, 115, 97, 121]⟩) ∧ Since w w' := by
  refine (words_any w hE).mono fun e w' h => ⟨h.1, ?_, h.2 ▸ (Since.refl _).alloc _⟩
  rw [← h.2, wordsO, World.cell?_alloc_new]
  rfl

set_option maxHeartbeats 1000000 in
set_option maxRecDepth 100000 in
theorem names_walk (w : World) (hE : Env w) :
    Calls Tryd.prog 5 #[] w fun e w' => e = .returned (.bool true) ∧ Since w w' := by
  have hS := Since.refl w
  have k0 : principalB [97, 95, 49] = true := by decide +kernel
  have k1 : principalB [95, 97] = false := by decide +kernel
  have k2 : principalB [] = false := by decide +kernel
  have k3 : principalB [65] = false := by decide +kernel
  have k4 : principalB [97, 66] = false := by decide +kernel
  have k5 : constantB [48] = true := by decide +kernel
  have k6 : constantB [95] = false := by decide +kernel
  have k7 : constantB [97, 45, 98] = false := by decide +kernel
  have k8 : variableB [88] = true := by decide +kernel
  have k9 : variableB [88, 95, 121, 57, 90] = true := by decide +kernel
  have k10 : variableB [120] = false := by decide +kernel
  have k11 : variableB [88, 35, 49] = false := by decide +kernel
  have k12 : variableB [] = false := by decide +kernel
  have k13 : reservedB [99, 97, 110, 115, 97, 121] = true := by decide +kernel
  have k14 : reservedB [99, 97, 110, 115, 97, 121, 115] = false := by decide +kernel
  have k15 : reservedB [] = false := by decide +kernel
  have k16 : principalB [113, 117, 111, 116, 97] = false := by decide +kernel
  obtain ⟨R, hR⟩ : ∃ R, Hid (R = timesL [97] 255) := ⟨_, rfl⟩
  obtain ⟨Q, hQ⟩ : ∃ Q, Hid (Q = R ++ [97]) := ⟨R ++ [97], rfl⟩
  have hc : ByteArray.mk R.toArray ++ ByteArray.mk #[97] = ByteArray.mk Q.toArray := by rw [hQ.out]; exact cat_bytes R [97]
  have p1 : principalB R = true := by rw [hR.out]; decide +kernel
  have p2 : principalB Q = false := by rw [hQ.out, hR.out]; decide +kernel
  have hRm : R.length ≤ maxLen := by rw [hR.out]; decide +kernel
  have hQm : Q.length ≤ maxLen := by rw [hQ.out, hR.out]; decide +kernel
  have hRs : (R.length : Int) + 1 ≤ 300 := by rw [hR.out]; decide +kernel
  have HT : Hid (∀ w, Calls Tryd.prog 13 #[.string ⟨#[97]⟩, .int .i64 255] w fun e w' => e = .returned (.string ⟨R.toArray⟩) ∧ w = w') := by
    intro w
    rw [hR.out]
    exact times_any [97] 255 w (by omega) (by simp) (by simp)
  go_enter Tryd.func5, Tryd.ntmps5
  go_wp2_with (first | (go_at_call 16; refine (words2_any _ hE).mono ?_; rintro e w1 ⟨rfl, hc, hb⟩; replace hE := hE.next hb; replace hS := hS.trans hb) | (go_at_call 8; refine (lives_any _ hE).mono ?_; rintro e w1 ⟨rfl, hb⟩; replace hE := hE.next hb; replace hS := hS.trans hb) | (go_at_call 9; refine (constant_any _ _ (by first | exact hRm | exact hQm | decide) hE).mono ?_; rintro e w1 ⟨rfl, hb⟩; replace hE := hE.next hb; replace hS := hS.trans hb) | (go_at_call 10; refine (principal_any _ _ (by first | exact hRm | exact hQm | decide) hE).mono ?_; rintro e w1 ⟨rfl, hb⟩; replace hE := hE.next hb; replace hS := hS.trans hb) | (go_at_call 14; refine (predicate_any _ _ (by first | exact hRm | exact hQm | decide) hE).mono ?_; rintro e w1 ⟨rfl, hb⟩; replace hE := hE.next hb; replace hS := hS.trans hb) | (go_at_call 15; refine (reserved_any _ _ hE).mono ?_; rintro e w1 ⟨rfl, hb⟩; replace hE := hE.next hb; replace hS := hS.trans hb) | (go_at_call 11; refine (variable_any _ _ (by first | exact hRm | exact hQm | decide)).mono ?_; rintro e w1 ⟨rfl, rfl⟩) | (go_at_call 13; refine (HT.out _).mono ?_; rintro e w1 ⟨rfl, rfl⟩))
  go_ret
  exact ⟨rfl, hS⟩
end Go.Proofs.YtncbecpnfcjikaaDoor
