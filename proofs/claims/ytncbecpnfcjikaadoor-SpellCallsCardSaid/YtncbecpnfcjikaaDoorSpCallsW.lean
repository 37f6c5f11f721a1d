/- SpellCalls returns true at every string, in every world in which the library's table strings.asciiSpace stands: the program's answers are the reference's. -/
import Derived.Test.YtncbecpnfcjikaaDoorSpLives
import Derived.Test.YtncbecpnfcjikaaDoorRef01
namespace Go.Proofs.YtncbecpnfcjikaaDoor
open Go.RowKit

theorem first_low (n : Int) : (!(n == 95) && lowB n) = firstB n := by
  unfold lowB
  by_cases h : n = 95
  · subst h; decide
  · have : (n == 95) = false := by simpa using h
    rw [this, Bool.not_false, Bool.true_and, Bool.or_false]; rfl
theorem rcon_eq (l : List UInt8) : rconB l = spelledB firstB lowB l := by
  cases l with
  | nil => rfl
  | cons c r => simp only [rconB, spelledB, List.all_cons, ← first_low, Bool.and_assoc]
theorem rconstant_eq (l : List UInt8) : rconstantB l = constantB l := by rw [rconstantB, rcon_eq]; rfl
theorem small_of (n : Int) : (firstB n && smallB n) = smallB n := by unfold firstB; cases smallB n <;> simp
theorem rprincipal_eq (l : List UInt8) : rprincipalB l = principalB l := by
  rw [rprincipalB, rconstant_eq, constantB, principalB]
  cases l with
  | nil => rfl
  | cons c r =>
    have : (c :: r).getD 0 0 = c := rfl
    rw [this]
    simp only [spelledB]
    rw [← small_of]
    cases smallB (c.toNat : Int) <;> cases firstB (c.toNat : Int) <;> simp

set_option maxHeartbeats 400000 in
theorem calls_walk (l : List UInt8) (w : World) (hl : l.length ≤ maxLen) (hE : Env w) :
    Calls Tryd.prog 6 #[.string ⟨l.toArray⟩] w fun e w' => e = .returned (.bool true) ∧ Since w w' := by
  have hS := Since.refl w
  have hl' := hl
  unfold maxLen at hl'
  by_cases h6 : (l.length : Int) ≤ 600
  · have e1 := rprincipal_eq l
    have e2 := rconstant_eq l
    go_enter Tryd.func6, Tryd.ntmps6
    go_wp2_with (first | (go_at_call 8; refine (lives_any _ hE).mono ?_; rintro e w1 ⟨rfl, hb⟩; replace hE := hE.next hb; replace hS := hS.trans hb) | (go_at_call 9; refine (constant_any _ _ hl hE).mono ?_; rintro e w1 ⟨rfl, hb⟩; replace hE := hE.next hb; replace hS := hS.trans hb) | (go_at_call 10; refine (principal_any _ _ hl hE).mono ?_; rintro e w1 ⟨rfl, hb⟩; replace hE := hE.next hb; replace hS := hS.trans hb) | (go_at_call 14; refine (predicate_any _ _ hl hE).mono ?_; rintro e w1 ⟨rfl, hb⟩; replace hE := hE.next hb; replace hS := hS.trans hb) | (go_at_call 15; refine (reserved_any _ _ hE).mono ?_; rintro e w1 ⟨rfl, hb⟩; replace hE := hE.next hb; replace hS := hS.trans hb) | (go_at_call 11; refine (variable_any _ _ hl).mono ?_; rintro e w1 ⟨rfl, rfl⟩) | (go_at_call 19; refine (rconstant_any _ _ hl).mono ?_; rintro e w1 ⟨rfl, hb⟩; replace hE := hE.next hb; replace hS := hS.trans hb) | (go_at_call 17; refine (rprincipal_any _ _ hl).mono ?_; rintro e w1 ⟨rfl, hb⟩; replace hE := hE.next hb; replace hS := hS.trans hb) | (go_at_call 18; refine (rpredicate_any _ _ hl).mono ?_; rintro e w1 ⟨rfl, hb⟩; replace hE := hE.next hb; replace hS := hS.trans hb) | (go_at_call 21; refine (rreserved_any _ _).mono ?_; rintro e w1 ⟨rfl, hb⟩; replace hE := hE.next hb; replace hS := hS.trans hb) | (go_at_call 20; refine (rvariable_any _ _ hl).mono ?_; rintro e w1 ⟨rfl, rfl⟩))
    have g1 := (words_any w1 hE).mono (R' := fun e w' => e = .returned (.slice (some ⟨w1.heap.size, 0, none⟩) 8 8) ∧ Row w' (.slice (some ⟨w1.heap.size, 0, none⟩) 8 8) 8 (wordsL.map strV) ∧ Since w1 w') (fun e w' h => ⟨h.1, h.2 ▸ words_row w1, h.2 ▸ (Since.refl _).alloc _⟩)
    refine g1.mono ?_
    rintro e w2 ⟨rfl, hr1, hb2⟩
    clear g1 e1 e2
    replace hS := hS.trans hb2
    generalize (Value.slice (some ⟨w1.heap.size, 0, none⟩) 8 8) = x1 at *
    go_wp2_with fail
    have g2 := (rwords_any w2).mono (R' := fun e w' => e = .returned (.slice (some ⟨w2.heap.size, 0, none⟩) 8 8) ∧ Row w' (.slice (some ⟨w2.heap.size, 0, none⟩) 8 8) 8 (wordsL.map strV) ∧ Since w2 w') (fun e w' h => ⟨h.1, h.2 ▸ words_row w2, h.2 ▸ (Since.refl _).alloc _⟩)
    refine g2.mono ?_
    rintro e w3 ⟨rfl, hr2, hb3⟩
    clear g2
    replace hS := hS.trans hb3
    replace hr1 := hr1.next hb3
    generalize (Value.slice (some ⟨w2.heap.size, 0, none⟩) 8 8) = x2 at *
    go_wp2_with fail
    refine (same_str _ _ wordsL wordsL _ hr1 hr2 (by decide) (by decide)).mono ?_
    rintro e w4 ⟨rfl, hb4⟩
    replace hS := hS.trans hb4
    go_wp2_with fail
    go_ret
    exact ⟨ret_bool (by simp), hS⟩
  · go_enter Tryd.func6, Tryd.ntmps6
    go_wp2_with (go_at_call 8; refine (lives_any _ hE).mono ?_; rintro e w1 ⟨rfl, hb⟩; replace hE := hE.next hb; replace hS := hS.trans hb)
    go_ret
    exact ⟨rfl, hS⟩
end Go.Proofs.YtncbecpnfcjikaaDoor
