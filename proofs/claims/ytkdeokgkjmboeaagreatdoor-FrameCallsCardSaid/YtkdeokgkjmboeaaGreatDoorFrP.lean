/- Requests and responses as bytes: plain facts, no program in sight. -/
import Derived.Test.YtkdeokgkjmboeaaGreatDoorFrA
import Derived.Test.YtkdeokgkjmboeaaGreatDoorCertH3
namespace Go.Proofs.YtkdeokgkjmboeaaGreatDoor
open Go.RowKit

def rqB (k : Int) (a : Atm) : List UInt8 := UInt8.ofNat k.toNat :: atomB a
def mayRq (k : Int) (a : Atm) : Bool := decide (1 ≤ k) && (decide (k ≤ 3) && (checkA a == 0))
def readRq (s : List UInt8) : Option (Nat × Atm) :=
  if (atomF (oneF s false).2.1 (oneF s false).2.2).2.2 || (!(atomF (oneF s false).2.1 (oneF s false).2.2).2.1.isEmpty || !mayRq (oneF s false).1 (atomF (oneF s false).2.1 (oneF s false).2.2).1) then none else some ((oneF s false).1, (atomF (oneF s false).2.1 (oneF s false).2.2).1)
theorem atomF_some {s r : List UInt8} {a : Atm} (h : atomF s false = (a, r, false)) : checkA a = 0 ∧ s = atomB a ++ r := by
  unfold atomF at h
  rw [if_neg (by simp)] at h
  cases hz : (atomS s 0 false).2.2
  · rw [hz, if_neg (by simp)] at h
    have he : atomS s 0 false = (a, (atomS s 0 false).2.1, false) := by
      simp only [Prod.mk.injEq] at h
      exact Prod.ext h.1 (Prod.ext rfl hz)
    obtain ⟨h1, h2, h3⟩ := atomS_dec he
    refine ⟨h1, ?_⟩
    simp only [Prod.mk.injEq] at h
    rw [← h3, ← h.2.1, List.take_append_drop]
  · rw [hz, if_pos rfl] at h
    cases h
theorem atomF_enc {a : Atm} (h : checkA a = 0) (r : List UInt8) : atomF (atomB a ++ r) false = (a, r, false) := by
  unfold atomF
  rw [if_neg (by simp), atomS_enc h r, if_neg (by simp)]
  simp
theorem readRq_iff {s : List UInt8} {k : Nat} {a : Atm} : readRq s = some (k, a) ↔ mayRq k a = true ∧ s = rqB k a := by
  constructor
  · intro h
    unfold readRq at h
    split at h
    · cases h
    · rename_i hb
      rw [Option.some.injEq, Prod.mk.injEq] at h
      cases s with
      | nil => simp [oneF, atomF] at hb
      | cons c r =>
        have ho : oneF (c :: r) false = (c.toNat, r, false) := rfl
        rw [ho] at hb h
        simp only at hb h
        obtain ⟨rfl, rfl⟩ := h
        simp only [Bool.or_eq_true, Bool.not_eq_true', not_or, Bool.not_eq_true, Bool.not_eq_false] at hb
        obtain ⟨h1, h2, h3⟩ := hb
        refine ⟨h3, ?_⟩
        have he : atomF r false = ((atomF r false).1, (atomF r false).2.1, false) := Prod.ext rfl (Prod.ext rfl h1)
        have h4 := (atomF_some he).2
        have h5 : (atomF r false).2.1 = [] := by simpa using h2
        rw [h5, List.append_nil] at h4
        unfold rqB
        rw [Int.toNat_natCast, ← h4]
        simp
  · rintro ⟨hm, rfl⟩
    have hm2 := hm
    simp only [mayRq, Bool.and_eq_true, decide_eq_true_eq, beq_iff_eq] at hm2
    obtain ⟨h1, h2, h3⟩ := hm2
    have hk : (UInt8.ofNat k).toNat = k := by rw [UInt8.toNat_ofNat', Nat.mod_eq_of_lt (by omega)]
    have ho : oneF (rqB k a) false = (k, atomB a, false) := by
      unfold rqB
      rw [Int.toNat_natCast]
      show ((UInt8.ofNat k).toNat, atomB a, false) = _
      rw [hk]
    have ha := atomF_enc h3 []
    rw [List.append_nil] at ha
    unfold readRq
    rw [ho]
    simp only
    rw [ha]
    simp [hm]
theorem rq_inj {k l : Int} {a b : Atm} (h1 : mayRq k a = true) (h2 : mayRq l b = true) (h : rqB k a = rqB l b) : k = l ∧ a = b := by
  simp only [mayRq, Bool.and_eq_true, decide_eq_true_eq, beq_iff_eq] at h1 h2
  unfold rqB at h
  injection h with h3 h4
  have h5 := congrArg UInt8.toNat h3
  rw [UInt8.toNat_ofNat', UInt8.toNat_ofNat', Nat.mod_eq_of_lt (by omega), Nat.mod_eq_of_lt (by omega)] at h5
  have ha := atomF_enc h1.2.2 []
  have hb := atomF_enc h2.2.2 []
  rw [h4, hb] at ha
  exact ⟨by omega, by injection ha with ha; exact ha.symm⟩
theorem rq_pre {k l : Int} {a b : Atm} {r : List UInt8} (h1 : mayRq k a = true) (h2 : mayRq l b = true) (h : rqB k a ++ r = rqB l b) : r = [] := by
  simp only [mayRq, Bool.and_eq_true, decide_eq_true_eq, beq_iff_eq] at h1 h2
  unfold rqB at h
  rw [List.cons_append] at h
  injection h with h3 h4
  have ha := atomF_enc h1.2.2 r
  have hb := atomF_enc h2.2.2 []
  rw [List.append_nil] at hb
  rw [h4, hb] at ha
  injection ha with _ ha
  injection ha with ha _
  exact ha.symm
end Go.Proofs.YtkdeokgkjmboeaaGreatDoor
