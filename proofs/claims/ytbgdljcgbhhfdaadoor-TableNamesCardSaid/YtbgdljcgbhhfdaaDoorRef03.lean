/- The reference of layer 3: Term, Check, Count, Ground: what they answer at every term and atom. -/
import Derived.Test.YtbgdljcgbhhfdaaDoorAtom
import Derived.Test.YtbgdljcgbhhfdaaDoorRef01
namespace Go.Proofs.YtbgdljcgbhhfdaaDoor
open Go.RowKit

/-- May a term be? -/
def termB (t : Tm) : Bool := if t.1 then variableB t.2 else constantB t.2
theorem termB_true (l : List UInt8) : termB (true, l) = variableB l := rfl
theorem termB_false (l : List UInt8) : termB (false, l) = constantB l := rfl

/-- How many terms are looked at. -/
def countA (a : Atm) : Nat := (min (max a.2.2.1 0) 4).toNat

set_option maxHeartbeats 400000 in
theorem rcount_any (a_s a_p : List UInt8) (a_n : Int) (a_v0 a_v1 a_v2 a_v3 : Bool) (a_l0 a_l1 a_l2 a_l3 : List UInt8) (w : World) :
    Calls Tryd.prog 31 #[.agg #[.string ⟨a_s.toArray⟩, .string ⟨a_p.toArray⟩, .int .i64 a_n, .bool a_v0, .string ⟨a_l0.toArray⟩, .bool a_v1, .string ⟨a_l1.toArray⟩, .bool a_v2, .string ⟨a_l2.toArray⟩, .bool a_v3, .string ⟨a_l3.toArray⟩]] w fun e w' => e = .returned (.int .i64 (countA ((a_s, a_p, a_n, (a_v0, a_l0), (a_v1, a_l1), (a_v2, a_l2), (a_v3, a_l3)) : Atm))) ∧ Since w w' := by
  have e : ((countA ((a_s, a_p, a_n, (a_v0, a_l0), (a_v1, a_l1), (a_v2, a_l2), (a_v3, a_l3)) : Atm) : Nat) : Int) = min (max a_n 0) 4 := by
    show (((min (max a_n 0) 4).toNat : Nat) : Int) = _
    omega
  rw [e]
  go_enter Tryd.func31, Tryd.ntmps31
  go_wp2
  all_goals go_ret
  all_goals (refine ⟨ret_int ?_, (Since.refl _).alloc _⟩; omega)

/-- What an atom's check comes to. -/
def checkA (a : Atm) : Int :=
  if !(principalB a.1 && principalB a.2.1) then 3
  else if a.2.2.1 < 0 ∨ 4 < a.2.2.1 then 4
  else if !(((argsL a).take a.2.2.1.toNat).all termB) then 3
  else if !(((argsL a).drop a.2.2.1.toNat).all fun t => decide (t = (false, []))) then 15 else 0
/-- No name is longer than a text may be. -/
def FitsA (a : Atm) : Prop := a.1.length ≤ maxLen ∧ a.2.1.length ≤ maxLen ∧ ∀ t ∈ argsL a, t.2.length ≤ maxLen
theorem checkA_name {a : Atm} (h : (principalB a.1 && principalB a.2.1) = false) : checkA a = 3 := by rw [checkA, h]; rfl
theorem checkA_n {a : Atm} (h : (principalB a.1 && principalB a.2.1) = true) (hn : a.2.2.1 < 0 ∨ 4 < a.2.2.1) : checkA a = 4 := by rw [checkA, h, if_neg (by simp), if_pos hn]
/-- What is left to be looked at: the terms from k on, while k is at most N. -/
theorem checkA_go {a : Atm} (h : (principalB a.1 && principalB a.2.1) = true) (h0 : 0 ≤ a.2.2.1) (h4 : a.2.2.1 ≤ 4) :
    checkA a = if !(((argsL a).take a.2.2.1.toNat).all termB) then 3 else if !(((argsL a).drop a.2.2.1.toNat).all fun t => decide (t = (false, []))) then 15 else 0 := by
  rw [checkA, h, if_neg (by simp), if_neg (by omega)]
theorem take_drop_step {α : Type} {l : List α} {k n : Nat} (h : k < l.length) (hn : k < n) : (l.take n).drop k = l[k] :: (l.take n).drop (k + 1) := by
  have h' : k < (l.take n).length := by rw [List.length_take]; omega
  rw [List.drop_eq_getElem_cons h', List.getElem_take]

/-- No variable among the terms that are looked at. -/
def groundA (a : Atm) : Bool := ((argsL a).take (countA a)).all fun t => !t.1
theorem countA_le (a : Atm) : countA a ≤ 4 := by unfold countA; omega

set_option maxHeartbeats 1000000 in
theorem rground_any (a_s a_p : List UInt8) (a_n : Int) (a_v0 a_v1 a_v2 a_v3 : Bool) (a_l0 a_l1 a_l2 a_l3 : List UInt8) (w : World) :
    Calls Tryd.prog 51 #[.agg #[.string ⟨a_s.toArray⟩, .string ⟨a_p.toArray⟩, .int .i64 a_n, .bool a_v0, .string ⟨a_l0.toArray⟩, .bool a_v1, .string ⟨a_l1.toArray⟩, .bool a_v2, .string ⟨a_l2.toArray⟩, .bool a_v3, .string ⟨a_l3.toArray⟩]] w fun e w' => e = .returned (.bool (groundA ((a_s, a_p, a_n, (a_v0, a_l0), (a_v1, a_l1), (a_v2, a_l2), (a_v3, a_l3)) : Atm))) ∧ Since w w' := by
  have HW : Box (w.alloc (.cells #[.string ⟨a_s.toArray⟩, .string ⟨a_p.toArray⟩, .int .i64 a_n, .bool a_v0, .string ⟨a_l0.toArray⟩, .bool a_v1, .string ⟨a_l1.toArray⟩, .bool a_v2, .string ⟨a_l2.toArray⟩, .bool a_v3, .string ⟨a_l3.toArray⟩] 34)) w.heap.size ((a_s, a_p, a_n, (a_v0, a_l0), (a_v1, a_l1), (a_v2, a_l2), (a_v3, a_l3)) : Atm) := box_new w ((a_s, a_p, a_n, (a_v0, a_l0), (a_v1, a_l1), (a_v2, a_l2), (a_v3, a_l3)) : Atm) _
  have hS : Since w (w.alloc (.cells #[.string ⟨a_s.toArray⟩, .string ⟨a_p.toArray⟩, .int .i64 a_n, .bool a_v0, .string ⟨a_l0.toArray⟩, .bool a_v1, .string ⟨a_l1.toArray⟩, .bool a_v2, .string ⟨a_l2.toArray⟩, .bool a_v3, .string ⟨a_l3.toArray⟩] 34)) := (Since.refl _).alloc _
  obtain ⟨L, hL⟩ : ∃ L, Hid (L = argsL ((a_s, a_p, a_n, (a_v0, a_l0), (a_v1, a_l1), (a_v2, a_l2), (a_v3, a_l3)) : Atm)) := ⟨argsL ((a_s, a_p, a_n, (a_v0, a_l0), (a_v1, a_l1), (a_v2, a_l2), (a_v3, a_l3)) : Atm), rfl⟩
  obtain ⟨n, hn⟩ : ∃ n, Hid (n = countA ((a_s, a_p, a_n, (a_v0, a_l0), (a_v1, a_l1), (a_v2, a_l2), (a_v3, a_l3)) : Atm)) := ⟨countA ((a_s, a_p, a_n, (a_v0, a_l0), (a_v1, a_l1), (a_v2, a_l2), (a_v3, a_l3)) : Atm), rfl⟩
  obtain ⟨R, hR⟩ : ∃ R, Hid (R = groundA ((a_s, a_p, a_n, (a_v0, a_l0), (a_v1, a_l1), (a_v2, a_l2), (a_v3, a_l3)) : Atm)) := ⟨groundA ((a_s, a_p, a_n, (a_v0, a_l0), (a_v1, a_l1), (a_v2, a_l2), (a_v3, a_l3)) : Atm), rfl⟩
  have hn4 : n ≤ 4 := by rw [hn.out]; exact countA_le _
  have hR' : Hid (R = ((L.take n).drop 0).all fun t => !t.1) := by
    show _ = _
    rw [hR.out, hL.out, hn.out]; rfl
  have HC := Lib.hid (fun w => rcount_any a_s a_p a_n a_v0 a_v1 a_v2 a_v3 a_l0 a_l1 a_l2 a_l3 w)
  rw [← hn.out] at HC
  rw [← hR.out]
  have hl4 : L.length = 4 := by rw [hL.out]; rfl
  have HL4 := Lib.hid hl4
  have HA := HW.args
  rw [← hL.out] at HA
  clear hl4
  go_enter Tryd.func51, Tryd.ntmps51
  go_wp2_with fail
  obtain ⟨W, hWW⟩ : ∃ W : World, Hid (W = w.alloc (.cells #[.string ⟨a_s.toArray⟩, .string ⟨a_p.toArray⟩, .int .i64 a_n, .bool a_v0, .string ⟨a_l0.toArray⟩, .bool a_v1, .string ⟨a_l1.toArray⟩, .bool a_v2, .string ⟨a_l2.toArray⟩, .bool a_v3, .string ⟨a_l3.toArray⟩] 34)) := ⟨_, rfl⟩
  rw [← hWW.out] at HW hS HA ⊢
  go_loopw [3] (fun i wr => ∃ k : Nat, k ≤ n ∧ i = .int .i64 k ∧ Since W wr ∧ Hid (R = ((L.take n).drop k).all fun t => !t.1)) (fun i _ => n - (intOf i).toNat)
  case atStart => exact ⟨0, by omega, rfl, Since.refl _, hR'⟩
  case round =>
    clear hR'
    obtain ⟨k, hk, rfl, hSw, hres⟩ := hrel
    obtain ⟨b0, b1, b2, b3, b4, b5, b6, b7, b8, b9, b10⟩ := (HW.next hSw).all
    by_cases hlt : k < n
    · have hkL : k < L.length := by rw [HL4.out]; omega
      have hst := take_drop_step hkL hlt
      have HST := Lib.hid hst
      have hAk := (HA.2 k hkL).1
      clear hst
      generalize L[k] = t at *
      obtain ⟨tv, tl⟩ := t
      have HAK := Lib.hid hAk
      clear hAk
      go_wp2_with fail
      refine (HC.out _).mono ?_
      rintro e w4 ⟨rfl, hb4⟩
      clear b0 b1 b2 b3 b4 b5 b6 b7 b8 b9 b10
      have d1 := hb4.cell (hSw.cell HAK.out)
      cases tv
      · go_wp2_with fail
        go_roundw
        case rel =>
          refine ⟨k + 1, by omega, by go_num, hSw.trans hb4, ?_⟩
          have := hres.out
          rw [HST.out, List.all_cons, Bool.not_false, Bool.true_and] at this
          exact this
        case measure => simp [intOf]; omega
      · go_wp2_with fail
        go_ret
        refine ⟨ret_bool ?_, (hS.trans hSw).trans hb4⟩
        rw [hres.out, HST.out, List.all_cons]; rfl
    · go_wp2_with fail
      refine (HC.out _).mono ?_
      rintro e w4 ⟨rfl, hb4⟩
      clear b0 b1 b2 b3 b4 b5 b6 b7 b8 b9 b10
      go_wp2_with fail
      go_ret
      refine ⟨ret_bool ?_, (hS.trans hSw).trans hb4⟩
      rw [hres.out, List.drop_eq_nil_of_le (by rw [List.length_take]; omega), List.all_nil]
end Go.Proofs.YtbgdljcgbhhfdaaDoor
