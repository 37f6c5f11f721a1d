/- The reference of layer 3: Term, Check, Count, Ground: what they answer at every term and atom. -/
import Derived.Test.YtnfjjckbgnieeaaGreatDoorVAtom
import Derived.Test.YtnfjjckbgnieeaaGreatDoorVRef01
namespace Go.Proofs.YtnfjjckbgnieeaaGreatDoor
open Go.RowKit

/-- May a term be? -/
def termB (t : Tm) : Bool := if t.1 then variableB t.2 else constantB t.2
theorem rcon_any' (l : List UInt8) (w : World) (hl : l.length ≤ maxLen) :
    Calls Tryz.prog 42 #[.string ⟨l.toArray⟩] w fun e w' => e = .returned (.bool (constantB l)) ∧ Since w w' := by
  have h := rconstant_any l w hl; rwa [rconstant_eq] at h
theorem rpri_any' (l : List UInt8) (w : World) (hl : l.length ≤ maxLen) :
    Calls Tryz.prog 13 #[.string ⟨l.toArray⟩] w fun e w' => e = .returned (.bool (principalB l)) ∧ Since w w' := by
  have h := rprincipal_any l w hl; rwa [rprincipal_eq] at h
theorem rpre_any' (l : List UInt8) (w : World) (hl : l.length ≤ maxLen) :
    Calls Tryz.prog 14 #[.string ⟨l.toArray⟩] w fun e w' => e = .returned (.bool (principalB l)) ∧ Since w w' := by
  have h := rpredicate_any l w hl; rwa [rprincipal_eq] at h
set_option maxHeartbeats 400000 in
theorem rterm_any (v : Bool) (l : List UInt8) (w : World) (hl : l.length ≤ maxLen) :
    Calls Tryz.prog 44 #[.agg #[.bool v, .string ⟨l.toArray⟩]] w fun e w' => e = .returned (.bool (termB (v, l))) ∧ Since w w' := by
  cases v
  all_goals
    go_enter Tryz.func44, Tryz.ntmps44
    go_wp2_with (first | (go_at_call 69; refine (rvariable_any _ _ hl).mono ?_; rintro e w1 ⟨rfl, hb⟩; subst hb) | (go_at_call 42; refine (rcon_any' _ _ hl).mono ?_; rintro e w1 ⟨rfl, hb⟩))
    go_ret
  · exact ⟨rfl, Since.trans ((Since.refl _).alloc _) hb⟩
  · exact ⟨rfl, (Since.refl _).alloc _⟩
/-- How many terms are looked at. -/
def countA (a : Atm) : Nat := (min (max a.2.2.1 0) 4).toNat
/-- What an atom's check comes to. -/
def checkA (a : Atm) : Int :=
  if !(principalB a.1 && principalB a.2.1) then 3
  else if a.2.2.1 < 0 ∨ 4 < a.2.2.1 then 4
  else if !(((argsL a).take a.2.2.1.toNat).all termB) then 3
  else if !(((argsL a).drop a.2.2.1.toNat).all fun t => decide (t = (false, []))) then 15 else 0
/-- No name is longer than a text may be. -/
def FitsA (a : Atm) : Prop := a.1.length ≤ maxLen ∧ a.2.1.length ≤ maxLen ∧ ∀ t ∈ argsL a, t.2.length ≤ maxLen
theorem checkA_name {a : Atm} (h : (principalB a.1 && principalB a.2.1) = false) : checkA a = 3 := by rw [checkA, h]; rfl
theorem checkA_n {a : Atm} (h : (principalB a.1 && principalB a.2.1) = true) (hn : a.2.2.1 < 0 ∨ 4 < a.2.2.1) : checkA a = 4 := by rw [checkA, h, if_neg (by simp), if_pos hn]
/-- What is left to be looked at: the terms from k on, while k is at most N. -/
theorem checkA_go {a : Atm} (h : (principalB a.1 && principalB a.2.1) = true) (h0 : 0 ≤ a.2.2.1) (h4 : a.2.2.1 ≤ 4) :
    checkA a = if !(((argsL a).take a.2.2.1.toNat).all termB) then 3 else if !(((argsL a).drop a.2.2.1.toNat).all fun t => decide (t = (false, []))) then 15 else 0 := by
  rw [checkA, h, if_neg (by simp), if_neg (by omega)]
theorem take_drop_step {α : Type} {l : List α} {k n : Nat} (h : k < l.length) (hn : k < n) : (l.take n).drop k = l[k] :: (l.take n).drop (k + 1) := by
  have h' : k < (l.take n).length := by rw [List.length_take]; omega
  rw [List.drop_eq_getElem_cons h', List.getElem_take]
set_option maxHeartbeats 1000000 in
theorem rcheck_any (a_s a_p : List UInt8) (a_n : Int) (a_v0 a_v1 a_v2 a_v3 : Bool) (a_l0 a_l1 a_l2 a_l3 : List UInt8) (w : World) (hF : FitsA ((a_s, a_p, a_n, (a_v0, a_l0), (a_v1, a_l1), (a_v2, a_l2), (a_v3, a_l3)) : Atm)) :
    Calls Tryz.prog 15 #[.agg #[.string ⟨a_s.toArray⟩, .string ⟨a_p.toArray⟩, .int .i64 a_n, .bool a_v0, .string ⟨a_l0.toArray⟩, .bool a_v1, .string ⟨a_l1.toArray⟩, .bool a_v2, .string ⟨a_l2.toArray⟩, .bool a_v3, .string ⟨a_l3.toArray⟩]] w fun e w' => e = .returned (.int .i64 (checkA ((a_s, a_p, a_n, (a_v0, a_l0), (a_v1, a_l1), (a_v2, a_l2), (a_v3, a_l3)) : Atm))) ∧ Since w w' := by
  have HW : Box (w.alloc (.cells #[.string ⟨a_s.toArray⟩, .string ⟨a_p.toArray⟩, .int .i64 a_n, .bool a_v0, .string ⟨a_l0.toArray⟩, .bool a_v1, .string ⟨a_l1.toArray⟩, .bool a_v2, .string ⟨a_l2.toArray⟩, .bool a_v3, .string ⟨a_l3.toArray⟩] 44)) w.heap.size ((a_s, a_p, a_n, (a_v0, a_l0), (a_v1, a_l1), (a_v2, a_l2), (a_v3, a_l3)) : Atm) := box_new w ((a_s, a_p, a_n, (a_v0, a_l0), (a_v1, a_l1), (a_v2, a_l2), (a_v3, a_l3)) : Atm) _
  have hSz : w.heap.size < (w.alloc (.cells #[.string ⟨a_s.toArray⟩, .string ⟨a_p.toArray⟩, .int .i64 a_n, .bool a_v0, .string ⟨a_l0.toArray⟩, .bool a_v1, .string ⟨a_l1.toArray⟩, .bool a_v2, .string ⟨a_l2.toArray⟩, .bool a_v3, .string ⟨a_l3.toArray⟩] 44)).heap.size := by simp
  have hS : Since w (w.alloc (.cells #[.string ⟨a_s.toArray⟩, .string ⟨a_p.toArray⟩, .int .i64 a_n, .bool a_v0, .string ⟨a_l0.toArray⟩, .bool a_v1, .string ⟨a_l1.toArray⟩, .bool a_v2, .string ⟨a_l2.toArray⟩, .bool a_v3, .string ⟨a_l3.toArray⟩] 44)) := (Since.refl _).alloc _
  have f1 : a_s.length ≤ maxLen := hF.1
  have f2 : a_p.length ≤ maxLen := hF.2.1
  have HF := Lib.hid hF.2.2
  clear hF
  cases h1 : principalB a_s
  · have hR : checkA ((a_s, a_p, a_n, (a_v0, a_l0), (a_v1, a_l1), (a_v2, a_l2), (a_v3, a_l3)) : Atm) = 3 := checkA_name (by show (principalB a_s && principalB a_p) = false; rw [h1]; rfl)
    rw [hR]
    clear hR
    go_enter Tryz.func15, Tryz.ntmps15
    go_wp2_with fail
    refine (rpri_any' _ _ f1).mono ?_
    rintro e w1 ⟨rfl, hb⟩
    go_wp2_with fail
    go_ret
    exact ⟨rfl, hS.trans hb⟩
  cases h2 : principalB a_p
  · have hR : checkA ((a_s, a_p, a_n, (a_v0, a_l0), (a_v1, a_l1), (a_v2, a_l2), (a_v3, a_l3)) : Atm) = 3 := checkA_name (by show (principalB a_s && principalB a_p) = false; rw [h1, h2]; rfl)
    rw [hR]
    clear hR
    go_enter Tryz.func15, Tryz.ntmps15
    go_wp2_with fail
    refine (rpri_any' _ _ f1).mono ?_
    rintro e w1 ⟨rfl, hb⟩
    have HW1 := HW.next hb
    have c2 := HW1.p
    go_wp2_with fail
    refine (rpre_any' _ _ f2).mono ?_
    rintro e w2 ⟨rfl, hb2⟩
    go_wp2_with fail
    go_ret
    exact ⟨rfl, (hS.trans hb).trans hb2⟩
  have hpp : (principalB (((a_s, a_p, a_n, (a_v0, a_l0), (a_v1, a_l1), (a_v2, a_l2), (a_v3, a_l3)) : Atm)).1 && principalB (((a_s, a_p, a_n, (a_v0, a_l0), (a_v1, a_l1), (a_v2, a_l2), (a_v3, a_l3)) : Atm)).2.1) = true := by show (principalB a_s && principalB a_p) = true; rw [h1, h2]; rfl
  have HP := Lib.hid hpp
  clear hpp
  rcases Int.lt_or_le a_n 0 with hn0 | hn0
  · have hR : checkA ((a_s, a_p, a_n, (a_v0, a_l0), (a_v1, a_l1), (a_v2, a_l2), (a_v3, a_l3)) : Atm) = 4 := checkA_n HP.out (.inl hn0)
    rw [hR]
    clear hR
    go_enter Tryz.func15, Tryz.ntmps15
    go_wp2_with fail
    refine (rpri_any' _ _ f1).mono ?_
    rintro e w1 ⟨rfl, hb⟩
    have HW1 := HW.next hb
    have c2 := HW1.p
    go_wp2_with fail
    refine (rpre_any' _ _ f2).mono ?_
    rintro e w2 ⟨rfl, hb2⟩
    have HW2 := HW1.next hb2
    have hS2 := (hS.trans hb).trans hb2
    clear c2 hb hb2 hSz HW HW1 hS
    have c3 := HW2.n
    go_wp2_with fail
    go_ret
    exact ⟨rfl, hS2⟩
  rcases Int.lt_or_le 4 a_n with hn4 | hn4
  · have hR : checkA ((a_s, a_p, a_n, (a_v0, a_l0), (a_v1, a_l1), (a_v2, a_l2), (a_v3, a_l3)) : Atm) = 4 := checkA_n HP.out (.inr hn4)
    rw [hR]
    clear hR
    go_enter Tryz.func15, Tryz.ntmps15
    go_wp2_with fail
    refine (rpri_any' _ _ f1).mono ?_
    rintro e w1 ⟨rfl, hb⟩
    have HW1 := HW.next hb
    have c2 := HW1.p
    go_wp2_with fail
    refine (rpre_any' _ _ f2).mono ?_
    rintro e w2 ⟨rfl, hb2⟩
    have HW2 := HW1.next hb2
    have hS2 := (hS.trans hb).trans hb2
    clear c2 hb hb2 hSz HW HW1 hS
    have c3 := HW2.n
    go_wp2_with fail
    go_ret
    exact ⟨rfl, hS2⟩
  · have hR := checkA_go HP.out hn0 hn4
    obtain ⟨L, hL⟩ : ∃ L, Hid (L = argsL ((a_s, a_p, a_n, (a_v0, a_l0), (a_v1, a_l1), (a_v2, a_l2), (a_v3, a_l3)) : Atm)) := ⟨argsL ((a_s, a_p, a_n, (a_v0, a_l0), (a_v1, a_l1), (a_v2, a_l2), (a_v3, a_l3)) : Atm), rfl⟩
    obtain ⟨n, hn⟩ := Int.eq_ofNat_of_zero_le hn0
    obtain ⟨R, hRR⟩ : ∃ R, Hid (R = checkA ((a_s, a_p, a_n, (a_v0, a_l0), (a_v1, a_l1), (a_v2, a_l2), (a_v3, a_l3)) : Atm)) := ⟨checkA ((a_s, a_p, a_n, (a_v0, a_l0), (a_v1, a_l1), (a_v2, a_l2), (a_v3, a_l3)) : Atm), rfl⟩
    rw [← hRR.out] at hR ⊢
    rw [← hL.out] at hR HF
    have hR' : Hid (R = if !(((L.take n).drop 0).all termB) then 3 else if !((L.drop n).all fun t => decide (t = (false, []))) then 15 else 0) := by
      have e : (((a_s, a_p, a_n, (a_v0, a_l0), (a_v1, a_l1), (a_v2, a_l2), (a_v3, a_l3)) : Atm)).2.2.1.toNat = n := by show a_n.toNat = n; omega
      rw [e] at hR
      exact hR
    have hl4 : L.length = 4 := by rw [hL.out]; rfl
    have HL4 := Lib.hid hl4
    clear hR hl4
    subst hn
    have hn4' : n ≤ 4 := by omega
    go_enter Tryz.func15, Tryz.ntmps15
    go_wp2_with fail
    refine (rpri_any' _ _ f1).mono ?_
    rintro e w1 ⟨rfl, hb⟩
    have HW1 := HW.next hb
    have c2 := HW1.p
    go_wp2_with fail
    refine (rpre_any' _ _ f2).mono ?_
    rintro e w2 ⟨rfl, hb2⟩
    have HW2 := HW1.next hb2
    have hS2 := (hS.trans hb).trans hb2
    clear c2 hb hb2 hSz HW HW1 hS
    have c3 := HW2.n
    have HA2 := HW2.args
    rw [← hL.out] at HA2
    go_wp2_with fail
    go_loopw [3] (fun i wr => ∃ k : Nat, k ≤ n ∧ i = .int .i64 k ∧ Since w wr ∧ Since w2 wr ∧ Hid (R = if !(((L.take n).drop k).all termB) then 3 else if !((L.drop n).all fun t => decide (t = (false, []))) then 15 else 0)) (fun i _ => n - (intOf i).toNat)
    case atStart => exact ⟨0, by omega, rfl, hS2, Since.refl _, hR'⟩
    case round =>
      clear hR' c3
      obtain ⟨k, hk, rfl, hSw, hS2w, hres⟩ := hrel
      have HWr := HW2.next hS2w
      have c3 := HWr.n
      by_cases hlt : k < n
      · have hkL : k < L.length := by rw [HL4.out]; omega
        obtain ⟨d1, d2⟩ := (HA2.next hS2w).2 k hkL
        have hst := take_drop_step hkL hlt
        have hfl : (L[k].2).length ≤ maxLen := HF.out _ (List.getElem_mem hkL)
        have HST := Lib.hid hst
        clear hst
        generalize L[k] = t at *
        obtain ⟨tv, tl⟩ := t
        have HT := Lib.hid (fun W => rterm_any tv tl W hfl)
        cases hm : termB (tv, tl)
        · go_wp2_with fail
          refine (HT.out _).mono ?_
          rintro e w4 ⟨rfl, hb4⟩
          go_wp2_with fail
          go_ret
          refine ⟨ret_int ?_, hSw.trans hb4⟩
          rw [hres.out, HST.out, List.all_cons, hm]; rfl
        · go_wp2_with fail
          refine (HT.out _).mono ?_
          rintro e w4 ⟨rfl, hb4⟩
          go_wp2_with fail
          go_roundw
          case rel =>
            refine ⟨k + 1, by omega, by go_num, hSw.trans hb4, hS2w.trans hb4, ?_⟩
            have := hres.out
            rw [HST.out, List.all_cons, hm, Bool.true_and] at this
            exact this
          case measure => simp [intOf]; omega
      · obtain rfl : k = n := by omega
        have hres2 : Hid (R = if !((L.drop k).all fun t => decide (t = (false, []))) then 15 else 0) := by
          have := hres.out
          rw [List.drop_eq_nil_of_le (by rw [List.length_take]; omega)] at this
          exact this
        have HAr := HA2.next hS2w
        clear HA2 HW2 hS2w hS2 hres hlt
        go_wp2_with fail
        clear c3
        go_loop [4] (fun i => ∃ j : Nat, j ≤ 4 ∧ i = .int .i64 j ∧ Hid (R = if !((L.drop j).all fun t => decide (t = (false, []))) then 15 else 0)) (fun i => 4 - (intOf i).toNat)
        case atStart => exact ⟨k, hn4', rfl, hres2⟩
        case round =>
          clear hres2
          obtain ⟨j, hj, rfl, hres⟩ := hrel
          by_cases hlt : (j : Int) < 4
          · have hjL : j < L.length := by rw [HL4.out]; omega
            obtain ⟨d1, d2⟩ := HAr.2 j hjL
            have hst := all_step (m := fun t : Tm => decide (t = (false, []))) hjL
            have HST := Lib.hid hst
            clear hst HF HAr
            generalize L[j] = t at *
            obtain ⟨tv, tl⟩ := t
            cases tv
            · cases hz : (tl == [])
              · go_wp2_with fail
                go_ret
                refine ⟨ret_int ?_, hSw⟩
                rw [hres.out, HST.out, decide_eq_false (by intro e; rw [show tl = [] from congrArg Prod.snd e] at hz; cases hz)]; rfl
              · go_wp2_with fail
                go_round
                case rel =>
                  refine ⟨j + 1, by omega, by go_num, ?_⟩
                  have := hres.out
                  rw [HST.out, decide_eq_true (by rw [beq_iff_eq.1 hz]), Bool.true_and] at this
                  exact this
                case measure => simp [intOf]; omega
            · go_wp2_with fail
              go_ret
              refine ⟨ret_int ?_, hSw⟩
              rw [hres.out, HST.out, decide_eq_false (by intro e; have := congrArg Prod.fst e; cases this)]; rfl
          · go_wp2_with fail
            go_ret
            refine ⟨ret_int ?_, hSw⟩
            rw [hres.out, all_done (by rw [HL4.out]; omega)]; rfl
end Go.Proofs.YtnfjjckbgnieeaaGreatDoor
