/- Reference 12: Principal, Arity. Reference 12: Atom. Reference 12: Goal, Fact. -/
import Derived.Test.YtpkggopaigledaaDoorFoP
namespace Go.Proofs.YtpkggopaigledaaDoor
open Go.RowKit

set_option maxHeartbeats 2000000 in
set_option maxRecDepth 100000 in
theorem r12prin_any (ap ad ac ar ag : Option Addr) (np cp nd cd nc cc nr cr ng cg : Nat) (qu bu : Int) (L : List Txt) (x : Txt) (w : World) (h : TRow w (.slice ap np cp) L) (hm : L.length ≤ 1000000) :
    Calls Tryd.prog 31 #[.agg #[.slice ap np cp, .slice ad nd cd, .slice ac nc cc, .int .i64 qu, .int .i64 bu, .slice ar nr cr, .slice ag ng cg], .string ⟨x.toArray⟩] w fun e w' => e = .returned (.bool (L.contains x)) ∧ Since w w' := by
  have hS : Since w (w.alloc (.cells #[.slice ap np cp, .slice ad nd cd, .slice ac nc cc, .int .i64 qu, .int .i64 bu, .slice ar nr cr, .slice ag ng cg] 28)) := (Since.refl w).alloc _
  have h1 := Lib.hid (tnext h hS)
  have hnm : np ≤ 1000000 := by have := h.form; omega
  have hnd := Lib.hid h.form
  have p_B := pbox_new w ap ad ac ar ag np cp nd cd nc cc nr cr ng cg qu bu 28
  clear h
  obtain ⟨R, hR⟩ : ∃ R, Hid (R = L.contains x) := ⟨_, rfl⟩
  rw [← hR.out]
  have hR0 : Hid (R = (L.drop 0).contains x) := hR
  clear hR
  go_enter Tryd.func31, Tryd.ntmps31
  go_wp2_with fail
  generalize w.alloc (.cells #[.slice ap np cp, .slice ad nd cd, .slice ac nc cc, .int .i64 qu, .int .i64 bu, .slice ar nr cr, .slice ag ng cg] 28) = W at *
  go_loopw [5] (fun m wr => ∃ k : Nat, k ≤ np ∧ m = .int .i64 (k : Int) ∧ Hid (R = (L.drop k).contains x) ∧ Since W wr) (fun m _ => np - (intOf m).toNat)
  case atStart => exact ⟨0, by omega, rfl, hR0, Since.refl _⟩
  case round =>
    obtain ⟨k, hk, rfl, hF, hSr⟩ := hrel
    obtain ⟨p_c0, p_c1, p_c2, p_c3, p_c4, p_c5, p_c6⟩ := p_B.next hSr
    by_cases hlt : k < np
    · have hlt2 : (k : Int) < (np : Int) := by omega
      have hlt0 : (0 : Int) ≤ (k : Int) := by omega
      have hkl : k < L.length := by have := hnd.out; omega
      obtain ⟨b, o, e1, hc, hat⟩ := (tnext h1.out hSr).get (by omega)
      have d1 := hat k hkl
      have hnx : Hid (R = (L[k] == x || (L.drop (k + 1)).contains x)) := by
        show _ = _
        rw [hF.out, List.drop_eq_getElem_cons hkl, List.contains_cons, Bool.beq_comm]
      obtain ⟨s, hs⟩ : ∃ s, Hid (s = L[k]) := ⟨L[k], rfl⟩
      unfold TxtAt at d1
      rw [Nat.mul_one, ← hs.out] at d1
      rw [← hs.out] at hnx
      simp only [strV] at d1
      clear hat hF
      subst e1
      cases he : (s == x)
      · have e : Hid (R = (L.drop (k + 1)).contains x) := by show _ = _; rw [hnx.out, he, Bool.false_or]
        go_wp2_with fail
        go_roundw
        case rel => exact ⟨k + 1, by omega, by go_num, e, hSr⟩
        case measure => simp [intOf]; omega
      · have e : Hid (R = true) := by show _ = _; rw [hnx.out, he, Bool.true_or]
        have e2 := e.out
        subst e2
        go_wp2_with fail
        go_ret
        exact ⟨rfl, hS.trans hSr⟩
    · have hlt2 : ¬ (k : Int) < (np : Int) := by omega
      have e : Hid (R = false) := by show _ = _; rw [hF.out, List.drop_eq_nil_of_le (by have := hnd.out; omega)]; rfl
      have e2 := e.out
      subst e2
      go_wp2_with fail
      go_ret
      exact ⟨rfl, hS.trans hSr⟩
set_option maxHeartbeats 2000000 in
set_option maxRecDepth 100000 in
theorem r12arity_any (ap ad ac ar ag : Option Addr) (np cp nd cd nc cc nr cr ng cg : Nat) (qu bu : Int) (L : List (Txt × Int)) (x : Txt) (w : World) (h : PRow w (.slice ad nd cd) L) (hm : L.length ≤ 1000000) :
    Calls Tryd.prog 26 #[.agg #[.slice ap np cp, .slice ad nd cd, .slice ac nc cc, .int .i64 qu, .int .i64 bu, .slice ar nr cr, .slice ag ng cg], .string ⟨x.toArray⟩] w fun e w' => e = .returned (.tuple #[.int .i64 ((arityF L x).getD 0), .bool (arityF L x).isSome]) ∧ Since w w' := by
  have hS : Since w (w.alloc (.cells #[.slice ap np cp, .slice ad nd cd, .slice ac nc cc, .int .i64 qu, .int .i64 bu, .slice ar nr cr, .slice ag ng cg] 28)) := (Since.refl w).alloc _
  have h1 := Lib.hid (pnext h hS)
  have hnm : nd ≤ 1000000 := by have := h.form; omega
  have hnd := Lib.hid h.form
  have p_B := pbox_new w ap ad ac ar ag np cp nd cd nc cc nr cr ng cg qu bu 28
  clear h
  obtain ⟨R, hR⟩ : ∃ R, Hid (R = arityF L x) := ⟨_, rfl⟩
  rw [← hR.out]
  have hR0 : Hid (R = arityF (L.drop 0) x) := hR
  clear hR
  go_enter Tryd.func26, Tryd.ntmps26
  go_wp2_with fail
  generalize w.alloc (.cells #[.slice ap np cp, .slice ad nd cd, .slice ac nc cc, .int .i64 qu, .int .i64 bu, .slice ar nr cr, .slice ag ng cg] 28) = W at *
  go_loopw [6] (fun m wr => ∃ k : Nat, k ≤ nd ∧ m = .int .i64 (k : Int) ∧ Hid (R = arityF (L.drop k) x) ∧ Since W wr) (fun m _ => nd - (intOf m).toNat)
  case atStart => exact ⟨0, by omega, rfl, hR0, Since.refl _⟩
  case round =>
    obtain ⟨k, hk, rfl, hF, hSr⟩ := hrel
    obtain ⟨p_c0, p_c1, p_c2, p_c3, p_c4, p_c5, p_c6⟩ := p_B.next hSr
    by_cases hlt : k < nd
    · have hlt2 : (k : Int) < (nd : Int) := by omega
      have hlt0 : (0 : Int) ≤ (k : Int) := by omega
      have hkl : k < L.length := by have := hnd.out; omega
      obtain ⟨b, o, e1, hc, hat⟩ := (pnext h1.out hSr).get (by omega)
      obtain ⟨d1, d2⟩ := hat k hkl
      obtain ⟨⟨s, n⟩, hs⟩ : ∃ s, Hid (s = L[k]) := ⟨L[k], rfl⟩
      have hnx : Hid (R = if s = x then some n else arityF (L.drop (k + 1)) x) := by
        show _ = _
        rw [hF.out, List.drop_eq_getElem_cons hkl, arityF, ← hs.out]
      rw [← hs.out] at d1 d2
      simp only [strV] at d1 d2
      clear hat hF
      subst e1
      cases he : (s == x)
      · have he2 : ¬ s = x := by simpa using he
        have e : Hid (R = arityF (L.drop (k + 1)) x) := by show _ = _; rw [hnx.out, if_neg he2]
        clear he2
        go_wp2_with fail
        go_roundw
        case rel => exact ⟨k + 1, by omega, by go_num, e, hSr⟩
        case measure => simp [intOf]; omega
      · have he2 : s = x := by simpa using he
        have e : Hid (R = some n) := by show _ = _; rw [hnx.out, if_pos he2]
        clear he2
        have e2 := e.out
        subst e2
        go_wp2_with fail
        go_ret2
        exact ⟨rfl, hS.trans hSr⟩
    · have hlt2 : ¬ (k : Int) < (nd : Int) := by omega
      have e : Hid (R = none) := by show _ = _; rw [hF.out, List.drop_eq_nil_of_le (by have := hnd.out; omega)]; rfl
      have e2 := e.out
      subst e2
      go_wp2_with fail
      go_ret2
      exact ⟨rfl, hS.trans hSr⟩
end Go.Proofs.YtpkggopaigledaaDoor

namespace Go.Proofs.YtpkggopaigledaaDoor
open Go.RowKit

set_option maxHeartbeats 4000000 in
set_option maxRecDepth 100000 in
theorem r12atom_any (ap ad ac ar ag : Option Addr) (np cp nd cd nc cc nr cr ng cg : Nat) (qu bu : Int) (pr : List Txt) (pd : List (Txt × Int)) (a_s a_p : List UInt8) (a_n : Int) (a_v0 a_v1 a_v2 a_v3 : Bool) (a_l0 a_l1 a_l2 a_l3 : List UInt8) (w : World) (hT : TRow w (.slice ap np cp) pr) (hP : PRow w (.slice ad nd cd) pd) (lr : pr.length ≤ 1000000) (lp : pd.length ≤ 1000000) (hF : FitsA ((a_s, a_p, a_n, (a_v0, a_l0), (a_v1, a_l1), (a_v2, a_l2), (a_v3, a_l3)) : Atm)) :
    Calls Tryd.prog 28 #[.agg #[.slice ap np cp, .slice ad nd cd, .slice ac nc cc, .int .i64 qu, .int .i64 bu, .slice ar nr cr, .slice ag ng cg], .agg #[.string ⟨a_s.toArray⟩, .string ⟨a_p.toArray⟩, .int .i64 a_n, .bool a_v0, .string ⟨a_l0.toArray⟩, .bool a_v1, .string ⟨a_l1.toArray⟩, .bool a_v2, .string ⟨a_l2.toArray⟩, .bool a_v3, .string ⟨a_l3.toArray⟩]] w fun e w' => e = .returned (.int .i64 (atomE pr pd ((a_s, a_p, a_n, (a_v0, a_l0), (a_v1, a_l1), (a_v2, a_l2), (a_v3, a_l3)) : Atm))) ∧ Since w w' := by
  have hS : Since w ((w.alloc (.cells #[.slice ap np cp, .slice ad nd cd, .slice ac nc cc, .int .i64 qu, .int .i64 bu, .slice ar nr cr, .slice ag ng cg] 28)).alloc (.cells #[.string ⟨a_s.toArray⟩, .string ⟨a_p.toArray⟩, .int .i64 a_n, .bool a_v0, .string ⟨a_l0.toArray⟩, .bool a_v1, .string ⟨a_l1.toArray⟩, .bool a_v2, .string ⟨a_l2.toArray⟩, .bool a_v3, .string ⟨a_l3.toArray⟩] 39)) := ((Since.refl _).alloc _).alloc _
  obtain ⟨p_c0, p_c1, p_c2, p_c3, p_c4, p_c5, p_c6⟩ := (pbox_new w ap ad ac ar ag np cp nd cd nc cc nr cr ng cg qu bu 28).next ((Since.refl _).alloc (.cells #[.string ⟨a_s.toArray⟩, .string ⟨a_p.toArray⟩, .int .i64 a_n, .bool a_v0, .string ⟨a_l0.toArray⟩, .bool a_v1, .string ⟨a_l1.toArray⟩, .bool a_v2, .string ⟨a_l2.toArray⟩, .bool a_v3, .string ⟨a_l3.toArray⟩] 39))
  have a_B : Box ((w.alloc (.cells #[.slice ap np cp, .slice ad nd cd, .slice ac nc cc, .int .i64 qu, .int .i64 bu, .slice ar nr cr, .slice ag ng cg] 28)).alloc (.cells #[.string ⟨a_s.toArray⟩, .string ⟨a_p.toArray⟩, .int .i64 a_n, .bool a_v0, .string ⟨a_l0.toArray⟩, .bool a_v1, .string ⟨a_l1.toArray⟩, .bool a_v2, .string ⟨a_l2.toArray⟩, .bool a_v3, .string ⟨a_l3.toArray⟩] 39)) (w.heap.size + 1) ((a_s, a_p, a_n, (a_v0, a_l0), (a_v1, a_l1), (a_v2, a_l2), (a_v3, a_l3)) : Atm) := by
    have := box_new (w.alloc (.cells #[.slice ap np cp, .slice ad nd cd, .slice ac nc cc, .int .i64 qu, .int .i64 bu, .slice ar nr cr, .slice ag ng cg] 28)) ((a_s, a_p, a_n, (a_v0, a_l0), (a_v1, a_l1), (a_v2, a_l2), (a_v3, a_l3)) : Atm) 39
    rwa [World.size_alloc] at this
  obtain ⟨a_c0, a_c1, a_c2, a_c3, a_c4, a_c5, a_c6, a_c7, a_c8, a_c9, a_c10⟩ := a_B.all
  obtain ⟨E, hE⟩ : ∃ E, Hid (E = checkA ((a_s, a_p, a_n, (a_v0, a_l0), (a_v1, a_l1), (a_v2, a_l2), (a_v3, a_l3)) : Atm)) := ⟨_, rfl⟩
  obtain ⟨B, hB⟩ : ∃ B, Hid (B = pr.contains a_s) := ⟨_, rfl⟩
  obtain ⟨n, hn⟩ : ∃ n, Hid (n = (arityF pd a_p).getD 0) := ⟨_, rfl⟩
  obtain ⟨S, hS1⟩ : ∃ S, Hid (S = (arityF pd a_p).isSome) := ⟨_, rfl⟩
  have HR : Hid (atomE pr pd ((a_s, a_p, a_n, (a_v0, a_l0), (a_v1, a_l1), (a_v2, a_l2), (a_v3, a_l3)) : Atm) = firstE [E, ifE (!B) 6, ifE (!S) 7, ifE (n != a_n) 8]) := by
    show _ = _
    rw [hE.out, hB.out, hn.out, hS1.out]; rfl
  have HCK : Hid (∀ W, Calls Tryd.prog 22 #[.agg #[.string ⟨a_s.toArray⟩, .string ⟨a_p.toArray⟩, .int .i64 a_n, .bool a_v0, .string ⟨a_l0.toArray⟩, .bool a_v1, .string ⟨a_l1.toArray⟩, .bool a_v2, .string ⟨a_l2.toArray⟩, .bool a_v3, .string ⟨a_l3.toArray⟩]] W fun e w' => e = .returned (.int .i64 E) ∧ Since W w') := by
    intro W; rw [hE.out]; exact rcheck_any a_s a_p a_n a_v0 a_v1 a_v2 a_v3 a_l0 a_l1 a_l2 a_l3 W hF
  have HAR : Hid (∀ W, Since w W → Calls Tryd.prog 26 #[.agg #[.slice ap np cp, .slice ad nd cd, .slice ac nc cc, .int .i64 qu, .int .i64 bu, .slice ar nr cr, .slice ag ng cg], .string ⟨a_p.toArray⟩] W fun e w' => e = .returned (.tuple #[.int .i64 n, .bool S]) ∧ Since W w') := by
    intro W h; rw [hn.out, hS1.out]; exact r12arity_any ap ad ac ar ag np cp nd cd nc cc nr cr ng cg qu bu pd a_p W (pnext hP h) lp
  have HPR : Hid (∀ W, Since w W → Calls Tryd.prog 31 #[.agg #[.slice ap np cp, .slice ad nd cd, .slice ac nc cc, .int .i64 qu, .int .i64 bu, .slice ar nr cr, .slice ag ng cg], .string ⟨a_s.toArray⟩] W fun e w' => e = .returned (.bool B) ∧ Since W w') := by
    intro W h; rw [hB.out]; exact r12prin_any ap ad ac ar ag np cp nd cd nc cc nr cr ng cg qu bu pr a_s W (tnext hT h) lr
  rw [HR.out]
  clear hT hP hF a_B hE hB hn hS1 HR
  go_enter Tryd.func28, Tryd.ntmps28
  go_wp2_with fail
  generalize ((w.alloc (.cells #[.slice ap np cp, .slice ad nd cd, .slice ac nc cc, .int .i64 qu, .int .i64 bu, .slice ar nr cr, .slice ag ng cg] 28)).alloc (.cells #[.string ⟨a_s.toArray⟩, .string ⟨a_p.toArray⟩, .int .i64 a_n, .bool a_v0, .string ⟨a_l0.toArray⟩, .bool a_v1, .string ⟨a_l1.toArray⟩, .bool a_v2, .string ⟨a_l2.toArray⟩, .bool a_v3, .string ⟨a_l3.toArray⟩] 39)) = w1 at *
  refine (HCK.out _).mono ?_
  rintro e w2 ⟨rfl, hb⟩
  replace hS := hS.trans hb; replace p_c0 := hb.cell p_c0; replace p_c1 := hb.cell p_c1; replace p_c2 := hb.cell p_c2; replace p_c3 := hb.cell p_c3; replace p_c4 := hb.cell p_c4; replace p_c5 := hb.cell p_c5; replace p_c6 := hb.cell p_c6; replace a_c0 := hb.cell a_c0; replace a_c1 := hb.cell a_c1; replace a_c2 := hb.cell a_c2; replace a_c3 := hb.cell a_c3; replace a_c4 := hb.cell a_c4; replace a_c5 := hb.cell a_c5; replace a_c6 := hb.cell a_c6; replace a_c7 := hb.cell a_c7; replace a_c8 := hb.cell a_c8; replace a_c9 := hb.cell a_c9; replace a_c10 := hb.cell a_c10
  clear hb HCK
  by_cases he : E = 0
  case neg =>
    go_wp2_with fail
    go_ret
    refine ⟨ret_int ?_, hS⟩
    rw [firstE, if_neg he]
  subst he
  go_wp2_with fail
  refine (HPR.out _ hS).mono ?_
  rintro e w3 ⟨rfl, hb⟩
  replace hS := hS.trans hb; replace p_c0 := hb.cell p_c0; replace p_c1 := hb.cell p_c1; replace p_c2 := hb.cell p_c2; replace p_c3 := hb.cell p_c3; replace p_c4 := hb.cell p_c4; replace p_c5 := hb.cell p_c5; replace p_c6 := hb.cell p_c6; replace a_c0 := hb.cell a_c0; replace a_c1 := hb.cell a_c1; replace a_c2 := hb.cell a_c2; replace a_c3 := hb.cell a_c3; replace a_c4 := hb.cell a_c4; replace a_c5 := hb.cell a_c5; replace a_c6 := hb.cell a_c6; replace a_c7 := hb.cell a_c7; replace a_c8 := hb.cell a_c8; replace a_c9 := hb.cell a_c9; replace a_c10 := hb.cell a_c10
  clear hb HPR
  cases B
  · go_wp2_with fail
    go_ret
    exact ⟨rfl, hS⟩
  go_wp2_with fail
  refine (HAR.out _ hS).mono ?_
  rintro e w4 ⟨rfl, hb⟩
  replace hS := hS.trans hb; replace p_c0 := hb.cell p_c0; replace p_c1 := hb.cell p_c1; replace p_c2 := hb.cell p_c2; replace p_c3 := hb.cell p_c3; replace p_c4 := hb.cell p_c4; replace p_c5 := hb.cell p_c5; replace p_c6 := hb.cell p_c6; replace a_c0 := hb.cell a_c0; replace a_c1 := hb.cell a_c1; replace a_c2 := hb.cell a_c2; replace a_c3 := hb.cell a_c3; replace a_c4 := hb.cell a_c4; replace a_c5 := hb.cell a_c5; replace a_c6 := hb.cell a_c6; replace a_c7 := hb.cell a_c7; replace a_c8 := hb.cell a_c8; replace a_c9 := hb.cell a_c9; replace a_c10 := hb.cell a_c10
  clear hb HAR
  cases S
  · go_wp2_with fail
    go_ret
    exact ⟨rfl, hS⟩
  cases hz : (n != a_n)
  · go_wp2_with fail
    go_ret
    refine ⟨ret_int ?_, hS⟩
    rw [hz]
    rfl
  · go_wp2_with fail
    go_ret
    refine ⟨ret_int ?_, hS⟩
    rw [hz]
    rfl
end Go.Proofs.YtpkggopaigledaaDoor

namespace Go.Proofs.YtpkggopaigledaaDoor
open Go.RowKit

set_option maxHeartbeats 1000000 in
set_option maxRecDepth 100000 in
theorem r12goal_any (ap ad ac ar ag : Option Addr) (np cp nd cd nc cc nr cr ng cg : Nat) (qu bu : Int) (pr : List Txt) (pd : List (Txt × Int)) (a_s a_p : List UInt8) (a_n : Int) (a_v0 a_v1 a_v2 a_v3 : Bool) (a_l0 a_l1 a_l2 a_l3 : List UInt8) (w : World) (hT : TRow w (.slice ap np cp) pr) (hP : PRow w (.slice ad nd cd) pd) (lr : pr.length ≤ 1000000) (lp : pd.length ≤ 1000000) (hF : FitsA ((a_s, a_p, a_n, (a_v0, a_l0), (a_v1, a_l1), (a_v2, a_l2), (a_v3, a_l3)) : Atm)) :
    Calls Tryd.prog 29 #[.agg #[.slice ap np cp, .slice ad nd cd, .slice ac nc cc, .int .i64 qu, .int .i64 bu, .slice ar nr cr, .slice ag ng cg], .agg #[.string ⟨a_s.toArray⟩, .string ⟨a_p.toArray⟩, .int .i64 a_n, .bool a_v0, .string ⟨a_l0.toArray⟩, .bool a_v1, .string ⟨a_l1.toArray⟩, .bool a_v2, .string ⟨a_l2.toArray⟩, .bool a_v3, .string ⟨a_l3.toArray⟩]] w fun e w' => e = .returned (.int .i64 (atomE pr pd ((a_s, a_p, a_n, (a_v0, a_l0), (a_v1, a_l1), (a_v2, a_l2), (a_v3, a_l3)) : Atm))) ∧ Since w w' := by
  have hS : Since w ((w.alloc (.cells #[.slice ap np cp, .slice ad nd cd, .slice ac nc cc, .int .i64 qu, .int .i64 bu, .slice ar nr cr, .slice ag ng cg] 28)).alloc (.cells #[.string ⟨a_s.toArray⟩, .string ⟨a_p.toArray⟩, .int .i64 a_n, .bool a_v0, .string ⟨a_l0.toArray⟩, .bool a_v1, .string ⟨a_l1.toArray⟩, .bool a_v2, .string ⟨a_l2.toArray⟩, .bool a_v3, .string ⟨a_l3.toArray⟩] 39)) := ((Since.refl _).alloc _).alloc _
  have HC := Lib.hid (r12atom_any ap ad ac ar ag np cp nd cd nc cc nr cr ng cg qu bu pr pd a_s a_p a_n a_v0 a_v1 a_v2 a_v3 a_l0 a_l1 a_l2 a_l3 _ (tnext hT hS) (pnext hP hS) lr lp hF)
  clear hT hP hF
  go_enter Tryd.func29, Tryd.ntmps29
  go_wp2_with fail
  refine HC.out.mono ?_
  rintro e w1 ⟨rfl, hb⟩
  go_wp2_with fail
  go_ret
  exact ⟨rfl, hS.trans hb⟩
set_option maxHeartbeats 4000000 in
set_option maxRecDepth 100000 in
theorem r12fact_any (ap ad ac ar ag : Option Addr) (np cp nd cd nc cc nr cr ng cg : Nat) (qu bu : Int) (pr : List Txt) (pd : List (Txt × Int)) (s : Txt) (a_s a_p : List UInt8) (a_n : Int) (a_v0 a_v1 a_v2 a_v3 : Bool) (a_l0 a_l1 a_l2 a_l3 : List UInt8) (w : World) (hT : TRow w (.slice ap np cp) pr) (hP : PRow w (.slice ad nd cd) pd) (lr : pr.length ≤ 1000000) (lp : pd.length ≤ 1000000) (hF : FitsA ((a_s, a_p, a_n, (a_v0, a_l0), (a_v1, a_l1), (a_v2, a_l2), (a_v3, a_l3)) : Atm)) :
    Calls Tryd.prog 30 #[.agg #[.slice ap np cp, .slice ad nd cd, .slice ac nc cc, .int .i64 qu, .int .i64 bu, .slice ar nr cr, .slice ag ng cg], .string ⟨s.toArray⟩, .agg #[.string ⟨a_s.toArray⟩, .string ⟨a_p.toArray⟩, .int .i64 a_n, .bool a_v0, .string ⟨a_l0.toArray⟩, .bool a_v1, .string ⟨a_l1.toArray⟩, .bool a_v2, .string ⟨a_l2.toArray⟩, .bool a_v3, .string ⟨a_l3.toArray⟩]] w fun e w' => e = .returned (.int .i64 (factE pr pd s ((a_s, a_p, a_n, (a_v0, a_l0), (a_v1, a_l1), (a_v2, a_l2), (a_v3, a_l3)) : Atm))) ∧ Since w w' := by
  have hS : Since w ((w.alloc (.cells #[.slice ap np cp, .slice ad nd cd, .slice ac nc cc, .int .i64 qu, .int .i64 bu, .slice ar nr cr, .slice ag ng cg] 28)).alloc (.cells #[.string ⟨a_s.toArray⟩, .string ⟨a_p.toArray⟩, .int .i64 a_n, .bool a_v0, .string ⟨a_l0.toArray⟩, .bool a_v1, .string ⟨a_l1.toArray⟩, .bool a_v2, .string ⟨a_l2.toArray⟩, .bool a_v3, .string ⟨a_l3.toArray⟩] 39)) := ((Since.refl _).alloc _).alloc _
  obtain ⟨p_c0, p_c1, p_c2, p_c3, p_c4, p_c5, p_c6⟩ := (pbox_new w ap ad ac ar ag np cp nd cd nc cc nr cr ng cg qu bu 28).next ((Since.refl _).alloc (.cells #[.string ⟨a_s.toArray⟩, .string ⟨a_p.toArray⟩, .int .i64 a_n, .bool a_v0, .string ⟨a_l0.toArray⟩, .bool a_v1, .string ⟨a_l1.toArray⟩, .bool a_v2, .string ⟨a_l2.toArray⟩, .bool a_v3, .string ⟨a_l3.toArray⟩] 39))
  have a_B : Box ((w.alloc (.cells #[.slice ap np cp, .slice ad nd cd, .slice ac nc cc, .int .i64 qu, .int .i64 bu, .slice ar nr cr, .slice ag ng cg] 28)).alloc (.cells #[.string ⟨a_s.toArray⟩, .string ⟨a_p.toArray⟩, .int .i64 a_n, .bool a_v0, .string ⟨a_l0.toArray⟩, .bool a_v1, .string ⟨a_l1.toArray⟩, .bool a_v2, .string ⟨a_l2.toArray⟩, .bool a_v3, .string ⟨a_l3.toArray⟩] 39)) (w.heap.size + 1) ((a_s, a_p, a_n, (a_v0, a_l0), (a_v1, a_l1), (a_v2, a_l2), (a_v3, a_l3)) : Atm) := by
    have := box_new (w.alloc (.cells #[.slice ap np cp, .slice ad nd cd, .slice ac nc cc, .int .i64 qu, .int .i64 bu, .slice ar nr cr, .slice ag ng cg] 28)) ((a_s, a_p, a_n, (a_v0, a_l0), (a_v1, a_l1), (a_v2, a_l2), (a_v3, a_l3)) : Atm) 39
    rwa [World.size_alloc] at this
  obtain ⟨a_c0, a_c1, a_c2, a_c3, a_c4, a_c5, a_c6, a_c7, a_c8, a_c9, a_c10⟩ := a_B.all
  obtain ⟨E, hE⟩ : ∃ E, Hid (E = atomE pr pd ((a_s, a_p, a_n, (a_v0, a_l0), (a_v1, a_l1), (a_v2, a_l2), (a_v3, a_l3)) : Atm)) := ⟨_, rfl⟩
  obtain ⟨B, hB⟩ : ∃ B, Hid (B = pr.contains s) := ⟨_, rfl⟩
  obtain ⟨G, hG⟩ : ∃ G, Hid (G = groundA ((a_s, a_p, a_n, (a_v0, a_l0), (a_v1, a_l1), (a_v2, a_l2), (a_v3, a_l3)) : Atm)) := ⟨_, rfl⟩
  have HR : Hid (factE pr pd s ((a_s, a_p, a_n, (a_v0, a_l0), (a_v1, a_l1), (a_v2, a_l2), (a_v3, a_l3)) : Atm) = firstE [ifE (!B) 6, E, ifE (!G) 10, ifE (!(a_s == s)) 11]) := by
    show _ = _
    rw [hE.out, hB.out, hG.out]; rfl
  have HCK : Hid (∀ W, Since w W → Calls Tryd.prog 28 #[.agg #[.slice ap np cp, .slice ad nd cd, .slice ac nc cc, .int .i64 qu, .int .i64 bu, .slice ar nr cr, .slice ag ng cg], .agg #[.string ⟨a_s.toArray⟩, .string ⟨a_p.toArray⟩, .int .i64 a_n, .bool a_v0, .string ⟨a_l0.toArray⟩, .bool a_v1, .string ⟨a_l1.toArray⟩, .bool a_v2, .string ⟨a_l2.toArray⟩, .bool a_v3, .string ⟨a_l3.toArray⟩]] W fun e w' => e = .returned (.int .i64 E) ∧ Since W w') := by
    intro W h; rw [hE.out]; exact r12atom_any ap ad ac ar ag np cp nd cd nc cc nr cr ng cg qu bu pr pd a_s a_p a_n a_v0 a_v1 a_v2 a_v3 a_l0 a_l1 a_l2 a_l3 W (tnext hT h) (pnext hP h) lr lp hF
  have HPR : Hid (∀ W, Since w W → Calls Tryd.prog 31 #[.agg #[.slice ap np cp, .slice ad nd cd, .slice ac nc cc, .int .i64 qu, .int .i64 bu, .slice ar nr cr, .slice ag ng cg], .string ⟨s.toArray⟩] W fun e w' => e = .returned (.bool B) ∧ Since W w') := by
    intro W h; rw [hB.out]; exact r12prin_any ap ad ac ar ag np cp nd cd nc cc nr cr ng cg qu bu pr s W (tnext hT h) lr
  have HGR : Hid (∀ W, Calls Tryd.prog 21 #[.agg #[.string ⟨a_s.toArray⟩, .string ⟨a_p.toArray⟩, .int .i64 a_n, .bool a_v0, .string ⟨a_l0.toArray⟩, .bool a_v1, .string ⟨a_l1.toArray⟩, .bool a_v2, .string ⟨a_l2.toArray⟩, .bool a_v3, .string ⟨a_l3.toArray⟩]] W fun e w' => e = .returned (.bool G) ∧ Since W w') := by
    intro W; rw [hG.out]; exact rground_any a_s a_p a_n a_v0 a_v1 a_v2 a_v3 a_l0 a_l1 a_l2 a_l3 W
  rw [HR.out]
  clear hT hP hF a_B hE hB hG HR
  go_enter Tryd.func30, Tryd.ntmps30
  go_wp2_with fail
  generalize ((w.alloc (.cells #[.slice ap np cp, .slice ad nd cd, .slice ac nc cc, .int .i64 qu, .int .i64 bu, .slice ar nr cr, .slice ag ng cg] 28)).alloc (.cells #[.string ⟨a_s.toArray⟩, .string ⟨a_p.toArray⟩, .int .i64 a_n, .bool a_v0, .string ⟨a_l0.toArray⟩, .bool a_v1, .string ⟨a_l1.toArray⟩, .bool a_v2, .string ⟨a_l2.toArray⟩, .bool a_v3, .string ⟨a_l3.toArray⟩] 39)) = w1 at *
  refine (HPR.out _ hS).mono ?_
  rintro e w2 ⟨rfl, hb⟩
  replace hS := hS.trans hb; replace p_c0 := hb.cell p_c0; replace p_c1 := hb.cell p_c1; replace p_c2 := hb.cell p_c2; replace p_c3 := hb.cell p_c3; replace p_c4 := hb.cell p_c4; replace p_c5 := hb.cell p_c5; replace p_c6 := hb.cell p_c6; replace a_c0 := hb.cell a_c0; replace a_c1 := hb.cell a_c1; replace a_c2 := hb.cell a_c2; replace a_c3 := hb.cell a_c3; replace a_c4 := hb.cell a_c4; replace a_c5 := hb.cell a_c5; replace a_c6 := hb.cell a_c6; replace a_c7 := hb.cell a_c7; replace a_c8 := hb.cell a_c8; replace a_c9 := hb.cell a_c9; replace a_c10 := hb.cell a_c10
  clear hb HPR
  cases B
  · go_wp2_with fail
    go_ret
    exact ⟨rfl, hS⟩
  go_wp2_with fail
  refine (HCK.out _ hS).mono ?_
  rintro e w3 ⟨rfl, hb⟩
  replace hS := hS.trans hb; replace p_c0 := hb.cell p_c0; replace p_c1 := hb.cell p_c1; replace p_c2 := hb.cell p_c2; replace p_c3 := hb.cell p_c3; replace p_c4 := hb.cell p_c4; replace p_c5 := hb.cell p_c5; replace p_c6 := hb.cell p_c6; replace a_c0 := hb.cell a_c0; replace a_c1 := hb.cell a_c1; replace a_c2 := hb.cell a_c2; replace a_c3 := hb.cell a_c3; replace a_c4 := hb.cell a_c4; replace a_c5 := hb.cell a_c5; replace a_c6 := hb.cell a_c6; replace a_c7 := hb.cell a_c7; replace a_c8 := hb.cell a_c8; replace a_c9 := hb.cell a_c9; replace a_c10 := hb.cell a_c10
  clear hb HCK
  by_cases he : E = 0
  case neg =>
    go_wp2_with fail
    go_ret
    refine ⟨ret_int ?_, hS⟩
    simp [firstE, ifE, he]
  subst he
  go_wp2_with fail
  refine (HGR.out _).mono ?_
  rintro e w4 ⟨rfl, hb⟩
  replace hS := hS.trans hb; replace p_c0 := hb.cell p_c0; replace p_c1 := hb.cell p_c1; replace p_c2 := hb.cell p_c2; replace p_c3 := hb.cell p_c3; replace p_c4 := hb.cell p_c4; replace p_c5 := hb.cell p_c5; replace p_c6 := hb.cell p_c6; replace a_c0 := hb.cell a_c0; replace a_c1 := hb.cell a_c1; replace a_c2 := hb.cell a_c2; replace a_c3 := hb.cell a_c3; replace a_c4 := hb.cell a_c4; replace a_c5 := hb.cell a_c5; replace a_c6 := hb.cell a_c6; replace a_c7 := hb.cell a_c7; replace a_c8 := hb.cell a_c8; replace a_c9 := hb.cell a_c9; replace a_c10 := hb.cell a_c10
  clear hb HGR
  cases G
  · go_wp2_with fail
    go_ret
    exact ⟨rfl, hS⟩
  cases hz : (a_s == s)
  · have hz2 : (a_s != s) = true := by rw [bne, hz]; rfl
    go_wp2_with fail
    go_ret
    refine ⟨ret_int ?_, hS⟩
    rw [hz]
    rfl
  · have hz2 : (a_s != s) = false := by rw [bne, hz]; rfl
    go_wp2_with fail
    go_ret
    refine ⟨ret_int ?_, hS⟩
    rw [hz]
    rfl
end Go.Proofs.YtpkggopaigledaaDoor
