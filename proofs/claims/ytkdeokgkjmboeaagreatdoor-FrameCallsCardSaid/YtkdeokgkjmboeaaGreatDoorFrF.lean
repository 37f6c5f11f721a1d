/- The odd atoms of a response: the closure, IndexFunc, ContainsFunc; mayResponse. slices.Equal at atoms; frame.Same. -/
import Derived.Test.YtkdeokgkjmboeaaGreatDoorFrE
import Derived.Test.YtkdeokgkjmboeaaGreatDoorEq
import Derived.Deep.QuietTactic
import Derived.BigQuiet
namespace Go.Proofs.YtkdeokgkjmboeaaGreatDoor
open Go.RowKit

def oddB (a : Atm) : Bool := checkA a != 0 || !groundA a
set_option maxHeartbeats 1000000 in
set_option maxRecDepth 100000 in
theorem odd_any (a_s a_p : List UInt8) (a_n : Int) (a_v0 a_v1 a_v2 a_v3 : Bool) (a_l0 a_l1 a_l2 a_l3 : List UInt8) (w : World) (hF : FitsA ((a_s, a_p, a_n, (a_v0, a_l0), (a_v1, a_l1), (a_v2, a_l2), (a_v3, a_l3)) : Atm)) (hE : Env w) :
    Calls Tryz.prog 48 #[.agg #[.string ⟨a_s.toArray⟩, .string ⟨a_p.toArray⟩, .int .i64 a_n, .bool a_v0, .string ⟨a_l0.toArray⟩, .bool a_v1, .string ⟨a_l1.toArray⟩, .bool a_v2, .string ⟨a_l2.toArray⟩, .bool a_v3, .string ⟨a_l3.toArray⟩]] w fun e w' => e = .returned (.bool (oddB ((a_s, a_p, a_n, (a_v0, a_l0), (a_v1, a_l1), (a_v2, a_l2), (a_v3, a_l3)) : Atm))) ∧ Since w w' := by
  have hS : Since w (w.alloc (.cells #[.string ⟨a_s.toArray⟩, .string ⟨a_p.toArray⟩, .int .i64 a_n, .bool a_v0, .string ⟨a_l0.toArray⟩, .bool a_v1, .string ⟨a_l1.toArray⟩, .bool a_v2, .string ⟨a_l2.toArray⟩, .bool a_v3, .string ⟨a_l3.toArray⟩] 26)) := (Since.refl _).alloc _
  have a_B : Box (w.alloc (.cells #[.string ⟨a_s.toArray⟩, .string ⟨a_p.toArray⟩, .int .i64 a_n, .bool a_v0, .string ⟨a_l0.toArray⟩, .bool a_v1, .string ⟨a_l1.toArray⟩, .bool a_v2, .string ⟨a_l2.toArray⟩, .bool a_v3, .string ⟨a_l3.toArray⟩] 26)) w.heap.size ((a_s, a_p, a_n, (a_v0, a_l0), (a_v1, a_l1), (a_v2, a_l2), (a_v3, a_l3)) : Atm) := box_new w ((a_s, a_p, a_n, (a_v0, a_l0), (a_v1, a_l1), (a_v2, a_l2), (a_v3, a_l3)) : Atm) _
  obtain ⟨a_c0, a_c1, a_c2, a_c3, a_c4, a_c5, a_c6, a_c7, a_c8, a_c9, a_c10⟩ := a_B.all
  have hE1 := hE.next hS
  have HC := Lib.hid (fun W hE => check_any a_s a_p a_n a_v0 a_v1 a_v2 a_v3 a_l0 a_l1 a_l2 a_l3 W hF hE)
  have HG := Lib.hid (fun W hE => ground_any a_s a_p a_n a_v0 a_v1 a_v2 a_v3 a_l0 a_l1 a_l2 a_l3 W hF hE)
  have ho : oddB ((a_s, a_p, a_n, (a_v0, a_l0), (a_v1, a_l1), (a_v2, a_l2), (a_v3, a_l3)) : Atm) = (checkA ((a_s, a_p, a_n, (a_v0, a_l0), (a_v1, a_l1), (a_v2, a_l2), (a_v3, a_l3)) : Atm) != 0 || !groundA ((a_s, a_p, a_n, (a_v0, a_l0), (a_v1, a_l1), (a_v2, a_l2), (a_v3, a_l3)) : Atm)) := rfl
  rw [ho]
  clear ho hF hE
  generalize checkA ((a_s, a_p, a_n, (a_v0, a_l0), (a_v1, a_l1), (a_v2, a_l2), (a_v3, a_l3)) : Atm) = C at *
  generalize groundA ((a_s, a_p, a_n, (a_v0, a_l0), (a_v1, a_l1), (a_v2, a_l2), (a_v3, a_l3)) : Atm) = G at *
  cases hz : (C != 0)
  · go_enter Tryz.func48, Tryz.ntmps48
    go_wp2_with fail
    refine (HC.out _ hE1).mono ?_
    rintro e w1 ⟨rfl, hb⟩
    replace a_B := a_B.next hb; replace a_c0 := hb.cell a_c0; replace a_c1 := hb.cell a_c1; replace a_c2 := hb.cell a_c2; replace a_c3 := hb.cell a_c3; replace a_c4 := hb.cell a_c4; replace a_c5 := hb.cell a_c5; replace a_c6 := hb.cell a_c6; replace a_c7 := hb.cell a_c7; replace a_c8 := hb.cell a_c8; replace a_c9 := hb.cell a_c9; replace a_c10 := hb.cell a_c10
    replace hS := hS.trans hb
    replace hE1 := hE1.next hb
    clear hb
    go_wp2_with fail
    refine (HG.out _ hE1).mono ?_
    rintro e w2 ⟨rfl, hb⟩
    clear a_c0 a_c1 a_c2 a_c3 a_c4 a_c5 a_c6 a_c7 a_c8 a_c9 a_c10
    go_wp2_with fail
    go_ret
    exact ⟨rfl, hS.trans hb⟩
  · go_enter Tryz.func48, Tryz.ntmps48
    go_wp2_with fail
    refine (HC.out _ hE1).mono ?_
    rintro e w1 ⟨rfl, hb⟩
    clear a_c0 a_c1 a_c2 a_c3 a_c4 a_c5 a_c6 a_c7 a_c8 a_c9 a_c10
    go_wp2_with fail
    go_ret
    exact ⟨rfl, hS.trans hb⟩
def idxA (f : Atm → Bool) : List Atm → Nat → Int
  | [], _ => -1
  | t :: r, k => if f t then k else idxA f r (k + 1)
theorem idxA_any (f : Atm → Bool) : ∀ (L : List Atm) (k : Nat), decide (0 ≤ idxA f L k) = L.any f
  | [], _ => rfl
  | t :: r, k => by
    rw [idxA, List.any_cons]
    cases h : f t
    · rw [if_neg (by simp), idxA_any f r (k + 1), Bool.false_or]
    · rw [if_pos rfl, Bool.true_or]
      exact decide_eq_true (Int.natCast_nonneg k)
set_option maxHeartbeats 1000000 in
theorem idx_odd (v : Value) (L : List Atm) (w : World) (hE : Env w) (hv : AtmRow w v L) (hl : ∀ x ∈ L, FitsA x) (hm : L.length ≤ 1000000) :
    Calls Tryz.prog 72 #[v, .func (.func 48) #[] #[]] w fun e w' => e = .returned (.int .i64 (idxA oddB L 0)) ∧ Since w w' := by
  obtain ⟨R, hR⟩ : ∃ R, Hid (R = idxA oddB L 0) := ⟨_, rfl⟩
  have hres0 : Hid (R = idxA oddB (L.drop 0) 0) := hR
  rw [← hR.out]
  obtain ⟨a, c, rfl⟩ := hv.form
  have HV := Lib.hid hv
  have HL := Lib.hid hl
  clear hv hl hR
  go_enter Tryz.func72, Tryz.ntmps72
  go_wp2_with fail
  go_loopw [5, 8] (fun _ h wr => ∃ k : Nat, k ≤ L.length ∧ h = .int .i64 (k : Int) ∧ Since w wr ∧ Env wr ∧ Hid (R = idxA oddB (L.drop k) k)) (fun _ h _ => L.length - (intOf h).toNat)
  case atStart => exact ⟨0, by omega, rfl, Since.refl _, hE, hres0.out⟩
  case round =>
    clear hE hres0
    obtain ⟨k, hk, rfl, hS, hE, hres⟩ := hrel
    by_cases hlt : k < L.length
    · obtain ⟨_, b, o, he, hc, hat⟩ := (HV.out.next hS).get (by omega)
      cases he
      have hx := hat k hlt
      have hfl := HL.out _ (List.getElem_mem hlt)
      have hres2 : Hid (R = if oddB L[k] then (k : Int) else idxA oddB (L.drop (k + 1)) (k + 1)) := by
        show _ = _
        rw [hres.out, List.drop_eq_getElem_cons hlt, idxA]
      have hkl : (k : Int) < (L.length : Int) := by omega
      clear hat hres
      generalize L[k] = x at *
      obtain ⟨a_s, a_p, a_n, ⟨a_v0, a_l0⟩, ⟨a_v1, a_l1⟩, ⟨a_v2, a_l2⟩, ⟨a_v3, a_l3⟩⟩ := x
      obtain ⟨a_c0, a_c1, a_c2, a_c3, a_c4, a_c5, a_c6, a_c7, a_c8, a_c9, a_c10⟩ := hx.all
      have HO := Lib.hid (fun W hE => odd_any a_s a_p a_n a_v0 a_v1 a_v2 a_v3 a_l0 a_l1 a_l2 a_l3 W hfl hE)
      clear hx hfl
      cases ho : oddB ((a_s, a_p, a_n, (a_v0, a_l0), (a_v1, a_l1), (a_v2, a_l2), (a_v3, a_l3)) : Atm)
      · rw [ho] at HO hres2
        have hnx : Hid (R = idxA oddB (L.drop (k + 1)) (k + 1)) := hres2
        clear hres2 ho
        go_wp2_with fail
        refine (HO.out _ hE).mono ?_
        rintro e w4 ⟨rfl, hb4⟩
        clear a_c0 a_c1 a_c2 a_c3 a_c4 a_c5 a_c6 a_c7 a_c8 a_c9 a_c10
        go_wp2_with fail
        go_roundw
        case rel => exact ⟨k + 1, by omega, by go_num, hS.trans hb4, hE.next hb4, hnx.out⟩
        case measure => simp [intOf]; omega
      · rw [ho] at HO hres2
        have hnx : Hid (R = (k : Int)) := hres2
        clear hres2 ho
        go_wp2_with fail
        refine (HO.out _ hE).mono ?_
        rintro e w4 ⟨rfl, hb4⟩
        clear a_c0 a_c1 a_c2 a_c3 a_c4 a_c5 a_c6 a_c7 a_c8 a_c9 a_c10
        go_wp2_with fail
        go_ret
        exact ⟨ret_int hnx.out.symm, hS.trans hb4⟩
    · have hnx : Hid (R = -1) := by
        show _ = _
        rw [hres.out, List.drop_eq_nil_of_le (by omega)]; rfl
      clear hres
      go_wp2_with fail
      go_ret
      exact ⟨ret_int hnx.out.symm, hS⟩
theorem has_odd (v : Value) (L : List Atm) (w : World) (hE : Env w) (hv : AtmRow w v L) (hl : ∀ x ∈ L, FitsA x) (hm : L.length ≤ 1000000) :
    Calls Tryz.prog 51 #[v, .func (.func 48) #[] #[]] w fun e w' => e = .returned (.bool (L.any oddB)) ∧ Since w w' := by
  have H := Lib.hid (idx_odd v L w hE hv hl hm)
  have ha := idxA_any oddB L 0
  clear hE hv hl hm
  rw [← ha]
  clear ha
  generalize idxA oddB L 0 = R at *
  go_enter Tryz.func51, Tryz.ntmps51
  go_wp2_with fail
  refine H.out.mono ?_
  rintro e w1 ⟨rfl, hb⟩
  go_wp2_with fail
  go_ret
  exact ⟨rfl, hb⟩
/-- A response: its code, whether facts were changed, its answers, its certificate. -/
abbrev Rsp := Int × Bool × List Atm × List UInt8
def moreB (x : Rsp) : Bool := decide (0 < x.2.2.1.length) || !x.2.2.2.isEmpty
def mayRs (x : Rsp) : Bool :=
  if x.1 < 0 ∨ 16 < x.1 then false
  else if x.1 ≠ 0 then !moreB x && !x.2.1
  else if moreB x && x.2.1 then false
  else isF x.2.2.1 && !(x.2.2.1.any oddB)
set_option maxHeartbeats 16000000 in
set_option maxRecDepth 100000 in
theorem mayRs_any (code : Int) (ch : Bool) (v : Value) (L : List Atm) (ct : List UInt8) (w : World) (hE : Env w) (hv : AtmRow w v L) (hl : ∀ x ∈ L, FitsA x) (hg : ∀ x ∈ L, Light x) (hm : L.length ≤ 1000000) :
    Calls Tryz.prog 30 #[.agg #[.int .i64 code, .bool ch, v, .string ⟨ct.toArray⟩]] w fun e w' => e = .returned (.bool (mayRs (code, ch, L, ct))) ∧ Since w w' := by
  obtain ⟨a, c, rfl⟩ := hv.form
  have hA : Since w (w.alloc (.cells #[.int .i64 code, .bool ch, .slice a L.length c, .string ⟨ct.toArray⟩] 32)) := (Since.refl _).alloc _
  have hE1 := hE.next hA
  have hv1 := hv.next hA
  have HI := Lib.hid (is_any (.slice a L.length c) L _ hv1 hg hm)
  have HH := Lib.hid (fun W hE hv => has_odd (.slice a L.length c) L W hE hv hl hm)
  have hM : Hid (mayRs (code, ch, L, ct) = if code < 0 ∨ 16 < code then false else if code ≠ 0 then !moreB (code, ch, L, ct) && !ch else if moreB (code, ch, L, ct) && ch then false else isF L && !(L.any oddB)) := rfl
  have hmo : Hid (moreB (code, ch, L, ct) = (decide (0 < L.length) || !ct.isEmpty)) := rfl
  generalize mayRs (code, ch, L, ct) = M at *
  generalize moreB (code, ch, L, ct) = O at *
  generalize isF L = I at *
  generalize L.any oddB = D at *
  have r0 : (w.alloc (.cells #[.int .i64 code, .bool ch, .slice a L.length c, .string ⟨ct.toArray⟩] 32)).cell? ⟨w.heap.size, 2, none⟩ = some (.slice a L.length c) := by rw [World.cell?_alloc_new]; rfl
  have HV := Lib.hid hv1
  clear hv hv1 hE hl hg
  generalize L.length = n at *
  cases h1 : decide (0 < n)
  · cases h2 : ct.isEmpty
    · have hO : O = true := by rw [hmo.out, h1, h2]; rfl
      subst hO
      clear hmo
      cases c1 : decide (code < 0)
      · cases c2 : decide (16 < code)
        · cases c3 : (code != 0)
          · cases ch
            · have hMv : Hid (M = (I && !D)) := by show _ = _; rw [hM.out, if_neg (fun h => h.elim (of_decide_eq_false c1) (of_decide_eq_false c2)), if_neg (by simpa using c3), if_neg (by simp)]
              clear hM
              cases I
              · have hMw : Hid (M = false) := hMv.out
                clear hMv
                go_enter Tryz.func30, Tryz.ntmps30
                go_wp2_with fail
                refine HI.out.mono ?_
                rintro e w1 ⟨rfl, hb⟩
                go_wp2_with fail
                go_ret
                exact ⟨ret_bool hMw.out.symm, hA.trans hb⟩
              · have hMw : Hid (M = !D) := by show _ = _; rw [hMv.out]; rfl
                clear hMv
                go_enter Tryz.func30, Tryz.ntmps30
                go_wp2_with fail
                refine HI.out.mono ?_
                rintro e w1 ⟨rfl, hb⟩
                replace r0 := hb.cell r0
                have hE2 := hE1.next hb
                have hV2 := HV.out.next hb
                go_wp2_with fail
                refine (HH.out _ hE2 hV2).mono ?_
                rintro e w2 ⟨rfl, hb2⟩
                go_wp2_with fail
                go_ret
                exact ⟨ret_bool hMw.out.symm, (hA.trans hb).trans hb2⟩
            · have hMv : Hid (M = false) := by show _ = _; rw [hM.out, if_neg (fun h => h.elim (of_decide_eq_false c1) (of_decide_eq_false c2)), if_neg (by simpa using c3), if_pos (by simp)]
              clear hM
              go_enter Tryz.func30, Tryz.ntmps30
              go_wp2_with fail
              go_ret
              exact ⟨ret_bool hMv.out.symm, hA⟩
          · cases ch
            · have hMv : Hid (M = false) := by show _ = _; rw [hM.out, if_neg (fun h => h.elim (of_decide_eq_false c1) (of_decide_eq_false c2)), if_pos (by simpa using c3)]; rfl
              clear hM
              go_enter Tryz.func30, Tryz.ntmps30
              go_wp2_with fail
              go_ret
              exact ⟨ret_bool hMv.out.symm, hA⟩
            · have hMv : Hid (M = false) := by show _ = _; rw [hM.out, if_neg (fun h => h.elim (of_decide_eq_false c1) (of_decide_eq_false c2)), if_pos (by simpa using c3)]; rfl
              clear hM
              go_enter Tryz.func30, Tryz.ntmps30
              go_wp2_with fail
              go_ret
              exact ⟨ret_bool hMv.out.symm, hA⟩
        · have hMv : Hid (M = false) := by show _ = _; rw [hM.out, if_pos (.inr (of_decide_eq_true c2))]
          clear hM
          go_enter Tryz.func30, Tryz.ntmps30
          go_wp2_with fail
          go_ret
          exact ⟨ret_bool hMv.out.symm, hA⟩
      · have hMv : Hid (M = false) := by show _ = _; rw [hM.out, if_pos (.inl (of_decide_eq_true c1))]
        clear hM
        go_enter Tryz.func30, Tryz.ntmps30
        go_wp2_with fail
        go_ret
        exact ⟨ret_bool hMv.out.symm, hA⟩
    · have hO : O = false := by rw [hmo.out, h1, h2]; rfl
      subst hO
      clear hmo
      cases c1 : decide (code < 0)
      · cases c2 : decide (16 < code)
        · cases c3 : (code != 0)
          · cases ch
            · have hMv : Hid (M = (I && !D)) := by show _ = _; rw [hM.out, if_neg (fun h => h.elim (of_decide_eq_false c1) (of_decide_eq_false c2)), if_neg (by simpa using c3), if_neg (by simp)]
              clear hM
              cases I
              · have hMw : Hid (M = false) := hMv.out
                clear hMv
                go_enter Tryz.func30, Tryz.ntmps30
                go_wp2_with fail
                refine HI.out.mono ?_
                rintro e w1 ⟨rfl, hb⟩
                go_wp2_with fail
                go_ret
                exact ⟨ret_bool hMw.out.symm, hA.trans hb⟩
              · have hMw : Hid (M = !D) := by show _ = _; rw [hMv.out]; rfl
                clear hMv
                go_enter Tryz.func30, Tryz.ntmps30
                go_wp2_with fail
                refine HI.out.mono ?_
                rintro e w1 ⟨rfl, hb⟩
                replace r0 := hb.cell r0
                have hE2 := hE1.next hb
                have hV2 := HV.out.next hb
                go_wp2_with fail
                refine (HH.out _ hE2 hV2).mono ?_
                rintro e w2 ⟨rfl, hb2⟩
                go_wp2_with fail
                go_ret
                exact ⟨ret_bool hMw.out.symm, (hA.trans hb).trans hb2⟩
            · have hMv : Hid (M = (I && !D)) := by show _ = _; rw [hM.out, if_neg (fun h => h.elim (of_decide_eq_false c1) (of_decide_eq_false c2)), if_neg (by simpa using c3), if_neg (by simp)]
              clear hM
              cases I
              · have hMw : Hid (M = false) := hMv.out
                clear hMv
                go_enter Tryz.func30, Tryz.ntmps30
                go_wp2_with fail
                refine HI.out.mono ?_
                rintro e w1 ⟨rfl, hb⟩
                go_wp2_with fail
                go_ret
                exact ⟨ret_bool hMw.out.symm, hA.trans hb⟩
              · have hMw : Hid (M = !D) := by show _ = _; rw [hMv.out]; rfl
                clear hMv
                go_enter Tryz.func30, Tryz.ntmps30
                go_wp2_with fail
                refine HI.out.mono ?_
                rintro e w1 ⟨rfl, hb⟩
                replace r0 := hb.cell r0
                have hE2 := hE1.next hb
                have hV2 := HV.out.next hb
                go_wp2_with fail
                refine (HH.out _ hE2 hV2).mono ?_
                rintro e w2 ⟨rfl, hb2⟩
                go_wp2_with fail
                go_ret
                exact ⟨ret_bool hMw.out.symm, (hA.trans hb).trans hb2⟩
          · cases ch
            · have hMv : Hid (M = true) := by show _ = _; rw [hM.out, if_neg (fun h => h.elim (of_decide_eq_false c1) (of_decide_eq_false c2)), if_pos (by simpa using c3)]; rfl
              clear hM
              go_enter Tryz.func30, Tryz.ntmps30
              go_wp2_with fail
              go_ret
              exact ⟨ret_bool hMv.out.symm, hA⟩
            · have hMv : Hid (M = false) := by show _ = _; rw [hM.out, if_neg (fun h => h.elim (of_decide_eq_false c1) (of_decide_eq_false c2)), if_pos (by simpa using c3)]; rfl
              clear hM
              go_enter Tryz.func30, Tryz.ntmps30
              go_wp2_with fail
              go_ret
              exact ⟨ret_bool hMv.out.symm, hA⟩
        · have hMv : Hid (M = false) := by show _ = _; rw [hM.out, if_pos (.inr (of_decide_eq_true c2))]
          clear hM
          go_enter Tryz.func30, Tryz.ntmps30
          go_wp2_with fail
          go_ret
          exact ⟨ret_bool hMv.out.symm, hA⟩
      · have hMv : Hid (M = false) := by show _ = _; rw [hM.out, if_pos (.inl (of_decide_eq_true c1))]
        clear hM
        go_enter Tryz.func30, Tryz.ntmps30
        go_wp2_with fail
        go_ret
        exact ⟨ret_bool hMv.out.symm, hA⟩
  · cases h2 : ct.isEmpty
    · have hO : O = true := by rw [hmo.out, h1, h2]; rfl
      subst hO
      clear hmo
      cases c1 : decide (code < 0)
      · cases c2 : decide (16 < code)
        · cases c3 : (code != 0)
          · cases ch
            · have hMv : Hid (M = (I && !D)) := by show _ = _; rw [hM.out, if_neg (fun h => h.elim (of_decide_eq_false c1) (of_decide_eq_false c2)), if_neg (by simpa using c3), if_neg (by simp)]
              clear hM
              cases I
              · have hMw : Hid (M = false) := hMv.out
                clear hMv
                go_enter Tryz.func30, Tryz.ntmps30
                go_wp2_with fail
                refine HI.out.mono ?_
                rintro e w1 ⟨rfl, hb⟩
                go_wp2_with fail
                go_ret
                exact ⟨ret_bool hMw.out.symm, hA.trans hb⟩
              · have hMw : Hid (M = !D) := by show _ = _; rw [hMv.out]; rfl
                clear hMv
                go_enter Tryz.func30, Tryz.ntmps30
                go_wp2_with fail
                refine HI.out.mono ?_
                rintro e w1 ⟨rfl, hb⟩
                replace r0 := hb.cell r0
                have hE2 := hE1.next hb
                have hV2 := HV.out.next hb
                go_wp2_with fail
                refine (HH.out _ hE2 hV2).mono ?_
                rintro e w2 ⟨rfl, hb2⟩
                go_wp2_with fail
                go_ret
                exact ⟨ret_bool hMw.out.symm, (hA.trans hb).trans hb2⟩
            · have hMv : Hid (M = false) := by show _ = _; rw [hM.out, if_neg (fun h => h.elim (of_decide_eq_false c1) (of_decide_eq_false c2)), if_neg (by simpa using c3), if_pos (by simp)]
              clear hM
              go_enter Tryz.func30, Tryz.ntmps30
              go_wp2_with fail
              go_ret
              exact ⟨ret_bool hMv.out.symm, hA⟩
          · cases ch
            · have hMv : Hid (M = false) := by show _ = _; rw [hM.out, if_neg (fun h => h.elim (of_decide_eq_false c1) (of_decide_eq_false c2)), if_pos (by simpa using c3)]; rfl
              clear hM
              go_enter Tryz.func30, Tryz.ntmps30
              go_wp2_with fail
              go_ret
              exact ⟨ret_bool hMv.out.symm, hA⟩
            · have hMv : Hid (M = false) := by show _ = _; rw [hM.out, if_neg (fun h => h.elim (of_decide_eq_false c1) (of_decide_eq_false c2)), if_pos (by simpa using c3)]; rfl
              clear hM
              go_enter Tryz.func30, Tryz.ntmps30
              go_wp2_with fail
              go_ret
              exact ⟨ret_bool hMv.out.symm, hA⟩
        · have hMv : Hid (M = false) := by show _ = _; rw [hM.out, if_pos (.inr (of_decide_eq_true c2))]
          clear hM
          go_enter Tryz.func30, Tryz.ntmps30
          go_wp2_with fail
          go_ret
          exact ⟨ret_bool hMv.out.symm, hA⟩
      · have hMv : Hid (M = false) := by show _ = _; rw [hM.out, if_pos (.inl (of_decide_eq_true c1))]
        clear hM
        go_enter Tryz.func30, Tryz.ntmps30
        go_wp2_with fail
        go_ret
        exact ⟨ret_bool hMv.out.symm, hA⟩
    · have hO : O = true := by rw [hmo.out, h1, h2]; rfl
      subst hO
      clear hmo
      cases c1 : decide (code < 0)
      · cases c2 : decide (16 < code)
        · cases c3 : (code != 0)
          · cases ch
            · have hMv : Hid (M = (I && !D)) := by show _ = _; rw [hM.out, if_neg (fun h => h.elim (of_decide_eq_false c1) (of_decide_eq_false c2)), if_neg (by simpa using c3), if_neg (by simp)]
              clear hM
              cases I
              · have hMw : Hid (M = false) := hMv.out
                clear hMv
                go_enter Tryz.func30, Tryz.ntmps30
                go_wp2_with fail
                refine HI.out.mono ?_
                rintro e w1 ⟨rfl, hb⟩
                go_wp2_with fail
                go_ret
                exact ⟨ret_bool hMw.out.symm, hA.trans hb⟩
              · have hMw : Hid (M = !D) := by show _ = _; rw [hMv.out]; rfl
                clear hMv
                go_enter Tryz.func30, Tryz.ntmps30
                go_wp2_with fail
                refine HI.out.mono ?_
                rintro e w1 ⟨rfl, hb⟩
                replace r0 := hb.cell r0
                have hE2 := hE1.next hb
                have hV2 := HV.out.next hb
                go_wp2_with fail
                refine (HH.out _ hE2 hV2).mono ?_
                rintro e w2 ⟨rfl, hb2⟩
                go_wp2_with fail
                go_ret
                exact ⟨ret_bool hMw.out.symm, (hA.trans hb).trans hb2⟩
            · have hMv : Hid (M = false) := by show _ = _; rw [hM.out, if_neg (fun h => h.elim (of_decide_eq_false c1) (of_decide_eq_false c2)), if_neg (by simpa using c3), if_pos (by simp)]
              clear hM
              go_enter Tryz.func30, Tryz.ntmps30
              go_wp2_with fail
              go_ret
              exact ⟨ret_bool hMv.out.symm, hA⟩
          · cases ch
            · have hMv : Hid (M = false) := by show _ = _; rw [hM.out, if_neg (fun h => h.elim (of_decide_eq_false c1) (of_decide_eq_false c2)), if_pos (by simpa using c3)]; rfl
              clear hM
              go_enter Tryz.func30, Tryz.ntmps30
              go_wp2_with fail
              go_ret
              exact ⟨ret_bool hMv.out.symm, hA⟩
            · have hMv : Hid (M = false) := by show _ = _; rw [hM.out, if_neg (fun h => h.elim (of_decide_eq_false c1) (of_decide_eq_false c2)), if_pos (by simpa using c3)]; rfl
              clear hM
              go_enter Tryz.func30, Tryz.ntmps30
              go_wp2_with fail
              go_ret
              exact ⟨ret_bool hMv.out.symm, hA⟩
        · have hMv : Hid (M = false) := by show _ = _; rw [hM.out, if_pos (.inr (of_decide_eq_true c2))]
          clear hM
          go_enter Tryz.func30, Tryz.ntmps30
          go_wp2_with fail
          go_ret
          exact ⟨ret_bool hMv.out.symm, hA⟩
      · have hMv : Hid (M = false) := by show _ = _; rw [hM.out, if_pos (.inl (of_decide_eq_true c1))]
        clear hM
        go_enter Tryz.func30, Tryz.ntmps30
        go_wp2_with fail
        go_ret
        exact ⟨ret_bool hMv.out.symm, hA⟩
end Go.Proofs.YtkdeokgkjmboeaaGreatDoor

namespace Go.Proofs.YtkdeokgkjmboeaaGreatDoor
open Go.RowKit
attribute [local go_sem ↓] run_atomEq

def sameA : List Atm → List Atm → Bool
  | [], [] => true
  | x :: r, y :: q => eqA x y && sameA r q
  | _, _ => false
theorem sameA_iff : ∀ {L M : List Atm}, sameA L M = true ↔ L = M
  | [], [] => by simp [sameA]
  | [], _ :: _ => by simp [sameA]
  | _ :: _, [] => by simp [sameA]
  | x :: r, y :: q => by rw [sameA, Bool.and_eq_true, eqA_iff, sameA_iff, List.cons.injEq]
theorem drop_eqA {L1 L2 : List Atm} {k : Nat} (h1 : k < L1.length) (h2 : k < L2.length) : sameA (L1.drop k) (L2.drop k) = (eqA L1[k] L2[k] && sameA (L1.drop (k + 1)) (L2.drop (k + 1))) := by
  rw [List.drop_eq_getElem_cons h1, List.drop_eq_getElem_cons h2, sameA]
theorem sameA_len {L M : List Atm} (h : L.length ≠ M.length) : sameA L M = false := by
  cases hs : sameA L M
  · rfl
  · exact absurd (by rw [sameA_iff.1 hs]) h
set_option maxHeartbeats 4000000 in
set_option maxRecDepth 100000 in
theorem equal_any (v1 v2 : Value) (L1 L2 : List Atm) (w : World) (h1 : AtmRow w v1 L1) (h2 : AtmRow w v2 L2) (hm1 : L1.length ≤ 1000000) (hm2 : L2.length ≤ 1000000) :
    Calls Tryz.prog 38 #[v1, v2] w fun e w' => e = .returned (.bool (sameA L1 L2)) ∧ ∃ m, w' = w.drewN m := by
  obtain ⟨a1, c1, rfl⟩ := h1.form
  obtain ⟨a2, c2, rfl⟩ := h2.form
  by_cases hl : L1.length = L2.length
  · have hq : ((L1.length : Int) != (L2.length : Int)) = false := by simp [hl]
    have HL := Lib.hid hl
    have H1 := Lib.hid h1
    have H2 := Lib.hid h2
    clear hl h1 h2
    go_enter Tryz.func38, Tryz.ntmps38
    go_wp2_with fail
    go_loopw [5, 13] (fun _ i wr => ∃ k : Nat, k ≤ L1.length ∧ i = .int .i64 (k : Int) ∧ Hid (sameA L1 L2 = sameA (L1.drop k) (L2.drop k)) ∧ ∃ m, wr = w.drewN m) (fun _ i _ => L1.length - (intOf i).toNat)
    case atStart => exact ⟨0, Nat.zero_le _, rfl, rfl, 0, rfl⟩
    case round =>
      obtain ⟨k, hk, rfl, hres, m, rfl⟩ := hrel
      by_cases hlt : k < L1.length
      · have hlt2 : k < L2.length := by rw [← HL.out]; exact hlt
        obtain ⟨_, b1, o1, he1, _, hc1⟩ := H1.out.get (by omega)
        cases he1
        obtain ⟨_, b2, o2, he2, _, hc2⟩ := H2.out.get (by omega)
        cases he2
        have d1 := hc1 k hlt
        have d2 := hc2 k hlt2
        have HST := Lib.hid (drop_eqA hlt hlt2)
        clear hc1 hc2
        have hk2 : (k : Int) < (L2.length : Int) := by omega
        have hk1 : (k : Int) < (L1.length : Int) := by omega
        generalize L1[k] = x at *
        generalize L2[k] = y at *
        obtain ⟨a_s, a_p, a_n, ⟨a_v0, a_l0⟩, ⟨a_v1, a_l1⟩, ⟨a_v2, a_l2⟩, ⟨a_v3, a_l3⟩⟩ := x
        obtain ⟨b_s, b_p, b_n, ⟨b_v0, b_l0⟩, ⟨b_v1, b_l1⟩, ⟨b_v2, b_l2⟩, ⟨b_v3, b_l3⟩⟩ := y
        obtain ⟨a_c0, a_c1, a_c2, a_c3, a_c4, a_c5, a_c6, a_c7, a_c8, a_c9, a_c10⟩ := d1.all
        obtain ⟨b_c0, b_c1, b_c2, b_c3, b_c4, b_c5, b_c6, b_c7, b_c8, b_c9, b_c10⟩ := d2.all
        clear d1 d2
        cases he : eqA ((a_s, a_p, a_n, (a_v0, a_l0), (a_v1, a_l1), (a_v2, a_l2), (a_v3, a_l3)) : Atm) ((b_s, b_p, b_n, (b_v0, b_l0), (b_v1, b_l1), (b_v2, b_l2), (b_v3, b_l3)) : Atm)
        · rw [he] at HST
          have hnx : Hid (sameA L1 L2 = false) := by show _ = _; rw [hres.out, HST.out, Bool.false_and]
          clear hres HST
          go_wp2_with fail
          go_quiet (fail)
          go_wp2_with fail
          go_ret
          refine ⟨ret_bool hnx.out.symm, ?_⟩
          first | exact ⟨_, rfl⟩ | exact ⟨_, by rw [World.drewN_drewN]⟩
        · rw [he] at HST
          have hnx : Hid (sameA L1 L2 = sameA (L1.drop (k + 1)) (L2.drop (k + 1))) := by show _ = _; rw [hres.out, HST.out, Bool.true_and]
          clear hres HST
          go_wp2_with fail
          go_quiet (fail)
          go_wp2_with fail
          go_roundw
          case rel =>
            refine ⟨k + 1, by omega, by go_num, hnx.out, ?_⟩
            first | exact ⟨_, rfl⟩ | exact ⟨_, by rw [World.drewN_drewN]⟩
          case measure => simp [intOf]; omega
      · have hnx : Hid (sameA L1 L2 = true) := by
          show _ = _
          have := HL.out
          rw [hres.out, List.drop_eq_nil_of_le (by omega), List.drop_eq_nil_of_le (by omega)]; rfl
        clear hres
        go_wp2_with fail
        go_ret
        exact ⟨ret_bool hnx.out.symm, m, rfl⟩
  · have hq : ((L1.length : Int) != (L2.length : Int)) = true := by simp; omega
    have hnx : Hid (sameA L1 L2 = false) := sameA_len hl
    clear hl h1 h2
    go_enter Tryz.func38, Tryz.ntmps38
    go_wp2_with fail
    go_ret
    exact ⟨ret_bool hnx.out.symm, 0, rfl⟩
def sameR (x y : Rsp) : Bool := (x.1 == y.1) && ((x.2.1 == y.2.1) && ((x.2.2.2 == y.2.2.2) && sameA x.2.2.1 y.2.2.1))
theorem sameR_iff {x y : Rsp} : sameR x y = true ↔ x = y := by
  obtain ⟨a, b, c, d⟩ := x
  obtain ⟨a', b', c', d'⟩ := y
  simp only [sameR, Bool.and_eq_true, beq_iff_eq, sameA_iff, Prod.mk.injEq]
  exact ⟨fun ⟨h1, h2, h3, h4⟩ => ⟨h1, h2, h4, h3⟩, fun ⟨h1, h2, h3, h4⟩ => ⟨h1, h2, h4, h3⟩⟩
theorem sameR_not {x y : Rsp} (h : x ≠ y) : sameR x y = false := by
  cases hs : sameR x y
  · rfl
  · exact absurd (sameR_iff.1 hs) h
set_option maxHeartbeats 4000000 in
set_option maxRecDepth 100000 in
theorem fsame_any (k1 k2 : Int) (ch1 ch2 : Bool) (v1 v2 : Value) (L1 L2 : List Atm) (t1 t2 : List UInt8) (w : World) (h1 : AtmRow w v1 L1) (h2 : AtmRow w v2 L2) (hm1 : L1.length ≤ 1000000) (hm2 : L2.length ≤ 1000000) :
    Calls Tryz.prog 16 #[.agg #[.int .i64 k1, .bool ch1, v1, .string ⟨t1.toArray⟩], .agg #[.int .i64 k2, .bool ch2, v2, .string ⟨t2.toArray⟩]] w fun e w' => e = .returned (.bool (sameR (k1, ch1, L1, t1) (k2, ch2, L2, t2))) ∧ Since w w' := by
  obtain ⟨a1, c1, rfl⟩ := h1.form
  obtain ⟨a2, c2, rfl⟩ := h2.form
  have hA : Since w ((w.alloc (.cells #[.int .i64 k1, .bool ch1, .slice a1 L1.length c1, .string ⟨t1.toArray⟩] 32)).alloc (.cells #[.int .i64 k2, .bool ch2, .slice a2 L2.length c2, .string ⟨t2.toArray⟩] 32)) := ((Since.refl _).alloc _).alloc _
  have HQ := Lib.hid (equal_any (.slice a1 L1.length c1) (.slice a2 L2.length c2) L1 L2 _ (h1.next hA) (h2.next hA) hm1 hm2)
  have hR : Hid (sameR (k1, ch1, L1, t1) (k2, ch2, L2, t2) = ((k1 == k2) && ((ch1 == ch2) && ((t1 == t2) && sameA L1 L2)))) := rfl
  generalize sameR (k1, ch1, L1, t1) (k2, ch2, L2, t2) = R at *
  generalize sameA L1 L2 = D at *
  clear h1 h2
  cases e1 : (k1 == k2)
  · have hRv : Hid (R = false) := by show _ = _; rw [hR.out, e1]; rfl
    clear hR
    go_enter Tryz.func16, Tryz.ntmps16
    go_wp2_with fail
    go_ret
    exact ⟨ret_bool hRv.out.symm, hA⟩
  · cases e2 : (ch1 == ch2)
    · have hRv : Hid (R = false) := by show _ = _; rw [hR.out, e1, e2]; rfl
      clear hR
      go_enter Tryz.func16, Tryz.ntmps16
      go_wp2_with fail
      go_ret
      exact ⟨ret_bool hRv.out.symm, hA⟩
    · cases e3 : (t1 == t2)
      · have hRv : Hid (R = false) := by show _ = _; rw [hR.out, e1, e2, e3]; rfl
        clear hR
        go_enter Tryz.func16, Tryz.ntmps16
        go_wp2_with fail
        go_ret
        exact ⟨ret_bool hRv.out.symm, hA⟩
      · have hRv : Hid (R = D) := by show _ = _; rw [hR.out, e1, e2, e3]; rfl
        clear hR
        go_enter Tryz.func16, Tryz.ntmps16
        go_wp2_with fail
        refine HQ.out.mono ?_
        rintro e w1 ⟨rfl, m, rfl⟩
        go_wp2_with fail
        go_ret
        exact ⟨ret_bool hRv.out.symm, hA.drewN m⟩
end Go.Proofs.YtkdeokgkjmboeaaGreatDoor
