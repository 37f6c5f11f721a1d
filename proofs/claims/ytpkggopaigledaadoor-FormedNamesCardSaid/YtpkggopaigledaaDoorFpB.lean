/- Reference 12: clause, ranged. Reference 12: Check. -/
import Derived.Test.YtpkggopaigledaaDoorFpA
import Derived.Test.YtpkggopaigledaaDoorRef3N
import Derived.Test.YtpkggopaigledaaDoorEq
namespace Go.Proofs.YtpkggopaigledaaDoor
open Go.RowKit
attribute [local go_sem ↓] run_termEq'

set_option maxHeartbeats 8000000 in
set_option maxRecDepth 100000 in
theorem r12clause_any (ap ad ac ar ag : Option Addr) (np cp nd cd nc cc nr cr ng cg : Nat) (qu bu : Int) (pr : List Txt) (pd : List (Txt × Int)) (a_s a_p : List UInt8) (a_n : Int) (a_v0 a_v1 a_v2 a_v3 : Bool) (a_l0 a_l1 a_l2 a_l3 : List UInt8) (v : Option Addr) (n c : Nat) (L : List Atm) (w : World) (hA : ARow w (.slice v n c) L)
    (hT : TRow w (.slice ap np cp) pr) (hP : PRow w (.slice ad nd cd) pd) (lr : pr.length ≤ 1000000) (lp : pd.length ≤ 1000000) (lm : L.length ≤ 1000000) (hf : FitsA ((a_s, a_p, a_n, (a_v0, a_l0), (a_v1, a_l1), (a_v2, a_l2), (a_v3, a_l3)) : Atm)) (hF : ∀ a ∈ L, FitsA a) :
    Calls Tryd.prog 58 #[.agg #[.slice ap np cp, .slice ad nd cd, .slice ac nc cc, .int .i64 qu, .int .i64 bu, .slice ar nr cr, .slice ag ng cg], .agg #[.string ⟨a_s.toArray⟩, .string ⟨a_p.toArray⟩, .int .i64 a_n, .bool a_v0, .string ⟨a_l0.toArray⟩, .bool a_v1, .string ⟨a_l1.toArray⟩, .bool a_v2, .string ⟨a_l2.toArray⟩, .bool a_v3, .string ⟨a_l3.toArray⟩], .slice v n c] w fun e w' => e = .returned (.int .i64 (clauseE pr pd ((a_s, a_p, a_n, (a_v0, a_l0), (a_v1, a_l1), (a_v2, a_l2), (a_v3, a_l3)) : Atm) L)) ∧ Since w w' := by
  have hS0 : Since w ((w.alloc (.cells #[.slice ap np cp, .slice ad nd cd, .slice ac nc cc, .int .i64 qu, .int .i64 bu, .slice ar nr cr, .slice ag ng cg] 28)).alloc (.cells #[.string ⟨a_s.toArray⟩, .string ⟨a_p.toArray⟩, .int .i64 a_n, .bool a_v0, .string ⟨a_l0.toArray⟩, .bool a_v1, .string ⟨a_l1.toArray⟩, .bool a_v2, .string ⟨a_l2.toArray⟩, .bool a_v3, .string ⟨a_l3.toArray⟩] 39)) := ((Since.refl _).alloc _).alloc _
  have P_B := ((pbox_new w ap ad ac ar ag np cp nd cd nc cc nr cr ng cg qu bu 28).next ((Since.refl _).alloc (.cells #[.string ⟨a_s.toArray⟩, .string ⟨a_p.toArray⟩, .int .i64 a_n, .bool a_v0, .string ⟨a_l0.toArray⟩, .bool a_v1, .string ⟨a_l1.toArray⟩, .bool a_v2, .string ⟨a_l2.toArray⟩, .bool a_v3, .string ⟨a_l3.toArray⟩] 39))).at
  have a_B : Box ((w.alloc (.cells #[.slice ap np cp, .slice ad nd cd, .slice ac nc cc, .int .i64 qu, .int .i64 bu, .slice ar nr cr, .slice ag ng cg] 28)).alloc (.cells #[.string ⟨a_s.toArray⟩, .string ⟨a_p.toArray⟩, .int .i64 a_n, .bool a_v0, .string ⟨a_l0.toArray⟩, .bool a_v1, .string ⟨a_l1.toArray⟩, .bool a_v2, .string ⟨a_l2.toArray⟩, .bool a_v3, .string ⟨a_l3.toArray⟩] 39)) (w.heap.size + 1) ((a_s, a_p, a_n, (a_v0, a_l0), (a_v1, a_l1), (a_v2, a_l2), (a_v3, a_l3)) : Atm) := by
    have := box_new (w.alloc (.cells #[.slice ap np cp, .slice ad nd cd, .slice ac nc cc, .int .i64 qu, .int .i64 bu, .slice ar nr cr, .slice ag ng cg] 28)) ((a_s, a_p, a_n, (a_v0, a_l0), (a_v1, a_l1), (a_v2, a_l2), (a_v3, a_l3)) : Atm) 39
    rwa [World.size_alloc] at this
  obtain ⟨a_c0, a_c1, a_c2, a_c3, a_c4, a_c5, a_c6, a_c7, a_c8, a_c9, a_c10⟩ := a_B.all
  obtain ⟨p_c0, p_c1, p_c2, p_c3, p_c4, p_c5, p_c6⟩ := (pbox_new w ap ad ac ar ag np cp nd cd nc cc nr cr ng cg qu bu 28).next ((Since.refl _).alloc (.cells #[.string ⟨a_s.toArray⟩, .string ⟨a_p.toArray⟩, .int .i64 a_n, .bool a_v0, .string ⟨a_l0.toArray⟩, .bool a_v1, .string ⟨a_l1.toArray⟩, .bool a_v2, .string ⟨a_l2.toArray⟩, .bool a_v3, .string ⟨a_l3.toArray⟩] 39))
  have HA := Lib.hid (anext hA hS0)
  have HT := Lib.hid (tnext hT hS0)
  have HP := Lib.hid (pnext hP hS0)
  have hn := Lib.hid hA.form
  have hnm : n ≤ 1000000 := by have := hA.form; omega
  obtain ⟨E, hEE⟩ : ∃ B, Hid (B = atomE pr pd ((a_s, a_p, a_n, (a_v0, a_l0), (a_v1, a_l1), (a_v2, a_l2), (a_v3, a_l3)) : Atm)) := ⟨_, rfl⟩
  have HAT : Hid (∀ W, Since ((w.alloc (.cells #[.slice ap np cp, .slice ad nd cd, .slice ac nc cc, .int .i64 qu, .int .i64 bu, .slice ar nr cr, .slice ag ng cg] 28)).alloc (.cells #[.string ⟨a_s.toArray⟩, .string ⟨a_p.toArray⟩, .int .i64 a_n, .bool a_v0, .string ⟨a_l0.toArray⟩, .bool a_v1, .string ⟨a_l1.toArray⟩, .bool a_v2, .string ⟨a_l2.toArray⟩, .bool a_v3, .string ⟨a_l3.toArray⟩] 39)) W → Calls Tryd.prog 28 #[.agg #[.slice ap np cp, .slice ad nd cd, .slice ac nc cc, .int .i64 qu, .int .i64 bu, .slice ar nr cr, .slice ag ng cg], .agg #[.string ⟨a_s.toArray⟩, .string ⟨a_p.toArray⟩, .int .i64 a_n, .bool a_v0, .string ⟨a_l0.toArray⟩, .bool a_v1, .string ⟨a_l1.toArray⟩, .bool a_v2, .string ⟨a_l2.toArray⟩, .bool a_v3, .string ⟨a_l3.toArray⟩]] W fun e w' => e = .returned (.int .i64 E) ∧ Since W w') := by
    intro W h; rw [hEE.out]; exact r12atom_any ap ad ac ar ag np cp nd cd nc cc nr cr ng cg qu bu pr pd a_s a_p a_n a_v0 a_v1 a_v2 a_v3 a_l0 a_l1 a_l2 a_l3 W (tnext HT.out h) (pnext HP.out h) lr lp hf
  obtain ⟨R, hR⟩ : ∃ R, Hid (R = clauseE pr pd ((a_s, a_p, a_n, (a_v0, a_l0), (a_v1, a_l1), (a_v2, a_l2), (a_v3, a_l3)) : Atm) L) := ⟨_, rfl⟩
  have hRE : Hid (R = firstE [E, ifE (decide (6 < L.length)) 4, bodyF pr pd L]) := by show _ = _; rw [hR.out, hEE.out]; rfl
  rw [← hR.out]
  clear hR hEE hA hT hP a_B hf
  go_enter Tryd.func58, Tryd.ntmps58
  go_wp2_with fail
  generalize ((w.alloc (.cells #[.slice ap np cp, .slice ad nd cd, .slice ac nc cc, .int .i64 qu, .int .i64 bu, .slice ar nr cr, .slice ag ng cg] 28)).alloc (.cells #[.string ⟨a_s.toArray⟩, .string ⟨a_p.toArray⟩, .int .i64 a_n, .bool a_v0, .string ⟨a_l0.toArray⟩, .bool a_v1, .string ⟨a_l1.toArray⟩, .bool a_v2, .string ⟨a_l2.toArray⟩, .bool a_v3, .string ⟨a_l3.toArray⟩] 39)) = w1 at *
  refine (HAT.out _ (Since.refl _)).mono ?_
  rintro e w2 ⟨rfl, hb⟩
  replace HA := Lib.hid (anext HA.out hb)
  replace HT := Lib.hid (tnext HT.out hb)
  replace HP := Lib.hid (pnext HP.out hb)
  replace P_B := P_B.next hb
  have hS2 := hS0.trans hb
  clear hb HAT a_c0 a_c1 a_c2 a_c3 a_c4 a_c5 a_c6 a_c7 a_c8 a_c9 a_c10 p_c0 p_c1 p_c2 p_c3 p_c4 p_c5 p_c6
  by_cases he : E = 0
  case neg =>
    have e2 : R = E := by rw [hRE.out]; simp [firstE, he]
    subst e2
    clear hRE
    go_wp2_with fail
    go_ret
    exact ⟨rfl, hS2⟩
  subst he
  by_cases h6 : 6 < n
  · have h6' : (6 : Int) < (n : Int) := by omega
    have e2 : R = 4 := by rw [hRE.out, decide_eq_true (show 6 < L.length by have := hn.out; omega)]; rfl
    subst e2
    clear hRE
    go_wp2_with fail
    go_ret
    exact ⟨rfl, hS2⟩
  have h6' : ¬ (6 : Int) < (n : Int) := by omega
  have hR0 : Hid (R = bodyF pr pd (L.drop 0)) := by
    show _ = _
    rw [hRE.out, decide_eq_false (show ¬ 6 < L.length by have := hn.out; omega)]
    simp only [firstE, ifE, if_true, Bool.false_eq_true, if_false, List.drop_zero]
    split <;> simp_all
  clear hRE
  go_wp2_with fail
  go_loopw [7, 8] (fun _ m wr => ∃ k : Nat, k ≤ n ∧ m = .int .i64 (k : Int) ∧ Hid (R = bodyF pr pd (L.drop k)) ∧ Since w2 wr) (fun _ m _ => n - (intOf m).toNat)
  case atStart => exact ⟨0, by omega, rfl, hR0, Since.refl _⟩
  case round =>
  obtain ⟨k, hk, rfl, hG, hSr⟩ := hrel
  by_cases hlt : k < n
  · have hkl : k < L.length := by have := hn.out; omega
    have hlt2 : (k : Int) < (n : Int) := by omega
    have hlt0 : (0 : Int) ≤ (k : Int) := by omega
    obtain ⟨b, o, e1, hc, hat⟩ := (anext HA.out hSr).get (by omega)
    have d1 := hat k hkl
    have hfx := hF _ (List.getElem_mem hkl)
    have hnx : Hid (R = if atomE pr pd L[k] = 0 then bodyF pr pd (L.drop (k + 1)) else atomE pr pd L[k]) := by
      show _ = _
      rw [hG.out, List.drop_eq_getElem_cons hkl, bodyF]
    obtain ⟨x, hx⟩ : ∃ x, Hid (x = L[k]) := ⟨L[k], rfl⟩
    rw [← hx.out] at d1 hnx hfx
    obtain ⟨x_s, x_p, x_n, ⟨x_v0, x_l0⟩, ⟨x_v1, x_l1⟩, ⟨x_v2, x_l2⟩, ⟨x_v3, x_l3⟩⟩ := x
    obtain ⟨E, hEE⟩ : ∃ B, Hid (B = atomE pr pd ((x_s, x_p, x_n, (x_v0, x_l0), (x_v1, x_l1), (x_v2, x_l2), (x_v3, x_l3)) : Atm)) := ⟨_, rfl⟩
    rw [← hEE.out] at hnx
    have HAT : Hid (∀ W, Since wr W → Calls Tryd.prog 28 #[.agg #[.slice ap np cp, .slice ad nd cd, .slice ac nc cc, .int .i64 qu, .int .i64 bu, .slice ar nr cr, .slice ag ng cg], .agg #[.string ⟨x_s.toArray⟩, .string ⟨x_p.toArray⟩, .int .i64 x_n, .bool x_v0, .string ⟨x_l0.toArray⟩, .bool x_v1, .string ⟨x_l1.toArray⟩, .bool x_v2, .string ⟨x_l2.toArray⟩, .bool x_v3, .string ⟨x_l3.toArray⟩]] W fun e w' => e = .returned (.int .i64 E) ∧ Since W w') := by
      intro W h; rw [hEE.out]; exact r12atom_any ap ad ac ar ag np cp nd cd nc cc nr cr ng cg qu bu pr pd x_s x_p x_n x_v0 x_v1 x_v2 x_v3 x_l0 x_l1 x_l2 x_l3 W (tnext (tnext HT.out hSr) h) (pnext (pnext HP.out hSr) h) lr lp hfx
    have pA := P_B.next hSr
    have xA : At wr b (o + k * 11) #[.string ⟨x_s.toArray⟩, .string ⟨x_p.toArray⟩, .int .i64 x_n, .bool x_v0, .string ⟨x_l0.toArray⟩, .bool x_v1, .string ⟨x_l1.toArray⟩, .bool x_v2, .string ⟨x_l2.toArray⟩, .bool x_v3, .string ⟨x_l3.toArray⟩] := d1
    subst e1
    clear hat hG hEE hx d1
    go_wp2_with fail
    have ha0 : Since wr wr.drew := (Since.refl _).drew
    refine hx_begin (S := fun W => Since wr W) (by kernel_rfl) ha0 (by kernel_rfl) (fun _ _ _ _ _ h => h) (fun hns hQ => ?_)
    refine hx_take (i := 0) (oi := _) (v := .agg #[.slice ap np cp, .slice ad nd cd, .slice ac nc cc, .int .i64 qu, .int .i64 bu, .slice ar nr cr, .slice ag ng cg]) rfl rfl hns (by kernel_rfl) (by kernel_rfl) hQ (by kernel_rfl) (fun W hW => ld_at rfl (by kernel_rfl) (by kernel_rfl) (by kernel_rfl) W (pA.next hW)) ha0 ?_
    refine hx_take (i := 1) (oi := _) (v := .slice (some ⟨b, o, none⟩) n c) rfl rfl hns (by kernel_rfl) (by kernel_rfl) hQ (by kernel_rfl) (fun _ _ => by kernel_rfl) ha0 ?_
    refine hx_take (i := 2) (oi := _) (v := .int .i64 (k : Int)) rfl rfl hns (by kernel_rfl) (by kernel_rfl) hQ (by kernel_rfl) (fun _ _ => by kernel_rfl) ha0 ?_
    refine hx_take (i := 3) (oi := _) (v := .pointer (some ⟨b, o + k * 11, none⟩)) rfl rfl hns (by kernel_rfl) (by kernel_rfl) hQ (by kernel_rfl) (fun W _ => ix_sl (n := n) (c := c) (K := 11) rfl (by kernel_rfl) (by kernel_rfl) (by kernel_rfl) rfl hlt W) ha0 ?_
    refine hx_take (i := 4) (oi := _) (v := .agg #[.string ⟨x_s.toArray⟩, .string ⟨x_p.toArray⟩, .int .i64 x_n, .bool x_v0, .string ⟨x_l0.toArray⟩, .bool x_v1, .string ⟨x_l1.toArray⟩, .bool x_v2, .string ⟨x_l2.toArray⟩, .bool x_v3, .string ⟨x_l3.toArray⟩]) rfl rfl hns (by kernel_rfl) (by kernel_rfl) hQ (by kernel_rfl) (fun W hW => ld_at rfl (by kernel_rfl) (by kernel_rfl) (by kernel_rfl) W (xA.next hW)) ha0 ?_
    refine hx_call (i := 5) (oi := _) 28 #[.agg #[.slice ap np cp, .slice ad nd cd, .slice ac nc cc, .int .i64 qu, .int .i64 bu, .slice ar nr cr, .slice ag ng cg], .agg #[.string ⟨x_s.toArray⟩, .string ⟨x_p.toArray⟩, .int .i64 x_n, .bool x_v0, .string ⟨x_l0.toArray⟩, .bool x_v1, .string ⟨x_l1.toArray⟩, .bool x_v2, .string ⟨x_l2.toArray⟩, .bool x_v3, .string ⟨x_l3.toArray⟩]] rfl rfl (by kernel_rfl) (by kernel_rfl) (by kernel_rfl) (HAT.out _ ha0) ?_
    rintro e wx61 ⟨rfl, hb⟩
    have ha1 : Since wr wx61 := ha0.trans hb
    clear hb
    refine ⟨_, rfl, ha1, ?_⟩
    refine hx_take (i := 6) (oi := _) (v := .int .i64 E) rfl rfl hns (by kernel_rfl) (by kernel_rfl) hQ (by kernel_rfl) (fun _ _ => by kernel_rfl) ha1 ?_
    refine wpAnyH_done (by kernel_rfl) ?_ _
    clear hns hQ
    simp only [List.set_cons_zero, List.set_cons_succ]
    have hSx := hSr.trans ha1
    clear pA xA HAT ha0 ha1
    by_cases he : E = 0
    · subst he
      have e : Hid (R = bodyF pr pd (L.drop (k + 1))) := by show _ = _; rw [hnx.out, if_pos rfl]
      clear hnx
      go_wp2_with fail
      go_roundw
      case rel => exact ⟨k + 1, by omega, by go_num, e, hSx⟩
      case measure => simp [intOf]; omega
    · have e2 : R = E := by rw [hnx.out, if_neg he]
      subst e2
      clear hnx
      go_wp2_with fail
      go_ret
      exact ⟨rfl, hS2.trans hSx⟩
  · have hlt2 : ¬ (k : Int) < (n : Int) := by omega
    have e : R = 0 := by rw [hG.out, List.drop_eq_nil_of_le (by have := hn.out; omega)]; rfl
    subst e
    clear hG
    go_wp2_with fail
    go_ret
    exact ⟨rfl, hS2.trans hSr⟩
/-- Does a variable stand in a body? -/
def stands (L : List Atm) (s : Txt) : Bool := L.any fun b => (termsA b).any fun t => eqT t (true, s)
theorem stands_have (L : List Atm) (s : Txt) : stands L s = (haveF L).contains s := by
  rw [Bool.eq_iff_iff]
  simp only [stands, haveF, List.any_eq_true, List.contains_iff_mem, List.mem_flatMap]
  constructor
  · rintro ⟨b, hb, t, ht, he⟩
    rw [eqT_iff] at he
    subst he
    refine ⟨b, hb, ?_⟩
    rw [namesA, namesF_mem]; exact .inr ht
  · rintro ⟨b, hb, hs⟩
    rw [namesA, namesF_mem] at hs
    rcases hs with hs | hs
    · cases hs
    · exact ⟨b, hb, _, hs, eqT_iff.2 rfl⟩
theorem ranged_of (a : Atm) (L : List Atm) : rangedE a L = ifE (!((namesA a true).all (stands L))) 9 := by
  rw [rangedE]
  congr 1
  rw [List.not_all_eq_any_not]
  congr 1
  funext s
  rw [stands_have]
theorem at_args {W : World} {b p : Nat} {x : Atm} (h : AtAt W b p x) (j : Nat) (hj : j < (argsL x).length) : At W b (p + 3 + j * 2) #[.bool ((argsL x)[j]).1, .string ⟨((argsL x)[j]).2.toArray⟩] := by
  have hj4 : j < 4 := hj
  match j, hj4 with
  | 0, _ => exact at_two (h 3 _ rfl) (h 4 _ rfl)
  | 1, _ => exact at_two (h 5 _ rfl) (h 6 _ rfl)
  | 2, _ => exact at_two (h 7 _ rfl) (h 8 _ rfl)
  | 3, _ => exact at_two (h 9 _ rfl) (h 10 _ rfl)
theorem eq_tm (o : Oper) (x y : Operand) (ho : o.op = Op.binOp .eql 36 x y 36) (ev : Operand → Value) (b c : Bool) (s t : List UInt8) (hx : ev x = .agg #[.bool b, .string ⟨s.toArray⟩]) (hy : ev y = .agg #[.bool c, .string ⟨t.toArray⟩]) (W : World) :
    (execOp ev o).run Tryd.prog W = .ok (.value (.bool (eqT (b, s) (c, t)))) W := by
  simp only [execOp, ho]
  go_simp
set_option maxHeartbeats 8000000 in
set_option maxRecDepth 100000 in
theorem r12ranged_any (a_s a_p : List UInt8) (a_n : Int) (a_v0 a_v1 a_v2 a_v3 : Bool) (a_l0 a_l1 a_l2 a_l3 : List UInt8) (v : Option Addr) (n c : Nat) (L : List Atm) (w : World) (hA : ARow w (.slice v n c) L) (lm : L.length ≤ 1000000) (hN : ∀ a ∈ L, 0 ≤ a.2.2.1 ∧ a.2.2.1 ≤ 4) :
    Calls Tryd.prog 59 #[.agg #[.string ⟨a_s.toArray⟩, .string ⟨a_p.toArray⟩, .int .i64 a_n, .bool a_v0, .string ⟨a_l0.toArray⟩, .bool a_v1, .string ⟨a_l1.toArray⟩, .bool a_v2, .string ⟨a_l2.toArray⟩, .bool a_v3, .string ⟨a_l3.toArray⟩], .slice v n c] w fun e w' => e = .returned (.bool ((namesA ((a_s, a_p, a_n, (a_v0, a_l0), (a_v1, a_l1), (a_v2, a_l2), (a_v3, a_l3)) : Atm) true).all (stands L))) ∧ Since w w' := by
  have hS0 : Since w (w.alloc (.cells #[.string ⟨a_s.toArray⟩, .string ⟨a_p.toArray⟩, .int .i64 a_n, .bool a_v0, .string ⟨a_l0.toArray⟩, .bool a_v1, .string ⟨a_l1.toArray⟩, .bool a_v2, .string ⟨a_l2.toArray⟩, .bool a_v3, .string ⟨a_l3.toArray⟩] 39)) := (Since.refl _).alloc _
  have a_B : Box (w.alloc (.cells #[.string ⟨a_s.toArray⟩, .string ⟨a_p.toArray⟩, .int .i64 a_n, .bool a_v0, .string ⟨a_l0.toArray⟩, .bool a_v1, .string ⟨a_l1.toArray⟩, .bool a_v2, .string ⟨a_l2.toArray⟩, .bool a_v3, .string ⟨a_l3.toArray⟩] 39)) w.heap.size ((a_s, a_p, a_n, (a_v0, a_l0), (a_v1, a_l1), (a_v2, a_l2), (a_v3, a_l3)) : Atm) := box_new w ((a_s, a_p, a_n, (a_v0, a_l0), (a_v1, a_l1), (a_v2, a_l2), (a_v3, a_l3)) : Atm) _
  obtain ⟨a_c0, a_c1, a_c2, a_c3, a_c4, a_c5, a_c6, a_c7, a_c8, a_c9, a_c10⟩ := a_B.all
  have HA := Lib.hid (anext hA hS0)
  have hn := Lib.hid hA.form
  have hnm : n ≤ 1000000 := by have := hA.form; omega
  obtain ⟨V, hV⟩ : ∃ V, Hid (V = namesA ((a_s, a_p, a_n, (a_v0, a_l0), (a_v1, a_l1), (a_v2, a_l2), (a_v3, a_l3)) : Atm) true) := ⟨_, rfl⟩
  have HVR : Hid (∀ W, Calls Tryd.prog 16 #[.agg #[.string ⟨a_s.toArray⟩, .string ⟨a_p.toArray⟩, .int .i64 a_n, .bool a_v0, .string ⟨a_l0.toArray⟩, .bool a_v1, .string ⟨a_l1.toArray⟩, .bool a_v2, .string ⟨a_l2.toArray⟩, .bool a_v3, .string ⟨a_l3.toArray⟩]] W (Strs W V)) := by intro W; rw [hV.out]; exact rvars_any a_s a_p a_n a_v0 a_v1 a_v2 a_v3 a_l0 a_l1 a_l2 a_l3 W
  have hV4 : V.length ≤ 4 := by rw [hV.out]; exact names_le _
  rw [← hV.out]
  obtain ⟨R, hR⟩ : ∃ R, Hid (R = (V.drop 0).all (stands L)) := ⟨_, rfl⟩
  rw [show V.all (stands L) = R from hR.out.symm]
  clear hV hA a_B
  go_enter Tryd.func59, Tryd.ntmps59
  go_wp2_with fail
  generalize (w.alloc (.cells #[.string ⟨a_s.toArray⟩, .string ⟨a_p.toArray⟩, .int .i64 a_n, .bool a_v0, .string ⟨a_l0.toArray⟩, .bool a_v1, .string ⟨a_l1.toArray⟩, .bool a_v2, .string ⟨a_l2.toArray⟩, .bool a_v3, .string ⟨a_l3.toArray⟩] 39)) = w1 at *
  refine (HVR.out _).mono ?_
  rintro e w2 ⟨u, rfl, hown, hb⟩
  have hS2 := hS0.trans hb
  replace HA := Lib.hid (anext HA.out hb)
  have HV := Lib.hid (row_of_own hown)
  clear hb HVR hown a_c0 a_c1 a_c2 a_c3 a_c4 a_c5 a_c6 a_c7 a_c8 a_c9 a_c10
  obtain ⟨va, vc, rfl⟩ := HV.out.len
  go_wp2_with fail
  go_loopw [6] (fun m wr => ∃ i : Nat, i ≤ V.length ∧ m = .int .i64 (i : Int) ∧ Hid (R = (V.drop i).all (stands L)) ∧ Since w2 wr) (fun m _ => V.length - (intOf m).toNat)
  case atStart => exact ⟨0, by omega, rfl, hR, Since.refl _⟩
  case round =>
  clear hR
  obtain ⟨i, hi, rfl, hF, hSr⟩ := hrel
  by_cases hil : i < V.length
  · have hil2 : (i : Int) < (V.length : Int) := by omega
    have hil0 : (0 : Int) ≤ (i : Int) := by omega
    obtain ⟨b2, o2, c2, e2, hc2, hcell⟩ := HV.out.some (by omega)
    injection e2 with e2 _ e2'
    subst e2 e2'
    have s1 := hcell i (by simpa using hil)
    obtain ⟨s, hs⟩ : ∃ s, Hid (s = V[i]) := ⟨V[i], rfl⟩
    rw [List.getElem_map, ← hs.out] at s1
    simp only [strV] at s1
    have sA0 : At w2 b2 (o2 + i) #[.string ⟨s.toArray⟩] := At.one s1
    have hE : Hid (R = (stands L s && (V.drop (i + 1)).all (stands L))) := by
      show _ = _
      rw [hF.out, List.drop_eq_getElem_cons hil, List.all_cons, hs.out]
    clear hcell s1 hF hs
    go_wp2_with fail
    go_loopw [7, 8] (fun inn m wr => ∃ k : Nat, ∃ z : Bool, k ≤ n ∧ m = .int .i64 (k : Int) ∧ inn = .bool z ∧ Hid (z = (L.take k).any (fun b => (termsA b).any fun t => eqT t (true, s))) ∧ Since w2 wr) (fun _ m _ => n - (intOf m).toNat)
    case atStart => exact ⟨0, false, by omega, rfl, rfl, rfl, hSr⟩
    case round =>
    clear hSr
    obtain ⟨k, z, hk, rfl, rfl, hG, hSk⟩ := hrel
    by_cases hlt : k < n
    · have hkl : k < L.length := by have := hn.out; omega
      have hlt2 : (k : Int) < (n : Int) := by omega
      have hlt0 : (0 : Int) ≤ (k : Int) := by omega
      obtain ⟨b, o, e1, hc, hat⟩ := (anext HA.out hSk).get (by omega)
      have d1 := hat k hkl
      have hNx := hN _ (List.getElem_mem hkl)
      obtain ⟨x, hx⟩ : ∃ x, Hid (x = L[k]) := ⟨L[k], rfl⟩
      rw [← hx.out] at d1 hNx
      obtain ⟨m, hm⟩ : ∃ m : Nat, Hid (x.2.2.1 = (m : Int)) := ⟨x.2.2.1.toNat, by show _ = _; omega⟩
      have hm4 : m ≤ 4 := by have := hm.out; omega
      have hcm : countA x = m := by unfold countA; rw [hm.out]; omega
      have hzk : Hid ((L.take (k + 1)).any (fun b => (termsA b).any fun t => eqT t (true, s)) = (z || ((argsL x).take m).any fun t => eqT t (true, s))) := by
        show _ = _
        rw [← take_more L k hkl, List.any_append, ← hG.out, ← hx.out, List.any_cons, List.any_nil, Bool.or_false, termsA, hcm]
      have x2 : wr.cell? ⟨b, o + k * 11 + 2, none⟩ = some (.int .i64 (m : Int)) := by rw [← hm.out]; exact d1 2 _ rfl
      have xT : Hid (∀ j, (h : j < (argsL x).length) → At wr b (o + k * 11 + 3 + j * 2) #[.bool ((argsL x)[j]).1, .string ⟨((argsL x)[j]).2.toArray⟩]) := fun j h => at_args d1 j h
      have hl4 : Hid ((argsL x).length = 4) := rfl
      obtain ⟨A, hA⟩ : ∃ A, Hid (A = argsL x) := ⟨_, rfl⟩
      rw [← hA.out] at hzk xT hl4
      subst e1
      clear hat hG hx d1 hNx hm hcm hA
      go_wp2_with fail
      go_loopw [7, 9] (fun inn q wq => ∃ j : Nat, ∃ y : Bool, j ≤ m ∧ q = .int .i64 (j : Int) ∧ inn = .bool y ∧ Hid (y = (z || (A.take j).any fun t => eqT t (true, s))) ∧ Since wr wq) (fun _ q _ => m - (intOf q).toNat)
      case atStart => exact ⟨0, z, by omega, rfl, rfl, by show _ = _; simp, Since.refl _⟩
      case round =>
      obtain ⟨j, y, hj, rfl, rfl, hY, hSj⟩ := hrel
      have x2' := hSj.cell x2
      by_cases hjm : j < m
      · have hjm2 : (j : Int) < (m : Int) := by omega
        have hj0 : (0 : Int) ≤ (j : Int) := by omega
        have hjA : j < A.length := by rw [hl4.out]; omega
        have hj4 : j < 4 := by omega
        have tA0 := xT.out j hjA
        obtain ⟨⟨tv, tl⟩, ht⟩ : ∃ t, Hid (t = A[j]) := ⟨A[j], rfl⟩
        rw [← ht.out] at tA0
        have hY2 : Hid ((z || (A.take (j + 1)).any fun t => eqT t (true, s)) = (y || eqT (tv, tl) (true, s))) := by
          show _ = _
          rw [← take_more A j hjA, List.any_append, ← Bool.or_assoc, ← hY.out, ← ht.out]
          simp
        have tA := tA0.next hSj
        have sA := sA0.next (hSk.trans hSj)
        clear tA0 ht hY
        go_wp2_with fail
        cases y
        case true =>
          have ha0 : Since wr wr.drew := (Since.refl _).drew
          refine hx_begin (S := fun W => Since wr W) (by kernel_rfl) ha0 (by kernel_rfl) (fun _ _ _ _ _ h => h) (fun hns hQ => ?_)
          refine hx_take (i := 0) (oi := _) (v := .bool true) rfl rfl hns (by kernel_rfl) (by kernel_rfl) hQ (by kernel_rfl) (fun _ _ => by kernel_rfl) ha0 ?_
          refine hx_take (i := 1) (oi := _) (v := .bool true) rfl rfl hns (by kernel_rfl) (by kernel_rfl) hQ (by kernel_rfl) (fun _ _ => by kernel_rfl) ha0 ?_
          refine hx_off (i := 2) (oi := _) rfl rfl hns (by kernel_rfl) (by kernel_rfl) hQ (by kernel_rfl) ha0 ?_
          refine hx_off (i := 3) (oi := _) rfl rfl hns (by kernel_rfl) (by kernel_rfl) hQ (by kernel_rfl) ha0 ?_
          refine hx_off (i := 4) (oi := _) rfl rfl hns (by kernel_rfl) (by kernel_rfl) hQ (by kernel_rfl) ha0 ?_
          refine hx_off (i := 5) (oi := _) rfl rfl hns (by kernel_rfl) (by kernel_rfl) hQ (by kernel_rfl) ha0 ?_
          refine hx_off (i := 6) (oi := _) rfl rfl hns (by kernel_rfl) (by kernel_rfl) hQ (by kernel_rfl) ha0 ?_
          refine hx_off (i := 7) (oi := _) rfl rfl hns (by kernel_rfl) (by kernel_rfl) hQ (by kernel_rfl) ha0 ?_
          refine hx_off (i := 8) (oi := _) rfl rfl hns (by kernel_rfl) (by kernel_rfl) hQ (by kernel_rfl) ha0 ?_
          refine hx_off (i := 9) (oi := _) rfl rfl hns (by kernel_rfl) (by kernel_rfl) hQ (by kernel_rfl) ha0 ?_
          refine hx_off (i := 10) (oi := _) rfl rfl hns (by kernel_rfl) (by kernel_rfl) hQ (by kernel_rfl) ha0 ?_
          refine hx_off (i := 11) (oi := _) rfl rfl hns (by kernel_rfl) (by kernel_rfl) hQ (by kernel_rfl) ha0 ?_
          refine hx_off (i := 12) (oi := _) rfl rfl hns (by kernel_rfl) (by kernel_rfl) hQ (by kernel_rfl) ha0 ?_
          refine hx_off (i := 13) (oi := _) rfl rfl hns (by kernel_rfl) (by kernel_rfl) hQ (by kernel_rfl) ha0 ?_
          refine hx_off (i := 14) (oi := _) rfl rfl hns (by kernel_rfl) (by kernel_rfl) hQ (by kernel_rfl) ha0 ?_
          refine hx_take (i := 15) (oi := _) (v := .bool true) rfl rfl hns (by kernel_rfl) (by kernel_rfl) hQ (by kernel_rfl) (fun _ _ => by kernel_rfl) ha0 ?_
          refine hx_take (i := 16) (oi := _) (v := .bool true) rfl rfl hns (by kernel_rfl) (by kernel_rfl) hQ (by kernel_rfl) (fun _ _ => by kernel_rfl) ha0 ?_
          refine wpAnyH_done (by kernel_rfl) ?_ _
          clear hns hQ
          simp only [List.set_cons_zero, List.set_cons_succ]
          have e : Hid (true = (z || (A.take (j + 1)).any fun t => eqT t (true, s))) := by show _ = _; rw [hY2.out, Bool.true_or]
          have hSx := hSj.trans ha0
          clear hY2 tA sA
          go_wp2_with fail
          go_roundw
          case rel => exact ⟨j + 1, true, by omega, by go_num, rfl, e, hSx⟩
          case measure => simp [intOf]; omega
        have hb0 : Since wr wr.drew := (Since.refl _).drew
        refine hx_begin (S := fun W => Since wr W) (by kernel_rfl) hb0 (by kernel_rfl) (fun _ _ _ _ _ h => h) (fun hns hQ => ?_)
        refine hx_take (i := 0) (oi := _) (v := .bool false) rfl rfl hns (by kernel_rfl) (by kernel_rfl) hQ (by kernel_rfl) (fun _ _ => by kernel_rfl) hb0 ?_
        refine hx_take (i := 1) (oi := _) (v := .bool false) rfl rfl hns (by kernel_rfl) (by kernel_rfl) hQ (by kernel_rfl) (fun _ _ => by kernel_rfl) hb0 ?_
        refine hx_take (i := 2) (oi := _) (v := .slice (some ⟨b, o, none⟩) n c) rfl rfl hns (by kernel_rfl) (by kernel_rfl) hQ (by kernel_rfl) (fun _ _ => by kernel_rfl) hb0 ?_
        refine hx_take (i := 3) (oi := _) (v := .int .i64 (k : Int)) rfl rfl hns (by kernel_rfl) (by kernel_rfl) hQ (by kernel_rfl) (fun _ _ => by kernel_rfl) hb0 ?_
        refine hx_take (i := 4) (oi := _) (v := .int .i64 (j : Int)) rfl rfl hns (by kernel_rfl) (by kernel_rfl) hQ (by kernel_rfl) (fun _ _ => by kernel_rfl) hb0 ?_
        refine hx_take (i := 5) (oi := _) (v := .pointer (some ⟨b, o + k * 11, none⟩)) rfl rfl hns (by kernel_rfl) (by kernel_rfl) hQ (by kernel_rfl) (fun W _ => ix_sl (n := n) (c := c) (K := 11) rfl (by kernel_rfl) (by kernel_rfl) (by kernel_rfl) rfl hlt W) hb0 ?_
        refine hx_take (i := 6) (oi := _) (v := .pointer (some ⟨b, o + k * 11 + 3, none⟩)) rfl rfl hns (by kernel_rfl) (by kernel_rfl) hQ (by kernel_rfl) (fun _ _ => by kernel_rfl) hb0 ?_
        refine hx_take (i := 7) (oi := _) (v := .pointer (some ⟨b, o + k * 11 + 3 + j * 2, none⟩)) rfl rfl hns (by kernel_rfl) (by kernel_rfl) hQ (by kernel_rfl) (fun W _ => ix_ar (n := 4) (K := 2) rfl (by kernel_rfl) (by kernel_rfl) (by kernel_rfl) rfl hj4 W) hb0 ?_
        refine hx_take (i := 8) (oi := _) (v := .agg #[.bool tv, .string ⟨tl.toArray⟩]) rfl rfl hns (by kernel_rfl) (by kernel_rfl) hQ (by kernel_rfl) (fun W hW => ld_at rfl (by kernel_rfl) (by kernel_rfl) (by kernel_rfl) W (tA.next hW)) hb0 ?_
        refine hx_take (i := 9) (oi := _) (v := .slice (some ⟨b2, o2, none⟩) V.length vc) rfl rfl hns (by kernel_rfl) (by kernel_rfl) hQ (by kernel_rfl) (fun _ _ => by kernel_rfl) hb0 ?_
        refine hx_take (i := 10) (oi := _) (v := .int .i64 (i : Int)) rfl rfl hns (by kernel_rfl) (by kernel_rfl) hQ (by kernel_rfl) (fun _ _ => by kernel_rfl) hb0 ?_
        refine hx_take (i := 11) (oi := _) (v := .pointer (some ⟨b2, o2 + i, none⟩)) rfl rfl hns (by kernel_rfl) (by kernel_rfl) hQ (by kernel_rfl) (fun W _ => ix_sl1 (n := V.length) (c := vc) rfl (by kernel_rfl) (by kernel_rfl) (by kernel_rfl) rfl hil W) hb0 ?_
        refine hx_take (i := 12) (oi := _) (v := .string ⟨s.toArray⟩) rfl rfl hns (by kernel_rfl) (by kernel_rfl) hQ (by kernel_rfl) (fun W hW => ld_one rfl (by kernel_rfl) (by kernel_rfl) W (sA.next hW 0 _ rfl)) hb0 ?_
        refine hx_take (i := 13) (oi := _) (v := .agg #[.bool true, .string ⟨s.toArray⟩]) rfl rfl hns (by kernel_rfl) (by kernel_rfl) hQ (by kernel_rfl) (fun _ _ => by kernel_rfl) hb0 ?_
        refine hx_take (i := 14) (oi := _) (v := .bool (eqT (tv, tl) (true, s))) rfl rfl hns (by kernel_rfl) (by kernel_rfl) hQ (by kernel_rfl) (fun W _ => eq_tm _ _ _ rfl _ tv true tl s (by kernel_rfl) (by kernel_rfl) W) hb0 ?_
        refine hx_take (i := 15) (oi := _) (v := .bool (eqT (tv, tl) (true, s))) rfl rfl hns (by kernel_rfl) (by kernel_rfl) hQ (by kernel_rfl) (fun _ _ => by kernel_rfl) hb0 ?_
        refine hx_take (i := 16) (oi := _) (v := .bool (eqT (tv, tl) (true, s))) rfl rfl hns (by kernel_rfl) (by kernel_rfl) hQ (by kernel_rfl) (fun _ _ => by kernel_rfl) hb0 ?_
        refine wpAnyH_done (by kernel_rfl) ?_ _
        clear hns hQ
        simp only [List.set_cons_zero, List.set_cons_succ]
        have e : Hid (eqT (tv, tl) (true, s) = (z || (A.take (j + 1)).any fun t => eqT t (true, s))) := by show _ = _; rw [hY2.out, Bool.false_or]
        have hSx := hSj.trans hb0
        clear hY2 tA sA
        go_wp2_with fail
        go_roundw
        case rel => exact ⟨j + 1, _, by omega, by go_num, rfl, e, hSx⟩
        case measure => simp [intOf]; omega
      have hjm2 : ¬ (j : Int) < (m : Int) := by omega
      have e : Hid (y = (L.take (k + 1)).any (fun b => (termsA b).any fun t => eqT t (true, s))) := by
        show _ = _
        rw [hzk.out, hY.out, show j = m by omega]
      have hSx := hSk.trans hSj
      clear hY hzk x2 xT
      go_wp2_with fail
      go_roundw
      case rel => exact ⟨k + 1, y, by omega, by go_num, rfl, e, hSx⟩
      case measure => simp [intOf]; omega
    have hlt2 : ¬ (k : Int) < (n : Int) := by omega
    have e : z = stands L s := by rw [hG.out, List.take_of_length_le (by have := hn.out; omega)]; rfl
    rw [← e] at hE
    clear hG e
    cases z
    · have e2 : R = false := by rw [hE.out, Bool.false_and]
      subst e2
      clear hE
      go_wp2_with fail
      go_ret
      exact ⟨rfl, hS2.trans hSk⟩
    · have e : Hid (R = (V.drop (i + 1)).all (stands L)) := by show _ = _; rw [hE.out, Bool.true_and]
      clear hE
      go_wp2_with fail
      go_roundw
      case rel => exact ⟨i + 1, by omega, by go_num, e, hSk⟩
      case measure => simp [intOf]; omega
  · have hlt2 : ¬ (i : Int) < (V.length : Int) := by omega
    have e : R = true := by rw [hF.out, List.drop_eq_nil_of_le (by omega)]; rfl
    subst e
    clear hF
    go_wp2_with fail
    go_ret
    exact ⟨rfl, hS2.trans hSr⟩
end Go.Proofs.YtpkggopaigledaaDoor

namespace Go.Proofs.YtpkggopaigledaaDoor
open Go.RowKit

theorem body_ok {pr : List Txt} {pd : List (Txt × Int)} : ∀ {L : List Atm}, bodyF pr pd L = 0 → ∀ a ∈ L, atomE pr pd a = 0
  | [], _, a, ha => by cases ha
  | x :: r, h, a, ha => by
    rw [bodyF] at h
    by_cases h0 : atomE pr pd x = 0
    · rw [if_pos h0] at h
      rcases List.mem_cons.1 ha with rfl | ha
      · exact h0
      · exact body_ok h a ha
    · rw [if_neg h0] at h; exact absurd h h0
theorem clause_ok {pr : List Txt} {pd : List (Txt × Int)} {a : Atm} {L : List Atm} (h : clauseE pr pd a L = 0) : atomE pr pd a = 0 ∧ L.length ≤ 6 ∧ ∀ b ∈ L, atomE pr pd b = 0 := by
  simp only [clauseE, firstE] at h
  by_cases h0 : atomE pr pd a = 0
  · rw [if_pos h0] at h
    by_cases h6 : 6 < L.length
    · simp [ifE, h6] at h
    · have e : ifE (decide (6 < L.length)) 4 = 0 := by simp [ifE, h6]
      rw [e, if_pos rfl] at h
      refine ⟨h0, by omega, body_ok ?_⟩
      by_cases hb : bodyF pr pd L = 0
      · exact hb
      · rw [if_neg hb] at h; exact h
  · rw [if_neg h0] at h; exact absurd h h0
theorem atomE_zero1 {pr : List Txt} {pd : List (Txt × Int)} {a : Atm} (h : atomE pr pd a = 0) : checkA a = 0 := by
  simp only [atomE, firstE] at h
  by_cases h1 : checkA a = 0
  · exact h1
  · rw [if_neg h1] at h; exact absurd h h1
theorem atom_n {pr : List Txt} {pd : List (Txt × Int)} {a : Atm} (h : atomE pr pd a = 0) : 0 ≤ a.2.2.1 ∧ a.2.2.1 ≤ 4 := by
  have hk := (atomE_zero1 h)
  obtain ⟨_, _, hn0, hn4, _⟩ := valid_parts hk
  exact ⟨hn0, hn4⟩

set_option maxHeartbeats 0 in
set_option maxRecDepth 100000 in
theorem r12check_any (ap ad ac ar ag : Option Addr) (np cp nd cd nc cc nr cr ng cg : Nat) (qu bu : Int) (P : Pol) (w : World) (hP : PolAt w ap ad ac ar ag np cp nd cd nc cc nr cr ng cg qu bu P) (hf : PolFits P) :
    Calls Tryd.prog 27 #[.agg #[.slice ap np cp, .slice ad nd cd, .slice ac nc cc, .int .i64 qu, .int .i64 bu, .slice ar nr cr, .slice ag ng cg]] w fun e w' => e = .returned (.int .i64 (checkE P)) ∧ Since w w' := by
  have hS0 : Since w (w.alloc (.cells #[.slice ap np cp, .slice ad nd cd, .slice ac nc cc, .int .i64 qu, .int .i64 bu, .slice ar nr cr, .slice ag ng cg] 28)) := (Since.refl _).alloc _
  have P_B := pbox_new w ap ad ac ar ag np cp nd cd nc cc nr cr ng cg qu bu 28
  obtain ⟨p_c0, p_c1, p_c2, p_c3, p_c4, p_c5, p_c6⟩ := P_B
  have hpol := hP.next hS0
  have e1 := hpol.2.2.2.1
  have e2 := hpol.2.2.2.2.1
  have e3 := hpol.2.2.2.2.2.1.form
  have e4 := hpol.2.2.2.2.2.2.form
  have hnr : nr ≤ 1000000 := by have := hf.2.2.2.2.2.2.2.2.1; omega
  have hng : ng ≤ 1000000 := by have := hf.2.2.2.2.2.2.2.2.2; omega
  obtain ⟨E0, hE0⟩ : ∃ E, Hid (E = prinsE P.pr) := ⟨_, rfl⟩
  obtain ⟨E1, hE1⟩ : ∃ E, Hid (E = predsE P.pd) := ⟨_, rfl⟩
  obtain ⟨E2, hE2⟩ : ∃ E, Hid (E = clrsF P.pr [] P.cl) := ⟨_, rfl⟩
  obtain ⟨R, hR⟩ : ∃ E, Hid (E = checkE P) := ⟨_, rfl⟩
  have hchk : Hid (R = firstE [E0, E1, E2, numE qu bu nr ng, rulesE P.pr P.pd P.ru P.gr]) := by
    show _ = _
    rw [hR.out, checkE, e1, e2, e3, e4, hE0.out, hE1.out, hE2.out]
  have HC0 : Hid (∀ W, Since (w.alloc (.cells #[.slice ap np cp, .slice ad nd cd, .slice ac nc cc, .int .i64 qu, .int .i64 bu, .slice ar nr cr, .slice ag ng cg] 28)) W → Calls Tryd.prog 55 #[.agg #[.slice ap np cp, .slice ad nd cd, .slice ac nc cc, .int .i64 qu, .int .i64 bu, .slice ar nr cr, .slice ag ng cg]] W fun e w' => e = .returned (.int .i64 E0) ∧ Since W w') := fun W hW => by
    rw [hE0.out]; exact r12prins_any ap ad ac ar ag np cp nd cd nc cc nr cr ng cg qu bu P.pr _ (hpol.next hW).1 hf.1 hf.2.1
  have HC1 : Hid (∀ W, Since (w.alloc (.cells #[.slice ap np cp, .slice ad nd cd, .slice ac nc cc, .int .i64 qu, .int .i64 bu, .slice ar nr cr, .slice ag ng cg] 28)) W → Calls Tryd.prog 56 #[.agg #[.slice ap np cp, .slice ad nd cd, .slice ac nc cc, .int .i64 qu, .int .i64 bu, .slice ar nr cr, .slice ag ng cg]] W fun e w' => e = .returned (.int .i64 E1) ∧ Since W w') := fun W hW => by
    rw [hE1.out]; exact r12preds_any ap ad ac ar ag np cp nd cd nc cc nr cr ng cg qu bu P.pd _ (hpol.next hW).2.1 hf.2.2.1 hf.2.2.2.1
  have HC2 : Hid (∀ W, Since (w.alloc (.cells #[.slice ap np cp, .slice ad nd cd, .slice ac nc cc, .int .i64 qu, .int .i64 bu, .slice ar nr cr, .slice ag ng cg] 28)) W → Calls Tryd.prog 57 #[.agg #[.slice ap np cp, .slice ad nd cd, .slice ac nc cc, .int .i64 qu, .int .i64 bu, .slice ar nr cr, .slice ag ng cg]] W fun e w' => e = .returned (.int .i64 E2) ∧ Since W w') := fun W hW => by
    rw [hE2.out]; exact r12clears_any ap ad ac ar ag np cp nd cd nc cc nr cr ng cg qu bu P.pr P.cl _ (hpol.next hW).1 hf.2.1 (hpol.next hW).2.2.1 hf.2.2.2.2.2.1 (fun x hx => (hf.2.2.2.2.1 x hx).2)
  rw [← hR.out]
  have HPOL := Lib.hid hpol
  have en := Lib.hid e3
  have eg := Lib.hid e4
  clear hR hE0 hE1 hE2 hP hpol e1 e2 e3 e4
  go_enter Tryd.func27, Tryd.ntmps27
  go_wp2_with fail
  generalize (w.alloc (.cells #[.slice ap np cp, .slice ad nd cd, .slice ac nc cc, .int .i64 qu, .int .i64 bu, .slice ar nr cr, .slice ag ng cg] 28)) = w1 at *
  have PB0 : PBox w1 w.heap.size ap ad ac ar ag np cp nd cd nc cc nr cr ng cg qu bu := ⟨p_c0, p_c1, p_c2, p_c3, p_c4, p_c5, p_c6⟩
  refine (HC0.out _ (Since.refl _)).mono ?_
  rintro e w2 ⟨rfl, hb⟩
  have HS := hb
  replace p_c0 := hb.cell p_c0; replace p_c1 := hb.cell p_c1; replace p_c2 := hb.cell p_c2; replace p_c3 := hb.cell p_c3; replace p_c4 := hb.cell p_c4; replace p_c5 := hb.cell p_c5; replace p_c6 := hb.cell p_c6
  clear hb HC0
  by_cases he0 : E0 = 0
  case neg =>
    have e : R = E0 := by rw [hchk.out]; simp [firstE, he0]
    subst e
    clear hchk
    go_wp2_with fail
    go_ret
    exact ⟨rfl, hS0.trans HS⟩
  subst he0
  go_wp2_with fail
  refine (HC1.out _ HS).mono ?_
  rintro e w3 ⟨rfl, hb⟩
  replace HS := HS.trans hb
  replace p_c0 := hb.cell p_c0; replace p_c1 := hb.cell p_c1; replace p_c2 := hb.cell p_c2; replace p_c3 := hb.cell p_c3; replace p_c4 := hb.cell p_c4; replace p_c5 := hb.cell p_c5; replace p_c6 := hb.cell p_c6
  clear hb HC1
  by_cases he0 : E1 = 0
  case neg =>
    have e : R = E1 := by rw [hchk.out]; simp [firstE, he0]
    subst e
    clear hchk
    go_wp2_with fail
    go_ret
    exact ⟨rfl, hS0.trans HS⟩
  subst he0
  go_wp2_with fail
  refine (HC2.out _ HS).mono ?_
  rintro e w4 ⟨rfl, hb⟩
  replace HS := HS.trans hb
  replace p_c0 := hb.cell p_c0; replace p_c1 := hb.cell p_c1; replace p_c2 := hb.cell p_c2; replace p_c3 := hb.cell p_c3; replace p_c4 := hb.cell p_c4; replace p_c5 := hb.cell p_c5; replace p_c6 := hb.cell p_c6
  clear hb HC2
  by_cases he0 : E2 = 0
  case neg =>
    have e : R = E2 := by rw [hchk.out]; simp [firstE, he0]
    subst e
    clear hchk
    go_wp2_with fail
    go_ret
    exact ⟨rfl, hS0.trans HS⟩
  subst he0

  by_cases q0 : qu < 0
  · have q0' : qu < 0 := by omega
    have e : R = 4 := by
      have hn : (((decide (qu < 0) || decide (1000 < qu)) || (decide (bu < 1) || decide (1048576 < bu)) || decide (64 < nr + ng))) = true := by
        simp only [Bool.or_eq_true, decide_eq_true_eq]; omega
      rw [hchk.out, numE, hn]; rfl
    subst e
    clear hchk
    have hw : IntKind.i64.wrap ((nr : Int) + (ng : Int)) = (nr : Int) + (ng : Int) := IntWalk.i64_in _ (by omega)
    go_wp2_with fail
    go_ret
    exact ⟨rfl, hS0.trans HS⟩
  have q0' : ¬ qu < 0 := by omega
  by_cases q1 : 1000 < qu
  · have q1' : 1000 < qu := by omega
    have e : R = 4 := by
      have hn : (((decide (qu < 0) || decide (1000 < qu)) || (decide (bu < 1) || decide (1048576 < bu)) || decide (64 < nr + ng))) = true := by
        simp only [Bool.or_eq_true, decide_eq_true_eq]; omega
      rw [hchk.out, numE, hn]; rfl
    subst e
    clear hchk
    have hw : IntKind.i64.wrap ((nr : Int) + (ng : Int)) = (nr : Int) + (ng : Int) := IntWalk.i64_in _ (by omega)
    go_wp2_with fail
    go_ret
    exact ⟨rfl, hS0.trans HS⟩
  have q1' : ¬ 1000 < qu := by omega
  by_cases q2 : bu < 1
  · have q2' : bu < 1 := by omega
    have e : R = 4 := by
      have hn : (((decide (qu < 0) || decide (1000 < qu)) || (decide (bu < 1) || decide (1048576 < bu)) || decide (64 < nr + ng))) = true := by
        simp only [Bool.or_eq_true, decide_eq_true_eq]; omega
      rw [hchk.out, numE, hn]; rfl
    subst e
    clear hchk
    have hw : IntKind.i64.wrap ((nr : Int) + (ng : Int)) = (nr : Int) + (ng : Int) := IntWalk.i64_in _ (by omega)
    go_wp2_with fail
    go_ret
    exact ⟨rfl, hS0.trans HS⟩
  have q2' : ¬ bu < 1 := by omega
  by_cases q3 : 1048576 < bu
  · have q3' : 1048576 < bu := by omega
    have e : R = 4 := by
      have hn : (((decide (qu < 0) || decide (1000 < qu)) || (decide (bu < 1) || decide (1048576 < bu)) || decide (64 < nr + ng))) = true := by
        simp only [Bool.or_eq_true, decide_eq_true_eq]; omega
      rw [hchk.out, numE, hn]; rfl
    subst e
    clear hchk
    have hw : IntKind.i64.wrap ((nr : Int) + (ng : Int)) = (nr : Int) + (ng : Int) := IntWalk.i64_in _ (by omega)
    go_wp2_with fail
    go_ret
    exact ⟨rfl, hS0.trans HS⟩
  have q3' : ¬ 1048576 < bu := by omega
  by_cases q4 : 64 < nr
  · have q4' : (64 : Int) < (nr : Int) := by omega
    have e : R = 4 := by
      have hn : (((decide (qu < 0) || decide (1000 < qu)) || (decide (bu < 1) || decide (1048576 < bu)) || decide (64 < nr + ng))) = true := by
        simp only [Bool.or_eq_true, decide_eq_true_eq]; omega
      rw [hchk.out, numE, hn]; rfl
    subst e
    clear hchk
    have hw : IntKind.i64.wrap ((nr : Int) + (ng : Int)) = (nr : Int) + (ng : Int) := IntWalk.i64_in _ (by omega)
    go_wp2_with fail
    go_ret
    exact ⟨rfl, hS0.trans HS⟩
  have q4' : ¬ (64 : Int) < (nr : Int) := by omega
  by_cases q5 : 64 < ng
  · have q5' : (64 : Int) < (ng : Int) := by omega
    have e : R = 4 := by
      have hn : (((decide (qu < 0) || decide (1000 < qu)) || (decide (bu < 1) || decide (1048576 < bu)) || decide (64 < nr + ng))) = true := by
        simp only [Bool.or_eq_true, decide_eq_true_eq]; omega
      rw [hchk.out, numE, hn]; rfl
    subst e
    clear hchk
    have hw : IntKind.i64.wrap ((nr : Int) + (ng : Int)) = (nr : Int) + (ng : Int) := IntWalk.i64_in _ (by omega)
    go_wp2_with fail
    go_ret
    exact ⟨rfl, hS0.trans HS⟩
  have q5' : ¬ (64 : Int) < (ng : Int) := by omega
  by_cases q6 : 64 < nr + ng
  · have q6' : (64 : Int) < (nr : Int) + (ng : Int) := by omega
    have e : R = 4 := by
      have hn : (((decide (qu < 0) || decide (1000 < qu)) || (decide (bu < 1) || decide (1048576 < bu)) || decide (64 < nr + ng))) = true := by
        simp only [Bool.or_eq_true, decide_eq_true_eq]; omega
      rw [hchk.out, numE, hn]; rfl
    subst e
    clear hchk
    have hw : IntKind.i64.wrap ((nr : Int) + (ng : Int)) = (nr : Int) + (ng : Int) := IntWalk.i64_in _ (by omega)
    go_wp2_with fail
    go_ret
    exact ⟨rfl, hS0.trans HS⟩
  have q6' : ¬ (64 : Int) < (nr : Int) + (ng : Int) := by omega
  have hR1 : Hid (R = rulesE P.pr P.pd (P.ru.drop 0) P.gr) := by
    show _ = _
    have hn : (((decide (qu < 0) || decide (1000 < qu)) || (decide (bu < 1) || decide (1048576 < bu)) || decide (64 < nr + ng))) = false := by
      simp only [Bool.or_eq_false_iff, decide_eq_false_iff_not]; omega
    rw [hchk.out, numE, hn]
    simp only [firstE, ifE, Bool.false_eq_true, if_false, if_true, List.drop_zero]
    split <;> simp_all
  clear hchk
  have hw : IntKind.i64.wrap ((nr : Int) + (ng : Int)) = (nr : Int) + (ng : Int) := IntWalk.i64_in _ (by omega)
  go_wp2_with fail
  clear hw q0 q1 q2 q3 q4 q5 q6 q0' q1' q2' q3' q4' q5' q6'
  go_loopw [3, 4] (fun _ m wr => ∃ k : Nat, k ≤ nr ∧ m = .int .i64 (k : Int) ∧ Hid (R = rulesE P.pr P.pd (P.ru.drop k) P.gr) ∧ Since w1 wr) (fun _ m _ => nr - (intOf m).toNat)
  case atStart => exact ⟨0, by omega, rfl, hR1, HS⟩
  case round =>
  clear HS hR1
  obtain ⟨k, hk, rfl, hF, HS⟩ := hrel
  obtain ⟨p_c0, p_c1, p_c2, p_c3, p_c4, p_c5, p_c6⟩ := PB0.next HS
  by_cases hlt : k < nr
  · have hkl : k < P.ru.length := by have := en.out; omega
    have hlt2 : (k : Int) < (nr : Int) := by omega
    have hlt0 : (0 : Int) ≤ (k : Int) := by omega
    have hpo := HPOL.out.next HS
    obtain ⟨b, o, e1, hc, hat⟩ := hpo.2.2.2.2.2.1.get (by omega)
    have d1 := hat k hkl
    have hfx := hf.2.2.2.2.2.2.1 _ (List.getElem_mem hkl)
    have hnx : Hid (R = if ruleErr P.pr P.pd P.ru[k] = 0 then rulesE P.pr P.pd (P.ru.drop (k + 1)) P.gr else ruleErr P.pr P.pd P.ru[k]) := by
      show _ = _
      rw [hF.out, List.drop_eq_getElem_cons hkl, rulesE, rulesF]
      by_cases h0 : ruleErr P.pr P.pd P.ru[k] = 0
      · simp only [h0, if_true]; rfl
      · simp only [h0, if_false]
    obtain ⟨⟨x, T⟩, hx⟩ : ∃ x, Hid (x = P.ru[k]) := ⟨P.ru[k], rfl⟩
    rw [← hx.out] at d1 hnx hfx
    obtain ⟨x_s, x_p, x_n, ⟨x_v0, x_l0⟩, ⟨x_v1, x_l1⟩, ⟨x_v2, x_l2⟩, ⟨x_v3, x_l3⟩⟩ := x
    unfold RulAt at d1
    obtain ⟨d1, u, d2, d3⟩ := d1
    obtain ⟨ua, uc, rfl⟩ := d3.slice
    simp only at d2 d3 hfx
    obtain ⟨E, hEE⟩ : ∃ B, Hid (B = clauseE P.pr P.pd ((x_s, x_p, x_n, (x_v0, x_l0), (x_v1, x_l1), (x_v2, x_l2), (x_v3, x_l3)) : Atm) T) := ⟨_, rfl⟩
    obtain ⟨G, hG⟩ : ∃ B, Hid (B = (namesA ((x_s, x_p, x_n, (x_v0, x_l0), (x_v1, x_l1), (x_v2, x_l2), (x_v3, x_l3)) : Atm) true).all (stands T)) := ⟨_, rfl⟩
    have hRE : Hid (ruleErr P.pr P.pd (((x_s, x_p, x_n, (x_v0, x_l0), (x_v1, x_l1), (x_v2, x_l2), (x_v3, x_l3)) : Atm), T) = firstE [E, ifE (!G) 9]) := by
      show _ = _
      rw [ruleErr, ranged_of, hEE.out, hG.out]
    have HCL : Hid (∀ W, Since wr W → Calls Tryd.prog 58 #[.agg #[.slice ap np cp, .slice ad nd cd, .slice ac nc cc, .int .i64 qu, .int .i64 bu, .slice ar nr cr, .slice ag ng cg], .agg #[.string ⟨x_s.toArray⟩, .string ⟨x_p.toArray⟩, .int .i64 x_n, .bool x_v0, .string ⟨x_l0.toArray⟩, .bool x_v1, .string ⟨x_l1.toArray⟩, .bool x_v2, .string ⟨x_l2.toArray⟩, .bool x_v3, .string ⟨x_l3.toArray⟩], .slice ua T.length uc] W fun e w' => e = .returned (.int .i64 E) ∧ Since W w') := fun W hW => by
      rw [hEE.out]; exact r12clause_any ap ad ac ar ag np cp nd cd nc cc nr cr ng cg qu bu P.pr P.pd x_s x_p x_n x_v0 x_v1 x_v2 x_v3 x_l0 x_l1 x_l2 x_l3 ua T.length uc T W (anext d3 hW) (hpo.next hW).1 (hpo.next hW).2.1 hf.2.1 hf.2.2.2.1 (by have := hfx.2.2; omega) hfx.1 hfx.2.1
    have HRG : Hid (E = 0 → ∀ W, Since wr W → Calls Tryd.prog 59 #[.agg #[.string ⟨x_s.toArray⟩, .string ⟨x_p.toArray⟩, .int .i64 x_n, .bool x_v0, .string ⟨x_l0.toArray⟩, .bool x_v1, .string ⟨x_l1.toArray⟩, .bool x_v2, .string ⟨x_l2.toArray⟩, .bool x_v3, .string ⟨x_l3.toArray⟩], .slice ua T.length uc] W fun e w' => e = .returned (.bool G) ∧ Since W w') := fun h W hW => by
      rw [hEE.out] at h
      rw [hG.out]; exact r12ranged_any x_s x_p x_n x_v0 x_v1 x_v2 x_v3 x_l0 x_l1 x_l2 x_l3 ua T.length uc T W (anext d3 hW) (by have := hfx.2.2; omega) (fun a ha => atom_n ((clause_ok h).2.2 a ha))
    rw [hRE.out] at hnx
    subst e1
    have pA : At wr w.heap.size 0 #[.slice ap np cp, .slice ad nd cd, .slice ac nc cc, .int .i64 qu, .int .i64 bu, .slice (some ⟨b, o, none⟩) nr cr, .slice ag ng cg] := PBox.at ⟨p_c0, p_c1, p_c2, p_c3, p_c4, p_c5, p_c6⟩
    have xA : At wr b (o + k * 12) #[.string ⟨x_s.toArray⟩, .string ⟨x_p.toArray⟩, .int .i64 x_n, .bool x_v0, .string ⟨x_l0.toArray⟩, .bool x_v1, .string ⟨x_l1.toArray⟩, .bool x_v2, .string ⟨x_l2.toArray⟩, .bool x_v3, .string ⟨x_l3.toArray⟩] := d1
    have uA : At wr b (o + k * 12 + 11) #[.slice ua T.length uc] := At.one d2
    clear hat hF hEE hG hx d1 d2 d3 hpo hRE
    go_wp2_with fail
    have ha0 : Since wr wr.drew := (Since.refl _).drew
    refine hx_begin (S := fun W => Since wr W) (by kernel_rfl) ha0 (by kernel_rfl) (fun _ _ _ _ _ h => h) (fun hns hQ => ?_)
    refine hx_take (i := 0) (oi := _) (v := .agg #[.slice ap np cp, .slice ad nd cd, .slice ac nc cc, .int .i64 qu, .int .i64 bu, .slice (some ⟨b, o, none⟩) nr cr, .slice ag ng cg]) rfl rfl hns (by kernel_rfl) (by kernel_rfl) hQ (by kernel_rfl) (fun W hW => ld_at rfl (by kernel_rfl) (by kernel_rfl) (by kernel_rfl) W (pA.next hW)) ha0 ?_
    refine hx_take (i := 1) (oi := _) (v := .pointer (some ⟨w.heap.size, 5, none⟩)) rfl rfl hns (by kernel_rfl) (by kernel_rfl) hQ (by kernel_rfl) (fun _ _ => by kernel_rfl) ha0 ?_
    refine hx_take (i := 2) (oi := _) (v := .slice (some ⟨b, o, none⟩) nr cr) rfl rfl hns (by kernel_rfl) (by kernel_rfl) hQ (by kernel_rfl) (fun W hW => ld_one rfl (by kernel_rfl) (by kernel_rfl) W (pA.next hW 5 _ rfl)) ha0 ?_
    refine hx_take (i := 3) (oi := _) (v := .int .i64 (k : Int)) rfl rfl hns (by kernel_rfl) (by kernel_rfl) hQ (by kernel_rfl) (fun _ _ => by kernel_rfl) ha0 ?_
    refine hx_take (i := 4) (oi := _) (v := .pointer (some ⟨b, o + k * 12, none⟩)) rfl rfl hns (by kernel_rfl) (by kernel_rfl) hQ (by kernel_rfl) (fun W _ => ix_sl (n := nr) (c := cr) (K := 12) rfl (by kernel_rfl) (by kernel_rfl) (by kernel_rfl) rfl hlt W) ha0 ?_
    refine hx_take (i := 5) (oi := _) (v := .pointer (some ⟨b, o + k * 12, none⟩)) rfl rfl hns (by kernel_rfl) (by kernel_rfl) hQ (by kernel_rfl) (fun _ _ => by kernel_rfl) ha0 ?_
    refine hx_take (i := 6) (oi := _) (v := .agg #[.string ⟨x_s.toArray⟩, .string ⟨x_p.toArray⟩, .int .i64 x_n, .bool x_v0, .string ⟨x_l0.toArray⟩, .bool x_v1, .string ⟨x_l1.toArray⟩, .bool x_v2, .string ⟨x_l2.toArray⟩, .bool x_v3, .string ⟨x_l3.toArray⟩]) rfl rfl hns (by kernel_rfl) (by kernel_rfl) hQ (by kernel_rfl) (fun W hW => ld_at rfl (by kernel_rfl) (by kernel_rfl) (by kernel_rfl) W (xA.next hW)) ha0 ?_
    refine hx_take (i := 7) (oi := _) (v := .pointer (some ⟨w.heap.size, 5, none⟩)) rfl rfl hns (by kernel_rfl) (by kernel_rfl) hQ (by kernel_rfl) (fun _ _ => by kernel_rfl) ha0 ?_
    refine hx_take (i := 8) (oi := _) (v := .slice (some ⟨b, o, none⟩) nr cr) rfl rfl hns (by kernel_rfl) (by kernel_rfl) hQ (by kernel_rfl) (fun W hW => ld_one rfl (by kernel_rfl) (by kernel_rfl) W (pA.next hW 5 _ rfl)) ha0 ?_
    refine hx_take (i := 9) (oi := _) (v := .int .i64 (k : Int)) rfl rfl hns (by kernel_rfl) (by kernel_rfl) hQ (by kernel_rfl) (fun _ _ => by kernel_rfl) ha0 ?_
    refine hx_take (i := 10) (oi := _) (v := .pointer (some ⟨b, o + k * 12, none⟩)) rfl rfl hns (by kernel_rfl) (by kernel_rfl) hQ (by kernel_rfl) (fun W _ => ix_sl (n := nr) (c := cr) (K := 12) rfl (by kernel_rfl) (by kernel_rfl) (by kernel_rfl) rfl hlt W) ha0 ?_
    refine hx_take (i := 11) (oi := _) (v := .pointer (some ⟨b, o + k * 12 + 11, none⟩)) rfl rfl hns (by kernel_rfl) (by kernel_rfl) hQ (by kernel_rfl) (fun _ _ => by kernel_rfl) ha0 ?_
    refine hx_take (i := 12) (oi := _) (v := .slice ua T.length uc) rfl rfl hns (by kernel_rfl) (by kernel_rfl) hQ (by kernel_rfl) (fun W hW => ld_one rfl (by kernel_rfl) (by kernel_rfl) W (uA.next hW 0 _ rfl)) ha0 ?_
    refine hx_call (i := 13) (oi := _) 58 #[.agg #[.slice ap np cp, .slice ad nd cd, .slice ac nc cc, .int .i64 qu, .int .i64 bu, .slice (some ⟨b, o, none⟩) nr cr, .slice ag ng cg], .agg #[.string ⟨x_s.toArray⟩, .string ⟨x_p.toArray⟩, .int .i64 x_n, .bool x_v0, .string ⟨x_l0.toArray⟩, .bool x_v1, .string ⟨x_l1.toArray⟩, .bool x_v2, .string ⟨x_l2.toArray⟩, .bool x_v3, .string ⟨x_l3.toArray⟩], .slice ua T.length uc] rfl rfl (by kernel_rfl) (by kernel_rfl) (by kernel_rfl) (HCL.out _ ha0) ?_
    rintro e wx61 ⟨rfl, hb⟩
    have ha1 : Since wr wx61 := ha0.trans hb
    clear hb
    refine ⟨_, rfl, ha1, ?_⟩
    refine hx_take (i := 14) (oi := _) (v := .int .i64 E) rfl rfl hns (by kernel_rfl) (by kernel_rfl) hQ (by kernel_rfl) (fun _ _ => by kernel_rfl) ha1 ?_
    refine wpAnyH_done (by kernel_rfl) ?_ _
    clear hns hQ
    simp only [List.set_cons_zero, List.set_cons_succ]
    have HSa := ha1
    clear HCL
    replace pA := pA.next ha1
    replace xA := xA.next ha1
    replace uA := uA.next ha1
    go_wp2_with fail
    by_cases he : E = 0
    case neg =>
      have hE0 : (E == 0) = false := by simpa using he

      have hb0 : Since wx61 wx61.drew := (Since.refl _).drew
      refine hx_begin (S := fun W => Since wx61 W) (by kernel_rfl) hb0 (by kernel_rfl) (fun _ _ _ _ _ h => h) (fun hns hQ => ?_)
      refine hx_take (i := 0) (oi := _) (v := .int .i64 E) rfl rfl hns (by kernel_rfl) (by kernel_rfl) hQ (by kernel_rfl) (fun _ _ => by kernel_rfl) hb0 ?_
      refine hx_take (i := 1) (oi := _) (v := .bool false) rfl rfl hns (by kernel_rfl) (by kernel_rfl) hQ (by kernel_rfl) (fun W _ => (eql_intE rfl (by kernel_rfl) (by kernel_rfl) W).trans (by rw [hE0])) hb0 ?_
      refine hx_take (i := 2) (oi := _) (v := .bool false) rfl rfl hns (by kernel_rfl) (by kernel_rfl) hQ (by kernel_rfl) (fun _ _ => by kernel_rfl) hb0 ?_
      refine hx_off (i := 3) (oi := _) rfl rfl hns (by kernel_rfl) (by kernel_rfl) hQ (by kernel_rfl) hb0 ?_
      refine hx_off (i := 4) (oi := _) rfl rfl hns (by kernel_rfl) (by kernel_rfl) hQ (by kernel_rfl) hb0 ?_
      refine hx_off (i := 5) (oi := _) rfl rfl hns (by kernel_rfl) (by kernel_rfl) hQ (by kernel_rfl) hb0 ?_
      refine hx_off (i := 6) (oi := _) rfl rfl hns (by kernel_rfl) (by kernel_rfl) hQ (by kernel_rfl) hb0 ?_
      refine hx_off (i := 7) (oi := _) rfl rfl hns (by kernel_rfl) (by kernel_rfl) hQ (by kernel_rfl) hb0 ?_
      refine hx_off (i := 8) (oi := _) rfl rfl hns (by kernel_rfl) (by kernel_rfl) hQ (by kernel_rfl) hb0 ?_
      refine hx_off (i := 9) (oi := _) rfl rfl hns (by kernel_rfl) (by kernel_rfl) hQ (by kernel_rfl) hb0 ?_
      refine hx_off (i := 10) (oi := _) rfl rfl hns (by kernel_rfl) (by kernel_rfl) hQ (by kernel_rfl) hb0 ?_
      refine hx_off (i := 11) (oi := _) rfl rfl hns (by kernel_rfl) (by kernel_rfl) hQ (by kernel_rfl) hb0 ?_
      refine hx_off (i := 12) (oi := _) rfl rfl hns (by kernel_rfl) (by kernel_rfl) hQ (by kernel_rfl) hb0 ?_
      refine hx_off (i := 13) (oi := _) rfl rfl hns (by kernel_rfl) (by kernel_rfl) hQ (by kernel_rfl) hb0 ?_
      refine hx_off (i := 14) (oi := _) rfl rfl hns (by kernel_rfl) (by kernel_rfl) hQ (by kernel_rfl) hb0 ?_
      refine hx_off (i := 15) (oi := _) rfl rfl hns (by kernel_rfl) (by kernel_rfl) hQ (by kernel_rfl) hb0 ?_
      refine hx_off (i := 16) (oi := _) rfl rfl hns (by kernel_rfl) (by kernel_rfl) hQ (by kernel_rfl) hb0 ?_
      refine hx_take (i := 17) (oi := _) (v := .bool false) rfl rfl hns (by kernel_rfl) (by kernel_rfl) hQ (by kernel_rfl) (fun _ _ => by kernel_rfl) hb0 ?_
      refine wpAnyH_done (by kernel_rfl) ?_ _
      clear hns hQ
      simp only [List.set_cons_zero, List.set_cons_succ]
      have e : R = E := by rw [hnx.out]; simp [firstE, he]
      subst e
      have HSx := (HS.trans HSa).trans hb0
      clear hnx pA xA uA
      go_wp2_with fail
      go_ret
      exact ⟨rfl, hS0.trans HSx⟩
    subst he
    have hc0 : Since wx61 wx61.drew := (Since.refl _).drew
    refine hx_begin (S := fun W => Since wx61 W) (by kernel_rfl) hc0 (by kernel_rfl) (fun _ _ _ _ _ h => h) (fun hns hQ => ?_)
    refine hx_take (i := 0) (oi := _) (v := .int .i64 0) rfl rfl hns (by kernel_rfl) (by kernel_rfl) hQ (by kernel_rfl) (fun _ _ => by kernel_rfl) hc0 ?_
    refine hx_take (i := 1) (oi := _) (v := .bool true) rfl rfl hns (by kernel_rfl) (by kernel_rfl) hQ (by kernel_rfl) (fun W _ => (eql_intE (s := 0) (t := 0) rfl (by kernel_rfl) (by kernel_rfl) W).trans rfl) hc0 ?_
    refine hx_take (i := 2) (oi := _) (v := .bool true) rfl rfl hns (by kernel_rfl) (by kernel_rfl) hQ (by kernel_rfl) (fun _ _ => by kernel_rfl) hc0 ?_
    refine hx_take (i := 3) (oi := _) (v := .pointer (some ⟨w.heap.size, 5, none⟩)) rfl rfl hns (by kernel_rfl) (by kernel_rfl) hQ (by kernel_rfl) (fun _ _ => by kernel_rfl) hc0 ?_
    refine hx_take (i := 4) (oi := _) (v := .slice (some ⟨b, o, none⟩) nr cr) rfl rfl hns (by kernel_rfl) (by kernel_rfl) hQ (by kernel_rfl) (fun W hW => ld_one rfl (by kernel_rfl) (by kernel_rfl) W (pA.next hW 5 _ rfl)) hc0 ?_
    refine hx_take (i := 5) (oi := _) (v := .int .i64 (k : Int)) rfl rfl hns (by kernel_rfl) (by kernel_rfl) hQ (by kernel_rfl) (fun _ _ => by kernel_rfl) hc0 ?_
    refine hx_take (i := 6) (oi := _) (v := .pointer (some ⟨b, o + k * 12, none⟩)) rfl rfl hns (by kernel_rfl) (by kernel_rfl) hQ (by kernel_rfl) (fun W _ => ix_sl (n := nr) (c := cr) (K := 12) rfl (by kernel_rfl) (by kernel_rfl) (by kernel_rfl) rfl hlt W) hc0 ?_
    refine hx_take (i := 7) (oi := _) (v := .pointer (some ⟨b, o + k * 12, none⟩)) rfl rfl hns (by kernel_rfl) (by kernel_rfl) hQ (by kernel_rfl) (fun _ _ => by kernel_rfl) hc0 ?_
    refine hx_take (i := 8) (oi := _) (v := .agg #[.string ⟨x_s.toArray⟩, .string ⟨x_p.toArray⟩, .int .i64 x_n, .bool x_v0, .string ⟨x_l0.toArray⟩, .bool x_v1, .string ⟨x_l1.toArray⟩, .bool x_v2, .string ⟨x_l2.toArray⟩, .bool x_v3, .string ⟨x_l3.toArray⟩]) rfl rfl hns (by kernel_rfl) (by kernel_rfl) hQ (by kernel_rfl) (fun W hW => ld_at rfl (by kernel_rfl) (by kernel_rfl) (by kernel_rfl) W (xA.next hW)) hc0 ?_
    refine hx_take (i := 9) (oi := _) (v := .pointer (some ⟨w.heap.size, 5, none⟩)) rfl rfl hns (by kernel_rfl) (by kernel_rfl) hQ (by kernel_rfl) (fun _ _ => by kernel_rfl) hc0 ?_
    refine hx_take (i := 10) (oi := _) (v := .slice (some ⟨b, o, none⟩) nr cr) rfl rfl hns (by kernel_rfl) (by kernel_rfl) hQ (by kernel_rfl) (fun W hW => ld_one rfl (by kernel_rfl) (by kernel_rfl) W (pA.next hW 5 _ rfl)) hc0 ?_
    refine hx_take (i := 11) (oi := _) (v := .int .i64 (k : Int)) rfl rfl hns (by kernel_rfl) (by kernel_rfl) hQ (by kernel_rfl) (fun _ _ => by kernel_rfl) hc0 ?_
    refine hx_take (i := 12) (oi := _) (v := .pointer (some ⟨b, o + k * 12, none⟩)) rfl rfl hns (by kernel_rfl) (by kernel_rfl) hQ (by kernel_rfl) (fun W _ => ix_sl (n := nr) (c := cr) (K := 12) rfl (by kernel_rfl) (by kernel_rfl) (by kernel_rfl) rfl hlt W) hc0 ?_
    refine hx_take (i := 13) (oi := _) (v := .pointer (some ⟨b, o + k * 12 + 11, none⟩)) rfl rfl hns (by kernel_rfl) (by kernel_rfl) hQ (by kernel_rfl) (fun _ _ => by kernel_rfl) hc0 ?_
    refine hx_take (i := 14) (oi := _) (v := .slice ua T.length uc) rfl rfl hns (by kernel_rfl) (by kernel_rfl) hQ (by kernel_rfl) (fun W hW => ld_one rfl (by kernel_rfl) (by kernel_rfl) W (uA.next hW 0 _ rfl)) hc0 ?_
    refine hx_call (i := 15) (oi := _) 59 #[.agg #[.string ⟨x_s.toArray⟩, .string ⟨x_p.toArray⟩, .int .i64 x_n, .bool x_v0, .string ⟨x_l0.toArray⟩, .bool x_v1, .string ⟨x_l1.toArray⟩, .bool x_v2, .string ⟨x_l2.toArray⟩, .bool x_v3, .string ⟨x_l3.toArray⟩], .slice ua T.length uc] rfl rfl (by kernel_rfl) (by kernel_rfl) (by kernel_rfl) (HRG.out rfl _ (HSa.trans hc0)) ?_
    rintro e wx81 ⟨rfl, hb⟩
    have hc1 : Since wx61 wx81 := hc0.trans hb
    clear hb
    refine ⟨_, rfl, hc1, ?_⟩
    refine hx_take (i := 16) (oi := _) (v := .bool (!G)) rfl rfl hns (by kernel_rfl) (by kernel_rfl) hQ (by kernel_rfl) (fun _ _ => by kernel_rfl) hc1 ?_
    refine hx_take (i := 17) (oi := _) (v := .bool (!G)) rfl rfl hns (by kernel_rfl) (by kernel_rfl) hQ (by kernel_rfl) (fun _ _ => by kernel_rfl) hc1 ?_
    refine wpAnyH_done (by kernel_rfl) ?_ _
    clear hns hQ
    simp only [List.set_cons_zero, List.set_cons_succ]
    have HSx := (HS.trans HSa).trans hc1
    clear pA xA uA HRG
    cases G
    · have e : R = 9 := hnx.out
      subst e
      clear hnx
      go_wp2_with fail
      go_ret
      exact ⟨rfl, hS0.trans HSx⟩
    · have e : Hid (R = rulesE P.pr P.pd (P.ru.drop (k + 1)) P.gr) := hnx
      clear hnx
      go_wp2_with fail
      go_roundw
      case rel => exact ⟨k + 1, by omega, by go_num, e, HSx⟩
      case measure => simp [intOf]; omega
  have hlt2 : ¬ (k : Int) < (nr : Int) := by omega
  have hR2 : Hid (R = grantsF P.pr P.pd (P.gr.drop 0)) := by
    show _ = _
    rw [hF.out, List.drop_eq_nil_of_le (by have := en.out; omega)]; rfl
  clear hF
  go_wp2_with fail
  go_loopw [3, 5, 6] (fun _ m _ wr => ∃ k : Nat, k ≤ ng ∧ m = .int .i64 (k : Int) ∧ Hid (R = grantsF P.pr P.pd (P.gr.drop k)) ∧ Since w1 wr) (fun _ m _ _ => ng - (intOf m).toNat)
  case atStart => exact ⟨0, by omega, rfl, hR2, HS⟩
  case round =>
  clear HS hR2 hlt hlt2 hk
  obtain ⟨k, hk, rfl, hF, HS⟩ := hrel
  obtain ⟨p_c0, p_c1, p_c2, p_c3, p_c4, p_c5, p_c6⟩ := PB0.next HS
  by_cases hlt : k < ng
  · have hkl : k < P.gr.length := by have := eg.out; omega
    have hlt2 : (k : Int) < (ng : Int) := by omega
    have hlt0 : (0 : Int) ≤ (k : Int) := by omega
    have hpo := HPOL.out.next HS
    obtain ⟨b, o, e1, hc, hat⟩ := hpo.2.2.2.2.2.2.get (by omega)
    have d1 := hat k hkl
    have hfx := hf.2.2.2.2.2.2.2.1 _ (List.getElem_mem hkl)
    have hnx : Hid (R = if grantErr P.pr P.pd P.gr[k] = 0 then grantsF P.pr P.pd (P.gr.drop (k + 1)) else grantErr P.pr P.pd P.gr[k]) := by
      show _ = _
      rw [hF.out, List.drop_eq_getElem_cons hkl, grantsF]
    obtain ⟨⟨s, x, T⟩, hx⟩ : ∃ x, Hid (x = P.gr[k]) := ⟨P.gr[k], rfl⟩
    rw [← hx.out] at d1 hnx hfx
    obtain ⟨x_s, x_p, x_n, ⟨x_v0, x_l0⟩, ⟨x_v1, x_l1⟩, ⟨x_v2, x_l2⟩, ⟨x_v3, x_l3⟩⟩ := x
    unfold GrnAt at d1
    simp only [strV] at d1
    obtain ⟨d0, d1, u, d2, d3⟩ := d1
    obtain ⟨ua, uc, rfl⟩ := d3.slice
    simp only at d2 d3 hfx
    obtain ⟨B, hB⟩ : ∃ B, Hid (B = P.pr.contains s) := ⟨_, rfl⟩
    obtain ⟨E, hEE⟩ : ∃ B, Hid (B = clauseE P.pr P.pd ((x_s, x_p, x_n, (x_v0, x_l0), (x_v1, x_l1), (x_v2, x_l2), (x_v3, x_l3)) : Atm) T) := ⟨_, rfl⟩
    have hRE : Hid (grantErr P.pr P.pd (s, ((x_s, x_p, x_n, (x_v0, x_l0), (x_v1, x_l1), (x_v2, x_l2), (x_v3, x_l3)) : Atm), T) = firstE [ifE (!B) 6, ifE (s == x_s) 11, E]) := by
      show _ = _
      rw [grantErr, hEE.out, hB.out]
    have HPR : Hid (∀ W, Since wr W → Calls Tryd.prog 31 #[.agg #[.slice ap np cp, .slice ad nd cd, .slice ac nc cc, .int .i64 qu, .int .i64 bu, .slice ar nr cr, .slice ag ng cg], .string ⟨s.toArray⟩] W fun e w' => e = .returned (.bool B) ∧ Since W w') := fun W hW => by
      rw [hB.out]; exact r12prin_any ap ad ac ar ag np cp nd cd nc cc nr cr ng cg qu bu P.pr s W (hpo.next hW).1 hf.2.1
    have HCL : Hid (∀ W, Since wr W → Calls Tryd.prog 58 #[.agg #[.slice ap np cp, .slice ad nd cd, .slice ac nc cc, .int .i64 qu, .int .i64 bu, .slice ar nr cr, .slice ag ng cg], .agg #[.string ⟨x_s.toArray⟩, .string ⟨x_p.toArray⟩, .int .i64 x_n, .bool x_v0, .string ⟨x_l0.toArray⟩, .bool x_v1, .string ⟨x_l1.toArray⟩, .bool x_v2, .string ⟨x_l2.toArray⟩, .bool x_v3, .string ⟨x_l3.toArray⟩], .slice ua T.length uc] W fun e w' => e = .returned (.int .i64 E) ∧ Since W w') := fun W hW => by
      rw [hEE.out]; exact r12clause_any ap ad ac ar ag np cp nd cd nc cc nr cr ng cg qu bu P.pr P.pd x_s x_p x_n x_v0 x_v1 x_v2 x_v3 x_l0 x_l1 x_l2 x_l3 ua T.length uc T W (anext d3 hW) (hpo.next hW).1 (hpo.next hW).2.1 hf.2.1 hf.2.2.2.1 (by have := hfx.2.2; omega) hfx.1 hfx.2.1
    rw [hRE.out] at hnx
    obtain ⟨x_c0, x_c1, x_c2, x_c3, x_c4, x_c5, x_c6, x_c7, x_c8, x_c9, x_c10⟩ := atat_cells1 x_s x_p x_n x_v0 x_v1 x_v2 x_v3 x_l0 x_l1 x_l2 x_l3 d1
    have xC := at_new wr #[.string ⟨s.toArray⟩, .string ⟨x_s.toArray⟩, .string ⟨x_p.toArray⟩, .int .i64 x_n, .bool x_v0, .string ⟨x_l0.toArray⟩, .bool x_v1, .string ⟨x_l1.toArray⟩, .bool x_v2, .string ⟨x_l2.toArray⟩, .bool x_v3, .string ⟨x_l3.toArray⟩, .slice ua T.length uc] 54
    have hal : Since wr (wr.alloc (.cells #[.string ⟨s.toArray⟩, .string ⟨x_s.toArray⟩, .string ⟨x_p.toArray⟩, .int .i64 x_n, .bool x_v0, .string ⟨x_l0.toArray⟩, .bool x_v1, .string ⟨x_l1.toArray⟩, .bool x_v2, .string ⟨x_l2.toArray⟩, .bool x_v3, .string ⟨x_l3.toArray⟩, .slice ua T.length uc] 54)) := (Since.refl _).alloc _
    have PBn := (PB0.next HS).next hal
    subst e1
    have PBm := PBn
    obtain ⟨q_c0, q_c1, q_c2, q_c3, q_c4, q_c5, q_c6⟩ := PBm
    clear hat hF hEE hB hx d1 d3 hpo hRE
    go_wp2_with fail
    generalize wr.alloc (.cells #[.string ⟨s.toArray⟩, .string ⟨x_s.toArray⟩, .string ⟨x_p.toArray⟩, .int .i64 x_n, .bool x_v0, .string ⟨x_l0.toArray⟩, .bool x_v1, .string ⟨x_l1.toArray⟩, .bool x_v2, .string ⟨x_l2.toArray⟩, .bool x_v3, .string ⟨x_l3.toArray⟩, .slice ua T.length uc] 54) = wa at *
    refine (HPR.out _ hal).mono ?_
    rintro e w5 ⟨rfl, hb⟩
    clear q_c0 q_c1 q_c2 q_c3 q_c4 q_c5 q_c6 p_c0 p_c1 p_c2 p_c3 p_c4 p_c5 p_c6 x_c0 x_c1 x_c2 x_c3 x_c4 x_c5 x_c6 x_c7 x_c8 x_c9 x_c10 d0 d2
    replace xC := xC.next hb
    obtain ⟨p_c0, p_c1, p_c2, p_c3, p_c4, p_c5, p_c6⟩ := PBn.next hb
    have g_c0 : w5.cell? ⟨wr.heap.size, 0, none⟩ = some (.string ⟨s.toArray⟩) := xC 0 _ rfl
    have g_c1 : w5.cell? ⟨wr.heap.size, 1, none⟩ = some (.string ⟨x_s.toArray⟩) := xC 1 _ rfl
    have g_c2 : w5.cell? ⟨wr.heap.size, 2, none⟩ = some (.string ⟨x_p.toArray⟩) := xC 2 _ rfl
    have g_c3 : w5.cell? ⟨wr.heap.size, 3, none⟩ = some (.int .i64 x_n) := xC 3 _ rfl
    have g_c4 : w5.cell? ⟨wr.heap.size, 4, none⟩ = some (.bool x_v0) := xC 4 _ rfl
    have g_c5 : w5.cell? ⟨wr.heap.size, 5, none⟩ = some (.string ⟨x_l0.toArray⟩) := xC 5 _ rfl
    have g_c6 : w5.cell? ⟨wr.heap.size, 6, none⟩ = some (.bool x_v1) := xC 6 _ rfl
    have g_c7 : w5.cell? ⟨wr.heap.size, 7, none⟩ = some (.string ⟨x_l1.toArray⟩) := xC 7 _ rfl
    have g_c8 : w5.cell? ⟨wr.heap.size, 8, none⟩ = some (.bool x_v2) := xC 8 _ rfl
    have g_c9 : w5.cell? ⟨wr.heap.size, 9, none⟩ = some (.string ⟨x_l2.toArray⟩) := xC 9 _ rfl
    have g_c10 : w5.cell? ⟨wr.heap.size, 10, none⟩ = some (.bool x_v3) := xC 10 _ rfl
    have g_c11 : w5.cell? ⟨wr.heap.size, 11, none⟩ = some (.string ⟨x_l3.toArray⟩) := xC 11 _ rfl
    have g_c12 : w5.cell? ⟨wr.heap.size, 12, none⟩ = some (.slice ua T.length uc) := xC 12 _ rfl
    have HSx := hal.trans hb
    clear hb hal HPR PBn xC
    cases B
    · have e : R = 6 := hnx.out
      subst e
      clear hnx
      go_wp2_with fail
      go_ret
      exact ⟨rfl, hS0.trans (HS.trans HSx)⟩
    cases hz : (s == x_s)
    case true =>
      have e : R = 11 := by rw [hnx.out, hz]; rfl
      subst e
      clear hnx
      go_wp2_with fail
      go_ret
      exact ⟨rfl, hS0.trans (HS.trans HSx)⟩
    rw [hz] at hnx
    go_wp2_with fail
    refine (HCL.out _ HSx).mono ?_
    rintro e w6 ⟨rfl, hb⟩
    replace HSx := HSx.trans hb
    clear hb HCL g_c0 g_c1 g_c2 g_c3 g_c4 g_c5 g_c6 g_c7 g_c8 g_c9 g_c10 g_c11 g_c12 p_c0 p_c1 p_c2 p_c3 p_c4 p_c5 p_c6
    by_cases he : E = 0
    · subst he
      have e : Hid (R = grantsF P.pr P.pd (P.gr.drop (k + 1))) := hnx
      clear hnx
      go_wp2_with fail
      go_roundw
      case rel => exact ⟨k + 1, by omega, by go_num, e, HS.trans HSx⟩
      case measure => simp [intOf]; omega
    · have e : R = E := by rw [hnx.out]; simp [firstE, ifE, he]
      subst e
      clear hnx
      go_wp2_with fail
      go_ret
      exact ⟨rfl, hS0.trans (HS.trans HSx)⟩
  · have hlt2 : ¬ (k : Int) < (ng : Int) := by omega
    have e : R = 0 := by rw [hF.out, List.drop_eq_nil_of_le (by have := eg.out; omega)]; rfl
    subst e
    clear hF
    go_wp2_with fail
    go_ret
    exact ⟨rfl, hS0.trans HS⟩
end Go.Proofs.YtpkggopaigledaaDoor
