/- Reference 12: principals, preds. Reference 12: clear1, clears. -/
import Derived.Test.YtpkggopaigledaaDoorFoQ
import Derived.Test.YtpkggopaigledaaDoorFoN
import Derived.Test.YtpkggopaigledaaDoorAuto
import Derived.Test.YtpkggopaigledaaDoorInv
namespace Go.Proofs.YtpkggopaigledaaDoor
open Go.RowKit

theorem PBox.at {W : World} {g : Nat} {ap ad ac ar ag : Option Addr} {np cp nd cd nc cc nr cr ng cg : Nat} {qu bu : Int} (h : PBox W g ap ad ac ar ag np cp nd cd nc cc nr cr ng cg qu bu) : At W g 0 #[.slice ap np cp, .slice ad nd cd, .slice ac nc cc, .int .i64 qu, .int .i64 bu, .slice ar nr cr, .slice ag ng cg] := by
  obtain ⟨h0, h1, h2, h3, h4, h5, h6⟩ := h
  intro j u hu
  match j, hu with
  | 0, hu => exact h0.trans hu
  | 1, hu => exact h1.trans hu
  | 2, hu => exact h2.trans hu
  | 3, hu => exact h3.trans hu
  | 4, hu => exact h4.trans hu
  | 5, hu => exact h5.trans hu
  | 6, hu => exact h6.trans hu
theorem KRow.take {α : Type} {K : Nat} {R : World → Nat → Nat → α → Prop} {W : World} {a : Option Addr} {n c : Nat} {L : List α} (h : KRow K R W (.slice a n c) L) (k : Nat) (hk : k ≤ L.length) : KRow K R W (.slice a k c) (L.take k) := by
  obtain ⟨a', c', h1, h2, h3⟩ := h
  cases h1
  refine ⟨a, c, by rw [List.length_take, Nat.min_eq_left hk], by rw [List.length_take]; omega, fun h0 => ?_⟩
  rw [List.length_take] at h0
  obtain ⟨b, o, h4, h5⟩ := h3 (by omega)
  refine ⟨b, o, h4, fun j hj => ?_⟩
  rw [List.length_take] at hj
  rw [List.getElem_take]
  exact h5 j (by omega)
theorem arity_some : ∀ (L : List (Txt × Int)) (x : Txt), (arityF L x).isSome = (L.map (·.1)).contains x
  | [], _ => rfl
  | p :: r, x => by
    rw [arityF, List.map_cons, List.contains_cons]
    by_cases h : p.1 = x
    · rw [if_pos h, h]; simp
    · rw [if_neg h, arity_some r x]
      have : (x == p.1) = false := by simpa using fun e => h e.symm
      rw [this, Bool.false_or]
theorem take_map {α β : Type} {f : α → β} (L : List α) (k : Nat) (h : k < L.length) : (L.take k).map f ++ [f L[k]] = (L.take (k + 1)).map f := by
  rw [List.take_succ_eq_append_getElem h, List.map_append]; rfl
theorem at_new (w : World) (cs : Array Value) (T : TypeId) : At (w.alloc (.cells cs T)) w.heap.size 0 cs := by
  intro j u hu
  rw [Nat.zero_add, World.cell?_alloc_new]; exact hu

set_option maxHeartbeats 4000000 in
set_option maxRecDepth 100000 in
theorem r12prins_any (ap ad ac ar ag : Option Addr) (np cp nd cd nc cc nr cr ng cg : Nat) (qu bu : Int) (L : List Txt) (w : World) (hT : TRow w (.slice ap np cp) L) (hl : ∀ x ∈ L, x.length ≤ maxLen) (lm : L.length ≤ 1000000) :
    Calls Tryd.prog 55 #[.agg #[.slice ap np cp, .slice ad nd cd, .slice ac nc cc, .int .i64 qu, .int .i64 bu, .slice ar nr cr, .slice ag ng cg]] w fun e w' => e = .returned (.int .i64 (prinsE L)) ∧ Since w w' := by
  have hS0 : Since w (w.alloc (.cells #[.slice ap np cp, .slice ad nd cd, .slice ac nc cc, .int .i64 qu, .int .i64 bu, .slice ar nr cr, .slice ag ng cg] 28)) := (Since.refl _).alloc _
  have p_B := pbox_new w ap ad ac ar ag np cp nd cd nc cc nr cr ng cg qu bu 28
  obtain ⟨p_c0, p_c1, p_c2, p_c3, p_c4, p_c5, p_c6⟩ := p_B
  have HT := Lib.hid (tnext hT hS0)
  have hn := Lib.hid hT.form
  have hnm : np ≤ 1000000 := by have := hT.form; omega
  clear hT
  by_cases h1 : np < 1
  · go_enter Tryd.func55, Tryd.ntmps55
    have h1' : (np : Int) < 1 := by omega
    go_wp2_with fail
    go_ret
    refine ⟨ret_int ?_, hS0⟩
    rw [prinsE, if_pos (by have := hn.out; omega)]
  by_cases h2 : 16 < np
  · go_enter Tryd.func55, Tryd.ntmps55
    have h1' : ¬ (np : Int) < 1 := by omega
    have h2' : (16 : Int) < (np : Int) := by omega
    go_wp2_with fail
    go_ret
    refine ⟨ret_int ?_, hS0⟩
    rw [prinsE, if_pos (by have := hn.out; omega)]
  have h1' : ¬ (np : Int) < 1 := by omega
  have h2' : ¬ (16 : Int) < (np : Int) := by omega
  obtain ⟨R, hR⟩ : ∃ R, Hid (R = prinsE L) := ⟨_, rfl⟩
  rw [← hR.out]
  have hR0 : Hid (R = prinsF (L.take 0) (L.drop 0)) := by show _ = _; rw [hR.out, prinsE, if_neg (by have := hn.out; omega)]; rfl
  clear hR
  go_enter Tryd.func55, Tryd.ntmps55
  go_wp2_with fail
  generalize w.alloc (.cells #[.slice ap np cp, .slice ad nd cd, .slice ac nc cc, .int .i64 qu, .int .i64 bu, .slice ar nr cr, .slice ag ng cg] 28) = w1 at *
  have P_B : PBox w1 w.heap.size ap ad ac ar ag np cp nd cd nc cc nr cr ng cg qu bu := ⟨p_c0, p_c1, p_c2, p_c3, p_c4, p_c5, p_c6⟩
  go_loopw [3] (fun m wr => ∃ k : Nat, k ≤ np ∧ m = .int .i64 (k : Int) ∧ Hid (R = prinsF (L.take k) (L.drop k)) ∧ Since w1 wr) (fun m _ => np - (intOf m).toNat)
  case atStart => exact ⟨0, by omega, rfl, hR0, Since.refl _⟩
  case round =>
  obtain ⟨k, hk, rfl, hF, hSr⟩ := hrel
  obtain ⟨p_c0, p_c1, p_c2, p_c3, p_c4, p_c5, p_c6⟩ := P_B.next hSr
  by_cases hlt : k < np
  · have hkl : k < L.length := by have := hn.out; omega
    have hlt2 : (k : Int) < (np : Int) := by omega
    have hlt0 : (0 : Int) ≤ (k : Int) := by omega
    have hTr := tnext HT.out hSr
    obtain ⟨b, o, e1, hc, hat⟩ := hTr.get (by omega)
    have HTK := Lib.hid (hTr.take k (by omega))
    have d1 := hat k hkl
    obtain ⟨s, hs⟩ : ∃ s, Hid (s = L[k]) := ⟨L[k], rfl⟩
    have hsl : s.length ≤ maxLen := by rw [hs.out]; exact hl _ (List.getElem_mem hkl)
    unfold TxtAt at d1
    rw [Nat.mul_one, ← hs.out] at d1
    simp only [strV] at d1
    subst e1
    obtain ⟨t, ht⟩ : ∃ t, Hid (t = (L.take k).contains s) := ⟨_, rfl⟩
    obtain ⟨B, hB⟩ : ∃ B, Hid (B = principalB s) := ⟨_, rfl⟩
    have HPR : Hid (∀ W, Calls Tryd.prog 51 #[.string ⟨s.toArray⟩] W fun e w' => e = .returned (.bool B) ∧ Since W w') := by
      intro W; rw [hB.out, ← rprincipal_eq]; exact rprincipal_any s W hsl
    have HRP : Hid (∀ W, TRow W (.slice (some ⟨b, o, none⟩) k cp) (L.take k) → Calls Tryd.prog 31 #[.agg #[.slice (some ⟨b, o, none⟩) k cp, .slice none 0 0, .slice none 0 0, .int .i64 0, .int .i64 0, .slice none 0 0, .slice none 0 0], .string ⟨s.toArray⟩] W fun e w' => e = .returned (.bool t) ∧ Since W w') := by
      intro W h; rw [ht.out]; exact r12prin_any (some ⟨b, o, none⟩) none none none none k cp 0 0 0 0 0 0 0 0 0 0 (L.take k) s W h (by rw [List.length_take]; omega)
    have hE : Hid (R = if firstE [ifE (!B) 3, ifE t 5] = 0 then prinsF (L.take (k + 1)) (L.drop (k + 1)) else firstE [ifE (!B) 3, ifE t 5]) := by
      show _ = _
      rw [hF.out, List.drop_eq_getElem_cons hkl, prinsF, ← hs.out, ← hB.out, ← ht.out, hs.out, take_more L k hkl]
    clear hat hTr hF hB
    go_wp2_with fail
    refine (HPR.out _).mono ?_
    rintro e w2 ⟨rfl, hb⟩
    replace hSr := hSr.trans hb
    replace p_c0 := hb.cell p_c0; replace p_c1 := hb.cell p_c1; replace p_c2 := hb.cell p_c2; replace p_c3 := hb.cell p_c3; replace p_c4 := hb.cell p_c4; replace p_c5 := hb.cell p_c5; replace p_c6 := hb.cell p_c6; replace d1 := hb.cell d1
    replace HTK := Lib.hid (tnext HTK.out hb)
    clear hb HPR
    cases B
    · have e := hE.out
      have e2 : R = 3 := e
      subst e2
      clear e
      go_wp2_with fail
      go_ret
      exact ⟨rfl, hS0.trans hSr⟩
    go_wp2_with fail
    have pA : At w2 w.heap.size 0 #[.slice (some ⟨b, o, none⟩) np cp, .slice ad nd cd, .slice ac nc cc, .int .i64 qu, .int .i64 bu, .slice ar nr cr, .slice ag ng cg] := PBox.at ⟨p_c0, p_c1, p_c2, p_c3, p_c4, p_c5, p_c6⟩
    have dA : At w2 b (o + k) #[.string ⟨s.toArray⟩] := At.one d1

    have hs0 : Since w2 w2.drew := (Since.refl _).drew
    refine hx_begin (S := fun W => Since w2 W) (by kernel_rfl) hs0 (by kernel_rfl) (fun _ _ _ _ _ h => h) (fun hns hQ => ?_)
    refine hx_take (i := 0) (oi := _) (v := .pointer (some ⟨w.heap.size, 0, none⟩)) rfl rfl hns (by kernel_rfl) (by kernel_rfl) hQ (by kernel_rfl) (fun _ _ => by kernel_rfl) hs0 ?_
    refine hx_take (i := 1) (oi := _) (v := .slice (some ⟨b, o, none⟩) np cp) rfl rfl hns (by kernel_rfl) (by kernel_rfl) hQ (by kernel_rfl) (fun W hW => ld_one rfl (by kernel_rfl) (by kernel_rfl) W (pA.next hW 0 _ rfl)) hs0 ?_
    refine hx_take (i := 2) (oi := _) (v := .int .i64 (k : Int)) rfl rfl hns (by kernel_rfl) (by kernel_rfl) hQ (by kernel_rfl) (fun _ _ => by kernel_rfl) hs0 ?_
    refine hx_take (i := 3) (oi := _) (v := .slice (some ⟨b, o, none⟩) k cp) rfl rfl hns (by kernel_rfl) (by kernel_rfl) hQ (by kernel_rfl) (fun W _ => slh_string (n := np) rfl (by kernel_rfl) (by kernel_rfl) (by omega) W) hs0 ?_
    refine hx_take (i := 4) (oi := _) (v := .agg #[.slice (some ⟨b, o, none⟩) k cp, .slice none 0 0, .slice none 0 0, .int .i64 0, .int .i64 0, .slice none 0 0, .slice none 0 0]) rfl rfl hns (by kernel_rfl) (by kernel_rfl) hQ (by kernel_rfl) (fun _ _ => by kernel_rfl) hs0 ?_
    refine hx_take (i := 5) (oi := _) (v := .pointer (some ⟨w.heap.size, 0, none⟩)) rfl rfl hns (by kernel_rfl) (by kernel_rfl) hQ (by kernel_rfl) (fun _ _ => by kernel_rfl) hs0 ?_
    refine hx_take (i := 6) (oi := _) (v := .slice (some ⟨b, o, none⟩) np cp) rfl rfl hns (by kernel_rfl) (by kernel_rfl) hQ (by kernel_rfl) (fun W hW => ld_one rfl (by kernel_rfl) (by kernel_rfl) W (pA.next hW 0 _ rfl)) hs0 ?_
    refine hx_take (i := 7) (oi := _) (v := .int .i64 (k : Int)) rfl rfl hns (by kernel_rfl) (by kernel_rfl) hQ (by kernel_rfl) (fun _ _ => by kernel_rfl) hs0 ?_
    refine hx_take (i := 8) (oi := _) (v := .pointer (some ⟨b, o + k, none⟩)) rfl rfl hns (by kernel_rfl) (by kernel_rfl) hQ (by kernel_rfl) (fun W _ => ix_sl1 (n := np) (c := cp) rfl (by kernel_rfl) (by kernel_rfl) (by kernel_rfl) rfl hlt W) hs0 ?_
    refine hx_take (i := 9) (oi := _) (v := .string ⟨s.toArray⟩) rfl rfl hns (by kernel_rfl) (by kernel_rfl) hQ (by kernel_rfl) (fun W hW => ld_one rfl (by kernel_rfl) (by kernel_rfl) W (dA.next hW 0 _ rfl)) hs0 ?_
    refine hx_call (i := 10) (oi := _) 31 #[.agg #[.slice (some ⟨b, o, none⟩) k cp, .slice none 0 0, .slice none 0 0, .int .i64 0, .int .i64 0, .slice none 0 0, .slice none 0 0], .string ⟨s.toArray⟩] rfl rfl (by kernel_rfl) (by kernel_rfl) (by kernel_rfl) (HRP.out _ (tnext HTK.out hs0)) ?_
    rintro e wx51 ⟨rfl, hb⟩
    have hs1 : Since w2 wx51 := hs0.trans hb
    clear hb
    refine ⟨_, rfl, hs1, ?_⟩
    refine wpAnyH_done (by kernel_rfl) ?_ _
    clear hns hQ
    simp only [List.set_cons_zero, List.set_cons_succ]
    have hSx := hSr.trans hs1
    clear pA dA d1 p_c0 p_c1 p_c2 p_c3 p_c4 p_c5 p_c6 HTK HRP
    cases t
    · have e : Hid (R = prinsF (L.take (k + 1)) (L.drop (k + 1))) := by show _ = _; rw [hE.out]; rfl
      go_wp2_with fail
      go_roundw
      case rel => exact ⟨k + 1, by omega, by go_num, e, hSx⟩
      case measure => simp [intOf]; omega
    · have e2 : R = 5 := hE.out
      subst e2
      clear hE
      go_wp2_with fail
      go_ret
      exact ⟨rfl, hS0.trans hSx⟩
  · have hlt2 : ¬ (k : Int) < (np : Int) := by omega
    have e : R = 0 := by rw [hF.out, List.drop_eq_nil_of_le (by have := hn.out; omega)]; rfl
    subst e
    clear hF
    go_wp2_with fail
    go_ret
    exact ⟨rfl, hS0.trans hSr⟩
set_option maxHeartbeats 4000000 in
set_option maxRecDepth 100000 in
theorem r12preds_any (ap ad ac ar ag : Option Addr) (np cp nd cd nc cc nr cr ng cg : Nat) (qu bu : Int) (L : List (Txt × Int)) (w : World) (hT : PRow w (.slice ad nd cd) L) (hl : ∀ x ∈ L, x.1.length ≤ maxLen) (lm : L.length ≤ 1000000) :
    Calls Tryd.prog 56 #[.agg #[.slice ap np cp, .slice ad nd cd, .slice ac nc cc, .int .i64 qu, .int .i64 bu, .slice ar nr cr, .slice ag ng cg]] w fun e w' => e = .returned (.int .i64 (predsE L)) ∧ Since w w' := by
  have hS0 : Since w (w.alloc (.cells #[.slice ap np cp, .slice ad nd cd, .slice ac nc cc, .int .i64 qu, .int .i64 bu, .slice ar nr cr, .slice ag ng cg] 28)) := (Since.refl _).alloc _
  have p_B := pbox_new w ap ad ac ar ag np cp nd cd nc cc nr cr ng cg qu bu 28
  obtain ⟨p_c0, p_c1, p_c2, p_c3, p_c4, p_c5, p_c6⟩ := p_B
  have HT := Lib.hid (pnext hT hS0)
  have hn := Lib.hid hT.form
  have hnm : nd ≤ 1000000 := by have := hT.form; omega
  clear hT
  by_cases h2 : 32 < nd
  · go_enter Tryd.func56, Tryd.ntmps56
    have h2' : (32 : Int) < (nd : Int) := by omega
    go_wp2_with fail
    go_ret
    refine ⟨ret_int ?_, hS0⟩
    rw [predsE, if_pos (by have := hn.out; omega)]
  have h2' : ¬ (32 : Int) < (nd : Int) := by omega
  obtain ⟨R, hR⟩ : ∃ R, Hid (R = predsE L) := ⟨_, rfl⟩
  rw [← hR.out]
  have hR0 : Hid (R = predsF ((L.take 0).map (·.1)) (L.drop 0)) := by show _ = _; rw [hR.out, predsE, if_neg (by have := hn.out; omega)]; rfl
  clear hR
  go_enter Tryd.func56, Tryd.ntmps56
  go_wp2_with fail
  generalize w.alloc (.cells #[.slice ap np cp, .slice ad nd cd, .slice ac nc cc, .int .i64 qu, .int .i64 bu, .slice ar nr cr, .slice ag ng cg] 28) = w1 at *
  have P_B : PBox w1 w.heap.size ap ad ac ar ag np cp nd cd nc cc nr cr ng cg qu bu := ⟨p_c0, p_c1, p_c2, p_c3, p_c4, p_c5, p_c6⟩
  go_loopw [3] (fun m wr => ∃ k : Nat, k ≤ nd ∧ m = .int .i64 (k : Int) ∧ Hid (R = predsF ((L.take k).map (·.1)) (L.drop k)) ∧ Since w1 wr) (fun m _ => nd - (intOf m).toNat)
  case atStart => exact ⟨0, by omega, rfl, hR0, Since.refl _⟩
  case round =>
  obtain ⟨k, hk, rfl, hF, hSr⟩ := hrel
  obtain ⟨p_c0, p_c1, p_c2, p_c3, p_c4, p_c5, p_c6⟩ := P_B.next hSr
  by_cases hlt : k < nd
  · have hkl : k < L.length := by have := hn.out; omega
    have hlt2 : (k : Int) < (nd : Int) := by omega
    have hlt0 : (0 : Int) ≤ (k : Int) := by omega
    have hTr := pnext HT.out hSr
    obtain ⟨b, o, e1, hc, hat⟩ := hTr.get (by omega)
    have HTK := Lib.hid (hTr.take k (by omega))
    have d1 := hat k hkl
    have hsl := hl _ (List.getElem_mem hkl)
    obtain ⟨⟨s, n⟩, hs⟩ : ∃ s, Hid (s = L[k]) := ⟨L[k], rfl⟩
    rw [← hs.out] at hsl
    unfold PrdAt at d1
    rw [← hs.out] at d1
    simp only [strV] at d1
    obtain ⟨d1, d2⟩ := d1
    subst e1
    obtain ⟨t, ht⟩ : ∃ t, Hid (t = ((L.take k).map (·.1)).contains s) := ⟨_, rfl⟩
    obtain ⟨B, hB⟩ : ∃ B, Hid (B = principalB s) := ⟨_, rfl⟩
    have HPR : Hid (∀ W, Calls Tryd.prog 52 #[.string ⟨s.toArray⟩] W fun e w' => e = .returned (.bool B) ∧ Since W w') := by
      intro W; rw [hB.out, ← rprincipal_eq]; exact rpredicate_any s W hsl
    obtain ⟨D, hD⟩ : ∃ D, Hid (D = (decide (n < 0) || decide (4 < n))) := ⟨_, rfl⟩
    have hAI : Hid ((arityF (L.take k) s).isSome = t) := by show _ = _; rw [ht.out]; exact arity_some _ _
    have hE : Hid (R = if firstE [ifE (!B) 3, ifE t 5, ifE D 4] = 0 then predsF ((L.take (k + 1)).map (·.1)) (L.drop (k + 1)) else firstE [ifE (!B) 3, ifE t 5, ifE D 4]) := by
      show _ = _
      rw [hF.out, List.drop_eq_getElem_cons hkl, predsF, predErr, ← hs.out]
      simp only []
      rw [← hB.out, ← ht.out, ← hD.out, show s = L[k].1 by rw [← hs.out], take_map L k hkl]
    clear hat hTr hF hB
    go_wp2_with fail
    obtain ⟨wa, hwa⟩ : ∃ W, Hid (W = wr.alloc (.cells #[.string ⟨s.toArray⟩, .int .i64 n] 47)) := ⟨_, rfl⟩
    rw [← hwa.out]
    have hba : Since wr wa := by rw [hwa.out]; exact (Since.refl _).alloc _
    have xC : At wa wr.heap.size 0 #[.string ⟨s.toArray⟩, .int .i64 n] := by rw [hwa.out]; exact at_new _ _ _
    replace p_c0 := hba.cell p_c0; replace p_c1 := hba.cell p_c1; replace p_c2 := hba.cell p_c2; replace p_c3 := hba.cell p_c3; replace p_c4 := hba.cell p_c4; replace p_c5 := hba.cell p_c5; replace p_c6 := hba.cell p_c6; replace HTK := Lib.hid (pnext HTK.out hba)
    replace hSr := hSr.trans hba
    clear hba hwa
    refine (HPR.out _).mono ?_
    rintro e w2 ⟨rfl, hb⟩
    replace hSr := hSr.trans hb
    replace p_c0 := hb.cell p_c0; replace p_c1 := hb.cell p_c1; replace p_c2 := hb.cell p_c2; replace p_c3 := hb.cell p_c3; replace p_c4 := hb.cell p_c4; replace p_c5 := hb.cell p_c5; replace p_c6 := hb.cell p_c6
    replace xC := xC.next hb
    replace HTK := Lib.hid (pnext HTK.out hb)
    clear hb HPR d1 d2
    cases B
    · have e2 : R = 3 := hE.out
      subst e2
      clear hE
      go_wp2_with fail
      go_ret
      exact ⟨rfl, hS0.trans hSr⟩
    go_wp2_with fail
    have pA : At w2 w.heap.size 0 #[.slice ap np cp, .slice (some ⟨b, o, none⟩) nd cd, .slice ac nc cc, .int .i64 qu, .int .i64 bu, .slice ar nr cr, .slice ag ng cg] := PBox.at ⟨p_c0, p_c1, p_c2, p_c3, p_c4, p_c5, p_c6⟩
    have hs0 : Since w2 w2.drew := (Since.refl _).drew
    refine hx_begin (S := fun W => Since w2 W) (by kernel_rfl) hs0 (by kernel_rfl) (fun _ _ _ _ _ h => h) (fun hns hQ => ?_)
    refine hx_take (i := 0) (oi := _) (v := .pointer (some ⟨w.heap.size, 1, none⟩)) rfl rfl hns (by kernel_rfl) (by kernel_rfl) hQ (by kernel_rfl) (fun _ _ => by kernel_rfl) hs0 ?_
    refine hx_take (i := 1) (oi := _) (v := .slice (some ⟨b, o, none⟩) nd cd) rfl rfl hns (by kernel_rfl) (by kernel_rfl) hQ (by kernel_rfl) (fun W hW => ld_one rfl (by kernel_rfl) (by kernel_rfl) W (pA.next hW 1 _ rfl)) hs0 ?_
    refine hx_take (i := 2) (oi := _) (v := .int .i64 (k : Int)) rfl rfl hns (by kernel_rfl) (by kernel_rfl) hQ (by kernel_rfl) (fun _ _ => by kernel_rfl) hs0 ?_
    refine hx_take (i := 3) (oi := _) (v := .slice (some ⟨b, o, none⟩) k cd) rfl rfl hns (by kernel_rfl) (by kernel_rfl) hQ (by kernel_rfl) (fun W _ => slh_Pred (n := nd) rfl (by kernel_rfl) (by kernel_rfl) (by omega) W) hs0 ?_
    refine hx_take (i := 4) (oi := _) (v := .agg #[.slice none 0 0, .slice (some ⟨b, o, none⟩) k cd, .slice none 0 0, .int .i64 0, .int .i64 0, .slice none 0 0, .slice none 0 0]) rfl rfl hns (by kernel_rfl) (by kernel_rfl) hQ (by kernel_rfl) (fun _ _ => by kernel_rfl) hs0 ?_
    refine hx_take (i := 5) (oi := _) (v := .pointer (some ⟨wr.heap.size, 0, none⟩)) rfl rfl hns (by kernel_rfl) (by kernel_rfl) hQ (by kernel_rfl) (fun _ _ => by kernel_rfl) hs0 ?_
    refine hx_take (i := 6) (oi := _) (v := .string ⟨s.toArray⟩) rfl rfl hns (by kernel_rfl) (by kernel_rfl) hQ (by kernel_rfl) (fun W hW => ld_one rfl (by kernel_rfl) (by kernel_rfl) W (xC.next hW 0 _ rfl)) hs0 ?_
    refine hx_call (i := 7) (oi := _) 26 #[.agg #[.slice none 0 0, .slice (some ⟨b, o, none⟩) k cd, .slice none 0 0, .int .i64 0, .int .i64 0, .slice none 0 0, .slice none 0 0], .string ⟨s.toArray⟩] rfl rfl (by kernel_rfl) (by kernel_rfl) (by kernel_rfl) (r12arity_any none (some ⟨b, o, none⟩) none none none 0 0 k cd 0 0 0 0 0 0 0 0 (L.take k) s _ (pnext HTK.out hs0) (by rw [List.length_take]; omega)) ?_
    rintro e wx51 ⟨rfl, hb⟩
    have hs1 : Since w2 wx51 := hs0.trans hb
    clear hb
    refine ⟨_, rfl, hs1, ?_⟩
    refine hx_take (i := 8) (oi := _) (v := .tuple #[.int .i64 ((arityF (List.take k L) s).getD 0), .bool (arityF (List.take k L) s).isSome]) rfl rfl hns (by kernel_rfl) (by kernel_rfl) hQ (by kernel_rfl) (fun _ _ => by kernel_rfl) hs1 ?_
    refine hx_take (i := 9) (oi := _) (v := .int .i64 ((arityF (List.take k L) s).getD 0)) rfl rfl hns (by kernel_rfl) (by kernel_rfl) hQ (by kernel_rfl) (fun _ _ => by kernel_rfl) hs1 ?_
    refine hx_take (i := 10) (oi := _) (v := .bool (arityF (List.take k L) s).isSome) rfl rfl hns (by kernel_rfl) (by kernel_rfl) hQ (by kernel_rfl) (fun _ _ => by kernel_rfl) hs1 ?_
    refine hx_take (i := 11) (oi := _) (v := .int .i64 ((arityF (List.take k L) s).getD 0)) rfl rfl hns (by kernel_rfl) (by kernel_rfl) hQ (by kernel_rfl) (fun _ _ => by kernel_rfl) hs1 ?_
    refine hx_take (i := 12) (oi := _) (v := .bool (arityF (List.take k L) s).isSome) rfl rfl hns (by kernel_rfl) (by kernel_rfl) hQ (by kernel_rfl) (fun _ _ => by kernel_rfl) hs1 ?_
    refine wpAnyH_done (by kernel_rfl) ?_ _
    clear hns hQ
    simp only [List.set_cons_zero, List.set_cons_succ]
    have hSx := hSr.trans hs1
    have xD := xC.next hs1
    have x1 := xD 1 _ rfl
    rw [hAI.out]
    clear pA p_c0 p_c1 p_c2 p_c3 p_c4 p_c5 p_c6 HTK xC xD
    cases t
    case true =>
      have e2 : R = 5 := hE.out
      subst e2
      clear hE
      go_wp2_with fail
      go_ret
      exact ⟨rfl, hS0.trans hSx⟩
    by_cases hn0 : n < 0
    · have hd : D = true := by rw [hD.out, decide_eq_true hn0]; rfl
      subst hd
      have e2 : R = 4 := hE.out
      subst e2
      clear hE
      go_wp2_with fail
      go_ret
      exact ⟨rfl, hS0.trans hSx⟩
    by_cases hn4 : 4 < n
    · have hd : D = true := by rw [hD.out, decide_eq_true hn4, Bool.or_true]
      subst hd
      have e2 : R = 4 := hE.out
      subst e2
      clear hE
      go_wp2_with fail
      go_ret
      exact ⟨rfl, hS0.trans hSx⟩
    · have hd : D = false := by rw [hD.out, decide_eq_false hn0, decide_eq_false hn4]; rfl
      subst hd
      have e : Hid (R = predsF ((L.take (k + 1)).map (·.1)) (L.drop (k + 1))) := by show _ = _; rw [hE.out]; rfl
      clear hE
      go_wp2_with fail
      go_roundw
      case rel => exact ⟨k + 1, by omega, by go_num, e, hSx⟩
      case measure => simp [intOf]; omega
  · have hlt2 : ¬ (k : Int) < (nd : Int) := by omega
    have e : R = 0 := by rw [hF.out, List.drop_eq_nil_of_le (by have := hn.out; omega)]; rfl
    subst e
    clear hF
    go_wp2_with fail
    go_ret
    exact ⟨rfl, hS0.trans hSr⟩
end Go.Proofs.YtpkggopaigledaaDoor

namespace Go.Proofs.YtpkggopaigledaaDoor
open Go.RowKit

set_option maxHeartbeats 4000000 in
set_option maxRecDepth 100000 in
theorem r12clear1_any (ap ad ac ar ag : Option Addr) (np cp nd cd nc cc nr cr ng cg : Nat) (qu bu : Int) (pr : List Txt) (who : Txt) (a : Option Addr) (n c : Nat) (L : List Txt) (w : World) (hP : TRow w (.slice ap np cp) pr) (lr : pr.length ≤ 1000000) (hL : TRow w (.slice a n c) L) (lm : L.length ≤ 1000000) :
    Calls Tryd.prog 79 #[.agg #[.slice ap np cp, .slice ad nd cd, .slice ac nc cc, .int .i64 qu, .int .i64 bu, .slice ar nr cr, .slice ag ng cg], .agg #[.string ⟨who.toArray⟩, .slice a n c]] w fun e w' => e = .returned (.int .i64 (readsE pr who L)) ∧ Since w w' := by
  have hS0 : Since w ((w.alloc (.cells #[.slice ap np cp, .slice ad nd cd, .slice ac nc cc, .int .i64 qu, .int .i64 bu, .slice ar nr cr, .slice ag ng cg] 28)).alloc (.cells #[.string ⟨who.toArray⟩, .slice a n c] 49)) := ((Since.refl _).alloc _).alloc _
  have P_B := ((pbox_new w ap ad ac ar ag np cp nd cd nc cc nr cr ng cg qu bu 28).next ((Since.refl _).alloc (.cells #[.string ⟨who.toArray⟩, .slice a n c] 49))).at
  have C_B : At ((w.alloc (.cells #[.slice ap np cp, .slice ad nd cd, .slice ac nc cc, .int .i64 qu, .int .i64 bu, .slice ar nr cr, .slice ag ng cg] 28)).alloc (.cells #[.string ⟨who.toArray⟩, .slice a n c] 49)) (w.heap.size + 1) 0 #[.string ⟨who.toArray⟩, .slice a n c] := by
    have := at_new (w.alloc (.cells #[.slice ap np cp, .slice ad nd cd, .slice ac nc cc, .int .i64 qu, .int .i64 bu, .slice ar nr cr, .slice ag ng cg] 28)) #[.string ⟨who.toArray⟩, .slice a n c] 49
    rwa [World.size_alloc] at this
  have HT := Lib.hid (tnext hL hS0)
  have HQ := Lib.hid (tnext hP hS0)
  have hn := Lib.hid hL.form
  have hnm : n ≤ 1000000 := by have := hL.form; omega
  clear hL hP
  have c0 : ((w.alloc (.cells #[.slice ap np cp, .slice ad nd cd, .slice ac nc cc, .int .i64 qu, .int .i64 bu, .slice ar nr cr, .slice ag ng cg] 28)).alloc (.cells #[.string ⟨who.toArray⟩, .slice a n c] 49)).cell? ⟨w.heap.size + 1, 0, none⟩ = some (.string ⟨who.toArray⟩) := C_B 0 _ rfl
  have c1 : ((w.alloc (.cells #[.slice ap np cp, .slice ad nd cd, .slice ac nc cc, .int .i64 qu, .int .i64 bu, .slice ar nr cr, .slice ag ng cg] 28)).alloc (.cells #[.string ⟨who.toArray⟩, .slice a n c] 49)).cell? ⟨w.heap.size + 1, 1, none⟩ = some (.slice a n c) := C_B 1 _ rfl
  by_cases h1 : n < 1
  · go_enter Tryd.func79, Tryd.ntmps79
    have h1' : (n : Int) < 1 := by omega
    go_wp2_with fail
    go_ret
    refine ⟨ret_int ?_, hS0⟩
    rw [readsE, if_pos (by have := hn.out; omega)]
  by_cases h2 : 16 < n
  · go_enter Tryd.func79, Tryd.ntmps79
    have h1' : ¬ (n : Int) < 1 := by omega
    have h2' : (16 : Int) < (n : Int) := by omega
    go_wp2_with fail
    go_ret
    refine ⟨ret_int ?_, hS0⟩
    rw [readsE, if_pos (by have := hn.out; omega)]
  have h1' : ¬ (n : Int) < 1 := by omega
  have h2' : ¬ (16 : Int) < (n : Int) := by omega
  obtain ⟨R, hR⟩ : ∃ R, Hid (R = readsE pr who L) := ⟨_, rfl⟩
  rw [← hR.out]
  have hR0 : Hid (R = readsF pr who (L.take 0) (L.drop 0)) := by show _ = _; rw [hR.out, readsE, if_neg (by have := hn.out; omega)]; rfl
  clear hR
  go_enter Tryd.func79, Tryd.ntmps79
  go_wp2_with fail
  generalize ((w.alloc (.cells #[.slice ap np cp, .slice ad nd cd, .slice ac nc cc, .int .i64 qu, .int .i64 bu, .slice ar nr cr, .slice ag ng cg] 28)).alloc (.cells #[.string ⟨who.toArray⟩, .slice a n c] 49)) = w1 at *
  go_loopw [5] (fun m wr => ∃ k : Nat, k ≤ n ∧ m = .int .i64 (k : Int) ∧ Hid (R = readsF pr who (L.take k) (L.drop k)) ∧ Since w1 wr) (fun m _ => n - (intOf m).toNat)
  case atStart => exact ⟨0, by omega, rfl, hR0, Since.refl _⟩
  case round =>
  obtain ⟨k, hk, rfl, hF, hSr⟩ := hrel
  replace c0 := hSr.cell c0
  replace c1 := hSr.cell c1
  by_cases hlt : k < n
  · have hkl : k < L.length := by have := hn.out; omega
    have hlt2 : (k : Int) < (n : Int) := by omega
    have hlt0 : (0 : Int) ≤ (k : Int) := by omega
    have hTr := tnext HT.out hSr
    obtain ⟨b, o, e1, hc, hat⟩ := hTr.get (by omega)
    have HTK := Lib.hid (hTr.take k (by omega))
    have HQK := Lib.hid (tnext HQ.out hSr)
    have d1 := hat k hkl
    obtain ⟨s, hs⟩ : ∃ s, Hid (s = L[k]) := ⟨L[k], rfl⟩
    unfold TxtAt at d1
    rw [Nat.mul_one, ← hs.out] at d1
    simp only [strV] at d1
    subst e1
    obtain ⟨t, ht⟩ : ∃ t, Hid (t = (L.take k).contains s) := ⟨_, rfl⟩
    obtain ⟨B, hB⟩ : ∃ B, Hid (B = pr.contains s) := ⟨_, rfl⟩
    have HPR : Hid (∀ W, TRow W (.slice ap np cp) pr → Calls Tryd.prog 31 #[.agg #[.slice ap np cp, .slice ad nd cd, .slice ac nc cc, .int .i64 qu, .int .i64 bu, .slice ar nr cr, .slice ag ng cg], .string ⟨s.toArray⟩] W fun e w' => e = .returned (.bool B) ∧ Since W w') := by
      intro W h; rw [hB.out]; exact r12prin_any ap ad ac ar ag np cp nd cd nc cc nr cr ng cg qu bu pr s W h lr
    have HRP : Hid (∀ W, TRow W (.slice (some ⟨b, o, none⟩) k c) (L.take k) → Calls Tryd.prog 31 #[.agg #[.slice (some ⟨b, o, none⟩) k c, .slice none 0 0, .slice none 0 0, .int .i64 0, .int .i64 0, .slice none 0 0, .slice none 0 0], .string ⟨s.toArray⟩] W fun e w' => e = .returned (.bool t) ∧ Since W w') := by
      intro W h; rw [ht.out]; exact r12prin_any (some ⟨b, o, none⟩) none none none none k c 0 0 0 0 0 0 0 0 0 0 (L.take k) s W h (by rw [List.length_take]; omega)
    have hE : Hid (R = if firstE [ifE (!B) 6, ifE (s == who) 11, ifE t 5] = 0 then readsF pr who (L.take (k + 1)) (L.drop (k + 1)) else firstE [ifE (!B) 6, ifE (s == who) 11, ifE t 5]) := by
      show _ = _
      rw [hF.out, List.drop_eq_getElem_cons hkl, readsF, readErr, ← hs.out, ← hB.out, ← ht.out, hs.out, take_more L k hkl]
    clear hat hTr hF hB c0
    have pA := P_B.next hSr
    have cA := C_B.next hSr
    have dA : At wr b (o + k) #[.string ⟨s.toArray⟩] := At.one d1
    clear d1
    go_wp2_with fail
    have ha0 : Since wr wr.drew := (Since.refl _).drew
    refine hx_begin (S := fun W => Since wr W) (by kernel_rfl) ha0 (by kernel_rfl) (fun _ _ _ _ _ h => h) (fun hns hQ => ?_)
    refine hx_take (i := 0) (oi := _) (v := .agg #[.slice ap np cp, .slice ad nd cd, .slice ac nc cc, .int .i64 qu, .int .i64 bu, .slice ar nr cr, .slice ag ng cg]) rfl rfl hns (by kernel_rfl) (by kernel_rfl) hQ (by kernel_rfl) (fun W hW => ld_at rfl (by kernel_rfl) (by kernel_rfl) (by kernel_rfl) W (pA.next hW)) ha0 ?_
    refine hx_take (i := 1) (oi := _) (v := .pointer (some ⟨w.heap.size + 1, 1, none⟩)) rfl rfl hns (by kernel_rfl) (by kernel_rfl) hQ (by kernel_rfl) (fun _ _ => by kernel_rfl) ha0 ?_
    refine hx_take (i := 2) (oi := _) (v := .slice (some ⟨b, o, none⟩) n c) rfl rfl hns (by kernel_rfl) (by kernel_rfl) hQ (by kernel_rfl) (fun W hW => ld_one rfl (by kernel_rfl) (by kernel_rfl) W (cA.next hW 1 _ rfl)) ha0 ?_
    refine hx_take (i := 3) (oi := _) (v := .int .i64 (k : Int)) rfl rfl hns (by kernel_rfl) (by kernel_rfl) hQ (by kernel_rfl) (fun _ _ => by kernel_rfl) ha0 ?_
    refine hx_take (i := 4) (oi := _) (v := .pointer (some ⟨b, o + k, none⟩)) rfl rfl hns (by kernel_rfl) (by kernel_rfl) hQ (by kernel_rfl) (fun W _ => ix_sl1 (n := n) (c := c) rfl (by kernel_rfl) (by kernel_rfl) (by kernel_rfl) rfl hlt W) ha0 ?_
    refine hx_take (i := 5) (oi := _) (v := .string ⟨s.toArray⟩) rfl rfl hns (by kernel_rfl) (by kernel_rfl) hQ (by kernel_rfl) (fun W hW => ld_one rfl (by kernel_rfl) (by kernel_rfl) W (dA.next hW 0 _ rfl)) ha0 ?_
    refine hx_call (i := 6) (oi := _) 31 #[.agg #[.slice ap np cp, .slice ad nd cd, .slice ac nc cc, .int .i64 qu, .int .i64 bu, .slice ar nr cr, .slice ag ng cg], .string ⟨s.toArray⟩] rfl rfl (by kernel_rfl) (by kernel_rfl) (by kernel_rfl) (HPR.out _ (tnext HQK.out ha0)) ?_
    rintro e wx61 ⟨rfl, hb⟩
    have ha1 : Since wr wx61 := ha0.trans hb
    clear hb
    refine ⟨_, rfl, ha1, ?_⟩
    refine hx_take (i := 7) (oi := _) (v := .bool (!B)) rfl rfl hns (by kernel_rfl) (by kernel_rfl) hQ (by kernel_rfl) (fun _ _ => by kernel_rfl) ha1 ?_
    refine wpAnyH_done (by kernel_rfl) ?_ _
    clear hns hQ
    simp only [List.set_cons_zero, List.set_cons_succ]
    replace hSr := hSr.trans ha1
    replace pA := pA.next ha1
    replace cA := cA.next ha1
    replace dA := dA.next ha1
    replace c1 := Since.cell ha1 c1
    replace HTK := Lib.hid (tnext HTK.out ha1)
    cases B
    · have e2 : R = 6 := hE.out
      subst e2
      clear hE
      go_wp2_with fail
      go_ret
      exact ⟨rfl, hS0.trans hSr⟩
    clear ha0 ha1 HPR HQK
    go_wp2_with fail
    have hb0 : Since wx61 wx61.drew := (Since.refl _).drew
    refine hx_begin (S := fun W => Since wx61 W) (by kernel_rfl) hb0 (by kernel_rfl) (fun _ _ _ _ _ h => h) (fun hns hQ => ?_)
    refine hx_take (i := 0) (oi := _) (v := .pointer (some ⟨w.heap.size + 1, 1, none⟩)) rfl rfl hns (by kernel_rfl) (by kernel_rfl) hQ (by kernel_rfl) (fun _ _ => by kernel_rfl) hb0 ?_
    refine hx_take (i := 1) (oi := _) (v := .slice (some ⟨b, o, none⟩) n c) rfl rfl hns (by kernel_rfl) (by kernel_rfl) hQ (by kernel_rfl) (fun W hW => ld_one rfl (by kernel_rfl) (by kernel_rfl) W (cA.next hW 1 _ rfl)) hb0 ?_
    refine hx_take (i := 2) (oi := _) (v := .int .i64 (k : Int)) rfl rfl hns (by kernel_rfl) (by kernel_rfl) hQ (by kernel_rfl) (fun _ _ => by kernel_rfl) hb0 ?_
    refine hx_take (i := 3) (oi := _) (v := .pointer (some ⟨b, o + k, none⟩)) rfl rfl hns (by kernel_rfl) (by kernel_rfl) hQ (by kernel_rfl) (fun W _ => ix_sl1 (n := n) (c := c) rfl (by kernel_rfl) (by kernel_rfl) (by kernel_rfl) rfl hlt W) hb0 ?_
    refine hx_take (i := 4) (oi := _) (v := .string ⟨s.toArray⟩) rfl rfl hns (by kernel_rfl) (by kernel_rfl) hQ (by kernel_rfl) (fun W hW => ld_one rfl (by kernel_rfl) (by kernel_rfl) W (dA.next hW 0 _ rfl)) hb0 ?_
    refine hx_take (i := 5) (oi := _) (v := .pointer (some ⟨w.heap.size + 1, 0, none⟩)) rfl rfl hns (by kernel_rfl) (by kernel_rfl) hQ (by kernel_rfl) (fun _ _ => by kernel_rfl) hb0 ?_
    refine hx_take (i := 6) (oi := _) (v := .string ⟨who.toArray⟩) rfl rfl hns (by kernel_rfl) (by kernel_rfl) hQ (by kernel_rfl) (fun W hW => ld_one rfl (by kernel_rfl) (by kernel_rfl) W (cA.next hW 0 _ rfl)) hb0 ?_
    refine hx_take (i := 7) (oi := _) (v := .bool (s == who)) rfl rfl hns (by kernel_rfl) (by kernel_rfl) hQ (by kernel_rfl) (fun W _ => eql_txt rfl (by kernel_rfl) (by kernel_rfl) W) hb0 ?_
    refine wpAnyH_done (by kernel_rfl) ?_ _
    clear hns hQ
    simp only [List.set_cons_zero, List.set_cons_succ]
    have hb0E := Lib.hid hE
    clear hE
    cases hz : (s == who)
    case true =>
      have e2 : R = 11 := by rw [hb0E.out.out, hz]; rfl
      subst e2
      clear hb0E
      go_wp2_with fail
      go_ret
      exact ⟨rfl, hS0.trans (hSr.trans hb0)⟩
    replace hSr := hSr.trans hb0
    replace pA := pA.next hb0
    replace cA := cA.next hb0
    replace dA := dA.next hb0
    replace HTK := Lib.hid (tnext HTK.out hb0)
    have hE : Hid (R = if firstE [ifE (!true) 6, ifE false 11, ifE t 5] = 0 then readsF pr who (L.take (k + 1)) (L.drop (k + 1)) else firstE [ifE (!true) 6, ifE false 11, ifE t 5]) := by
      have := hb0E.out.out
      rw [hz] at this
      exact this
    clear hb0E hb0
    go_wp2_with fail
    have hc0 : Since wx61.drew wx61.drew.drew := (Since.refl _).drew
    refine hx_begin (S := fun W => Since wx61.drew W) (by kernel_rfl) hc0 (by kernel_rfl) (fun _ _ _ _ _ h => h) (fun hns hQ => ?_)
    refine hx_take (i := 0) (oi := _) (v := .pointer (some ⟨w.heap.size + 1, 1, none⟩)) rfl rfl hns (by kernel_rfl) (by kernel_rfl) hQ (by kernel_rfl) (fun _ _ => by kernel_rfl) hc0 ?_
    refine hx_take (i := 1) (oi := _) (v := .slice (some ⟨b, o, none⟩) n c) rfl rfl hns (by kernel_rfl) (by kernel_rfl) hQ (by kernel_rfl) (fun W hW => ld_one rfl (by kernel_rfl) (by kernel_rfl) W (cA.next hW 1 _ rfl)) hc0 ?_
    refine hx_take (i := 2) (oi := _) (v := .int .i64 (k : Int)) rfl rfl hns (by kernel_rfl) (by kernel_rfl) hQ (by kernel_rfl) (fun _ _ => by kernel_rfl) hc0 ?_
    refine hx_take (i := 3) (oi := _) (v := .slice (some ⟨b, o, none⟩) k c) rfl rfl hns (by kernel_rfl) (by kernel_rfl) hQ (by kernel_rfl) (fun W _ => slh_string (n := n) rfl (by kernel_rfl) (by kernel_rfl) (by omega) W) hc0 ?_
    refine hx_take (i := 4) (oi := _) (v := .agg #[.slice (some ⟨b, o, none⟩) k c, .slice none 0 0, .slice none 0 0, .int .i64 0, .int .i64 0, .slice none 0 0, .slice none 0 0]) rfl rfl hns (by kernel_rfl) (by kernel_rfl) hQ (by kernel_rfl) (fun _ _ => by kernel_rfl) hc0 ?_
    refine hx_take (i := 5) (oi := _) (v := .pointer (some ⟨w.heap.size + 1, 1, none⟩)) rfl rfl hns (by kernel_rfl) (by kernel_rfl) hQ (by kernel_rfl) (fun _ _ => by kernel_rfl) hc0 ?_
    refine hx_take (i := 6) (oi := _) (v := .slice (some ⟨b, o, none⟩) n c) rfl rfl hns (by kernel_rfl) (by kernel_rfl) hQ (by kernel_rfl) (fun W hW => ld_one rfl (by kernel_rfl) (by kernel_rfl) W (cA.next hW 1 _ rfl)) hc0 ?_
    refine hx_take (i := 7) (oi := _) (v := .int .i64 (k : Int)) rfl rfl hns (by kernel_rfl) (by kernel_rfl) hQ (by kernel_rfl) (fun _ _ => by kernel_rfl) hc0 ?_
    refine hx_take (i := 8) (oi := _) (v := .pointer (some ⟨b, o + k, none⟩)) rfl rfl hns (by kernel_rfl) (by kernel_rfl) hQ (by kernel_rfl) (fun W _ => ix_sl1 (n := n) (c := c) rfl (by kernel_rfl) (by kernel_rfl) (by kernel_rfl) rfl hlt W) hc0 ?_
    refine hx_take (i := 9) (oi := _) (v := .string ⟨s.toArray⟩) rfl rfl hns (by kernel_rfl) (by kernel_rfl) hQ (by kernel_rfl) (fun W hW => ld_one rfl (by kernel_rfl) (by kernel_rfl) W (dA.next hW 0 _ rfl)) hc0 ?_
    refine hx_call (i := 10) (oi := _) 31 #[.agg #[.slice (some ⟨b, o, none⟩) k c, .slice none 0 0, .slice none 0 0, .int .i64 0, .int .i64 0, .slice none 0 0, .slice none 0 0], .string ⟨s.toArray⟩] rfl rfl (by kernel_rfl) (by kernel_rfl) (by kernel_rfl) (HRP.out _ (tnext HTK.out hc0)) ?_
    rintro e wx71 ⟨rfl, hb⟩
    have hc1 : Since wx61.drew wx71 := hc0.trans hb
    clear hb
    refine ⟨_, rfl, hc1, ?_⟩
    refine wpAnyH_done (by kernel_rfl) ?_ _
    clear hns hQ
    simp only [List.set_cons_zero, List.set_cons_succ]
    have hSx := hSr.trans hc1
    clear pA cA dA HTK HRP
    cases t
    · have e : Hid (R = readsF pr who (L.take (k + 1)) (L.drop (k + 1))) := by show _ = _; rw [hE.out]; rfl
      go_wp2_with fail
      go_roundw
      case rel => exact ⟨k + 1, by omega, by go_num, e, hSx⟩
      case measure => simp [intOf]; omega
    · have e2 : R = 5 := hE.out
      subst e2
      clear hE
      go_wp2_with fail
      go_ret
      exact ⟨rfl, hS0.trans hSx⟩
  · have hlt2 : ¬ (k : Int) < (n : Int) := by omega
    have e : R = 0 := by rw [hF.out, List.drop_eq_nil_of_le (by have := hn.out; omega)]; rfl
    subst e
    clear hF
    go_wp2_with fail
    go_ret
    exact ⟨rfl, hS0.trans hSr⟩
set_option maxHeartbeats 8000000 in
set_option maxRecDepth 100000 in
theorem r12clears_any (ap ad ac ar ag : Option Addr) (np cp nd cd nc cc nr cr ng cg : Nat) (qu bu : Int) (pr : List Txt) (L : List (Txt × List Txt)) (w : World) (hP : TRow w (.slice ap np cp) pr) (lr : pr.length ≤ 1000000) (hL : CRow w (.slice ac nc cc) L) (lm : L.length ≤ 1000000) (lt : ∀ x ∈ L, x.2.length ≤ 1000000) :
    Calls Tryd.prog 57 #[.agg #[.slice ap np cp, .slice ad nd cd, .slice ac nc cc, .int .i64 qu, .int .i64 bu, .slice ar nr cr, .slice ag ng cg]] w fun e w' => e = .returned (.int .i64 (clrsF pr [] L)) ∧ Since w w' := by
  have hS0 : Since w (w.alloc (.cells #[.slice ap np cp, .slice ad nd cd, .slice ac nc cc, .int .i64 qu, .int .i64 bu, .slice ar nr cr, .slice ag ng cg] 28)) := (Since.refl _).alloc _
  have P_B := (pbox_new w ap ad ac ar ag np cp nd cd nc cc nr cr ng cg qu bu 28).at
  have HT := Lib.hid (cnext hL hS0)
  have HQ := Lib.hid (tnext hP hS0)
  have hn := Lib.hid hL.form
  have hnm : nc ≤ 1000000 := by have := hL.form; omega
  clear hL hP
  have c2 : (w.alloc (.cells #[.slice ap np cp, .slice ad nd cd, .slice ac nc cc, .int .i64 qu, .int .i64 bu, .slice ar nr cr, .slice ag ng cg] 28)).cell? ⟨w.heap.size, 2, none⟩ = some (.slice ac nc cc) := P_B 2 _ rfl
  obtain ⟨R, hR⟩ : ∃ R, Hid (R = clrsF pr [] L) := ⟨_, rfl⟩
  rw [← hR.out]
  have hR0 : Hid (R = clrsF pr ((L.take 0).map (·.1)) (L.drop 0)) := hR
  clear hR
  go_enter Tryd.func57, Tryd.ntmps57
  go_wp2_with fail
  generalize (w.alloc (.cells #[.slice ap np cp, .slice ad nd cd, .slice ac nc cc, .int .i64 qu, .int .i64 bu, .slice ar nr cr, .slice ag ng cg] 28)) = w1 at *
  go_loopw [3, 4] (fun m _ wr => ∃ k : Nat, k ≤ nc ∧ m = .int .i64 (k : Int) ∧ Hid (R = clrsF pr ((L.take k).map (·.1)) (L.drop k)) ∧ Since w1 wr) (fun m _ _ => nc - (intOf m).toNat)
  case atStart => exact ⟨0, by omega, rfl, hR0, Since.refl _⟩
  case round =>
  obtain ⟨k, hk, rfl, hF, hSr⟩ := hrel
  have e2 := hSr.cell c2
  by_cases hlt : k < nc
  · have hkl : k < L.length := by have := hn.out; omega
    have hlt2 : (k : Int) < (nc : Int) := by omega
    have hlt0 : (0 : Int) ≤ (k : Int) := by omega
    have hTr := cnext HT.out hSr
    obtain ⟨b, o, e1, hc, hat⟩ := hTr.get (by omega)
    have HQK := Lib.hid (tnext HQ.out hSr)
    have d1 := hat k hkl
    have hlT := lt _ (List.getElem_mem hkl)
    obtain ⟨⟨s, T⟩, hs⟩ : ∃ s, Hid (s = L[k]) := ⟨L[k], rfl⟩
    rw [← hs.out] at hlT
    unfold ClrAt at d1
    rw [← hs.out] at d1
    simp only [strV] at d1
    obtain ⟨d1, u, d2, d3⟩ := d1
    obtain ⟨ua, uc, e3⟩ := d3.slice
    subst e3
    subst e1
    obtain ⟨t, ht⟩ : ∃ t, Hid (t = ((L.take k).map (·.1)).contains s) := ⟨_, rfl⟩
    obtain ⟨B, hB⟩ : ∃ B, Hid (B = pr.contains s) := ⟨_, rfl⟩
    obtain ⟨E, hEE⟩ : ∃ B, Hid (B = readsE pr s T) := ⟨_, rfl⟩
    have HPR : Hid (∀ W, TRow W (.slice ap np cp) pr → Calls Tryd.prog 31 #[.agg #[.slice ap np cp, .slice ad nd cd, .slice (some ⟨b, o, none⟩) nc cc, .int .i64 qu, .int .i64 bu, .slice ar nr cr, .slice ag ng cg], .string ⟨s.toArray⟩] W fun e w' => e = .returned (.bool B) ∧ Since W w') := by
      intro W h; rw [hB.out]; exact r12prin_any ap ad (some ⟨b, o, none⟩) ar ag np cp nd cd nc cc nr cr ng cg qu bu pr s W h lr
    have HCL : Hid (∀ W, TRow W (.slice ap np cp) pr → TRow W (.slice ua T.length uc) T → Calls Tryd.prog 79 #[.agg #[.slice ap np cp, .slice ad nd cd, .slice (some ⟨b, o, none⟩) nc cc, .int .i64 qu, .int .i64 bu, .slice ar nr cr, .slice ag ng cg], .agg #[.string ⟨s.toArray⟩, .slice ua T.length uc]] W fun e w' => e = .returned (.int .i64 E) ∧ Since W w') := by
      intro W h h2; rw [hEE.out]; exact r12clear1_any ap ad (some ⟨b, o, none⟩) ar ag np cp nd cd nc cc nr cr ng cg qu bu pr s ua T.length uc T W h lr h2 hlT
    have hE : Hid (R = if firstE [ifE (!B) 6, ifE t 5, E] = 0 then clrsF pr ((L.take (k + 1)).map (·.1)) (L.drop (k + 1)) else firstE [ifE (!B) 6, ifE t 5, E]) := by
      show _ = _
      rw [hF.out, List.drop_eq_getElem_cons hkl, clrsF, clrErr, ← hs.out]
      simp only []
      rw [← hB.out, ← ht.out, ← hEE.out, show s = L[k].1 by rw [← hs.out], take_map L k hkl]
    clear hTr hF hB hEE hlT
    have pA := P_B.next hSr
    have dA : At wr b (o + k * 2) #[.string ⟨s.toArray⟩, .slice ua T.length uc] := at_two d1 d2
    have HD3 := Lib.hid d3
    have HAT := Lib.hid hat
    clear d1 d2 d3 hat
    go_wp2_with fail
    have ha0 : Since wr wr.drew := (Since.refl _).drew
    refine hx_begin (S := fun W => Since wr W) (by kernel_rfl) ha0 (by kernel_rfl) (fun _ _ _ _ _ h => h) (fun hns hQ => ?_)
    refine hx_take (i := 0) (oi := _) (v := .agg #[.slice ap np cp, .slice ad nd cd, .slice (some ⟨b, o, none⟩) nc cc, .int .i64 qu, .int .i64 bu, .slice ar nr cr, .slice ag ng cg]) rfl rfl hns (by kernel_rfl) (by kernel_rfl) hQ (by kernel_rfl) (fun W hW => ld_at rfl (by kernel_rfl) (by kernel_rfl) (by kernel_rfl) W (pA.next hW)) ha0 ?_
    refine hx_take (i := 1) (oi := _) (v := .pointer (some ⟨w.heap.size, 2, none⟩)) rfl rfl hns (by kernel_rfl) (by kernel_rfl) hQ (by kernel_rfl) (fun _ _ => by kernel_rfl) ha0 ?_
    refine hx_take (i := 2) (oi := _) (v := .slice (some ⟨b, o, none⟩) nc cc) rfl rfl hns (by kernel_rfl) (by kernel_rfl) hQ (by kernel_rfl) (fun W hW => ld_one rfl (by kernel_rfl) (by kernel_rfl) W (pA.next hW 2 _ rfl)) ha0 ?_
    refine hx_take (i := 3) (oi := _) (v := .int .i64 (k : Int)) rfl rfl hns (by kernel_rfl) (by kernel_rfl) hQ (by kernel_rfl) (fun _ _ => by kernel_rfl) ha0 ?_
    refine hx_take (i := 4) (oi := _) (v := .pointer (some ⟨b, o + k * 2, none⟩)) rfl rfl hns (by kernel_rfl) (by kernel_rfl) hQ (by kernel_rfl) (fun W _ => ix_sl (n := nc) (c := cc) (K := 2) rfl (by kernel_rfl) (by kernel_rfl) (by kernel_rfl) rfl hlt W) ha0 ?_
    refine hx_take (i := 5) (oi := _) (v := .pointer (some ⟨b, o + k * 2, none⟩)) rfl rfl hns (by kernel_rfl) (by kernel_rfl) hQ (by kernel_rfl) (fun _ _ => by kernel_rfl) ha0 ?_
    refine hx_take (i := 6) (oi := _) (v := .string ⟨s.toArray⟩) rfl rfl hns (by kernel_rfl) (by kernel_rfl) hQ (by kernel_rfl) (fun W hW => ld_one rfl (by kernel_rfl) (by kernel_rfl) W (dA.next hW 0 _ rfl)) ha0 ?_
    refine hx_call (i := 7) (oi := _) 31 #[.agg #[.slice ap np cp, .slice ad nd cd, .slice (some ⟨b, o, none⟩) nc cc, .int .i64 qu, .int .i64 bu, .slice ar nr cr, .slice ag ng cg], .string ⟨s.toArray⟩] rfl rfl (by kernel_rfl) (by kernel_rfl) (by kernel_rfl) (HPR.out _ (tnext HQK.out ha0)) ?_
    rintro e wx61 ⟨rfl, hb⟩
    have ha1 : Since wr wx61 := ha0.trans hb
    clear hb
    refine ⟨_, rfl, ha1, ?_⟩
    refine hx_take (i := 8) (oi := _) (v := .bool (!B)) rfl rfl hns (by kernel_rfl) (by kernel_rfl) hQ (by kernel_rfl) (fun _ _ => by kernel_rfl) ha1 ?_
    refine wpAnyH_done (by kernel_rfl) ?_ _
    clear hns hQ
    simp only [List.set_cons_zero, List.set_cons_succ]
    have hSa := hSr.trans ha1
    replace pA := pA.next ha1
    replace dA := dA.next ha1
    replace HQK := Lib.hid (tnext HQK.out ha1)
    replace HD3 := Lib.hid (tnext HD3.out ha1)
    have HAT2 : Hid (∀ (j : Nat) (h : j < L.length), ∃ x, Hid (x = L[j].1) ∧ At wx61 b (o + j * 2) #[.string ⟨x.toArray⟩]) := fun j h => ⟨L[j].1, rfl, (At.one (HAT.out j h).1).next ha1⟩
    clear HAT
    cases B
    · have e2 : R = 6 := hE.out
      subst e2
      clear hE
      go_wp2_with fail
      go_ret
      exact ⟨rfl, hS0.trans hSa⟩
    clear ha0 ha1 HPR e2
    have htt : Hid (t = (((L.take k).drop 0).map (·.1)).contains s) := ht
    clear ht
    go_wp2_with fail
    go_loopw [4] (fun q wq => ∃ j : Nat, j ≤ k ∧ q = .int .i64 (j : Int) ∧ Hid (t = (((L.take k).drop j).map (·.1)).contains s) ∧ Since wx61 wq) (fun q _ => k - (intOf q).toNat)
    case atStart => exact ⟨0, by omega, rfl, htt, Since.refl _⟩
    case round =>
    clear htt
    obtain ⟨j, hj, rfl, hG, hSq⟩ := hrel
    by_cases hjk : j < k
    · have hjk2 : (j : Int) < (k : Int) := by omega
      have hjl : j < L.length := by omega
      have hjc : j < nc := by omega
      obtain ⟨x, hx, xA0⟩ := HAT2.out j hjl
      have hG2 : Hid (t = (s == x || (((L.take k).drop (j + 1)).map (·.1)).contains s)) := by
        show _ = _
        have hjt : j < (L.take k).length := by rw [List.length_take]; omega
        rw [hG.out, List.drop_eq_getElem_cons hjt, List.map_cons, List.contains_cons, List.getElem_take, ← hx.out]
      have pB := pA.next hSq
      have dB := dA.next hSq
      have xA := xA0.next hSq
      clear hG hx xA0
      go_wp2_with fail
      have hb0 : Since wr wr.drew := (Since.refl _).drew
      refine hx_begin (S := fun W => Since wr W) (by kernel_rfl) hb0 (by kernel_rfl) (fun _ _ _ _ _ h => h) (fun hns hQ => ?_)
      refine hx_take (i := 0) (oi := _) (v := .pointer (some ⟨w.heap.size, 2, none⟩)) rfl rfl hns (by kernel_rfl) (by kernel_rfl) hQ (by kernel_rfl) (fun _ _ => by kernel_rfl) hb0 ?_
      refine hx_take (i := 1) (oi := _) (v := .slice (some ⟨b, o, none⟩) nc cc) rfl rfl hns (by kernel_rfl) (by kernel_rfl) hQ (by kernel_rfl) (fun W hW => ld_one rfl (by kernel_rfl) (by kernel_rfl) W (pB.next hW 2 _ rfl)) hb0 ?_
      refine hx_take (i := 2) (oi := _) (v := .int .i64 (j : Int)) rfl rfl hns (by kernel_rfl) (by kernel_rfl) hQ (by kernel_rfl) (fun _ _ => by kernel_rfl) hb0 ?_
      refine hx_take (i := 3) (oi := _) (v := .pointer (some ⟨b, o + j * 2, none⟩)) rfl rfl hns (by kernel_rfl) (by kernel_rfl) hQ (by kernel_rfl) (fun W _ => ix_sl (n := nc) (c := cc) (K := 2) rfl (by kernel_rfl) (by kernel_rfl) (by kernel_rfl) rfl hjc W) hb0 ?_
      refine hx_take (i := 4) (oi := _) (v := .pointer (some ⟨b, o + j * 2, none⟩)) rfl rfl hns (by kernel_rfl) (by kernel_rfl) hQ (by kernel_rfl) (fun _ _ => by kernel_rfl) hb0 ?_
      refine hx_take (i := 5) (oi := _) (v := .string ⟨x.toArray⟩) rfl rfl hns (by kernel_rfl) (by kernel_rfl) hQ (by kernel_rfl) (fun W hW => ld_one rfl (by kernel_rfl) (by kernel_rfl) W (xA.next hW 0 _ rfl)) hb0 ?_
      refine hx_take (i := 6) (oi := _) (v := .pointer (some ⟨w.heap.size, 2, none⟩)) rfl rfl hns (by kernel_rfl) (by kernel_rfl) hQ (by kernel_rfl) (fun _ _ => by kernel_rfl) hb0 ?_
      refine hx_take (i := 7) (oi := _) (v := .slice (some ⟨b, o, none⟩) nc cc) rfl rfl hns (by kernel_rfl) (by kernel_rfl) hQ (by kernel_rfl) (fun W hW => ld_one rfl (by kernel_rfl) (by kernel_rfl) W (pB.next hW 2 _ rfl)) hb0 ?_
      refine hx_take (i := 8) (oi := _) (v := .int .i64 (k : Int)) rfl rfl hns (by kernel_rfl) (by kernel_rfl) hQ (by kernel_rfl) (fun _ _ => by kernel_rfl) hb0 ?_
      refine hx_take (i := 9) (oi := _) (v := .pointer (some ⟨b, o + k * 2, none⟩)) rfl rfl hns (by kernel_rfl) (by kernel_rfl) hQ (by kernel_rfl) (fun W _ => ix_sl (n := nc) (c := cc) (K := 2) rfl (by kernel_rfl) (by kernel_rfl) (by kernel_rfl) rfl hlt W) hb0 ?_
      refine hx_take (i := 10) (oi := _) (v := .pointer (some ⟨b, o + k * 2, none⟩)) rfl rfl hns (by kernel_rfl) (by kernel_rfl) hQ (by kernel_rfl) (fun _ _ => by kernel_rfl) hb0 ?_
      refine hx_take (i := 11) (oi := _) (v := .string ⟨s.toArray⟩) rfl rfl hns (by kernel_rfl) (by kernel_rfl) hQ (by kernel_rfl) (fun W hW => ld_one rfl (by kernel_rfl) (by kernel_rfl) W (dB.next hW 0 _ rfl)) hb0 ?_
      refine hx_take (i := 12) (oi := _) (v := .bool (x == s)) rfl rfl hns (by kernel_rfl) (by kernel_rfl) hQ (by kernel_rfl) (fun W _ => eql_txt rfl (by kernel_rfl) (by kernel_rfl) W) hb0 ?_
      refine wpAnyH_done (by kernel_rfl) ?_ _
      clear hns hQ
      simp only [List.set_cons_zero, List.set_cons_succ]
      replace hSq := hSq.trans hb0
      clear pB dB xA hb0
      cases hz : (x == s)
      · have hz2 : (s == x) = false := by rw [Bool.beq_comm]; exact hz
        have e : Hid (t = (((L.take k).drop (j + 1)).map (·.1)).contains s) := by show _ = _; rw [hG2.out, hz2, Bool.false_or]
        clear hG2 hz2
        go_wp2_with fail
        go_roundw
        case rel => exact ⟨j + 1, by omega, by go_num, e, hSq⟩
        case measure => simp [intOf]; omega
      · have hz2 : (s == x) = true := by rw [Bool.beq_comm]; exact hz
        have e : t = true := by rw [hG2.out, hz2, Bool.true_or]
        subst e
        clear hG2 hz2
        have e2 : R = 5 := hE.out
        subst e2
        clear hE
        go_wp2_with fail
        go_ret
        exact ⟨rfl, hS0.trans (hSa.trans hSq)⟩
    have hjk2 : ¬ (j : Int) < (k : Int) := by omega
    have e : t = false := by rw [hG.out, List.drop_eq_nil_of_le (by rw [List.length_take]; omega)]; rfl
    subst e
    clear hG HAT2
    replace pA := pA.next hSq
    replace dA := dA.next hSq
    replace HQK := Lib.hid (tnext HQK.out hSq)
    replace HD3 := Lib.hid (tnext HD3.out hSq)
    replace hSa := hSa.trans hSq
    clear hSq
    go_wp2_with fail
    have hc0 : Since wr wr.drew := (Since.refl _).drew
    refine hx_begin (S := fun W => Since wr W) (by kernel_rfl) hc0 (by kernel_rfl) (fun _ _ _ _ _ h => h) (fun hns hQ => ?_)
    refine hx_take (i := 0) (oi := _) (v := .agg #[.slice ap np cp, .slice ad nd cd, .slice (some ⟨b, o, none⟩) nc cc, .int .i64 qu, .int .i64 bu, .slice ar nr cr, .slice ag ng cg]) rfl rfl hns (by kernel_rfl) (by kernel_rfl) hQ (by kernel_rfl) (fun W hW => ld_at rfl (by kernel_rfl) (by kernel_rfl) (by kernel_rfl) W (pA.next hW)) hc0 ?_
    refine hx_take (i := 1) (oi := _) (v := .pointer (some ⟨w.heap.size, 2, none⟩)) rfl rfl hns (by kernel_rfl) (by kernel_rfl) hQ (by kernel_rfl) (fun _ _ => by kernel_rfl) hc0 ?_
    refine hx_take (i := 2) (oi := _) (v := .slice (some ⟨b, o, none⟩) nc cc) rfl rfl hns (by kernel_rfl) (by kernel_rfl) hQ (by kernel_rfl) (fun W hW => ld_one rfl (by kernel_rfl) (by kernel_rfl) W (pA.next hW 2 _ rfl)) hc0 ?_
    refine hx_take (i := 3) (oi := _) (v := .int .i64 (k : Int)) rfl rfl hns (by kernel_rfl) (by kernel_rfl) hQ (by kernel_rfl) (fun _ _ => by kernel_rfl) hc0 ?_
    refine hx_take (i := 4) (oi := _) (v := .pointer (some ⟨b, o + k * 2, none⟩)) rfl rfl hns (by kernel_rfl) (by kernel_rfl) hQ (by kernel_rfl) (fun W _ => ix_sl (n := nc) (c := cc) (K := 2) rfl (by kernel_rfl) (by kernel_rfl) (by kernel_rfl) rfl hlt W) hc0 ?_
    refine hx_take (i := 5) (oi := _) (v := .agg #[.string ⟨s.toArray⟩, .slice ua T.length uc]) rfl rfl hns (by kernel_rfl) (by kernel_rfl) hQ (by kernel_rfl) (fun W hW => ld_at rfl (by kernel_rfl) (by kernel_rfl) (by kernel_rfl) W (dA.next hW)) hc0 ?_
    refine hx_call (i := 6) (oi := _) 79 #[.agg #[.slice ap np cp, .slice ad nd cd, .slice (some ⟨b, o, none⟩) nc cc, .int .i64 qu, .int .i64 bu, .slice ar nr cr, .slice ag ng cg], .agg #[.string ⟨s.toArray⟩, .slice ua T.length uc]] rfl rfl (by kernel_rfl) (by kernel_rfl) (by kernel_rfl) (HCL.out _ (tnext HQK.out hc0) (tnext HD3.out hc0)) ?_
    rintro e wx71 ⟨rfl, hb⟩
    have hc1 : Since wr wx71 := hc0.trans hb
    clear hb
    refine ⟨_, rfl, hc1, ?_⟩
    refine hx_take (i := 7) (oi := _) (v := .int .i64 E) rfl rfl hns (by kernel_rfl) (by kernel_rfl) hQ (by kernel_rfl) (fun _ _ => by kernel_rfl) hc1 ?_
    refine wpAnyH_done (by kernel_rfl) ?_ _
    clear hns hQ
    simp only [List.set_cons_zero, List.set_cons_succ]
    have hSx := hSa.trans hc1
    clear pA dA HQK HD3 HCL
    by_cases he : E = 0
    · subst he
      have e : Hid (R = clrsF pr ((L.take (k + 1)).map (·.1)) (L.drop (k + 1))) := by show _ = _; rw [hE.out]; rfl
      clear hE
      go_wp2_with fail
      go_roundw
      case rel => exact ⟨k + 1, by omega, by go_num, e, hSx⟩
      case measure => simp [intOf]; omega
    · have e2 : R = E := by
        rw [hE.out]
        simp [firstE, ifE, he]
      subst e2
      clear hE
      go_wp2_with fail
      go_ret
      exact ⟨rfl, hS0.trans hSx⟩
  · have hlt2 : ¬ (k : Int) < (nc : Int) := by omega
    have e : R = 0 := by rw [hF.out, List.drop_eq_nil_of_le (by have := hn.out; omega)]; rfl
    subst e
    clear hF
    go_wp2_with fail
    go_ret
    exact ⟨rfl, hS0.trans hSr⟩
end Go.Proofs.YtpkggopaigledaaDoor
