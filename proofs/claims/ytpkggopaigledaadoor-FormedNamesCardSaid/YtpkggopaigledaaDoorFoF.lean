/- formed: preds. -/
import Derived.Test.YtpkggopaigledaaDoorFoE
import Derived.Test.YtpkggopaigledaaDoorHeldF
namespace Go.Proofs.YtpkggopaigledaaDoor
open Go.RowKit Go.Maps Go.WideMaps

def predErr (met : List Txt) (x : Txt × Int) : Int := firstE [ifE (!principalB x.1) 3, ifE (met.contains x.1) 5, ifE (decide (x.2 < 0) || decide (4 < x.2)) 4]
def predsF : List Txt → List (Txt × Int) → Int
  | _, [] => 0
  | met, x :: r => if predErr met x = 0 then predsF (met ++ [x.1]) r else predErr met x
def predsE (L : List (Txt × Int)) : Int := if 32 < L.length then 4 else predsF [] L
set_option maxHeartbeats 8000000 in
set_option maxRecDepth 100000 in
theorem fpreds_any (ap ad ac ar ag : Option Addr) (np cp nd cd nc cc nr cr ng cg : Nat) (qu bu : Int) (L : List (Txt × Int)) (w : World) (hT : PRow w (.slice ad nd cd) L) (hl : ∀ x ∈ L, x.1.length ≤ maxLen) (lm : L.length ≤ 1000000) (hE : Env w) :
    Calls Tryd.prog 35 #[.agg #[.slice ap np cp, .slice ad nd cd, .slice ac nc cc, .int .i64 qu, .int .i64 bu, .slice ar nr cr, .slice ag ng cg]] w fun e w' => e = .returned (.int .i64 (predsE L)) ∧ Since w w' := by
  have hmm := @run_makeMap Tryd.prog
  have hS0 : Since w (w.alloc (.cells #[.slice ap np cp, .slice ad nd cd, .slice ac nc cc, .int .i64 qu, .int .i64 bu, .slice ar nr cr, .slice ag ng cg] 28)) := (Since.refl _).alloc _
  obtain ⟨p_c0, p_c1, p_c2, p_c3, p_c4, p_c5, p_c6⟩ := pbox_new w ap ad ac ar ag np cp nd cd nc cc nr cr ng cg qu bu 28
  have HT := Lib.hid (pnext hT hS0)
  have HE := Lib.hid (hE.next hS0)
  have hn := Lib.hid hT.form
  have hnm : nd ≤ 1000000 := by have := hT.form; omega
  clear hT hE
  by_cases h2 : 32 < nd
  · go_enter Tryd.func35, Tryd.ntmps35
    have h2' : (32 : Int) < (nd : Int) := by omega
    go_wp2_with fail
    go_ret
    refine ⟨ret_int ?_, hS0⟩
    rw [predsE, if_pos (by have := hn.out; omega)]
  have h2' : ¬ (32 : Int) < (nd : Int) := by omega
  go_enter Tryd.func35, Tryd.ntmps35
  go_wp2_with fail
  generalize hw1 : w.alloc (.cells #[.slice ap np cp, .slice ad nd cd, .slice ac nc cc, .int .i64 qu, .int .i64 bu, .slice ar nr cr, .slice ag ng cg] 28) = w1 at *
  have hz1 : w.heap.size + 1 = w1.heap.size := by rw [← hw1]; simp
  clear hw1 h2'
  rw [hz1]
  go_loopw [17] (fun m wr => ∃ k : Nat, k ≤ nd ∧ m = .int .i64 (k : Int) ∧ predsF [] L = predsF ((L.take k).map (·.1)) (L.drop k) ∧ SetAt wr w1.heap.size k ((L.take k).map (·.1)) ∧ Since w1 wr) (fun m _ => nd - (intOf m).toNat)
  case atStart => exact ⟨0, by omega, rfl, rfl, set_made w1, (Since.refl _).alloc _⟩
  case round =>
    obtain ⟨k, hk, rfl, hF, hown, hSr⟩ := hrel
    have HF := Lib.hid hF
    clear hF
    by_cases hlt : k < nd
    · have hkl : k < L.length := by have := hn.out; omega
      have hlt2 : (k : Int) < (nd : Int) := by omega
      have hlt0 : (0 : Int) ≤ (k : Int) := by omega
      obtain ⟨b, o, rfl, hc, hat⟩ := (pnext HT.out hSr).get (by omega)
      have d1 := hat k hkl
      obtain ⟨⟨s, n⟩, hs⟩ : ∃ s, Hid (s = L[k]) := ⟨L[k], rfl⟩
      have hsl : s.length ≤ maxLen := by have := hl _ (List.getElem_mem hkl); rw [← hs.out] at this; exact this
      unfold PrdAt at d1
      rw [← hs.out] at d1
      simp only [strV] at d1
      obtain ⟨d1, d2⟩ := d1
      clear hat
      obtain ⟨t, ht⟩ : ∃ t, Hid (t = ((L.take k).map (·.1)).contains s) := ⟨_, rfl⟩
      obtain ⟨B, hB⟩ : ∃ B, Hid (B = principalB s) := ⟨_, rfl⟩
      have HPR : Hid (∀ W, Since w1 W → Calls Tryd.prog 61 #[.string ⟨s.toArray⟩] W fun e w' => e = .returned (.bool B) ∧ Since W w') := by
        intro W h; rw [hB.out]; exact predicate_any s W hsl (HE.out.next h)
      have hown1 := hown.next ((Since.refl _).alloc (.cells #[.string ⟨s.toArray⟩, .int .i64 n] 47))
      have hA : Since wr ((wr.alloc (.cells #[.string ⟨s.toArray⟩, .int .i64 n] 47)).alloc (.cells #[] 84)) := ((Since.refl _).alloc _).alloc _
      have hown2 := Lib.hid (hown.next hA)
      go_wp2_with (first | (at_lookup; refine lookup_set _ rfl _ _ rfl w1.heap.size k ((L.take k).map (·.1)) rfl hown1 s hsl rfl t ht.out.symm ?_))
      have c0 : ((wr.alloc (.cells #[.string ⟨s.toArray⟩, .int .i64 n] 47)).alloc (.cells #[] 84)).cell? ⟨wr.heap.size, 0, none⟩ = some (.string ⟨s.toArray⟩) := ((Since.refl _).alloc _).cell (by rw [World.cell?_alloc_new]; rfl)
      have c1 : ((wr.alloc (.cells #[.string ⟨s.toArray⟩, .int .i64 n] 47)).alloc (.cells #[] 84)).cell? ⟨wr.heap.size, 1, none⟩ = some (.int .i64 n) := ((Since.refl _).alloc _).cell (by rw [World.cell?_alloc_new]; rfl)
      generalize ((wr.alloc (.cells #[.string ⟨s.toArray⟩, .int .i64 n] 47)).alloc (.cells #[] 84)) = w2 at *
      have hS2 := hSr.trans hA
      clear hown hown1 d1 d2 hA
      obtain ⟨q, hq⟩ : ∃ q, Hid (q = (decide (n < 0) || decide (4 < n))) := ⟨decide (n < 0) || decide (4 < n), rfl⟩
      obtain ⟨E, hE1⟩ : ∃ E, Hid (E = firstE [ifE (!B) 3, ifE t 5, ifE q 4]) := ⟨_, rfl⟩
      have hE2 : Hid (predsF [] L = if E = 0 then predsF ((L.take (k + 1)).map (·.1)) (L.drop (k + 1)) else E) := by
        show _ = _
        have e : ((L.take k).map (·.1)) ++ [s] = (L.take (k + 1)).map (·.1) := by rw [← take_more L k hkl, List.map_append, ← hs.out]; rfl
        rw [HF.out, List.drop_eq_getElem_cons hkl, predsF, ← hs.out, predErr, ← hB.out, ← ht.out, ← hq.out, ← hE1.out, e]
      have hcs : (q = true ∧ decide (n < 0) = true ∧ n < 0) ∨ (q = true ∧ decide (n < 0) = false ∧ ¬ n < 0 ∧ decide (4 < n) = true ∧ 4 < n) ∨ (q = false ∧ decide (n < 0) = false ∧ ¬ n < 0 ∧ decide (4 < n) = false ∧ ¬ 4 < n) := by
        have hq' := hq.out
        by_cases z1 : n < 0
        · have e1 : decide (n < 0) = true := decide_eq_true z1
          exact .inl ⟨by rw [hq', e1]; rfl, e1, z1⟩
        · have e1 : decide (n < 0) = false := decide_eq_false z1
          by_cases z2 : 4 < n
          · have e2 : decide (4 < n) = true := decide_eq_true z2
            exact .inr (.inl ⟨by rw [hq', e1, e2]; rfl, e1, z1, e2, z2⟩)
          · have e2 : decide (4 < n) = false := decide_eq_false z2
            exact .inr (.inr ⟨by rw [hq', e1, e2]; rfl, e1, z1, e2, z2⟩)
      clear HF hq
      rcases hcs with ⟨rfl, z1, z2⟩ | ⟨rfl, z1, z2, z3, z4⟩ | ⟨rfl, z1, z2, z3, z4⟩
      · skip
        have hs0 : Since w2 w2.drew := (Since.refl _).drew
        refine hx_begin (S := fun W => Since w2 W) (by kernel_rfl) hs0 (by kernel_rfl) (fun _ _ _ _ _ h => h) (fun hns hQ => ?_)
        refine hx_take (i := 0) (oi := _) (v := .pointer (some ⟨wr.heap.size, 0, none⟩)) rfl rfl hns (by kernel_rfl) (by kernel_rfl) hQ (by kernel_rfl) (fun W _ => fa_prd0 _ _ rfl _ _ (by kernel_rfl) W) hs0 ?_
        refine hx_take (i := 1) (oi := _) (v := .string ⟨s.toArray⟩) rfl rfl hns (by kernel_rfl) (by kernel_rfl) hQ (by kernel_rfl) (fun W hW => ld_str _ _ rfl _ wr.heap.size 0 (by kernel_rfl) _ W (hW.cell c0)) hs0 ?_
        refine hx_take (i := 5) (oi := _) (v := .bool t) rfl rfl hns (by kernel_rfl) (by kernel_rfl) hQ (by kernel_rfl) (fun _ _ => by kernel_rfl) hs0 ?_
        refine hx_take (i := 7) (oi := _) (v := .pointer (some ⟨wr.heap.size, 1, none⟩)) rfl rfl hns (by kernel_rfl) (by kernel_rfl) hQ (by kernel_rfl) (fun W _ => fa_prd1 _ _ rfl _ _ (by kernel_rfl) W) hs0 ?_
        refine hx_take (i := 8) (oi := _) (v := .int .i64 n) rfl rfl hns (by kernel_rfl) (by kernel_rfl) hQ (by kernel_rfl) (fun W hW => ld_int _ _ rfl _ wr.heap.size 1 (by kernel_rfl) _ W (hW.cell c1)) hs0 ?_
        refine hx_take (i := 9) (oi := _) (v := .bool true) rfl rfl hns (by kernel_rfl) (by kernel_rfl) hQ (by kernel_rfl) (fun W _ => lt_int _ _ _ rfl _ n 0 (by kernel_rfl) (by kernel_rfl) _ z1 W) hs0 ?_
        refine hx_call (i := 2) (oi := _) 61 #[.string ⟨s.toArray⟩] rfl rfl (by kernel_rfl) (by kernel_rfl) (by kernel_rfl) (HPR.out _ (hS2.trans hs0)) ?_
        rintro e w3 ⟨rfl, hb3⟩
        have hS3 : Since w2 w3 := hs0.trans hb3
        refine ⟨_, rfl, hS3, ?_⟩
        refine hx_take (i := 3) (oi := _) (v := .bool (!B)) rfl rfl hns (by kernel_rfl) (by kernel_rfl) hQ (by kernel_rfl) (fun _ _ => by kernel_rfl) hS3 ?_
        refine hx_call (i := 4) (oi := _) 45 #[.bool (!B), .int .i64 3] rfl rfl (by kernel_rfl) (by kernel_rfl) (by kernel_rfl) (not_rule _ 3 _) ?_
        rintro e w4 ⟨g1, rfl, r1, hb4⟩
        have hS4 : Since w2 w4 := hS3.trans hb4
        replace r1 := Lib.hid r1
        refine ⟨_, rfl, hS4, ?_⟩
        refine hx_call (i := 6) (oi := _) 45 #[.bool t, .int .i64 5] rfl rfl (by kernel_rfl) (by kernel_rfl) (by kernel_rfl) (not_rule _ 5 _) ?_
        rintro e w5 ⟨g2, rfl, r2, hb5⟩
        have hS5 : Since w2 w5 := hS4.trans hb5
        replace r1 := Lib.hid (r1.out.next hb5)
        replace r2 := Lib.hid r2
        refine ⟨_, rfl, hS5, ?_⟩
        refine hx_take (i := 10) (oi := _) (v := .bool true) rfl rfl hns (by kernel_rfl) (by kernel_rfl) hQ (by kernel_rfl) (fun _ _ => by kernel_rfl) hS5 ?_
        refine hx_off (i := 11) (oi := _) rfl rfl hns (by kernel_rfl) (by kernel_rfl) hQ (by kernel_rfl) hS5 ?_
        refine hx_off (i := 12) (oi := _) rfl rfl hns (by kernel_rfl) (by kernel_rfl) hQ (by kernel_rfl) hS5 ?_
        refine hx_off (i := 13) (oi := _) rfl rfl hns (by kernel_rfl) (by kernel_rfl) hQ (by kernel_rfl) hS5 ?_
        refine hx_take (i := 14) (oi := _) (v := .bool true) rfl rfl hns (by kernel_rfl) (by kernel_rfl) hQ (by kernel_rfl) (fun _ _ => by kernel_rfl) hS5 ?_
        refine hx_call (i := 15) (oi := _) 45 #[.bool true, .int .i64 4] rfl rfl (by kernel_rfl) (by kernel_rfl) (by kernel_rfl) (not_rule _ 4 _) ?_
        rintro e w6 ⟨g3, rfl, r3, hb6⟩
        have hS6 : Since w2 w6 := hS5.trans hb6
        replace r1 := Lib.hid (r1.out.next hb6)
        replace r2 := Lib.hid (r2.out.next hb6)
        replace r3 := Lib.hid r3
        refine ⟨_, rfl, hS6, ?_⟩
        have hs6 : Since w2 (w6.alloc (.cells #[.func (.func 73) #[] #[.pointer (some ⟨g1, 0, none⟩), .pointer (some ⟨g1 + 1, 0, none⟩)], .func (.func 73) #[] #[.pointer (some ⟨g2, 0, none⟩), .pointer (some ⟨g2 + 1, 0, none⟩)], .func (.func 73) #[] #[.pointer (some ⟨g3, 0, none⟩), .pointer (some ⟨g3 + 1, 0, none⟩)]] 73)) := hS6.alloc _
        refine hx_make (i := 16) (oi := _) (.slice (some ⟨w6.heap.size, 0, none⟩) 3 3) (w6.alloc (.cells #[.func (.func 73) #[] #[.pointer (some ⟨g1, 0, none⟩), .pointer (some ⟨g1 + 1, 0, none⟩)], .func (.func 73) #[] #[.pointer (some ⟨g2, 0, none⟩), .pointer (some ⟨g2 + 1, 0, none⟩)], .func (.func 73) #[] #[.pointer (some ⟨g3, 0, none⟩), .pointer (some ⟨g3 + 1, 0, none⟩)]] 73)) rfl rfl (by kernel_rfl) (by kernel_rfl) (mk_rules3 _ _ _ _ rfl _ _ _ _ _ _ _ (by kernel_rfl) (by kernel_rfl) (by kernel_rfl) _) hs6 ?_
        refine hx_call (i := 17) (oi := _) 42 #[.slice (some ⟨w6.heap.size, 0, none⟩) 3 3] rfl rfl (by kernel_rfl) (by kernel_rfl) (by kernel_rfl) (first3 _ _ _ _ _ _ _ r1.out r2.out r3.out) ?_
        rintro e w7 ⟨rfl, hb7⟩
        have hS7 : Since w2 w7 := hs6.trans hb7
        rw [← hE1.out]
        refine ⟨_, rfl, hS7, ?_⟩
        refine hx_take (i := 18) (oi := _) (v := .int .i64 E) rfl rfl hns (by kernel_rfl) (by kernel_rfl) hQ (by kernel_rfl) (fun _ _ => by kernel_rfl) hS7 ?_
        refine wpAnyH_done (by kernel_rfl) ?_ _
        clear hns hQ hs0 hs6
        simp only [List.set_cons_zero, List.set_cons_succ]
        have ho5 := hown2.out.next hS7
        have c5 := hS7.cell c0
        replace hS2 := hS2.trans hS7
        try rw [← hE1.out]
        clear hS3 hS4 hS5 hS6 hS7 hb3 hb4 hb5 hb6 hb7 r1 r2 r3 hown2 c0 c1 z1 z2
        by_cases he : E = 0
        · go_wp2_with (first | (at_mapUpdate; refine update_set _ rfl _ _ _ rfl w1.heap.size k ((L.take k).map (·.1)) rfl ho5 (by unfold maxLen; omega) s hsl rfl rfl ?_; intro w8 ho8 hg8))
          go_roundw
          case rel =>
            refine ⟨k + 1, by omega, by go_num, by rw [hE2.out, if_pos he], ?_, since_update hS2 hg8 (Nat.le_refl _)⟩
            have e : ((L.take k).map (·.1)) ++ [s] = (L.take (k + 1)).map (·.1) := by rw [← take_more L k hkl, List.map_append, ← hs.out]; rfl
            rw [e] at ho8
            exact ho8
          case measure => simp [intOf]; omega
        · go_wp2_with fail
          go_ret
          refine ⟨ret_int ?_, hS0.trans hS2⟩
          have h3 := hn.out
          rw [predsE, if_neg (by omega), hE2.out, if_neg he]
      · skip
        have hs0 : Since w2 w2.drew := (Since.refl _).drew
        refine hx_begin (S := fun W => Since w2 W) (by kernel_rfl) hs0 (by kernel_rfl) (fun _ _ _ _ _ h => h) (fun hns hQ => ?_)
        refine hx_take (i := 0) (oi := _) (v := .pointer (some ⟨wr.heap.size, 0, none⟩)) rfl rfl hns (by kernel_rfl) (by kernel_rfl) hQ (by kernel_rfl) (fun W _ => fa_prd0 _ _ rfl _ _ (by kernel_rfl) W) hs0 ?_
        refine hx_take (i := 1) (oi := _) (v := .string ⟨s.toArray⟩) rfl rfl hns (by kernel_rfl) (by kernel_rfl) hQ (by kernel_rfl) (fun W hW => ld_str _ _ rfl _ wr.heap.size 0 (by kernel_rfl) _ W (hW.cell c0)) hs0 ?_
        refine hx_take (i := 5) (oi := _) (v := .bool t) rfl rfl hns (by kernel_rfl) (by kernel_rfl) hQ (by kernel_rfl) (fun _ _ => by kernel_rfl) hs0 ?_
        refine hx_take (i := 7) (oi := _) (v := .pointer (some ⟨wr.heap.size, 1, none⟩)) rfl rfl hns (by kernel_rfl) (by kernel_rfl) hQ (by kernel_rfl) (fun W _ => fa_prd1 _ _ rfl _ _ (by kernel_rfl) W) hs0 ?_
        refine hx_take (i := 8) (oi := _) (v := .int .i64 n) rfl rfl hns (by kernel_rfl) (by kernel_rfl) hQ (by kernel_rfl) (fun W hW => ld_int _ _ rfl _ wr.heap.size 1 (by kernel_rfl) _ W (hW.cell c1)) hs0 ?_
        refine hx_take (i := 9) (oi := _) (v := .bool false) rfl rfl hns (by kernel_rfl) (by kernel_rfl) hQ (by kernel_rfl) (fun W _ => lt_int _ _ _ rfl _ n 0 (by kernel_rfl) (by kernel_rfl) _ z1 W) hs0 ?_
        refine hx_call (i := 2) (oi := _) 61 #[.string ⟨s.toArray⟩] rfl rfl (by kernel_rfl) (by kernel_rfl) (by kernel_rfl) (HPR.out _ (hS2.trans hs0)) ?_
        rintro e w3 ⟨rfl, hb3⟩
        have hS3 : Since w2 w3 := hs0.trans hb3
        refine ⟨_, rfl, hS3, ?_⟩
        refine hx_take (i := 3) (oi := _) (v := .bool (!B)) rfl rfl hns (by kernel_rfl) (by kernel_rfl) hQ (by kernel_rfl) (fun _ _ => by kernel_rfl) hS3 ?_
        refine hx_call (i := 4) (oi := _) 45 #[.bool (!B), .int .i64 3] rfl rfl (by kernel_rfl) (by kernel_rfl) (by kernel_rfl) (not_rule _ 3 _) ?_
        rintro e w4 ⟨g1, rfl, r1, hb4⟩
        have hS4 : Since w2 w4 := hS3.trans hb4
        replace r1 := Lib.hid r1
        refine ⟨_, rfl, hS4, ?_⟩
        refine hx_call (i := 6) (oi := _) 45 #[.bool t, .int .i64 5] rfl rfl (by kernel_rfl) (by kernel_rfl) (by kernel_rfl) (not_rule _ 5 _) ?_
        rintro e w5 ⟨g2, rfl, r2, hb5⟩
        have hS5 : Since w2 w5 := hS4.trans hb5
        replace r1 := Lib.hid (r1.out.next hb5)
        replace r2 := Lib.hid r2
        refine ⟨_, rfl, hS5, ?_⟩
        refine hx_take (i := 10) (oi := _) (v := .bool false) rfl rfl hns (by kernel_rfl) (by kernel_rfl) hQ (by kernel_rfl) (fun _ _ => by kernel_rfl) hS5 ?_
        refine hx_take (i := 11) (oi := _) (v := .pointer (some ⟨wr.heap.size, 1, none⟩)) rfl rfl hns (by kernel_rfl) (by kernel_rfl) hQ (by kernel_rfl) (fun W _ => fa_prd1 _ _ rfl _ _ (by kernel_rfl) W) hS5 ?_
        refine hx_take (i := 12) (oi := _) (v := .int .i64 n) rfl rfl hns (by kernel_rfl) (by kernel_rfl) hQ (by kernel_rfl) (fun W hW => ld_int _ _ rfl _ wr.heap.size 1 (by kernel_rfl) _ W (hW.cell c1)) hS5 ?_
        refine hx_take (i := 13) (oi := _) (v := .bool true) rfl rfl hns (by kernel_rfl) (by kernel_rfl) hQ (by kernel_rfl) (fun W _ => gt_int _ _ _ rfl _ n 4 (by kernel_rfl) (by kernel_rfl) _ z3 W) hS5 ?_
        refine hx_take (i := 14) (oi := _) (v := .bool true) rfl rfl hns (by kernel_rfl) (by kernel_rfl) hQ (by kernel_rfl) (fun _ _ => by kernel_rfl) hS5 ?_
        refine hx_call (i := 15) (oi := _) 45 #[.bool true, .int .i64 4] rfl rfl (by kernel_rfl) (by kernel_rfl) (by kernel_rfl) (not_rule _ 4 _) ?_
        rintro e w6 ⟨g3, rfl, r3, hb6⟩
        have hS6 : Since w2 w6 := hS5.trans hb6
        replace r1 := Lib.hid (r1.out.next hb6)
        replace r2 := Lib.hid (r2.out.next hb6)
        replace r3 := Lib.hid r3
        refine ⟨_, rfl, hS6, ?_⟩
        have hs6 : Since w2 (w6.alloc (.cells #[.func (.func 73) #[] #[.pointer (some ⟨g1, 0, none⟩), .pointer (some ⟨g1 + 1, 0, none⟩)], .func (.func 73) #[] #[.pointer (some ⟨g2, 0, none⟩), .pointer (some ⟨g2 + 1, 0, none⟩)], .func (.func 73) #[] #[.pointer (some ⟨g3, 0, none⟩), .pointer (some ⟨g3 + 1, 0, none⟩)]] 73)) := hS6.alloc _
        refine hx_make (i := 16) (oi := _) (.slice (some ⟨w6.heap.size, 0, none⟩) 3 3) (w6.alloc (.cells #[.func (.func 73) #[] #[.pointer (some ⟨g1, 0, none⟩), .pointer (some ⟨g1 + 1, 0, none⟩)], .func (.func 73) #[] #[.pointer (some ⟨g2, 0, none⟩), .pointer (some ⟨g2 + 1, 0, none⟩)], .func (.func 73) #[] #[.pointer (some ⟨g3, 0, none⟩), .pointer (some ⟨g3 + 1, 0, none⟩)]] 73)) rfl rfl (by kernel_rfl) (by kernel_rfl) (mk_rules3 _ _ _ _ rfl _ _ _ _ _ _ _ (by kernel_rfl) (by kernel_rfl) (by kernel_rfl) _) hs6 ?_
        refine hx_call (i := 17) (oi := _) 42 #[.slice (some ⟨w6.heap.size, 0, none⟩) 3 3] rfl rfl (by kernel_rfl) (by kernel_rfl) (by kernel_rfl) (first3 _ _ _ _ _ _ _ r1.out r2.out r3.out) ?_
        rintro e w7 ⟨rfl, hb7⟩
        have hS7 : Since w2 w7 := hs6.trans hb7
        rw [← hE1.out]
        refine ⟨_, rfl, hS7, ?_⟩
        refine hx_take (i := 18) (oi := _) (v := .int .i64 E) rfl rfl hns (by kernel_rfl) (by kernel_rfl) hQ (by kernel_rfl) (fun _ _ => by kernel_rfl) hS7 ?_
        refine wpAnyH_done (by kernel_rfl) ?_ _
        clear hns hQ hs0 hs6
        simp only [List.set_cons_zero, List.set_cons_succ]
        have ho5 := hown2.out.next hS7
        have c5 := hS7.cell c0
        replace hS2 := hS2.trans hS7
        try rw [← hE1.out]
        clear hS3 hS4 hS5 hS6 hS7 hb3 hb4 hb5 hb6 hb7 r1 r2 r3 hown2 c0 c1 z1 z2
        by_cases he : E = 0
        · go_wp2_with (first | (at_mapUpdate; refine update_set _ rfl _ _ _ rfl w1.heap.size k ((L.take k).map (·.1)) rfl ho5 (by unfold maxLen; omega) s hsl rfl rfl ?_; intro w8 ho8 hg8))
          go_roundw
          case rel =>
            refine ⟨k + 1, by omega, by go_num, by rw [hE2.out, if_pos he], ?_, since_update hS2 hg8 (Nat.le_refl _)⟩
            have e : ((L.take k).map (·.1)) ++ [s] = (L.take (k + 1)).map (·.1) := by rw [← take_more L k hkl, List.map_append, ← hs.out]; rfl
            rw [e] at ho8
            exact ho8
          case measure => simp [intOf]; omega
        · go_wp2_with fail
          go_ret
          refine ⟨ret_int ?_, hS0.trans hS2⟩
          have h3 := hn.out
          rw [predsE, if_neg (by omega), hE2.out, if_neg he]
      · skip
        have hs0 : Since w2 w2.drew := (Since.refl _).drew
        refine hx_begin (S := fun W => Since w2 W) (by kernel_rfl) hs0 (by kernel_rfl) (fun _ _ _ _ _ h => h) (fun hns hQ => ?_)
        refine hx_take (i := 0) (oi := _) (v := .pointer (some ⟨wr.heap.size, 0, none⟩)) rfl rfl hns (by kernel_rfl) (by kernel_rfl) hQ (by kernel_rfl) (fun W _ => fa_prd0 _ _ rfl _ _ (by kernel_rfl) W) hs0 ?_
        refine hx_take (i := 1) (oi := _) (v := .string ⟨s.toArray⟩) rfl rfl hns (by kernel_rfl) (by kernel_rfl) hQ (by kernel_rfl) (fun W hW => ld_str _ _ rfl _ wr.heap.size 0 (by kernel_rfl) _ W (hW.cell c0)) hs0 ?_
        refine hx_take (i := 5) (oi := _) (v := .bool t) rfl rfl hns (by kernel_rfl) (by kernel_rfl) hQ (by kernel_rfl) (fun _ _ => by kernel_rfl) hs0 ?_
        refine hx_take (i := 7) (oi := _) (v := .pointer (some ⟨wr.heap.size, 1, none⟩)) rfl rfl hns (by kernel_rfl) (by kernel_rfl) hQ (by kernel_rfl) (fun W _ => fa_prd1 _ _ rfl _ _ (by kernel_rfl) W) hs0 ?_
        refine hx_take (i := 8) (oi := _) (v := .int .i64 n) rfl rfl hns (by kernel_rfl) (by kernel_rfl) hQ (by kernel_rfl) (fun W hW => ld_int _ _ rfl _ wr.heap.size 1 (by kernel_rfl) _ W (hW.cell c1)) hs0 ?_
        refine hx_take (i := 9) (oi := _) (v := .bool false) rfl rfl hns (by kernel_rfl) (by kernel_rfl) hQ (by kernel_rfl) (fun W _ => lt_int _ _ _ rfl _ n 0 (by kernel_rfl) (by kernel_rfl) _ z1 W) hs0 ?_
        refine hx_call (i := 2) (oi := _) 61 #[.string ⟨s.toArray⟩] rfl rfl (by kernel_rfl) (by kernel_rfl) (by kernel_rfl) (HPR.out _ (hS2.trans hs0)) ?_
        rintro e w3 ⟨rfl, hb3⟩
        have hS3 : Since w2 w3 := hs0.trans hb3
        refine ⟨_, rfl, hS3, ?_⟩
        refine hx_take (i := 3) (oi := _) (v := .bool (!B)) rfl rfl hns (by kernel_rfl) (by kernel_rfl) hQ (by kernel_rfl) (fun _ _ => by kernel_rfl) hS3 ?_
        refine hx_call (i := 4) (oi := _) 45 #[.bool (!B), .int .i64 3] rfl rfl (by kernel_rfl) (by kernel_rfl) (by kernel_rfl) (not_rule _ 3 _) ?_
        rintro e w4 ⟨g1, rfl, r1, hb4⟩
        have hS4 : Since w2 w4 := hS3.trans hb4
        replace r1 := Lib.hid r1
        refine ⟨_, rfl, hS4, ?_⟩
        refine hx_call (i := 6) (oi := _) 45 #[.bool t, .int .i64 5] rfl rfl (by kernel_rfl) (by kernel_rfl) (by kernel_rfl) (not_rule _ 5 _) ?_
        rintro e w5 ⟨g2, rfl, r2, hb5⟩
        have hS5 : Since w2 w5 := hS4.trans hb5
        replace r1 := Lib.hid (r1.out.next hb5)
        replace r2 := Lib.hid r2
        refine ⟨_, rfl, hS5, ?_⟩
        refine hx_take (i := 10) (oi := _) (v := .bool false) rfl rfl hns (by kernel_rfl) (by kernel_rfl) hQ (by kernel_rfl) (fun _ _ => by kernel_rfl) hS5 ?_
        refine hx_take (i := 11) (oi := _) (v := .pointer (some ⟨wr.heap.size, 1, none⟩)) rfl rfl hns (by kernel_rfl) (by kernel_rfl) hQ (by kernel_rfl) (fun W _ => fa_prd1 _ _ rfl _ _ (by kernel_rfl) W) hS5 ?_
        refine hx_take (i := 12) (oi := _) (v := .int .i64 n) rfl rfl hns (by kernel_rfl) (by kernel_rfl) hQ (by kernel_rfl) (fun W hW => ld_int _ _ rfl _ wr.heap.size 1 (by kernel_rfl) _ W (hW.cell c1)) hS5 ?_
        refine hx_take (i := 13) (oi := _) (v := .bool false) rfl rfl hns (by kernel_rfl) (by kernel_rfl) hQ (by kernel_rfl) (fun W _ => gt_int _ _ _ rfl _ n 4 (by kernel_rfl) (by kernel_rfl) _ z3 W) hS5 ?_
        refine hx_take (i := 14) (oi := _) (v := .bool false) rfl rfl hns (by kernel_rfl) (by kernel_rfl) hQ (by kernel_rfl) (fun _ _ => by kernel_rfl) hS5 ?_
        refine hx_call (i := 15) (oi := _) 45 #[.bool false, .int .i64 4] rfl rfl (by kernel_rfl) (by kernel_rfl) (by kernel_rfl) (not_rule _ 4 _) ?_
        rintro e w6 ⟨g3, rfl, r3, hb6⟩
        have hS6 : Since w2 w6 := hS5.trans hb6
        replace r1 := Lib.hid (r1.out.next hb6)
        replace r2 := Lib.hid (r2.out.next hb6)
        replace r3 := Lib.hid r3
        refine ⟨_, rfl, hS6, ?_⟩
        have hs6 : Since w2 (w6.alloc (.cells #[.func (.func 73) #[] #[.pointer (some ⟨g1, 0, none⟩), .pointer (some ⟨g1 + 1, 0, none⟩)], .func (.func 73) #[] #[.pointer (some ⟨g2, 0, none⟩), .pointer (some ⟨g2 + 1, 0, none⟩)], .func (.func 73) #[] #[.pointer (some ⟨g3, 0, none⟩), .pointer (some ⟨g3 + 1, 0, none⟩)]] 73)) := hS6.alloc _
        refine hx_make (i := 16) (oi := _) (.slice (some ⟨w6.heap.size, 0, none⟩) 3 3) (w6.alloc (.cells #[.func (.func 73) #[] #[.pointer (some ⟨g1, 0, none⟩), .pointer (some ⟨g1 + 1, 0, none⟩)], .func (.func 73) #[] #[.pointer (some ⟨g2, 0, none⟩), .pointer (some ⟨g2 + 1, 0, none⟩)], .func (.func 73) #[] #[.pointer (some ⟨g3, 0, none⟩), .pointer (some ⟨g3 + 1, 0, none⟩)]] 73)) rfl rfl (by kernel_rfl) (by kernel_rfl) (mk_rules3 _ _ _ _ rfl _ _ _ _ _ _ _ (by kernel_rfl) (by kernel_rfl) (by kernel_rfl) _) hs6 ?_
        refine hx_call (i := 17) (oi := _) 42 #[.slice (some ⟨w6.heap.size, 0, none⟩) 3 3] rfl rfl (by kernel_rfl) (by kernel_rfl) (by kernel_rfl) (first3 _ _ _ _ _ _ _ r1.out r2.out r3.out) ?_
        rintro e w7 ⟨rfl, hb7⟩
        have hS7 : Since w2 w7 := hs6.trans hb7
        rw [← hE1.out]
        refine ⟨_, rfl, hS7, ?_⟩
        refine hx_take (i := 18) (oi := _) (v := .int .i64 E) rfl rfl hns (by kernel_rfl) (by kernel_rfl) hQ (by kernel_rfl) (fun _ _ => by kernel_rfl) hS7 ?_
        refine wpAnyH_done (by kernel_rfl) ?_ _
        clear hns hQ hs0 hs6
        simp only [List.set_cons_zero, List.set_cons_succ]
        have ho5 := hown2.out.next hS7
        have c5 := hS7.cell c0
        replace hS2 := hS2.trans hS7
        try rw [← hE1.out]
        clear hS3 hS4 hS5 hS6 hS7 hb3 hb4 hb5 hb6 hb7 r1 r2 r3 hown2 c0 c1 z1 z2
        by_cases he : E = 0
        · go_wp2_with (first | (at_mapUpdate; refine update_set _ rfl _ _ _ rfl w1.heap.size k ((L.take k).map (·.1)) rfl ho5 (by unfold maxLen; omega) s hsl rfl rfl ?_; intro w8 ho8 hg8))
          go_roundw
          case rel =>
            refine ⟨k + 1, by omega, by go_num, by rw [hE2.out, if_pos he], ?_, since_update hS2 hg8 (Nat.le_refl _)⟩
            have e : ((L.take k).map (·.1)) ++ [s] = (L.take (k + 1)).map (·.1) := by rw [← take_more L k hkl, List.map_append, ← hs.out]; rfl
            rw [e] at ho8
            exact ho8
          case measure => simp [intOf]; omega
        · go_wp2_with fail
          go_ret
          refine ⟨ret_int ?_, hS0.trans hS2⟩
          have h3 := hn.out
          rw [predsE, if_neg (by omega), hE2.out, if_neg he]
    · have hlt2 : ¬ (k : Int) < (nd : Int) := by omega
      go_wp2_with fail
      go_ret
      refine ⟨ret_int ?_, hS0.trans hSr⟩
      have h3 := hn.out
      rw [predsE, if_neg (by omega), HF.out, List.drop_eq_nil_of_le (by omega)]
      rfl
end Go.Proofs.YtpkggopaigledaaDoor
