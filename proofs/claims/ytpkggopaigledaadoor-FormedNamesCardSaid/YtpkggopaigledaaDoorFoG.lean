/- formed: reads, clears. -/
import Derived.Test.YtpkggopaigledaaDoorFoF
import Derived.Test.YtpkggopaigledaaDoorHeldG
namespace Go.Proofs.YtpkggopaigledaaDoor
open Go.RowKit Go.Maps Go.WideMaps

theorem trow_take {W : World} {b o n c : Nat} {L : List Txt} (h : TRow W (.slice (some ⟨b, o, none⟩) n c) L) (k : Nat) (hk : k ≤ L.length) : TRow W (.slice (some ⟨b, o, none⟩) k c) (L.take k) := by
  obtain ⟨a', c', h1, h2, h3⟩ := h
  cases h1
  refine ⟨_, _, by rw [List.length_take, Nat.min_eq_left hk], by rw [List.length_take]; omega, fun h0 => ?_⟩
  rw [List.length_take] at h0
  obtain ⟨b', o', h4, h5⟩ := h3 (by omega)
  cases h4
  refine ⟨_, _, rfl, fun j hj => ?_⟩
  rw [List.length_take] at hj
  rw [List.getElem_take]
  exact h5 j (by omega)
def readErr (pr : List Txt) (who : Txt) (met : List Txt) (x : Txt) : Int := firstE [ifE (!(pr.contains x)) 6, ifE (x == who) 11, ifE (met.contains x) 5]
def readsF (pr : List Txt) (who : Txt) : List Txt → List Txt → Int
  | _, [] => 0
  | met, x :: r => if readErr pr who met x = 0 then readsF pr who (met ++ [x]) r else readErr pr who met x
def readsE (pr : List Txt) (who : Txt) (L : List Txt) : Int := if L.length < 1 ∨ 16 < L.length then 4 else readsF pr who [] L
set_option maxHeartbeats 8000000 in
set_option maxRecDepth 100000 in
theorem freads_any (ap ad ac ar ag : Option Addr) (np cp nd cd nc cc nr cr ng cg : Nat) (qu bu : Int) (pr : List Txt) (who : Txt) (a : Option Addr) (n c : Nat) (L : List Txt) (w : World) (hP : TRow w (.slice ap np cp) pr) (lr : pr.length ≤ 1000000) (hT : TRow w (.slice a n c) L) (lm : L.length ≤ 1000000) :
    Calls Tryd.prog 63 #[.agg #[.slice ap np cp, .slice ad nd cd, .slice ac nc cc, .int .i64 qu, .int .i64 bu, .slice ar nr cr, .slice ag ng cg], .agg #[.string ⟨who.toArray⟩, .slice a n c]] w fun e w' => e = .returned (.int .i64 (readsE pr who L)) ∧ Since w w' := by
  have hS0 : Since w ((w.alloc (.cells #[.slice ap np cp, .slice ad nd cd, .slice ac nc cc, .int .i64 qu, .int .i64 bu, .slice ar nr cr, .slice ag ng cg] 28)).alloc (.cells #[.string ⟨who.toArray⟩, .slice a n c] 49)) := ((Since.refl _).alloc _).alloc _
  have p_B := (pbox_new w ap ad ac ar ag np cp nd cd nc cc nr cr ng cg qu bu 28).next ((Since.refl _).alloc (.cells #[.string ⟨who.toArray⟩, .slice a n c] 49))
  have c0 : ((w.alloc (.cells #[.slice ap np cp, .slice ad nd cd, .slice ac nc cc, .int .i64 qu, .int .i64 bu, .slice ar nr cr, .slice ag ng cg] 28)).alloc (.cells #[.string ⟨who.toArray⟩, .slice a n c] 49)).cell? ⟨w.heap.size + 1, 0, none⟩ = some (.string ⟨who.toArray⟩) := by simp
  have c1 : ((w.alloc (.cells #[.slice ap np cp, .slice ad nd cd, .slice ac nc cc, .int .i64 qu, .int .i64 bu, .slice ar nr cr, .slice ag ng cg] 28)).alloc (.cells #[.string ⟨who.toArray⟩, .slice a n c] 49)).cell? ⟨w.heap.size + 1, 1, none⟩ = some (.slice a n c) := by simp
  have HT := Lib.hid (tnext hT hS0)
  have HPT := Lib.hid (tnext hP hS0)
  have hn := Lib.hid hT.form
  have hnm : n ≤ 1000000 := by have := hT.form; omega
  clear hT hP
  by_cases h1 : n < 1
  · go_enter Tryd.func63, Tryd.ntmps63
    have h1' : (n : Int) < 1 := by omega
    go_wp2_with fail
    go_ret
    refine ⟨ret_int ?_, hS0⟩
    rw [readsE, if_pos (by have := hn.out; omega)]
  by_cases h2 : 16 < n
  · go_enter Tryd.func63, Tryd.ntmps63
    have h1' : ¬ (n : Int) < 1 := by omega
    have h2' : (16 : Int) < (n : Int) := by omega
    go_wp2_with fail
    go_ret
    refine ⟨ret_int ?_, hS0⟩
    rw [readsE, if_pos (by have := hn.out; omega)]
  have h1' : ¬ (n : Int) < 1 := by omega
  have h2' : ¬ (16 : Int) < (n : Int) := by omega
  go_enter Tryd.func63, Tryd.ntmps63
  go_wp2_with fail
  generalize ((w.alloc (.cells #[.slice ap np cp, .slice ad nd cd, .slice ac nc cc, .int .i64 qu, .int .i64 bu, .slice ar nr cr, .slice ag ng cg] 28)).alloc (.cells #[.string ⟨who.toArray⟩, .slice a n c] 49)) = w1 at *
  clear h1' h2'
  go_loopw [21] (fun m wr => ∃ k : Nat, k ≤ n ∧ m = .int .i64 (k : Int) ∧ readsF pr who [] L = readsF pr who (L.take k) (L.drop k) ∧ Since w1 wr) (fun m _ => n - (intOf m).toNat)
  case atStart => exact ⟨0, by omega, rfl, rfl, Since.refl _⟩
  case round =>
    obtain ⟨k, hk, rfl, hF, hSr⟩ := hrel
    have HF := Lib.hid hF
    clear hF
    by_cases hlt : k < n
    · have hkl : k < L.length := by have := hn.out; omega
      have hlt2 : (k : Int) < (n : Int) := by omega
      have hlt0 : (0 : Int) ≤ (k : Int) := by omega
      have hTR := tnext HT.out hSr
      obtain ⟨b, o, rfl, hc, hat⟩ := hTR.get (by omega)
      have HTK := Lib.hid (trow_take HT.out k (by omega))
      have d1 := hat k hkl
      obtain ⟨s, hs⟩ : ∃ s, Hid (s = L[k]) := ⟨L[k], rfl⟩
      unfold TxtAt at d1
      rw [Nat.mul_one, ← hs.out] at d1
      simp only [strV] at d1
      clear hat hTR
      obtain ⟨t, ht⟩ : ∃ t, Hid (t = (L.take k).contains s) := ⟨_, rfl⟩
      obtain ⟨A, hA⟩ : ∃ A, Hid (A = pr.contains s) := ⟨_, rfl⟩
      have HPR : Hid (∀ W, Since w1 W → Calls Tryd.prog 18 #[.agg #[.slice ap np cp, .slice ad nd cd, .slice ac nc cc, .int .i64 qu, .int .i64 bu, .slice ar nr cr, .slice ag ng cg], .string ⟨s.toArray⟩] W fun e w' => e = .returned (.bool A) ∧ Since W w') := by
        intro W h; rw [hA.out]; exact fprin_any ap ad ac ar ag np cp nd cd nc cc nr cr ng cg qu bu pr s W (tnext HPT.out h) lr
      have HCO : Hid (∀ W, Since w1 W → Calls Tryd.prog 47 #[.slice (some ⟨b, o, none⟩) k c, .string ⟨s.toArray⟩] W fun e w' => e = .returned (.bool t) ∧ Since W w') := by
        intro W h; rw [ht.out]; exact (tcontains_any _ (L.take k) s W (tnext HTK.out h) (by rw [List.length_take]; omega)).mono fun e w' ⟨h1, h2⟩ => ⟨h1, by rw [h2]; exact Since.refl _⟩
      obtain ⟨E, hE1⟩ : ∃ E, Hid (E = firstE [ifE (!A) 6, ifE (s == who) 11, ifE t 5]) := ⟨_, rfl⟩
      have hE2 : Hid (readsF pr who [] L = if E = 0 then readsF pr who (L.take (k + 1)) (L.drop (k + 1)) else E) := by
        show _ = _
        rw [HF.out, List.drop_eq_getElem_cons hkl, readsF, ← hs.out, readErr, ← hA.out, ← ht.out, ← hE1.out, hs.out, take_more L k hkl]
      clear HF
      go_wp2_with fail
      have hs0 : Since wr wr.drew := (Since.refl _).drew
      refine hx_begin (S := fun W => Since wr W) (by kernel_rfl) hs0 (by kernel_rfl) (fun _ _ _ _ _ h => h) (fun hns hQ => ?_)
      refine hx_take (i := 0) (oi := _) (v := .agg #[.slice ap np cp, .slice ad nd cd, .slice ac nc cc, .int .i64 qu, .int .i64 bu, .slice ar nr cr, .slice ag ng cg]) rfl rfl hns (by kernel_rfl) (by kernel_rfl) hQ (by kernel_rfl) (fun W hW => ld_pol _ _ rfl _ _ (by kernel_rfl) ap ad ac ar ag np cp nd cd nc cc nr cr ng cg qu bu W (p_B.next (hSr.trans hW))) hs0 ?_
      refine hx_take (i := 1) (oi := _) (v := .string ⟨s.toArray⟩) rfl rfl hns (by kernel_rfl) (by kernel_rfl) hQ (by kernel_rfl) (fun _ _ => by kernel_rfl) hs0 ?_
      refine hx_take (i := 5) (oi := _) (v := .string ⟨s.toArray⟩) rfl rfl hns (by kernel_rfl) (by kernel_rfl) hQ (by kernel_rfl) (fun _ _ => by kernel_rfl) hs0 ?_
      refine hx_take (i := 6) (oi := _) (v := .pointer (some ⟨w.heap.size + 1, 0, none⟩)) rfl rfl hns (by kernel_rfl) (by kernel_rfl) hQ (by kernel_rfl) (fun W _ => fa_clr0 _ _ rfl _ _ (by kernel_rfl) W) hs0 ?_
      refine hx_take (i := 7) (oi := _) (v := .string ⟨who.toArray⟩) rfl rfl hns (by kernel_rfl) (by kernel_rfl) hQ (by kernel_rfl) (fun W hW => ld_str _ _ rfl _ (w.heap.size + 1) 0 (by kernel_rfl) _ W ((hSr.trans hW).cell c0)) hs0 ?_
      refine hx_take (i := 8) (oi := _) (v := .bool (s == who)) rfl rfl hns (by kernel_rfl) (by kernel_rfl) hQ (by kernel_rfl) (fun W _ => eq_txt _ _ _ rfl _ s who (by kernel_rfl) (by kernel_rfl) W) hs0 ?_
      refine hx_take (i := 10) (oi := _) (v := .pointer (some ⟨w.heap.size + 1, 1, none⟩)) rfl rfl hns (by kernel_rfl) (by kernel_rfl) hQ (by kernel_rfl) (fun W _ => fa_clr1 _ _ rfl _ _ (by kernel_rfl) W) hs0 ?_
      refine hx_take (i := 11) (oi := _) (v := .slice (some ⟨b, o, none⟩) n c) rfl rfl hns (by kernel_rfl) (by kernel_rfl) hQ (by kernel_rfl) (fun W hW => ld_txts _ _ rfl _ (w.heap.size + 1) 1 (by kernel_rfl) _ _ _ W ((hSr.trans hW).cell c1)) hs0 ?_
      refine hx_take (i := 12) (oi := _) (v := .int .i64 (k : Int)) rfl rfl hns (by kernel_rfl) (by kernel_rfl) hQ (by kernel_rfl) (fun _ _ => by kernel_rfl) hs0 ?_
      refine hx_take (i := 14) (oi := _) (v := .string ⟨s.toArray⟩) rfl rfl hns (by kernel_rfl) (by kernel_rfl) hQ (by kernel_rfl) (fun _ _ => by kernel_rfl) hs0 ?_
      refine hx_take (i := 13) (oi := _) (v := .slice (some ⟨b, o, none⟩) k c) rfl rfl hns (by kernel_rfl) (by kernel_rfl) hQ (by kernel_rfl) (fun W _ => sl_txts _ _ _ rfl _ b o n c k (by kernel_rfl) (by kernel_rfl) (by omega) W) hs0 ?_
      refine hx_call (i := 2) (oi := _) 18 #[.agg #[.slice ap np cp, .slice ad nd cd, .slice ac nc cc, .int .i64 qu, .int .i64 bu, .slice ar nr cr, .slice ag ng cg], .string ⟨s.toArray⟩] rfl rfl (by kernel_rfl) (by kernel_rfl) (by kernel_rfl) (HPR.out _ (hSr.trans hs0)) ?_
      rintro e w3 ⟨rfl, hb3⟩
      have hS3 : Since wr w3 := hs0.trans hb3
      clear hb3
      refine ⟨_, rfl, hS3, ?_⟩
      refine hx_take (i := 3) (oi := _) (v := .bool (!A)) rfl rfl hns (by kernel_rfl) (by kernel_rfl) hQ (by kernel_rfl) (fun _ _ => by kernel_rfl) hS3 ?_
      refine hx_call (i := 4) (oi := _) 45 #[.bool (!A), .int .i64 6] rfl rfl (by kernel_rfl) (by kernel_rfl) (by kernel_rfl) (not_rule _ 6 _) ?_
      rintro e w4 ⟨g1, rfl, r1, hb4⟩
      have hS4 : Since wr w4 := hS3.trans hb4
      replace r1 := Lib.hid r1
      clear hb4
      refine ⟨_, rfl, hS4, ?_⟩
      refine hx_call (i := 9) (oi := _) 45 #[.bool (s == who), .int .i64 11] rfl rfl (by kernel_rfl) (by kernel_rfl) (by kernel_rfl) (not_rule _ 11 _) ?_
      rintro e w5 ⟨g2, rfl, r2, hb5⟩
      have hS5 : Since wr w5 := hS4.trans hb5
      replace r1 := Lib.hid (r1.out.next hb5)
      replace r2 := Lib.hid r2
      clear hb5
      refine ⟨_, rfl, hS5, ?_⟩
      refine hx_call (i := 15) (oi := _) 47 #[.slice (some ⟨b, o, none⟩) k c, .string ⟨s.toArray⟩] rfl rfl (by kernel_rfl) (by kernel_rfl) (by kernel_rfl) (HCO.out _ (hSr.trans hS5)) ?_
      rintro e w6 ⟨rfl, hb6⟩
      have hS6 : Since wr w6 := hS5.trans hb6
      replace r1 := Lib.hid (r1.out.next hb6)
      replace r2 := Lib.hid (r2.out.next hb6)
      clear hb6
      refine ⟨_, rfl, hS6, ?_⟩
      refine hx_call (i := 16) (oi := _) 45 #[.bool t, .int .i64 5] rfl rfl (by kernel_rfl) (by kernel_rfl) (by kernel_rfl) (not_rule _ 5 _) ?_
      rintro e w7 ⟨g3, rfl, r3, hb7⟩
      have hS7 : Since wr w7 := hS6.trans hb7
      replace r1 := Lib.hid (r1.out.next hb7)
      replace r2 := Lib.hid (r2.out.next hb7)
      replace r3 := Lib.hid r3
      clear hb7
      refine ⟨_, rfl, hS7, ?_⟩
      have hsA : Since wr (w7.alloc (.cells #[.func (.func 73) #[] #[.pointer (some ⟨g1, 0, none⟩), .pointer (some ⟨g1 + 1, 0, none⟩)], .func (.func 73) #[] #[.pointer (some ⟨g2, 0, none⟩), .pointer (some ⟨g2 + 1, 0, none⟩)], .func (.func 73) #[] #[.pointer (some ⟨g3, 0, none⟩), .pointer (some ⟨g3 + 1, 0, none⟩)]] 73)) := hS7.alloc _
      refine hx_make (i := 17) (oi := _) (.slice (some ⟨w7.heap.size, 0, none⟩) 3 3) (w7.alloc (.cells #[.func (.func 73) #[] #[.pointer (some ⟨g1, 0, none⟩), .pointer (some ⟨g1 + 1, 0, none⟩)], .func (.func 73) #[] #[.pointer (some ⟨g2, 0, none⟩), .pointer (some ⟨g2 + 1, 0, none⟩)], .func (.func 73) #[] #[.pointer (some ⟨g3, 0, none⟩), .pointer (some ⟨g3 + 1, 0, none⟩)]] 73)) rfl rfl (by kernel_rfl) (by kernel_rfl) (mk_rules3 _ _ _ _  rfl _ _ _ _ _ _ _  (by kernel_rfl) (by kernel_rfl) (by kernel_rfl) _) hsA ?_
      refine hx_call (i := 18) (oi := _) 42 #[.slice (some ⟨w7.heap.size, 0, none⟩) 3 3] rfl rfl (by kernel_rfl) (by kernel_rfl) (by kernel_rfl) (first3 _ _ _ _ _ _ _ (r1.out) (r2.out) (r3.out)) ?_
      rintro e w8 ⟨rfl, hb8⟩
      have hS8 : Since wr w8 := hsA.trans hb8
      rw [← hE1.out]
      clear hb8
      refine ⟨_, rfl, hS8, ?_⟩
      refine hx_take (i := 19) (oi := _) (v := .int .i64 E) rfl rfl hns (by kernel_rfl) (by kernel_rfl) hQ (by kernel_rfl) (fun _ _ => by kernel_rfl) hS8 ?_
      refine wpAnyH_done (by kernel_rfl) ?_ _
      clear hns hQ
      simp only [List.set_cons_zero, List.set_cons_succ]
      replace hSr := hSr.trans hS8
      clear hs0 hS3 hS4 hS5 hS6 hS7 hsA hS8 r1 r2 r3 HPR HCO d1
      by_cases he : E = 0
      · go_wp2_with fail
        go_roundw
        case rel => exact ⟨k + 1, by omega, by go_num, by rw [hE2.out, if_pos he], hSr⟩
        case measure => simp [intOf]; omega
      · go_wp2_with fail
        go_ret
        refine ⟨ret_int ?_, hS0.trans hSr⟩
        have h3 := hn.out
        rw [readsE, if_neg (by omega), hE2.out, if_neg he]
    · have hlt2 : ¬ (k : Int) < (n : Int) := by omega
      go_wp2_with fail
      go_ret
      refine ⟨ret_int ?_, hS0.trans hSr⟩
      have h3 := hn.out
      rw [readsE, if_neg (by omega), HF.out, List.drop_eq_nil_of_le (by omega)]
      rfl
end Go.Proofs.YtpkggopaigledaaDoor
