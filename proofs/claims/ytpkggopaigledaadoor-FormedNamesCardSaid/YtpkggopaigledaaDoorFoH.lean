/- formed: clears. -/
import Derived.Test.YtpkggopaigledaaDoorFoG
namespace Go.Proofs.YtpkggopaigledaaDoor
open Go.RowKit Go.Maps Go.WideMaps

set_option maxHeartbeats 1000000 in
theorem fclears1_any (ap ad ac ar ag : Option Addr) (np cp nd cd nc cc nr cr ng cg : Nat) (qu bu : Int) (pr : List Txt) (s : Txt) (a : Option Addr) (n c : Nat) (L : List Txt) (g k : Nat) (w : World) (p_B : PBox w g ap ad ac ar ag np cp nd cd nc cc nr cr ng cg qu bu) (c0 : w.cell? ⟨k, 0, none⟩ = some (.string ⟨s.toArray⟩)) (c1 : w.cell? ⟨k, 1, none⟩ = some (.slice a n c))
    (hP : TRow w (.slice ap np cp) pr) (lr : pr.length ≤ 1000000) (hT : TRow w (.slice a n c) L) (lm : L.length ≤ 1000000) :
    Calls Tryd.prog 62 #[.pointer (some ⟨g, 0, none⟩), .pointer (some ⟨k, 0, none⟩)] w fun e w' => e = .returned (.int .i64 (readsE pr s L)) ∧ Since w w' := by
  have HC := Lib.hid (freads_any ap ad ac ar ag np cp nd cd nc cc nr cr ng cg qu bu pr s a n c L w hP lr hT lm)
  clear hP hT
  obtain ⟨p_c0, p_c1, p_c2, p_c3, p_c4, p_c5, p_c6⟩ := p_B
  go_enter Tryd.func62, Tryd.ntmps62
  go_wp2_with fail
  refine HC.out.mono ?_
  rintro e w1 ⟨rfl, hb⟩
  go_wp2_with fail
  go_ret
  exact ⟨rfl, hb⟩
set_option maxRecDepth 100000 in
theorem run_clears1 (cap : Array Value) (W : World) : (callFunc 62 cap).run Tryd.prog W = .ok (.enter 62 cap) W := by kernel_rfl
def clrErr (pr : List Txt) (met : List Txt) (x : Txt × List Txt) : Int := firstE [ifE (!(pr.contains x.1)) 6, ifE (met.contains x.1) 5, readsE pr x.1 x.2]
def clrsF (pr : List Txt) : List Txt → List (Txt × List Txt) → Int
  | _, [] => 0
  | met, x :: r => if clrErr pr met x = 0 then clrsF pr (met ++ [x.1]) r else clrErr pr met x
set_option maxHeartbeats 8000000 in
set_option maxRecDepth 100000 in
theorem fclears_any (ap ad ac ar ag : Option Addr) (np cp nd cd nc cc nr cr ng cg : Nat) (qu bu : Int) (pr : List Txt) (L : List (Txt × List Txt)) (w : World) (hP : TRow w (.slice ap np cp) pr) (lr : pr.length ≤ 1000000) (hT : CRow w (.slice ac nc cc) L) (hl : ∀ x ∈ L, x.1.length ≤ maxLen ∧ x.2.length ≤ 1000000) (lm : L.length ≤ 1000000) :
    Calls Tryd.prog 36 #[.agg #[.slice ap np cp, .slice ad nd cd, .slice ac nc cc, .int .i64 qu, .int .i64 bu, .slice ar nr cr, .slice ag ng cg]] w fun e w' => e = .returned (.int .i64 (clrsF pr [] L)) ∧ Since w w' := by
  have hmm := @run_makeMap Tryd.prog
  have hmf : ∀ (fn : Fn) (first cap : Array Value) (w : World), (Instr.makeFunc fn first cap).run Tryd.prog w = .ok (.func fn first cap) w := fun _ _ _ _ => rfl
  have hS0 : Since w (w.alloc (.cells #[.slice ap np cp, .slice ad nd cd, .slice ac nc cc, .int .i64 qu, .int .i64 bu, .slice ar nr cr, .slice ag ng cg] 28)) := (Since.refl _).alloc _
  have p_B := pbox_new w ap ad ac ar ag np cp nd cd nc cc nr cr ng cg qu bu 28
  have HT := Lib.hid (cnext hT hS0)
  have HPT := Lib.hid (tnext hP hS0)
  have hn := Lib.hid hT.form
  have hnm : nc ≤ 1000000 := by have := hT.form; omega
  clear hT hP
  obtain ⟨p_c0, p_c1, p_c2, p_c3, p_c4, p_c5, p_c6⟩ := p_B
  go_enter Tryd.func36, Tryd.ntmps36
  go_wp2_with fail
  have p_B := pbox_new w ap ad ac ar ag np cp nd cd nc cc nr cr ng cg qu bu 28
  clear p_c0 p_c1 p_c2 p_c3 p_c4 p_c5 p_c6
  generalize hw1 : w.alloc (.cells #[.slice ap np cp, .slice ad nd cd, .slice ac nc cc, .int .i64 qu, .int .i64 bu, .slice ar nr cr, .slice ag ng cg] 28) = w1 at *
  have hz1 : w.heap.size + 1 = w1.heap.size := by rw [← hw1]; simp
  clear hw1
  rw [hz1]
  go_loopw [13] (fun m wr => ∃ k : Nat, k ≤ nc ∧ m = .int .i64 (k : Int) ∧ clrsF pr [] L = clrsF pr ((L.take k).map (·.1)) (L.drop k) ∧ SetAt wr w1.heap.size k ((L.take k).map (·.1)) ∧ Since w1 wr) (fun m _ => nc - (intOf m).toNat)
  case atStart => exact ⟨0, by omega, rfl, rfl, set_made w1, (Since.refl _).alloc _⟩
  case round =>
    obtain ⟨k, hk, rfl, hF, hown, hSr⟩ := hrel
    have HF := Lib.hid hF
    clear hF
    by_cases hlt : k < nc
    · have hkl : k < L.length := by have := hn.out; omega
      have hlt2 : (k : Int) < (nc : Int) := by omega
      have hlt0 : (0 : Int) ≤ (k : Int) := by omega
      obtain ⟨b, o, rfl, hc, hat⟩ := (cnext HT.out hSr).get (by omega)
      have d1 := hat k hkl
      obtain ⟨⟨s, M⟩, hs⟩ : ∃ s, Hid (s = L[k]) := ⟨L[k], rfl⟩
      have hsl : s.length ≤ maxLen ∧ M.length ≤ 1000000 := by have := hl _ (List.getElem_mem hkl); rw [← hs.out] at this; exact this
      unfold ClrAt at d1
      rw [← hs.out] at d1
      simp only [strV] at d1
      obtain ⟨d1, u, d2, hM0⟩ := d1
      obtain ⟨a, c, rfl⟩ := hM0.slice
      have HM := Lib.hid hM0
      obtain ⟨n, hnM⟩ : ∃ n, Hid (M.length = n) := ⟨_, rfl⟩
      rw [hnM.out] at d2 HM
      clear hat hM0
      obtain ⟨t, ht⟩ : ∃ t, Hid (t = ((L.take k).map (·.1)).contains s) := ⟨_, rfl⟩
      obtain ⟨A, hA⟩ : ∃ A, Hid (A = pr.contains s) := ⟨_, rfl⟩
      have HPR : Hid (∀ W, Since w1 W → Calls Tryd.prog 18 #[.agg #[.slice ap np cp, .slice ad nd cd, .slice (some ⟨b, o, none⟩) nc cc, .int .i64 qu, .int .i64 bu, .slice ar nr cr, .slice ag ng cg], .string ⟨s.toArray⟩] W fun e w' => e = .returned (.bool A) ∧ Since W w') := by
        intro W h; rw [hA.out]; exact fprin_any ap ad (some ⟨b, o, none⟩) ar ag np cp nd cd nc cc nr cr ng cg qu bu pr s W (tnext HPT.out h) lr
      have hA1 : Since wr (wr.alloc (.cells #[.string ⟨s.toArray⟩, .slice a n c] 49)) := (Since.refl _).alloc _
      have hA2 : Since wr ((wr.alloc (.cells #[.string ⟨s.toArray⟩, .slice a n c] 49)).alloc (.cells #[] 84)) := hA1.alloc _
      have hown1 := hown.next hA1
      have ho2 := Lib.hid (hown.next hA2)
      obtain ⟨p_c0, p_c1, p_c2, p_c3, p_c4, p_c5, p_c6⟩ := p_B.next (hSr.trans hA2)
      have c0 : ((wr.alloc (.cells #[.string ⟨s.toArray⟩, .slice a n c] 49)).alloc (.cells #[] 84)).cell? ⟨wr.heap.size, 0, none⟩ = some (.string ⟨s.toArray⟩) := ((Since.refl _).alloc _).cell (by rw [World.cell?_alloc_new]; rfl)
      have c1 : ((wr.alloc (.cells #[.string ⟨s.toArray⟩, .slice a n c] 49)).alloc (.cells #[] 84)).cell? ⟨wr.heap.size, 1, none⟩ = some (.slice a n c) := ((Since.refl _).alloc _).cell (by rw [World.cell?_alloc_new]; rfl)
      go_wp2_with (first | (at_lookup; refine lookup_set _ rfl _ _ rfl w1.heap.size k ((L.take k).map (·.1)) rfl hown1 s hsl.1 rfl t ht.out.symm ?_))
      have hS2 := hSr.trans hA2
      have RA : Hid (Rule ((wr.alloc (.cells #[.string ⟨s.toArray⟩, .slice a n c] 49)).alloc (.cells #[] 84)) (.func (.func 62) #[] #[.pointer (some ⟨w.heap.size, 0, none⟩), .pointer (some ⟨wr.heap.size, 0, none⟩)]) (readsE pr s M)) :=
        ⟨_, _, rfl, run_clears1 _, fun W hW => fclears1_any ap ad (some ⟨b, o, none⟩) ar ag np cp nd cd nc cc nr cr ng cg qu bu pr s a n c M _ _ W (p_B.next (hS2.trans hW)) (hW.cell c0) (hW.cell c1) (tnext HPT.out (hS2.trans hW)) lr (tnext HM.out (hA2.trans hW)) hsl.2⟩
      refine (HPR.out _ hS2).mono ?_
      rintro e w3 ⟨rfl, hb⟩
      replace hS2 := hS2.trans hb; replace ho2 := Lib.hid (ho2.out.next hb); replace RA := Lib.hid (RA.out.next hb); replace c0 := hb.cell c0
      clear hb hown hown1 hA1 hA2 p_c0 p_c1 p_c2 p_c3 p_c4 p_c5 p_c6 c1 d1 d2 HPR
      go_wp2_with fail
      refine (not_rule _ 6 _).mono ?_
      rintro e w4 ⟨g1, rfl, n1, hb⟩
      replace hS2 := hS2.trans hb; replace ho2 := Lib.hid (ho2.out.next hb); replace RA := Lib.hid (RA.out.next hb); replace c0 := hb.cell c0
      have r1 := Lib.hid n1
      clear hb n1
      go_wp2_with fail
      refine (not_rule _ 5 _).mono ?_
      rintro e w5 ⟨g2, rfl, n2, hb⟩
      replace hS2 := hS2.trans hb; replace ho2 := Lib.hid (ho2.out.next hb); replace RA := Lib.hid (RA.out.next hb); replace c0 := hb.cell c0
      replace r1 := Lib.hid (r1.out.next hb)
      have r2 := Lib.hid n2
      clear hb n2
      go_wp2_with fail
      refine (first3 _ _ _ _ _ _ _ r1.out r2.out RA.out).mono ?_
      rintro e w6 ⟨rfl, hb⟩
      replace hb := Since.trans ((Since.refl _).alloc _) hb
      replace hS2 := hS2.trans hb; replace c0 := hb.cell c0
      have ho5 := ho2.out.next hb
      obtain ⟨E, hE1⟩ : ∃ E, Hid (E = firstE [ifE (!A) 6, ifE t 5, readsE pr s M]) := ⟨_, rfl⟩
      rw [← hE1.out]
      have e1 : ((L.take k).map (·.1)) ++ [s] = (L.take (k + 1)).map (·.1) := by rw [← take_more L k hkl, List.map_append, ← hs.out]; rfl
      have hE2 : Hid (clrsF pr [] L = if E = 0 then clrsF pr ((L.take (k + 1)).map (·.1)) (L.drop (k + 1)) else E) := by
        show _ = _
        rw [HF.out, List.drop_eq_getElem_cons hkl, clrsF, ← hs.out, clrErr, ← hA.out, ← ht.out, ← hE1.out, e1]
      have HE1 := Lib.hid e1
      clear hb ho2 r1 r2 RA HF e1
      by_cases he : E = 0
      · go_wp2_with (first | (at_mapUpdate; refine update_set _ rfl _ _ _ rfl w1.heap.size k ((L.take k).map (·.1)) rfl ho5 (by unfold maxLen; omega) s hsl.1 rfl rfl ?_; intro w8 ho8 hg8))
        go_roundw
        case rel =>
          refine ⟨k + 1, by omega, by go_num, by rw [hE2.out, if_pos he], ?_, since_update hS2 hg8 (Nat.le_refl _)⟩
          rw [HE1.out] at ho8
          exact ho8
        case measure => simp [intOf]; omega
      · go_wp2_with fail
        go_ret
        refine ⟨ret_int ?_, hS0.trans hS2⟩
        rw [hE2.out, if_neg he]
    · have hlt2 : ¬ (k : Int) < (nc : Int) := by omega
      go_wp2_with fail
      go_ret
      refine ⟨ret_int ?_, hS0.trans hSr⟩
      have h3 := hn.out
      rw [HF.out, List.drop_eq_nil_of_le (by omega)]
      rfl
end Go.Proofs.YtpkggopaigledaaDoor
