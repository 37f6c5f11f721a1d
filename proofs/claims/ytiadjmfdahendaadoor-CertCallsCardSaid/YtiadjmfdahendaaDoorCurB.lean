/- The reference's cursor: Byte, Text. -/
import Derived.Test.YtiadjmfdahendaaDoorCurA
namespace Go.Proofs.YtiadjmfdahendaaDoor
open Go.RowKit

def CBytePost (s : List UInt8) (i : Nat) (bad : Bool) (g : Nat) (w : World) (e : Ending) (w' : World) : Prop :=
  e = .returned (.int .u8 (byteS s i bad).1) ∧ Cur w' g s (byteS s i bad).2.1 (byteS s i bad).2.2 ∧ w.grownBy w' (some g)
set_option maxHeartbeats 2000000 in
set_option maxRecDepth 100000 in
theorem curbyte_any (s : List UInt8) (i : Nat) (bad : Bool) (g : Nat) (w : World) (hs : s.length ≤ 1000000) (hi : i ≤ s.length) (hR : Cur w g s i bad) :
    Calls Tryd.prog 55 #[.pointer (some ⟨g, 0, none⟩)] w (CBytePost s i bad g w) := by
  have HP : Hid (∀ W u k b, byteS s i bad = (u, k, b) → Cur W g s k b → w.grownBy W (some g) → CBytePost s i bad g w (.returned (.int .u8 (u : Nat))) W) := by
    intro W u k b h1 h2 h3
    unfold CBytePost
    rw [h1]; exact ⟨rfl, h2, h3⟩
  have c0 := hR.c0
  have c1 := hR.c1
  have hlt := hR.lt
  have hfree := hR.free
  cases hb : bad
  case true =>
    subst hb
    have c2 := hR.c2t
    have HT2 : Hid (byteS s i true = (0, i, true)) := rfl
    go_enter Tryd.func55, Tryd.ntmps55
    go_wp2_with fail
    go_quiet (fail)
    go_wp2_with fail
    go_ret
    exact HP.out _ _ _ _ HT2.out (hR.drewN _) (gdrewN (World.grownBy.refl _ _) _)
  case false =>
    subst hb
    have c2 := hR.c2f
    by_cases he : i = s.length
    · have hq : (s.length : Int) ≤ (i : Int) := by omega
      have HT2 : Hid (byteS s i false = (0, i, true)) := by
        show _ = _
        rw [byteS, if_neg (by simp), List.drop_eq_nil_of_le (by omega)]
      go_enter Tryd.func55, Tryd.ntmps55
      go_wp2_with fail
      go_quiet (fail)
      go_wp2_with fail
      go_ret
      exact HP.out _ _ _ _ HT2.out (hR.set2t.drewN _) (gdrewN (gset (World.grownBy.refl _ _) _ _) _)
    · have hlt2 : i < s.length := by omega
      have hq : ¬ (s.length : Int) ≤ (i : Int) := by omega
      have HT2 : Hid (byteS s i false = ((s[i]'hlt2).toNat, i + 1, false)) := by
        show _ = _
        rw [byteS, if_neg (by simp), List.drop_eq_getElem_cons hlt2]
      have e1 : IntKind.i64.wrap ((i : Int) + 1) = (i : Int) + 1 := IntWalk.i64_in _ (by omega)
      have e2 : IntKind.i64.wrap ((i : Int) + 1 - 1) = (i : Int) := by rw [show (i : Int) + 1 - 1 = (i : Int) by omega]; exact IntWalk.i64_in _ (by omega)
      go_enter Tryd.func55, Tryd.ntmps55
      go_wp2_with fail
      go_quiet (fail)
      go_wp2_with fail
      go_quiet (fail)
      go_wp2_with fail
      go_ret
      have h1 := fun n m => ((hR.drewN n).set1 (i + 1)).drewN m
      simp only [Int.natCast_add] at h1
      exact HP.out _ _ _ _ HT2.out (h1 _ _) (gdrewN (gset (gdrewN (World.grownBy.refl _ _) _) _ _) _)
def CTextPost (s : List UInt8) (i : Nat) (bad : Bool) (g : Nat) (w : World) (e : Ending) (w' : World) : Prop :=
  e = .returned (.string ⟨(textS s i bad).1.toArray⟩) ∧ Cur w' g s (textS s i bad).2.1 (textS s i bad).2.2 ∧ w.grownBy w' (some g)
set_option maxHeartbeats 2000000 in
set_option maxRecDepth 100000 in
theorem curtext_any (s : List UInt8) (i : Nat) (bad : Bool) (g : Nat) (w : World) (hs : s.length ≤ 1000000) (hi : i ≤ s.length) (hR : Cur w g s i bad) :
    Calls Tryd.prog 54 #[.pointer (some ⟨g, 0, none⟩)] w (CTextPost s i bad g w) := by
  have HN := Lib.hid (curnum_any s i bad g w hs hi hR)
  obtain ⟨hn1, hn2⟩ := numS_le (bad := bad) hi
  have HP : Hid (∀ W u k b, textS s i bad = (u, k, b) → Cur W g s k b → w.grownBy W (some g) → CTextPost s i bad g w (.returned (.string ⟨u.toArray⟩)) W) := by
    intro W u k b h1 h2 h3
    unfold CTextPost
    rw [h1]; exact ⟨rfl, h2, h3⟩
  have hT : textS s i bad = (if (numS s i bad).2.2 then ([], (numS s i bad).2.1, true) else if s.length < (numS s i bad).2.1 + (numS s i bad).1 then ([], (numS s i bad).2.1, true) else ((s.drop (numS s i bad).2.1).take (numS s i bad).1, (numS s i bad).2.1 + (numS s i bad).1, false)) := rfl
  unfold CNumPost at HN
  generalize numS s i bad = r at *
  obtain ⟨n, j, b⟩ := r
  simp only at hn1 hn2 hT HN
  have HT := Lib.hid hT
  clear hT hR
  have e2 : IntKind.i64.wrap (n : Int) = (n : Int) := IntWalk.i64_in _ (by omega)
  cases b
  · have e0 : IntKind.i64.wrap ((s.length : Int) - (j : Int)) = (s.length : Int) - (j : Int) := IntWalk.i64_in _ (by omega)
    have e1 : IntKind.i64.wrap ((j : Int) + (n : Int)) = (j : Int) + (n : Int) := IntWalk.i64_in _ (by omega)
    by_cases hc : s.length < j + n
    · have hd : decide ((s.length : Int) - (j : Int) < (n : Int)) = true := decide_eq_true (by omega)
      have HT2 : Hid (textS s i bad = ([], j, true)) := by
        show _ = _
        rw [HT.out, if_neg (by simp), if_pos hc]
      go_enter Tryd.func54, Tryd.ntmps54
      go_wp2_with fail
      refine HN.out.mono ?_
      rintro e w1 ⟨rfl, hR1, hg1⟩
      have c0 := hR1.c0
      have c1 := hR1.c1
      have c2 := hR1.c2f
      have hlt := hR1.lt
      have hfree := hR1.free
      go_wp2_with fail
      go_quiet (fail)
      go_wp2_with fail
      go_ret
      exact HP.out _ _ _ _ HT2.out ((hR1.drewN _).set2t) (gset (gdrewN hg1 _) _ _)
    · have hd : decide ((s.length : Int) - (j : Int) < (n : Int)) = false := decide_eq_false (by omega)
      have e3 : IntKind.i64.wrap ((j : Int) + (n : Int) - (n : Int)) = (j : Int) := by rw [show (j : Int) + (n : Int) - (n : Int) = (j : Int) by omega]; exact IntWalk.i64_in _ (by omega)
      have HT2 : Hid (textS s i bad = ((s.drop j).take n, j + n, false)) := by
        show _ = _
        rw [HT.out, if_neg (by simp), if_neg hc]
      have hsl : ∀ W, (Instr.slice 9 (.string ⟨s.toArray⟩) (some (.int .i64 (j : Int))) (some (.int .i64 ((j : Int) + (n : Int)))) none).run Tryd.prog W = .ok (.string ⟨((s.drop j).take n).toArray⟩) W := by
        intro W
        have h := run_midE (S := s) (i := j) (j := j + n) (Nat.le_add_right _ _) (by omega) W
        rw [Int.natCast_add] at h
        rw [h, List.drop_take, show j + n - j = n by omega]
      go_enter Tryd.func54, Tryd.ntmps54
      go_wp2_with fail
      refine HN.out.mono ?_
      rintro e w1 ⟨rfl, hR1, hg1⟩
      have c0 := hR1.c0
      have c1 := hR1.c1
      have c2 := hR1.c2f
      have hlt := hR1.lt
      have hfree := hR1.free
      go_wp2_with fail
      go_quiet (fail)
      go_wp2_with fail
      go_quiet (fail)
      go_wp2_with fail
      go_ret
      have h1 := fun x y => ((hR1.drewN x).set1 (j + n)).drewN y
      simp only [Int.natCast_add] at h1
      exact HP.out _ _ _ _ HT2.out (h1 _ _) (gdrewN (gset (gdrewN hg1 _) _ _) _)
  · have HT2 : Hid (textS s i bad = ([], j, true)) := by
      show _ = _
      rw [HT.out, if_pos rfl]
    go_enter Tryd.func54, Tryd.ntmps54
    go_wp2_with fail
    refine HN.out.mono ?_
    rintro e w1 ⟨rfl, hR1, hg1⟩
    have c0 := hR1.c0
    have c1 := hR1.c1
    have c2 := hR1.c2t
    have hlt := hR1.lt
    have hfree := hR1.free
    go_wp2_with fail
    go_quiet (fail)
    go_wp2_with fail
    go_ret
    exact HP.out _ _ _ _ HT2.out (hR1.drewN _) (gdrewN hg1 _)
end Go.Proofs.YtiadjmfdahendaaDoor
