/- LexerCalls returns true at every string and every slice of tokens. -/
import Derived.Test.YtfbkddpapjpgbaaTextI
import Derived.Test.YtfbkddpapjpgbaaRef09C
import Derived.Test.YtfbkddpapjpgbaaLexL
namespace Go.Proofs.Ytfbkddpapjpgbaa
open Go.RowKit

theorem blanks_sum : ∀ (L : List (List UInt8)) (B : Nat), (∀ x ∈ L, x.length ≤ B) → (blanksL L).length ≤ L.length * (B + 1)
  | [], B, _ => by simp [blanksL]
  | [x], B, h => by
    have := h x (by simp)
    simp only [blanksL, List.length_singleton]
    omega
  | x :: y :: r, B, h => by
    have ih := blanks_sum (y :: r) B (fun z hz => h z (List.mem_cons_of_mem _ hz))
    have := h x (by simp)
    rw [blanksL, List.length_append, List.length_cons, List.length_cons, Nat.succ_mul]
    omega
theorem texts_sumI (L : List TkI) (B : Nat) (h : ∀ t ∈ L, t.2.1.length ≤ B) : (blanksL (textsI L)).length ≤ L.length * (B + 1) := by
  have := blanks_sum (textsI L) B (fun x hx => by
    obtain ⟨t, ht, rfl⟩ := List.mem_map.1 hx
    exact h t ht)
  rwa [show (textsI L).length = L.length from List.length_map ..] at this
theorem all_count (s : List UInt8) (hs : s.length ≤ 65536) : (allL s).1.length ≤ s.length := by
  obtain ⟨⟨L, o⟩, hL⟩ : ∃ y, y = toksL s := ⟨toksL s, rfl⟩
  have h1 := toksL_count hL.symm
  rw [allL, if_neg (by omega), ← hL]
  rcases o with _ | ⟨a, e⟩
  · exact h1
  · exact Nat.zero_le _
theorem items_count (s : List UInt8) : (itemsL s).length ≤ s.length + 1 := by
  obtain ⟨⟨L, o⟩, hL⟩ : ∃ y, y = toksL s := ⟨toksL s, rfl⟩
  have h1 := toksL_count hL.symm
  rw [itemsL, ← hL]
  rcases o with _ | ⟨a, e⟩
  · simp; omega
  · simp; omega
set_option maxHeartbeats 4000000 in
theorem lcalls_any (s : List UInt8) (v : Value) (L : List TkI) (w : World) (hsm : s.length ≤ maxLen) (hv : RowOf 3 tkI w v L) : Calls Try.prog 7 #[.string ⟨s.toArray⟩, v] w fun e w' => e = .returned (.bool true) ∧ Since w w' := by
  have HR := Lib.hid hv
  obtain ⟨a, c, rfl⟩ := hv.form
  clear hv
  go_enter Try.func7, Try.ntmps7
  go_wp2_with fail
  refine (lives_any w).mono ?_
  rintro e w1 ⟨rfl, hS1⟩
  by_cases hlong : 1000 < s.length
  · have g : (1000 : Int) < (s.length : Int) := by omega
    go_wp2_with fail
    go_ret
    exact ⟨rfl, hS1⟩
  have g : ¬ (1000 : Int) < (s.length : Int) := by omega
  by_cases hlong2 : 100 < L.length
  · have g2 : (100 : Int) < (L.length : Int) := by omega
    go_wp2_with fail
    go_ret
    exact ⟨rfl, hS1⟩
  have g2 : ¬ (100 : Int) < (L.length : Int) := by omega
  go_wp2_with fail
  go_loop [5] (fun i => ∃ k : Nat, k ≤ L.length ∧ i = .int .i64 k ∧ Hid (∀ t ∈ L.take k, t.2.1.length ≤ 300)) (fun i => L.length - (intOf i).toNat)
  case atStart => exact ⟨0, by omega, rfl, by intro t ht; simp at ht⟩
  case round =>
    obtain ⟨k, hk, rfl, hres⟩ := hrel
    by_cases hlt : k < L.length
    · obtain ⟨b, o, c', he, hc, d1, d2, d3⟩ := tki_at (HR.out.next hS1) hlt
      cases he
      have htm : L.take (k + 1) = L.take k ++ [L[k]] := List.take_succ_eq_append_getElem hlt
      obtain ⟨x, hx⟩ : ∃ x, Hid (x = L[k]) := ⟨L[k], rfl⟩
      rw [← hx.out] at d1 d2 d3 htm
      have HTM := Lib.hid htm
      obtain ⟨tk, tl, ta⟩ := x
      simp only at d1 d2 d3
      clear htm hx
      by_cases hbig : 300 < tl.length
      · have g3 : (300 : Int) < (tl.length : Int) := by omega
        go_wp2_with fail
        go_ret
        exact ⟨rfl, hS1⟩
      · have g3 : ¬ (300 : Int) < (tl.length : Int) := by omega
        go_wp2_with fail
        go_round
        case rel =>
          refine ⟨k + 1, by omega, by go_num, ?_⟩
          show ∀ t ∈ L.take (k + 1), t.2.1.length ≤ 300
          rw [HTM.out]
          intro t ht
          rcases List.mem_append.1 ht with h | h
          · exact hres.out t h
          · obtain rfl := List.mem_singleton.1 h
            show tl.length ≤ 300
            omega
        case measure => simp [intOf]; omega
    · obtain rfl : k = L.length := by omega
      have hall := hres.out
      rw [List.take_length] at hall
      have hbl := texts_sumI L 300 hall
      have HB := Lib.hid hbl
      clear hall hbl hres
      obtain ⟨J, hJ⟩ : ∃ J, Hid (J = blanksL (textsI L)) := ⟨_, rfl⟩
      obtain ⟨I, hI⟩ : ∃ I, Hid (I = itemsL s) := ⟨_, rfl⟩
      obtain ⟨⟨A, at1, e1⟩, hA⟩ : ∃ A, Hid (A = allL s) := ⟨_, rfl⟩
      have hAn := all_count s (by omega)
      have hIn := items_count s
      rw [← hI.out] at hIn
      rw [← hA.out] at hAn
      have HAll := fun w => all_any s w hsm
      have HRAll := fun w => rall_any s w (by omega)
      have HSt := fun w => steps_any s (by omega) w
      have HREach := fun w => reach_any s w (by omega)
      unfold AllPost at HAll HRAll
      simp only [← hA.out] at HAll HRAll
      simp only [← hI.out] at HSt HREach
      have HAll := Lib.hid HAll
      have HRAll := Lib.hid HRAll
      have HSt := Lib.hid HSt
      have HREach := Lib.hid HREach
      have HT := Lib.hid (fun w' (h : Since w w') => textI_any _ L w' (HR.out.next h) (by omega) (by have := HB.out; omega))
      have HRT := Lib.hid (fun w' (h : Since w w') => rtextI_any _ L w' (HR.out.next h) (by omega) (by have := HB.out; omega))
      rw [← hJ.out] at HT HRT
      go_wp2_with fail
      refine (HAll.out _).mono ?_
      rintro e w2 ⟨va, rfl, ha, hS2⟩
      go_wp2_with fail
      refine (HRAll.out _).mono ?_
      rintro e w3 ⟨vb, rfl, hb, hS3⟩
      go_wp2_with fail
      refine (HSt.out _).mono ?_
      rintro e w4 ⟨vx, rfl, hx, hS4⟩
      have hra := ((own_row ha).next hS3).next hS4
      have hrb := (own_row hb).next hS4
      have HSM := Lib.hid (same_tok va vb A A w4 hra hrb (by omega) (by omega))
      have hrx := own_row4 hx
      have HSw := Lib.hid (((hS1.trans hS2).trans hS3).trans hS4)
      clear ha hb hx hra hrb hS1 hS2 hS3 hS4
      go_wp2_with fail
      refine HSM.out.mono ?_
      rintro e w5 ⟨rfl, hS5⟩
      simp only [decide_true]
      go_wp2_with fail
      refine (HREach.out _).mono ?_
      rintro e w6 ⟨vy, rfl, hy, hS6⟩
      have HSM2 := Lib.hid (same_step vx vy I I w6 ((hrx.next hS5).next hS6) (own_row4 hy) (by omega) (by omega))
      have HSw6 := Lib.hid ((HSw.out.trans hS5).trans hS6)
      clear hrx hy hS5 hS6
      go_wp2_with fail
      refine HSM2.out.mono ?_
      rintro e w7 ⟨rfl, hS7⟩
      simp only [decide_true]
      have HSw7 := Lib.hid (HSw6.out.trans hS7)
      have HT7 := HT.out w7 HSw7.out
      clear hS7
      go_wp2_with fail
      refine HT7.mono ?_
      rintro e w8 ⟨rfl, hS8⟩
      have HRT8 := HRT.out w8 (HSw7.out.trans hS8)
      have HSw8 := Lib.hid (HSw7.out.trans hS8)
      clear hS8 HT7
      go_wp2_with fail
      refine HRT8.mono ?_
      rintro e w9 ⟨rfl, rfl⟩
      go_wp2_with fail
      go_ret
      exact ⟨rfl, HSw8.out⟩
end Go.Proofs.Ytfbkddpapjpgbaa
