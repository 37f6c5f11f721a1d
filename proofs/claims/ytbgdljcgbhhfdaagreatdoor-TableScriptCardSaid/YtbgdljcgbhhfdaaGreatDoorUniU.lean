/- The reference: binding a variable where it may be (Bind). -/
import Derived.Test.YtbgdljcgbhhfdaaGreatDoorUniS
import Derived.Test.YtbgdljcgbhhfdaaGreatDoorUniAH
namespace Go.Proofs.YtbgdljcgbhhfdaaGreatDoor
open Go.RowKit

theorem none_ne {L : List Bnd} {s : List UInt8} (h : getB L s = none) : ∀ b ∈ L, b.1 ≠ s := by
  induction L with
  | nil => intro b hb; cases hb
  | cons c L ih =>
    rw [getB] at h
    split at h
    · cases h
    · rename_i hc
      intro b hb
      rcases List.mem_cons.1 hb with rfl | hb
      · exact hc
      · exact ih h b hb
/-- A row of bindings and no error come back. -/
def RowOkPost (w : World) (L : List Bnd) (e : Ending) (w' : World) : Prop := ∃ v', e = .returned (.tuple #[v', .int .i64 0]) ∧ RowS w' v' L ∧ Since w w'
set_option maxHeartbeats 4000000 in
set_option maxRecDepth 100000 in
theorem rbind_const (v : Value) (L : List Bnd) (s tl : List UInt8) (w : World) (hv : RowOf 3 bndC w v L) (hi : InvB L) (hm : L.length ≤ 1000) (hs : s ≠ []) (ht : tl ≠ []) (hg : getB L s = none) :
    Calls Tryz.prog 80 #[v, .string ⟨s.toArray⟩, .agg #[.bool false, .string ⟨tl.toArray⟩]] w (RowOkPost w (bindP L s (false, tl))) := by
  obtain ⟨a, c, rfl⟩ := hv.form
  have HV := Lib.hid hv
  have HCK := Lib.hid (fun W (h : RowOf 3 bndC W (.slice a L.length c) L) => rcheckb_any (.slice a L.length c) L W h hi (by omega))
  have HG := Lib.hid (fun W (h : RowOf 3 bndC W (.slice a L.length c) L) => rget_any (.slice a L.length c) L s W h (by omega))
  have HT := Lib.hid (fun W (h : RowOf 3 bndC W (.slice a L.length c) L) => rtermb_any (.slice a L.length c) L false tl W h (by omega))
  rw [hg] at HG
  rw [show termS L (false, tl) = (false, tl) from rfl] at HT
  simp only [gtV] at HG
  simp only [tmV] at HT
  have HPU := Lib.hid (fun v6 W (h : RowOf 3 bndC W v6 (underB L [(s, (false, tl))])) => rput_any v6 (underB L [(s, (false, tl))]) s false tl W h (none_ne (by rw [getB_under, hg]; rfl)) (by rw [under_len]; omega))
  have HT1 := Lib.hid (fun yv yl W v1 (h : RowOf 3 bndC W v1 [(s, (false, tl))]) => rtermb_any v1 [(s, (false, tl))] yv yl W h (by simp))
  obtain ⟨i0, hi0, hz0, hz1, hz2⟩ := info_parts bndInfo
  have HI := Lib.hid (And.intro hi0 (And.intro hz0 (And.intro hz1 hz2)))
  have hs1 : s.isEmpty = false := by rw [List.isEmpty_eq_false_iff]; exact hs
  have ht1 : tl.isEmpty = false := by rw [List.isEmpty_eq_false_iff]; exact ht
  have hS1 : Since w (w.alloc (.cells #[.bool false, .string ⟨tl.toArray⟩] 30)) := (Since.refl _).alloc _
  have K1 : Hid (Cel (w.alloc (.cells #[.bool false, .string ⟨tl.toArray⟩] 30)) w.heap.size #[.bool false, .string ⟨tl.toArray⟩] 30) := heap_alloc_new w _
  obtain ⟨k0, k1⟩ := K1.out.two
  clear hv hi hs ht hg hi0 hz0 hz1 hz2
  go_enter Tryz.func80, Tryz.ntmps80
  go_wp2_with fail
  refine (HCK.out _ (HV.out.next hS1)).mono ?_
  rintro e w1 ⟨rfl, hb⟩
  have hS := hS1.trans hb
  replace K1 := Lib.hid (K1.out.next hb)
  clear hb hS1 k0 k1
  obtain ⟨k0, k1⟩ := K1.out.two
  go_wp2_with fail
  refine (HG.out _ (HV.out.next hS)).mono ?_
  rintro e w2 ⟨rfl, hb⟩
  have hb2 := hb.alloc (.cells #[.bool false, .string ⟨#[]⟩] 30)
  replace hS := hS.trans hb2
  replace K1 := Lib.hid (K1.out.next hb2)
  clear hb hb2 k0 k1
  obtain ⟨k0, k1⟩ := K1.out.two
  go_wp2_with fail
  refine (HT.out _ (HV.out.next hS)).mono ?_
  rintro e w3 ⟨rfl, hb⟩
  replace hS := hS.trans hb
  clear hb k0 k1 HCK HG HT K1
  go_wp2_with fail
  have MR := Lib.hid (bnd_single (w3.alloc (.cells #[.bool false, .string ⟨tl.toArray⟩] 30)) s false tl (w3.heap.size + 1) (by simp))
  have hS4 : Since w ((w3.alloc (.cells #[.bool false, .string ⟨tl.toArray⟩] 30)).alloc (.cells #[.string ⟨s.toArray⟩, .bool false, .string ⟨tl.toArray⟩] 102)) := (hS.alloc _).alloc _
  generalize ((w3.alloc (.cells #[.bool false, .string ⟨tl.toArray⟩] 30)).alloc (.cells #[.string ⟨s.toArray⟩, .bool false, .string ⟨tl.toArray⟩] 102)) = w4 at *
  go_loopw [11, 13] (fun r i wr => ∃ k : Nat, k ≤ L.length ∧ i = .int .i64 (k : Int) ∧ Since w4 wr ∧ wr.ownsRow w4.heap.size 102 3 r k ((underB (L.take k) [(s, (false, tl))]).flatMap bndC)) (fun _ i _ => L.length - (intOf i).toNat)
  case atStart => exact ⟨0, by omega, rfl, Since.refl _, World.ownsRow_nil _ _ _ _⟩
  case round =>
    obtain ⟨k, hk, rfl, hSr, how⟩ := hrel
    have hz : w4.heap.size ≤ wr.heap.size := hSr.size
    by_cases hlt : k < L.length
    · obtain ⟨b, o, he, _, hc, hat⟩ := bnd_get (HV.out.next (hS4.trans hSr)) (by omega)
      cases he
      obtain ⟨d0, d1, d2⟩ := hat k hlt
      have HD : Hid (∀ W, Since wr W → BndAt W b (o + k * 3) L[k]) := fun W hW => (hat k hlt).next hW
      have hg2 : (k : Int) < (L.length : Int) := by omega
      have hg0 : (0 : Int) ≤ (k : Int) := by omega
      have HST := Lib.hid (under_step (M := [(s, (false, tl))]) hlt)
      clear hat
      generalize L[k] = x at *
      obtain ⟨xs, xv, xt⟩ := x
      simp only at d0 d1 d2 HST
      obtain ⟨y, hy⟩ : ∃ y, Hid (y = termS [(s, (false, tl))] (xv, xt)) := ⟨_, rfl⟩
      have HC := Lib.hid (fun W (h : Since wr W) => HT1.out xv xt W _ (MR.out.next (hSr.trans h)))
      rw [← hy.out] at HC HST
      obtain ⟨yv, yt⟩ := y
      simp only [tmV] at HC
      clear hy HT1
      go_wp2_with fail
      have howd : wr.drew.ownsRow w4.heap.size 102 3 u11 k ((underB (L.take k) [(s, (false, tl))]).flatMap bndC) := how
      go_region_law (first
        | (go_simp; go_at_call 100; (with_reducible refine Calls.mono (HC.out _ ?_) ?_); (first | exact (Since.refl _).drew | exact Since.refl _); rintro e w8 ⟨rfl, hb8⟩; have hS8 : Since wr w8 := ((Since.refl _).drew).trans hb8; obtain ⟨d0, d1, d2⟩ := HD.out w8 hS8; have how8 := ownB_since howd hb8; have hz8 : w4.heap.size ≤ w8.heap.size := Nat.le_trans hz hS8.size)
        | ((refine step_append_own rfl (.tmp 52) (.tmp 66) 72 rfl w4.heap.size 102 i0 (.agg #[.string ⟨#[]⟩, .bool false, .string ⟨#[]⟩]) 3 40 Tryz.underlying72 HI.out.1 HI.out.2.1 HI.out.2.2.1 HI.out.2.2.2 rfl (by decide) u11 k ((underB (L.take k) [(s, (false, tl))]).flatMap bndC) rfl (how8.alloc _) ⟨w8.heap.size, 0, none⟩ 1 1 (bndC (xs, (yv, yt))) rfl rfl (cells_lit _ _ _ _ rfl) (bnd_one _) (by unfold maxLen; omega) (by omega) (by simp; omega) ?_); intro v9 w9 hown9 hg9 _; have hB9 := below_append (hSr.trans hS8) hz8 how8 hg9))
      all_goals
        rw [← flat_push, ← HST.out] at hown9
        go_wp2_with fail
        go_roundw
        case rel => exact ⟨k + 1, by omega, by go_num, hB9, hown9⟩
        case measure => simp [intOf]; omega
    · have hlt2 : ¬ (k : Int) < (L.length : Int) := by omega
      have hkl : k = L.length := by omega
      subst hkl
      rw [List.take_length] at how
      have RU := Lib.hid (rowS_of_own how (under_len _ _))
      have hSw := hS4.trans hSr
      obtain ⟨b, o, he, -, hc, hat⟩ := bnd_get (MR.out.next hSr) (by simp)
      cases he
      obtain ⟨e0, e1, e2⟩ := hat 0 (by simp)
      have f0 : wr.cell? ⟨w3.heap.size + 1, 0, none⟩ = some (.string ⟨s.toArray⟩) := e0
      have f1 : wr.cell? ⟨w3.heap.size + 1, 1, none⟩ = some (.bool false) := e1
      have f2 : wr.cell? ⟨w3.heap.size + 1, 2, none⟩ = some (.string ⟨tl.toArray⟩) := e2
      clear hat how HT1 e0 e1 e2 hz hlt hc
      go_wp2_with fail
      refine (HPU.out _ _ RU.out.1).mono ?_
      rintro e w9 ⟨v9, rfl, hv9, hb9⟩
      go_wp2_with fail
      go_ret2
      exact ⟨_, rfl, hv9, hSw.trans hb9⟩
end Go.Proofs.YtbgdljcgbhhfdaaGreatDoor
