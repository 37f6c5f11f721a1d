/- lexer.Text and the reference's: the tokens' texts, a blank between; whatever places the tokens tell. -/
import Derived.Test.YtfbkddpapjpgbaaOpenT
import Derived.Test.YtfbkddpapjpgbaaLexT
namespace Go.Proofs.Ytfbkddpapjpgbaa
open Go.RowKit

def textsI (L : List TkI) : List (List UInt8) := L.map fun t => t.2.1
set_option maxHeartbeats 1000000 in
theorem textI_any (v : Value) (L : List TkI) (w : World) (h : RowOf 3 tkI w v L) (hm : L.length ≤ 100000) (hl : (blanksL (textsI L)).length ≤ 1000000) :
    Calls Try.prog 13 #[v] w fun e w' => e = .returned (.string ⟨(blanksL (textsI L)).toArray⟩) ∧ Since w w' := by
  obtain ⟨i0, hi, hz0, hz1, hz2⟩ := info_parts infoStr
  have HI := Lib.hid (And.intro hi (And.intro hz0 (And.intro hz1 hz2)))
  clear hi hz0 hz1 hz2
  obtain ⟨J, hJ⟩ : ∃ J, Hid (J = blanksL (textsI L)) := ⟨_, rfl⟩
  rw [← hJ.out] at hl ⊢
  obtain ⟨a, c, rfl⟩ := h.form
  have HR := Lib.hid h
  clear h
  go_enter Try.func13, Try.ntmps13
  go_wp2_with fail
  go_loopw [3, 8] (fun v i wr => ∃ (k : Nat) (acc : List (List UInt8)), k ≤ L.length ∧ i = .int .i64 k ∧ acc.length ≤ k ∧ wr.ownsRow w.heap.size 9 1 v acc.length (acc.map strV) ∧ Since w wr ∧ Hid (acc = textsI (L.take k))) (fun _ i _ => L.length - (intOf i).toNat)
  case atStart => exact ⟨0, [], by omega, rfl, by simp, ⟨rfl, .inl ⟨rfl, rfl⟩⟩, Since.refl _, rfl⟩
  case round =>
    obtain ⟨k, acc, hk, rfl, hacc, hown, hSr, hres⟩ := hrel
    by_cases hlt : k < L.length
    · obtain ⟨b, o, c', he, hc, d1, d2, d3⟩ := tki_at (HR.out.next hSr) hlt
      cases he
      have hnx : Hid (acc ++ [L[k].2.1] = textsI (L.take (k + 1))) := by
        show _ = _
        rw [hres.out, List.take_succ_eq_append_getElem hlt, textsI, textsI, List.map_append]; rfl
      have hsz := hSr.size
      generalize L[k] = t at *
      obtain ⟨tk, tl, ta⟩ := t
      simp only at d1 d2 d3
      go_wp2_with (at_builtin; refine wpList_append_own _ rfl (.tmp 12) (.tmp 15) 46 rfl w.heap.size 9 i0 (.string ByteArray.empty) 1 16 Try.underlying46 HI.out.1 HI.out.2.1 HI.out.2.2.1 HI.out.2.2.2 rfl (by decide) _ acc.length (acc.map strV) rfl ((hown.alloc _).alloc _) ⟨wr.heap.size + 1, 0, none⟩ 1 1 [.string ⟨tl.toArray⟩] rfl rfl (one_new2 _ _ _ _) ?c1 ?c2 ?c3 ?c4 ?_)
      case c1 => simp [Value.oneCell']
      case c2 => unfold maxLen; omega
      case c3 => omega
      case c4 => first | omega | (simp; omega)
      intro v' w1' hown' hgrow _
      have hB1 : Since w w1' := Below.grown ((hSr.alloc _).alloc _) hgrow (by simp; omega) (own_ge hown)
      clear hown hgrow hSr hres
      go_wp2_with fail
      go_roundw
      case rel => exact ⟨k + 1, acc ++ [tl], by omega, by go_num, by simp; omega, by simpa [strV] using hown', hB1, hnx⟩
      case measure => simp [intOf]; omega
    · obtain rfl : k = L.length := by omega
      have hacc2 : acc = textsI L := by rw [hres.out, List.take_length]
      have hJ2 : J = Lib.join acc [32] := by rw [hJ.out, join_blanks, hacc2]
      have HJJ := Lib.hid (join_any _ acc [32] wr (row_of_own hown) (by omega) (by rw [← hJ2]; omega))
      rw [← hJ2] at HJJ
      clear hown hlt hacc2 hJ2
      go_wp2_with fail
      refine HJJ.out.mono ?_
      rintro e w5 ⟨rfl, hb5⟩
      go_wp2_with fail
      go_ret
      exact ⟨rfl, hSr.trans hb5⟩
theorem blanks_end : ∀ (L : List (List UInt8)) (x : List UInt8), L ≠ [] → blanksL (L ++ [x]) = blanksL L ++ [32] ++ x
  | [], _, h => absurd rfl h
  | [y], x, _ => by simp [blanksL]
  | y :: z :: r, x, _ => by
    have ih := blanks_end (z :: r) x (by simp)
    show blanksL (y :: z :: (r ++ [x])) = _
    rw [blanksL, blanksL]
    have e : z :: (r ++ [x]) = z :: r ++ [x] := rfl
    rw [e, ih]
    simp
theorem blanks_take : ∀ (L : List (List UInt8)) (k : Nat), (blanksL (L.take k)).length ≤ (blanksL L).length
  | [], k => by simp
  | [x], k => by
    match k with
    | 0 => simp [blanksL]
    | k + 1 => simp
  | x :: y :: r, k => by
    match k with
    | 0 => simp [blanksL]
    | 1 => simp [blanksL]
    | k + 2 =>
      have ih := blanks_take (y :: r) (k + 1)
      simp only [List.take_succ_cons] at ih ⊢
      simp only [blanksL, List.length_append, List.length_cons]
      omega
theorem run_catT {a b c : ByteArray} (h : a ++ b = c) (hl : a.size + b.size ≤ 1000000) (W : World) : (Op.stringOp .add a b).run Try.prog W = .ok (.string c) W := by
  subst h
  exact run_string_add W a b (by omega) (by omega)
set_option maxHeartbeats 1000000 in
theorem rtextI_any (v : Value) (L : List TkI) (w : World) (h : RowOf 3 tkI w v L) (hm : L.length ≤ 100000) (hl : (blanksL (textsI L)).length ≤ 900000) :
    Calls Try.prog 19 #[v] w fun e w' => e = .returned (.string ⟨(blanksL (textsI L)).toArray⟩) ∧ w = w' := by
  obtain ⟨J, hJ⟩ : ∃ J, Hid (J = blanksL (textsI L)) := ⟨_, rfl⟩
  rw [← hJ.out]
  have HL := Lib.hid hl
  obtain ⟨a, c, rfl⟩ := h.form
  have HR := Lib.hid h
  clear h hl
  go_enter Try.func19, Try.ntmps19
  go_wp2_with fail
  go_loop [3, 4] (fun o i => ∃ (k : Nat) (t : List UInt8), k ≤ L.length ∧ i = .int .i64 k ∧ o = .string ⟨t.toArray⟩ ∧ Hid (t = blanksL (textsI (L.take k)))) (fun _ i => L.length - (intOf i).toNat)
  case atStart => exact ⟨0, [], by omega, rfl, rfl, rfl⟩
  case round =>
    obtain ⟨k, t, hk, rfl, rfl, hres⟩ := hrel
    by_cases hlt : k < L.length
    · obtain ⟨b, o, c', he, hc, d1, d2, d3⟩ := tki_at HR.out hlt
      cases he
      have hnx : textsI (L.take (k + 1)) = textsI (L.take k) ++ [L[k].2.1] := by
        rw [List.take_succ_eq_append_getElem hlt, textsI, textsI, List.map_append]; rfl
      have hb1 := blanks_take (textsI L) (k + 1)
      have e1 : (textsI L).take (k + 1) = textsI (L.take (k + 1)) := by rw [textsI, textsI, List.map_take]
      rw [e1] at hb1
      have hb2 := HL.out
      generalize L[k] = x at *
      obtain ⟨tk, tl, ta⟩ := x
      simp only at d1 d2 d3 hnx
      rcases Nat.eq_zero_or_pos k with h0 | h0
      · subst h0
        have ht : t = [] := hres.out
        subst ht
        have hnx2 : Hid (tl = blanksL (textsI (L.take 1))) := Lib.hid (by rw [hnx]; rfl)
        have hll : tl.length ≤ 900000 := by rw [hnx2.out]; simp only [Nat.zero_add] at hb1; omega
        have hc := cat_bytes [] tl
        rw [List.nil_append] at hc
        have ha := fun W => run_catT hc (by show 0 + tl.length ≤ _; omega) W
        clear hnx hb1 e1 hb2 hc
        go_wp2_with fail
        go_round
        case rel => exact ⟨1, tl, by omega, rfl, rfl, hnx2⟩
        case measure => simp [intOf]; omega
      · have hk0 : (0 : Int) < (k : Int) := by omega
        have hne : textsI (L.take k) ≠ [] := by
          intro e
          have := congrArg List.length e
          rw [textsI, List.length_map, List.length_take] at this
          simp only [List.length_nil] at this
          omega
        have hnx2 : Hid (t ++ [32] ++ tl = blanksL (textsI (L.take (k + 1)))) := Lib.hid (by rw [hnx, blanks_end _ _ hne, hres.out])
        have hll : (t ++ [32] ++ tl).length ≤ 900000 := by rw [hnx2.out]; omega
        rw [List.length_append] at hll
        have hc := cat_bytes t [32]
        have hc2 := cat_bytes (t ++ [32]) tl
        have ha := fun W => run_catT hc (by show t.length + 1 ≤ _; simp only [List.length_append, List.length_singleton] at hll; omega) W
        have ha2 := fun W => run_catT hc2 (by show (t ++ [32]).length + tl.length ≤ _; omega) W
        obtain ⟨t2, ht2⟩ : ∃ t2, Hid (t2 = t ++ [32] ++ tl) := ⟨t ++ [32] ++ tl, rfl⟩
        obtain ⟨t1, ht1⟩ : ∃ t1, Hid (t1 = t ++ [32]) := ⟨t ++ [32], rfl⟩
        rw [← ht2.out] at hnx2 ha2
        rw [← ht1.out] at ha ha2
        clear hnx hb1 e1 hb2 hc hc2 hne hll hres
        go_wp2_with fail
        go_round
        case rel => exact ⟨k + 1, t2, by omega, by go_num, rfl, hnx2⟩
        case measure => simp [intOf]; omega
    · obtain rfl : k = L.length := by omega
      have hJ2 : t = J := by rw [hres.out, List.take_length, hJ.out]
      subst hJ2
      go_wp2_with fail
      go_ret
      exact ⟨rfl, rfl⟩
end Go.Proofs.Ytfbkddpapjpgbaa
