/- lexer.Text: the tokens' texts, a blank between. -/
import Derived.Test.YtfbkddpapjpgbaaLexSame
namespace Go.Proofs.Ytfbkddpapjpgbaa
open Go.RowKit

theorem infoStr : (Try.prog.info? 9).map (fun i => (i.zero, i.size, i.bytes)) = some (some (.string ByteArray.empty), 1, 16) := by kernel_rfl
theorem join_blanks : ∀ (L : List (List UInt8)), Lib.join L [32] = blanksL L
  | [] => rfl
  | [x] => by simp [Lib.join, List.intercalate, blanksL]
  | x :: y :: r => by
    have ih := join_blanks (y :: r)
    have e : Lib.join (x :: y :: r) [32] = x ++ ([32] ++ Lib.join (y :: r) [32]) := by simp [Lib.join, List.intercalate]
    rw [e, ih, blanksL]; rfl
/-- strings.Join at texts, wherever they lie. -/
theorem join_any (v : Value) (L : List (List UInt8)) (sep : List UInt8) (w : World) (h : Row w v L.length (L.map strV)) (hm : L.length ≤ 100000) (hl : (Lib.join L sep).length ≤ 1000000) :
    Calls Try.prog 27 #[v, .string ⟨sep.toArray⟩] w fun e w' => e = .returned (.string ⟨(Lib.join L sep).toArray⟩) ∧ Since w w' := by
  by_cases h0 : 0 < L.length
  · obtain ⟨b, o, c, rfl, hc, hcell⟩ := h.some h0
    have e : (L.map fun l => ByteArray.mk l.toArray).map (fun x => x.data.toList) = L := by
      rw [List.map_map]
      have : ((fun x : ByteArray => x.data.toList) ∘ fun l : List UInt8 => ByteArray.mk l.toArray) = id := rfl
      rw [this, List.map_id]
    have hk := Try.strings_Join b o c (L.map fun l => ByteArray.mk l.toArray) ⟨sep.toArray⟩ w (by
      intro j x hj
      rw [List.getElem?_map, Option.map_eq_some_iff] at hj
      obtain ⟨y, hy, rfl⟩ := hj
      obtain ⟨hj', rfl⟩ := List.getElem?_eq_some_iff.1 hy
      have := hcell j (by simpa using hj')
      rw [this]
      simp [strV]) (by
      have := World.block_lt_of_cell? w _ (hcell 0 (by simpa using h0))
      exact this) (by rw [List.length_map]; omega) (by rw [List.length_map]; exact hc) (by rw [e]; show (Lib.join L sep).length ≤ _; omega)
    rw [e, List.length_map] at hk
    exact hk.mono fun _ _ he => he
  · have hn : L = [] := List.eq_nil_of_length_eq_zero (by omega)
    subst hn
    obtain ⟨a, c, rfl⟩ := h.len
    refine (Try.strings_Join_none a c ⟨sep.toArray⟩ w).mono fun e w' he => ⟨?_, ?_⟩
    · rw [he.1]; rfl
    · rw [he.2]; exact Since.refl _

def textsK (L : List Tk) : List (List UInt8) := L.map fun t => t.2.1
set_option maxHeartbeats 1000000 in
theorem text_any (v : Value) (L : List Tk) (w : World) (h : Row w v L.length (L.flatMap tkL)) (hm : L.length ≤ 100000) (hl : (blanksL (textsK L)).length ≤ 1000000) :
    Calls Try.prog 13 #[v] w fun e w' => e = .returned (.string ⟨(blanksL (textsK L)).toArray⟩) ∧ Since w w' := by
  obtain ⟨i0, hi, hz0, hz1, hz2⟩ := info_parts infoStr
  have HI := Lib.hid (And.intro hi (And.intro hz0 (And.intro hz1 hz2)))
  clear hi hz0 hz1 hz2
  obtain ⟨J, hJ⟩ : ∃ J, Hid (J = blanksL (textsK L)) := ⟨_, rfl⟩
  rw [← hJ.out] at hl ⊢
  obtain ⟨a, c, rfl⟩ := h.len
  have HR := Lib.hid h
  clear h
  go_enter Try.func13, Try.ntmps13
  go_wp2_with fail
  go_loopw [3, 8] (fun v i wr => ∃ (k : Nat) (acc : List (List UInt8)), k ≤ L.length ∧ i = .int .i64 k ∧ acc.length ≤ k ∧ wr.ownsRow w.heap.size 9 1 v acc.length (acc.map strV) ∧ Since w wr ∧ Hid (acc = textsK (L.take k))) (fun _ i _ => L.length - (intOf i).toNat)
  case atStart => exact ⟨0, [], by omega, rfl, by simp, ⟨rfl, .inl ⟨rfl, rfl⟩⟩, Since.refl _, rfl⟩
  case round =>
    obtain ⟨k, acc, hk, rfl, hacc, hown, hSr, hres⟩ := hrel
    by_cases hlt : k < L.length
    · obtain ⟨b, o, c', he, hc, hcells⟩ := (HR.out.next hSr).some (by omega)
      cases he
      obtain ⟨d1, d2, d3⟩ := tk_at hcells hlt
      have hnx : Hid (acc ++ [L[k].2.1] = textsK (L.take (k + 1))) := by
        show _ = _
        rw [hres.out, List.take_succ_eq_append_getElem hlt, textsK, textsK, List.map_append]; rfl
      have hsz := hSr.size
      clear hcells
      generalize L[k] = t at *
      obtain ⟨tk, tl, ta⟩ := t
      simp only at d1 d2 d3
      go_wp2_with (at_builtin; refine wpList_append_own _ rfl (.tmp 12) (.tmp 15) 46 rfl w.heap.size 9 i0 (.string ByteArray.empty) 1 16 Try.underlying46 HI.out.1 HI.out.2.1 HI.out.2.2.1 HI.out.2.2.2 rfl (by decide) _ acc.length (acc.map strV) rfl ((hown.alloc _).alloc _) ⟨wr.heap.size + 1, 0, none⟩ 1 1 [.string ⟨tl.toArray⟩] rfl rfl (one_new2 _ _ _ _) ?c1 ?c2 ?c3 ?c4 ?_)
      case c1 => simp [Value.oneCell']
      case c2 => unfold maxLen; omega
      case c3 => omega
      case c4 => first | omega | (simp; omega)
      intro v' w1' hown' hgrow _
      have hB1 : Since w w1' := Below.grown ((hSr.alloc _).alloc _) hgrow (by simp; omega) (own_ge hown)
      clear hown hgrow hSr hres
      go_wp2_with fail
      go_roundw
      case rel => exact ⟨k + 1, acc ++ [tl], by omega, by go_num, by simp; omega, by simpa [strV] using hown', hB1, hnx⟩
      case measure => simp [intOf]; omega
    · obtain rfl : k = L.length := by omega
      have hacc2 : acc = textsK L := by rw [hres.out, List.take_length]
      have hJ2 : J = Lib.join acc [32] := by rw [hJ.out, join_blanks, hacc2]
      have HJJ := Lib.hid (join_any _ acc [32] wr (row_of_own hown) (by omega) (by rw [← hJ2]; omega))
      rw [← hJ2] at HJJ
      clear hown hlt hacc2 hJ2
      go_wp2_with fail
      refine HJJ.out.mono ?_
      rintro e w5 ⟨rfl, hb5⟩
      go_wp2_with fail
      go_ret
      exact ⟨rfl, hSr.trans hb5⟩
end Go.Proofs.Ytfbkddpapjpgbaa
