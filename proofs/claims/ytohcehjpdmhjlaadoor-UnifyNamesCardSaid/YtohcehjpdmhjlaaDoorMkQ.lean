/- Marked atoms: their variables, apart for different marks, one behind the other they unify; no program in sight. -/
import Derived.Test.YtohcehjpdmhjlaaDoorMkP
import Derived.Test.YtohcehjpdmhjlaaDoorUniMp
import Derived.Test.YtohcehjpdmhjlaaDoorTermP
namespace Go.Proofs.YtohcehjpdmhjlaaDoor
open Go.RowKit

theorem mark_inj {m k : Nat} (h : Lib.decDigits m = Lib.decDigits k) : m = k := by
  have h1 := decFrom_digits m
  rw [h, decFrom_digits k] at h1
  exact (Option.some.inj h1).symm
/-- Two marked names that are one have one mark. -/
theorem marked_inj {l l' d d' : List UInt8} (hd : (35 : UInt8) ∉ d) (hd' : (35 : UInt8) ∉ d') (h : l ++ 35 :: d = l' ++ 35 :: d') : l = l' ∧ d = d' := by
  have e1 := last_mark l d hd
  have e2 := last_mark l' d' hd'
  rw [h, e2] at e1
  have hl : l.length = l'.length := by omega
  have := List.append_inj h hl
  exact ⟨this.1, by injection this.2⟩
theorem markT_2 {x : List UInt8} {t : Tm} (h : t.1 = true) : markT x t = (true, t.2 ++ x) := by unfold markT; rw [if_pos h]
theorem namesF_mark (x : List UInt8) : ∀ (L : List Tm) (acc : List (List UInt8)), namesF true (L.map (markT x)) (acc.map (· ++ x)) = (namesF true L acc).map (· ++ x)
  | [], acc => rfl
  | t :: L, acc => by
    rw [List.map_cons, namesF, namesF]
    have hc : (acc.map (· ++ x)).contains (t.2 ++ x) = acc.contains t.2 := by
      rw [Bool.eq_iff_iff, List.contains_iff_mem, List.contains_iff_mem, List.mem_map]
      constructor
      · rintro ⟨y, hy, he⟩
        rw [List.append_cancel_right he] at hy; exact hy
      · intro h; exact ⟨_, h, rfl⟩
    cases ht : t.1
    · have e : markT x t = t := by unfold markT; rw [ht]; rfl
      rw [e, ht]
      exact namesF_mark x L acc
    · rw [markT_2 ht]
      simp only
      rw [hc]
      cases acc.contains t.2
      · have e : acc.map (· ++ x) ++ [t.2 ++ x] = (acc ++ [t.2]).map (· ++ x) := by simp
        simp only [beq_self_eq_true, Bool.not_false, Bool.and_true, if_true]
        rw [e]
        exact namesF_mark x L _
      · simp only [Bool.not_true, Bool.and_false, Bool.false_eq_true, if_false]
        exact namesF_mark x L acc
theorem namesA_pad {s p : List UInt8} {L : List Tm} (h : L.length ≤ 4) : namesA (padN s p L) true = namesF true L [] := by
  unfold namesA
  rw [pad_take h]
theorem names_mark {a : Atm} (ka : checkA a = 0) (x : List UInt8) : namesA (markA x a) true = (namesA a true).map (· ++ x) := by
  obtain ⟨L, hL, ea, _⟩ := valid_pad ka
  rw [ea, mark_pad hL.1, namesA_pad (by rw [List.length_map]; exact hL.1), namesA_pad hL.1]
  exact namesF_mark x L []
/-- A name up to its mark. -/
def cutM (t : Tm) : Tm := if t.1 then (true, t.2.takeWhile fun b => b != 35) else t
theorem cut_mark {t : Tm} (h : t.1 = true → (35 : UInt8) ∉ t.2) (d : List UInt8) : cutM (markT (35 :: d) t) = t := by
  cases ht : t.1
  · have e : markT (35 :: d) t = t := by unfold markT; rw [ht]; rfl
    rw [e]; unfold cutM; rw [ht]; rfl
  · rw [markT_2 ht]
    unfold cutM
    rw [if_pos rfl]
    have h2 := h ht
    have e : (t.2 ++ 35 :: d).takeWhile (fun b => b != 35) = t.2 := by
      rw [List.takeWhile_append_of_pos (fun b hb => by
        rw [bne_iff_ne]; rintro rfl; exact h2 hb)]
      simp
    rw [e]
    exact Prod.ext ht.symm rfl
/-- One atom with two marks: the two unify. -/
theorem uni_marks {a : Atm} (ka : checkA a = 0) (d d' : List UInt8) : ∃ m, uniA (markA (35 :: d) a) (markA (35 :: d') a) = some m := by
  obtain ⟨L, hL, ea, _, _, ht⟩ := valid_pad ka
  rw [ea, mark_pad hL.1, mark_pad hL.1, uniA_pad (by rw [List.length_map]; exact hL.1) (by rw [List.length_map]; exact hL.1), if_pos ⟨rfl, rfl, by rw [List.length_map, List.length_map]⟩]
  have hn : ∀ t ∈ L, t.1 = true → (35 : UInt8) ∉ t.2 := fun t h hv => no_mark (ht t h) hv
  have hN : ∀ e : List UInt8, ∀ t ∈ L.map (markT (35 :: e)), t.2 ≠ [] := by
    intro e u hu
    obtain ⟨t, h, rfl⟩ := List.mem_map.1 hu
    unfold markT
    split
    · simp
    · exact (named_term (ht t h)).1
  obtain ⟨m, hm, _⟩ := uni_most (σ := cutM) (fun t h => by unfold cutM; rw [h]; rfl) InvB.nil (P := (L.map (markT (35 :: d))).zip (L.map (markT (35 :: d')))) (by
      intro q hq
      have := List.of_mem_zip (show (q.1, q.2) ∈ _ from hq)
      exact ⟨hN d _ this.1, hN d' _ this.2⟩) (fun t => by rw [termS_nil]) (by
      rw [map_zip (by rw [List.length_map, List.length_map]), List.map_map, List.map_map]
      exact List.map_congr_left fun t h => by
        show cutM (markT _ t) = cutM (markT _ t)
        rw [cut_mark (hn t h), cut_mark (hn t h)])
  exact ⟨m, hm⟩
end Go.Proofs.YtohcehjpdmhjlaaDoor
