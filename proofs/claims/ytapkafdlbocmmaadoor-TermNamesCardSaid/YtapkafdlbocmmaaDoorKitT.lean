/- vouchsafekit at terms: C, V, Own[Term]. -/
import Derived.Test.YtapkafdlbocmmaaDoorRow
import Derived.Test.YtapkafdlbocmmaaDoorTermM
namespace Go.Proofs.YtapkafdlbocmmaaDoor
open Go.RowKit

set_option maxHeartbeats 400000 in
theorem kC_any (l : List UInt8) (w : World) :
    Calls Tryd.prog 27 #[.string ⟨l.toArray⟩] w fun e w' => e = .returned (.agg #[.bool false, .string ⟨l.toArray⟩]) ∧ Since w w' := by
  go_enter Tryd.func27, Tryd.ntmps27
  go_wp2
  exact bodyPost_ret (v := .agg #[.bool false, .string ⟨l.toArray⟩]) (by simp [results, Tryd.results27, go_sem]) rfl ⟨rfl, (Since.refl _).alloc _⟩
set_option maxHeartbeats 400000 in
theorem kV_any (l : List UInt8) (w : World) :
    Calls Tryd.prog 25 #[.string ⟨l.toArray⟩] w fun e w' => e = .returned (.agg #[.bool true, .string ⟨l.toArray⟩]) ∧ Since w w' := by
  go_enter Tryd.func25, Tryd.ntmps25
  go_wp2
  exact bodyPost_ret (v := .agg #[.bool true, .string ⟨l.toArray⟩]) (by simp [results, Tryd.results25, go_sem]) rfl ⟨rfl, (Since.refl _).alloc _⟩

theorem infoTm : (Tryd.prog.info? 23).map (fun i => (i.zero, i.size, i.bytes)) = some (some (.agg #[.bool false, .string ByteArray.empty]), 2, 24) := by kernel_rfl
/-- A result that is a list of things in new memory. -/
def News {α : Type} (E K : Nat) (f : α → List Value) (w : World) (L : List α) (e : Ending) (w' : World) : Prop := ∃ v, e = .returned v ∧ w'.ownsRow w.heap.size E K v L.length (L.flatMap f) ∧ Since w w'
theorem tmRow_of {W : World} {v : Value} {L : List Tm} (h : RowOf 2 tmC W v L) (h0 : v = .slice none 0 0 ∨ 0 < L.length) : TmRow W v L := by
  obtain ⟨a, c, h1, h2, h3, h4⟩ := h
  by_cases hl : 0 < L.length
  · obtain ⟨b, o, rfl, hc⟩ := h4 hl
    exact .inr ⟨b, o, c, h1, h2, fun k hk => ⟨hc k hk 0 _ rfl, hc k hk 1 _ rfl⟩⟩
  · rcases h0 with h0 | h0
    · exact .inl ⟨h0, List.eq_nil_of_length_eq_zero (by omega)⟩
    · exact absurd h0 hl

theorem own_empty (w : World) (e : TypeId) (K : Nat) : (w.alloc (.cells #[] e)).ownsRow w.heap.size e K (.slice (some ⟨w.heap.size, 0, none⟩) 0 0) 0 [] :=
  ⟨by simp, .inr ⟨w.heap.size, 0, #[], rfl, Nat.le_refl _, heap_alloc_new w _, Nat.le_refl _, Nat.zero_le _, by simp, by simp⟩⟩
theorem tm_one (L : List Tm) : ∀ u ∈ L.flatMap tmC, u.oneCell' = true := by
  intro u hu
  obtain ⟨t, _, h⟩ := List.mem_flatMap.1 hu
  simp only [tmC, List.mem_cons, List.not_mem_nil, or_false] at h
  rcases h with rfl | rfl <;> rfl

set_option maxHeartbeats 400000 in
theorem ownTm_any (v : Value) (L : List Tm) (w : World) (hv : RowOf 2 tmC w v L) (hm : L.length ≤ 1000000) :
    Calls Tryd.prog 20 #[v] w (News 23 2 tmC w L) := by
  obtain ⟨i0, hi, hz0, hz1, hz2⟩ := info_parts infoTm
  have HI := Lib.hid (And.intro hi (And.intro hz0 (And.intro hz1 hz2)))
  obtain ⟨a, c, rfl⟩ := hv.form
  have HR := Lib.hid (reads_of_rowOf tmC_len (hv.next ((Since.refl w).alloc (.cells #[] 23))) (by decide))
  clear hi hz0 hz1 hz2 hv
  go_enter Tryd.func20, Tryd.ntmps20
  go_wp2_with (at_builtin; refine wpList_append_any _ rfl (.tmp 3) (.tmp 4) 36 rfl w.heap.size 23 i0 (.agg #[.bool false, .string ByteArray.empty]) 2 24 Tryd.underlying36 HI.out.1 HI.out.2.1 HI.out.2.2.1 HI.out.2.2.2 rfl (by decide) _ 0 [] rfl (own_empty w 23 2) _ a L.length c (L.flatMap tmC) rfl HR.out ?c1 ?c2 ?c3 ?c4 ?_)
  case c1 => exact tm_one L
  case c2 => unfold maxLen; omega
  case c3 => omega
  case c4 => simp
  intro v' w' hown hgrow _
  have hB : Since w w' := Below.grown ((Since.refl w).alloc _) hgrow (by simp) (own_ge (own_empty w 23 2))
  clear HR hgrow
  go_wp2_with fail
  go_ret
  refine ⟨_, rfl, ?_, hB⟩
  simpa using hown
end Go.Proofs.YtapkafdlbocmmaaDoor
