/- slices.Clone of ints and of atoms. -/
import Derived.Test.YtbgdljcgbhhfdaaDoorTabC
namespace Go.Proofs.YtbgdljcgbhhfdaaDoor
open Go.RowKit

def intL (x : Int) : List Value := [.int .i64 x]
theorem int_reads {W : World} {a : Option Addr} {n c : Nat} {L : List Int} (h : IRow W (.slice a n c) L) : Reads W W.heap.size 1 a n (L.flatMap intL) :=
  krow_reads (f := intL) (by decide) (fun _ => rfl) (fun b o x hx j u hu => by
    match j, hu with
    | 0, hu => have e : Value.int .i64 x = u := by simpa [intL] using hu
               rw [← e]; exact hx) h
theorem intL_one (x : Int) : ∀ u ∈ intL x, u.oneCell' = true := by simp [intL, Value.oneCell']
theorem run_nilints (a : Option Addr) (l c : Nat) (W : World) : (binOp .eql 42 (.slice a l c) (.slice none 0 0)).run Tryd.prog W = .ok (.bool a.isNone) W := by
  simp only [binOp]
  simp [run_equal_slice_nil W 42 _ a l c Tryd.underlying42]
theorem info_ints : (Tryd.prog.info? 3).map (fun i => (i.zero, i.size, i.bytes)) = some (some (.int .i64 0), 1, 8) := by kernel_rfl
section
attribute [local go_sem ↓] run_nilints
set_option maxHeartbeats 1000000 in
set_option maxRecDepth 100000 in
theorem clone_ints (v : Value) (L : List Int) (w : World) (hv : IRow w v L) (hm : L.length ≤ 1000000) :
    Calls Tryd.prog 35 #[v] w fun e w' => ∃ v', e = .returned v' ∧ w'.ownsRow w.heap.size 3 1 v' L.length (L.flatMap intL) ∧ Since w w' := by
  obtain ⟨a, c, rfl⟩ := hv.slice
  cases a with
  | none =>
    have hL : L = [] := by
      rcases Nat.eq_zero_or_pos L.length with h | h
      · exact List.eq_nil_of_length_eq_zero h
      · obtain ⟨b, o, h1, _⟩ := hv.get h; cases h1
    subst hL
    go_enter Tryd.func35, Tryd.ntmps35
    go_wp2_with fail
    go_ret
    exact ⟨_, rfl, World.ownsRow_nil _ _ _ _, Since.refl _⟩
  | some ad =>
    obtain ⟨i0, hi0, hz0, hz1, hz2⟩ := info_parts info_ints
    have HI := Lib.hid (And.intro hi0 (And.intro hz0 (And.intro hz1 hz2)))
    have HR := Lib.hid (int_reads (inext hv ((Since.refl w).alloc (.cells #[] 3))))
    clear hi0 hz0 hz1 hz2 hv
    go_enter Tryd.func35, Tryd.ntmps35
    go_wp2_with (at_builtin; refine wpList_append_any _ rfl (.tmp 5) (.tmp 6) 42 rfl w.heap.size 3 i0 (.int .i64 0) 1 8 Tryd.underlying42 HI.out.1 HI.out.2.1 HI.out.2.2.1 HI.out.2.2.2 rfl (by decide) _ 0 [] rfl (own_made0 w 3 1) _ (some ad) L.length c (L.flatMap intL) rfl HR.out ?c1 ?c2 ?c3 ?c4 ?_)
    case c1 => exact flat_oneK intL_one L
    case c2 => unfold maxLen; omega
    case c3 => omega
    case c4 => simp
    intro v' w' hown hgrow _
    have hB : Since w w' := Below.grown ((Since.refl w).alloc _) hgrow (by simp) (own_ge (own_made0 w 3 1))
    clear HR hgrow
    go_wp2_with fail
    go_ret
    refine ⟨_, rfl, ?_, hB⟩
    simpa using hown
end
theorem run_nilatms (a : Option Addr) (l c : Nat) (W : World) : (binOp .eql 22 (.slice a l c) (.slice none 0 0)).run Tryd.prog W = .ok (.bool a.isNone) W := by
  simp only [binOp]
  simp [run_equal_slice_nil W 22 _ a l c Tryd.underlying22]
theorem info_atms : (Tryd.prog.info? 34).map (fun i => (i.zero, i.size, i.bytes)) = some (some (.agg #[.string ByteArray.empty, .string ByteArray.empty, .int .i64 0, .bool false, .string ByteArray.empty, .bool false, .string ByteArray.empty, .bool false, .string ByteArray.empty, .bool false, .string ByteArray.empty]), 11, 136) := by kernel_rfl
section
attribute [local go_sem ↓] run_nilatms
set_option maxHeartbeats 1000000 in
set_option maxRecDepth 100000 in
theorem clone_atms (v : Value) (L : List Atm) (w : World) (hv : ARow w v L) (hm : L.length ≤ 1000000) :
    Calls Tryd.prog 38 #[v] w fun e w' => ∃ v', e = .returned v' ∧ w'.ownsRow w.heap.size 34 11 v' L.length (L.flatMap atmL) ∧ Since w w' := by
  obtain ⟨a, c, rfl⟩ := hv.slice
  cases a with
  | none =>
    have hL : L = [] := by
      rcases Nat.eq_zero_or_pos L.length with h | h
      · exact List.eq_nil_of_length_eq_zero h
      · obtain ⟨b, o, h1, _⟩ := hv.get h; cases h1
    subst hL
    go_enter Tryd.func38, Tryd.ntmps38
    go_wp2_with fail
    go_ret
    exact ⟨_, rfl, World.ownsRow_nil _ _ _ _, Since.refl _⟩
  | some ad =>
    obtain ⟨i0, hi0, hz0, hz1, hz2⟩ := info_parts info_atms
    have HI := Lib.hid (And.intro hi0 (And.intro hz0 (And.intro hz1 hz2)))
    have HR := Lib.hid (atm_reads (anext hv ((Since.refl w).alloc (.cells #[] 34))))
    clear hi0 hz0 hz1 hz2 hv
    go_enter Tryd.func38, Tryd.ntmps38
    go_wp2_with (at_builtin; refine wpList_append_any _ rfl (.tmp 5) (.tmp 6) 22 rfl w.heap.size 34 i0 (.agg #[.string ByteArray.empty, .string ByteArray.empty, .int .i64 0, .bool false, .string ByteArray.empty, .bool false, .string ByteArray.empty, .bool false, .string ByteArray.empty, .bool false, .string ByteArray.empty]) 11 136 Tryd.underlying22 HI.out.1 HI.out.2.1 HI.out.2.2.1 HI.out.2.2.2 rfl (by decide) _ 0 [] rfl (own_made0 w 34 11) _ (some ad) L.length c (L.flatMap atmL) rfl HR.out ?c1 ?c2 ?c3 ?c4 ?_)
    case c1 => exact flat_oneK atmL_one L
    case c2 => unfold maxLen; omega
    case c3 => omega
    case c4 => simp
    intro v' w' hown hgrow _
    have hB : Since w w' := Below.grown ((Since.refl w).alloc _) hgrow (by simp) (own_ge (own_made0 w 34 11))
    clear HR hgrow
    go_wp2_with fail
    go_ret
    refine ⟨_, rfl, ?_, hB⟩
    simpa using hown
end
end Go.Proofs.YtbgdljcgbhhfdaaDoor
