/- Bindings under bindings (under). -/
import Derived.Test.YtdlnmkdbjgbimaaGreatDoorUniE
import Derived.Test.YtdlnmkdbjgbimaaGreatDoorAppendOwn
import Derived.Deep.RegionLawGrows
namespace Go.Proofs.YtdlnmkdbjgbimaaGreatDoor
open Go.RowKit

theorem bndInfo : (Tryz.prog.info? 101).map (fun i => (i.zero, i.size, i.bytes)) = some (some (.agg #[.string ⟨#[]⟩, .bool false, .string ⟨#[]⟩]), 3, 40) := by kernel_rfl
theorem cells_lit (W : World) (cs : Array Value) (t : TypeId) (g : Nat) (hg : W.heap.size = g) : ∀ j u, cs.toList[j]? = some u → (W.alloc (.cells cs t)).cell? ((⟨g, 0, none⟩ : Addr).add j) = some u := by
  intro j u hj
  subst hg
  rw [add_form, Nat.zero_add, World.cell?_alloc_new]
  simpa using hj
theorem bnd_one (b : Bnd) : ∀ u ∈ bndC b, u.oneCell' = true := by
  intro u hu
  simp only [bndC, List.mem_cons, List.not_mem_nil, or_false] at hu
  rcases hu with rfl | rfl | rfl <;> rfl
theorem under_step {L M : List Bnd} {k : Nat} (hk : k < L.length) : underB (L.take (k + 1)) M = underB (L.take k) M ++ [(L[k].1, termS M L[k].2)] := by
  unfold underB
  rw [List.take_succ_eq_append_getElem hk, List.map_append]; rfl
theorem under_len (L M : List Bnd) : (underB L M).length = L.length := List.length_map _
theorem ownB_since {W W' : World} {base : Nat} {e : TypeId} {size : Nat} {v : Value} {n : Nat} {xs : List Value} (h : W.ownsRow base e size v n xs) (hs : Since W W') : W'.ownsRow base e size v n xs := by
  obtain ⟨hl, h | ⟨g, cap, cur, hv, hb, hg, r⟩⟩ := h
  · exact ⟨hl, .inl h⟩
  · exact ⟨hl, .inr ⟨g, cap, cur, hv, hb, (Below.block hs g (Array.getElem?_eq_some_iff.1 hg).1).trans hg, r⟩⟩
theorem flat_push {P : List Bnd} {b : Bnd} : (P ++ [b]).flatMap bndC = P.flatMap bndC ++ bndC b := by simp
/-- A row of bindings whose address is known, or the nil slice. -/
def RowS (W : World) (v : Value) (L : List Bnd) : Prop := RowOf 3 bndC W v L ∧ ((v = .slice none 0 0 ∧ L = []) ∨ ∃ b o c, v = .slice (some ⟨b, o, none⟩) L.length c)
theorem RowS.next {W W' : World} {v : Value} {L : List Bnd} (h : RowS W v L) (hs : Since W W') : RowS W' v L := ⟨h.1.next hs, h.2⟩
theorem rowS_of_own {W : World} {base : Nat} {e : TypeId} {v : Value} {n : Nat} {L : List Bnd} (h : W.ownsRow base e 3 v n (L.flatMap bndC)) (hL : L.length = n) : RowS W v L := by
  refine ⟨rowOf_of_own bndC_len h hL, ?_⟩
  subst hL
  rcases h.2 with ⟨h1, h2⟩ | ⟨g, cap, cur, hv, _⟩
  · exact .inl ⟨h1, List.eq_nil_of_length_eq_zero h2⟩
  · exact .inr ⟨_, _, _, hv⟩
set_option maxHeartbeats 4000000 in
set_option maxRecDepth 100000 in
theorem under_any (v1 v2 : Value) (L M : List Bnd) (w : World) (h1 : RowOf 3 bndC w v1 L) (h2 : RowOf 3 bndC w v2 M) (hr : Rises M) (hm1 : L.length ≤ 1000000) (hm2 : M.length ≤ 1000000) :
    Calls Tryz.prog 89 #[v1, v2] w fun e w' => ∃ v, e = .returned v ∧ RowS w' v (underB L M) ∧ Since w w' := by
  obtain ⟨a, c, rfl⟩ := h1.form
  have HV := Lib.hid h1
  have HT := Lib.hid (fun tv tl W (h : Since w W) => sterm_any v2 M tv tl W (h2.next h) hr hm2)
  obtain ⟨i0, hi0, hz0, hz1, hz2⟩ := info_parts bndInfo
  have HI := Lib.hid (And.intro hi0 (And.intro hz0 (And.intro hz1 hz2)))
  clear h1 hi0 hz0 hz1 hz2
  go_enter Tryz.func89, Tryz.ntmps89
  go_wp2_with fail
  go_loopw [5, 10] (fun s i wr => ∃ k : Nat, k ≤ L.length ∧ i = .int .i64 (k : Int) ∧ Since w wr ∧ wr.ownsRow w.heap.size 101 3 s k ((underB (L.take k) M).flatMap bndC)) (fun _ i _ => L.length - (intOf i).toNat)
  case atStart => exact ⟨0, by omega, rfl, Since.refl _, World.ownsRow_nil _ _ _ _⟩
  case round =>
    obtain ⟨k, hk, rfl, hS, how⟩ := hrel
    by_cases hlt : k < L.length
    · obtain ⟨b, o, he, _, hc, hat⟩ := bnd_get (HV.out.next hS) (by omega)
      cases he
      obtain ⟨d0, d1, d2⟩ := hat k hlt
      have hg2 : (k : Int) < (L.length : Int) := by omega
      have hst := under_step (M := M) hlt
      have HST := Lib.hid hst
      clear hat hst
      generalize L[k] = x at *
      obtain ⟨xs, xv, xt⟩ := x
      simp only at d0 d1 d2 HST
      have hS2 : Since w (wr.alloc (.cells #[.string ⟨xs.toArray⟩, .bool xv, .string ⟨xt.toArray⟩] 101)) := hS.alloc _
      have K : Hid (Cel (wr.alloc (.cells #[.string ⟨xs.toArray⟩, .bool xv, .string ⟨xt.toArray⟩] 101)) wr.heap.size #[.string ⟨xs.toArray⟩, .bool xv, .string ⟨xt.toArray⟩] 101) := heap_alloc_new wr _
      obtain ⟨k0, k1, k2⟩ := K.out.three
      have how2 := how.alloc (.cells #[.string ⟨xs.toArray⟩, .bool xv, .string ⟨xt.toArray⟩] 101)
      obtain ⟨y, hy⟩ : ∃ y, Hid (y = termS M (xv, xt)) := ⟨_, rfl⟩
      have HC := Lib.hid (HT.out xv xt)
      rw [← hy.out] at HC HST
      obtain ⟨yv, yt⟩ := y
      simp only [tmV] at HC
      clear HT hy
      go_wp2_with fail
      have hS2d : Since w (wr.alloc (.cells #[.string ⟨xs.toArray⟩, .bool xv, .string ⟨xt.toArray⟩] 101)).drew := hS2.drew
      have how2d : (wr.alloc (.cells #[.string ⟨xs.toArray⟩, .bool xv, .string ⟨xt.toArray⟩] 101)).drew.ownsRow w.heap.size 101 3 u5 k ((underB (L.take k) M).flatMap bndC) := how2
      have Kd : Cel (wr.alloc (.cells #[.string ⟨xs.toArray⟩, .bool xv, .string ⟨xt.toArray⟩] 101)).drew wr.heap.size #[.string ⟨xs.toArray⟩, .bool xv, .string ⟨xt.toArray⟩] 101 := K.out
      go_region_law (first
        | (go_simp; go_at_call 86; (with_reducible refine Calls.mono (HC.out _ ?_) ?_); (first | exact hS2d | exact hS2); rintro e w8 ⟨rfl, hb8⟩; have hK8 := Kd.next hb8; obtain ⟨m0, m1, m2⟩ := hK8.three; have how8 := ownB_since how2d hb8; have hS8 := hS2d.trans hb8; have hz8 : w.heap.size ≤ w8.heap.size := hS8.size)
        | ((refine step_append_own rfl (.tmp 14) (.tmp 22) 86 rfl w.heap.size 101 i0 (.agg #[.string ⟨#[]⟩, .bool false, .string ⟨#[]⟩]) 3 40 Tryz.underlying86 HI.out.1 HI.out.2.1 HI.out.2.2.1 HI.out.2.2.2 rfl (by decide) u5 k ((underB (L.take k) M).flatMap bndC) rfl (how8.alloc _) ⟨w8.heap.size, 0, none⟩ 1 1 (bndC (xs, (yv, yt))) rfl rfl (cells_lit _ _ _ _ rfl) (bnd_one _) (by unfold maxLen; omega) (by omega) (by simp; omega) ?_); intro v9 w9 hown9 hg9 _; have hB9 := below_append hS8 hz8 how8 hg9))
      all_goals
        rw [← flat_push, ← HST.out] at hown9
        go_wp2_with fail
        go_roundw
        case rel => exact ⟨k + 1, by omega, by go_num, hB9, hown9⟩
        case measure => simp [intOf]; omega
    · have hlt2 : ¬ (k : Int) < (L.length : Int) := by omega
      have hkl : k = L.length := by omega
      subst hkl
      rw [List.take_length] at how
      go_wp2_with fail
      go_ret
      exact ⟨_, rfl, rowS_of_own how (under_len _ _), hS⟩
end Go.Proofs.YtdlnmkdbjgbimaaGreatDoor
