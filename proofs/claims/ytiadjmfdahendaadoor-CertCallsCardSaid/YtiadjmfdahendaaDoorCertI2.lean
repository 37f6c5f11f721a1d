/- The reader's step: its walk (under way: ends in a gap). -/
import Derived.Test.YtiadjmfdahendaaDoorCertI
import Derived.Test.YtiadjmfdahendaaDoorAppendOwn
import Derived.Lib.SmallJoins
namespace Go.Proofs.YtiadjmfdahendaaDoor
open Go.RowKit

theorem stpInfo : (Tryd.prog.info? 39).map (·.size) = some 13 := by kernel_rfl
theorem infoInt : (Tryd.prog.info? 3).map (fun i => (i.zero, i.size, i.bytes)) = some (some (.int .i64 0), 1, 8) := by kernel_rfl
def natV (x : Nat) : Value := .int .i64 (x : Int)
/-- What stands behind the append of a cite, told ahead of its store. -/
theorem steptail {w w8 w9 : World} {g : Nat} {T : TypeId} {s : List UInt8} {j1 : Nat} {b1 : Bool} {x : Stp} {cv v9 : Value} {m v : Nat} {L : List Nat} (hB : BlkS w8 w.heap.size x cv) (hR : Rdr w8 g T s j1 b1) (ho : w8.ownsRow (w.heap.size + 1) 3 1 cv m (L.map natV)) (hg : w.grownBy w8 (some g))
    {t : TypeId} (hg9 : (w8.alloc (.cells #[natV v] t)).grownBy w9 cv.ownBlock) (h9 : w9.ownsRow (w.heap.size + 1) 3 1 v9 (m + 1) (L.map natV ++ [natV v])) (hgw : g < w.heap.size) :
    ∃ g9 c9, v9 = .slice (some ⟨g9, 0, none⟩) (m + 1) c9 ∧ w9.cell? ⟨w.heap.size, 12, none⟩ = some cv ∧ w9.frozen? ⟨w.heap.size, 12, none⟩ = false ∧ w.heap.size < w9.heap.size ∧
      Hid (∀ W, W = w9.setCell ⟨w.heap.size, 12, none⟩ (.slice (some ⟨g9, 0, none⟩) (m + 1) c9) → Rdr W g T s j1 b1 ∧ BlkS W w.heap.size x (.slice (some ⟨g9, 0, none⟩) (m + 1) c9) ∧ W.ownsRow (w.heap.size + 1) 3 1 (.slice (some ⟨g9, 0, none⟩) (m + 1) c9) (m + 1) ((L ++ [v]).map natV) ∧ w.grownBy W (some g)) := by
  have hcv : ∀ b, cv.ownBlock = some b → w.heap.size + 1 ≤ b := fun b hb => (ho.lt b hb).1
  have hB9 := (hB.next ((Since.refl _).alloc (.cells #[natV v] t))).grown hg9 (fun e => by have := hcv _ e.symm; omega)
  have hR9 := (hR.next ((Since.refl _).alloc (.cells #[natV v] t))).grown hg9 (fun e => by have := hcv _ e.symm; omega)
  have hgg : w.grownBy w9 (some g) := gown (gsince hg ((Since.refl _).alloc (.cells #[natV v] t))) hg9 (fun b hb => by have := hcv b hb; omega)
  obtain ⟨g9, c9, rfl⟩ := Joins.ownsRow_form h9 (by omega)
  refine ⟨g9, c9, rfl, hB9.cell 12, hB9.free 12, hB9.lt, fun W hW => ?_⟩
  subst hW
  refine ⟨hR9.far (by show g ≠ w.heap.size; omega) _, hB9.set rfl, ?_, gfar hgg (Nat.le_refl _) _⟩
  rw [List.map_append]
  exact ownsRow_setCell_below h9 (Nat.lt_succ_self _) _
def zeroStp : Stp := (zeroAtm, 0, [])
set_option maxHeartbeats 4000000 in
set_option maxRecDepth 100000 in
theorem rstep_any (w0 : World) (s : List UInt8) (i : Nat) (bad : Bool) (g : Nat) (T : TypeId) (w : World) (hs : s.length ≤ 1000000) (hi : i ≤ s.length) (hR : Rdr w g T s i bad) (hE : Env w0) (hS : Since w0 w) (hg0 : w0.heap.size ≤ g) :
    Calls Tryd.prog 34 #[.pointer (some ⟨g, 0, none⟩)] w (RStepPost s i bad g T w) := by
  have HC1 := Lib.hid (fun W h => cnum_any s i bad g T W hs hi h)
  have l1 := (numS_le (bad := bad) hi).2
  have n1 := (numS_le (bad := bad) hi).1
  obtain ⟨C, hC⟩ : ∃ C, Hid (C = numS s i bad) := ⟨_, rfl⟩
  unfold NumPost at HC1
  rw [← hC.out] at HC1 l1 n1
  obtain ⟨c, i1, b1⟩ := C
  simp only at HC1 l1 n1
  have HA2 := Lib.hid (fun (W : World) (h : Rdr W g T s i1 b1) (hW : Since w0 W) => ratom_any w0 s i1 b1 g T W hs l1 h hE hW hg0)
  have l2 := atomS_le (bad := b1) l1
  obtain ⟨A, hA⟩ : ∃ A, Hid (A = atomS s i1 b1) := ⟨_, rfl⟩
  unfold RAtomPost at HA2
  rw [← hA.out] at HA2 l2
  obtain ⟨⟨u, p, n, ⟨v0, m0⟩, ⟨v1, m1⟩, ⟨v2, m2⟩, ⟨v3, m3⟩⟩, i2, b2⟩ := A
  simp only [atmC] at HA2 l2
  have HN3 := Lib.hid (fun W h => cnum_any s i2 b2 g T W hs l2 h)
  have l3 := (numS_le (bad := b2) l2).2
  have n3 := (numS_le (bad := b2) l2).1
  obtain ⟨M, hM⟩ : ∃ M, Hid (M = numS s i2 b2) := ⟨_, rfl⟩
  unfold NumPost at HN3
  rw [← hM.out] at HN3 l3 n3
  obtain ⟨k, i3, b3⟩ := M
  simp only at HN3 l3 n3
  have ec : IntKind.i64.wrap (c : Int) = (c : Int) := IntWalk.i64_in _ (by omega)
  have ec1 : IntKind.i64.wrap ((c : Int) - 1) = (c : Int) - 1 := IntWalk.i64_in _ (by omega)
  have hne : w.heap.size ≠ g := by have := hR.lt; omega
  have hsn : some w.heap.size ≠ some g := fun e => hne (by injection e)
  have hR1 : Rdr (w.alloc (.cells (stpA zeroStp (.slice none 0 0)) 39)) g T s i bad := hR.next ((Since.refl _).alloc _)
  have hB1 : BlkS (w.alloc (.cells (stpA zeroStp (.slice none 0 0)) 39)) w.heap.size zeroStp (.slice none 0 0) := by
    unfold BlkS
    exact heap_alloc_new w _
  have hg1 : w.grownBy (w.alloc (.cells (stpA zeroStp (.slice none 0 0)) 39)) (some g) := gsince (World.grownBy.refl _ _) ((Since.refl _).alloc _)
  go_enter Tryd.func34, Tryd.ntmps34
  go_wp2_with fail
  refine (HC1.out _ hR1).mono ?_
  rintro e w2 ⟨rfl, hR2, hg2⟩
  have hB2 := hB1.grown hg2 hsn
  replace hg2 := gtrans hg1 hg2
  have hl2 := hB2.lt
  have hf2 := hB2.free
  have z11 : w2.cell? ⟨w.heap.size, 11, none⟩ = some (.int .i64 0) := hB2.cell 11
  clear hR1 hB1 hg1
  go_wp2_with fail
  have hB3 : BlkS (w2.setCell ⟨w.heap.size, 11, none⟩ (.int .i64 ((c : Int) - 1))) w.heap.size (zeroAtm, (c : Int) - 1, []) (.slice none 0 0) := hB2.set rfl
  have hR3 : Rdr (w2.setCell ⟨w.heap.size, 11, none⟩ (.int .i64 ((c : Int) - 1))) g T s i1 b1 := hR2.far (fun e => hne e.symm) _
  have hg3 : w.grownBy (w2.setCell ⟨w.heap.size, 11, none⟩ (.int .i64 ((c : Int) - 1))) (some g) := gfar hg2 (Nat.le_refl _) _
  refine (HA2.out _ hR3 (since_far hS hg3 hg0)).mono ?_
  rintro e w4 ⟨rfl, hR4, hg4⟩
  have hB4 := hB3.grown hg4 hsn
  replace hg4 := gtrans hg3 hg4
  have hl4 := hB4.lt
  have hf4 := hB4.free
  have y0 : w4.cell? ⟨w.heap.size, 0, none⟩ = some (.string ⟨#[]⟩) := hB4.cell 0
  have y1 : w4.cell? ⟨w.heap.size, 1, none⟩ = some (.string ⟨#[]⟩) := hB4.cell 1
  have y2 : w4.cell? ⟨w.heap.size, 2, none⟩ = some (.int .i64 0) := hB4.cell 2
  have y3 : w4.cell? ⟨w.heap.size, 3, none⟩ = some (.bool false) := hB4.cell 3
  have y4 : w4.cell? ⟨w.heap.size, 4, none⟩ = some (.string ⟨#[]⟩) := hB4.cell 4
  have y5 : w4.cell? ⟨w.heap.size, 5, none⟩ = some (.bool false) := hB4.cell 5
  have y6 : w4.cell? ⟨w.heap.size, 6, none⟩ = some (.string ⟨#[]⟩) := hB4.cell 6
  have y7 : w4.cell? ⟨w.heap.size, 7, none⟩ = some (.bool false) := hB4.cell 7
  have y8 : w4.cell? ⟨w.heap.size, 8, none⟩ = some (.string ⟨#[]⟩) := hB4.cell 8
  have y9 : w4.cell? ⟨w.heap.size, 9, none⟩ = some (.bool false) := hB4.cell 9
  have y10 : w4.cell? ⟨w.heap.size, 10, none⟩ = some (.string ⟨#[]⟩) := hB4.cell 10
  go_wp2_with fail
  have hB5 := hB4
  have hR5 := hR4
  have hg5 := hg4
  replace hB5 := BlkS.set (x' := ((u, [], 0, (false, []), (false, []), (false, []), (false, [])), (c : Int) - 1, [])) (v' := .slice none 0 0) (j := 0) (u := .string ⟨u.toArray⟩) hB5 rfl
  replace hR5 := hR5.far (p := ⟨w.heap.size, 0, none⟩) (fun e => hne e.symm) (.string ⟨u.toArray⟩)
  replace hg5 := gfar (p := ⟨w.heap.size, 0, none⟩) hg5 (Nat.le_refl _) (.string ⟨u.toArray⟩)
  replace hB5 := BlkS.set (x' := ((u, p, 0, (false, []), (false, []), (false, []), (false, [])), (c : Int) - 1, [])) (v' := .slice none 0 0) (j := 1) (u := .string ⟨p.toArray⟩) hB5 rfl
  replace hR5 := hR5.far (p := ⟨w.heap.size, 1, none⟩) (fun e => hne e.symm) (.string ⟨p.toArray⟩)
  replace hg5 := gfar (p := ⟨w.heap.size, 1, none⟩) hg5 (Nat.le_refl _) (.string ⟨p.toArray⟩)
  replace hB5 := BlkS.set (x' := ((u, p, n, (false, []), (false, []), (false, []), (false, [])), (c : Int) - 1, [])) (v' := .slice none 0 0) (j := 2) (u := .int .i64 n) hB5 rfl
  replace hR5 := hR5.far (p := ⟨w.heap.size, 2, none⟩) (fun e => hne e.symm) (.int .i64 n)
  replace hg5 := gfar (p := ⟨w.heap.size, 2, none⟩) hg5 (Nat.le_refl _) (.int .i64 n)
  replace hB5 := BlkS.set (x' := ((u, p, n, (v0, []), (false, []), (false, []), (false, [])), (c : Int) - 1, [])) (v' := .slice none 0 0) (j := 3) (u := .bool v0) hB5 rfl
  replace hR5 := hR5.far (p := ⟨w.heap.size, 3, none⟩) (fun e => hne e.symm) (.bool v0)
  replace hg5 := gfar (p := ⟨w.heap.size, 3, none⟩) hg5 (Nat.le_refl _) (.bool v0)
  replace hB5 := BlkS.set (x' := ((u, p, n, (v0, m0), (false, []), (false, []), (false, [])), (c : Int) - 1, [])) (v' := .slice none 0 0) (j := 4) (u := .string ⟨m0.toArray⟩) hB5 rfl
  replace hR5 := hR5.far (p := ⟨w.heap.size, 4, none⟩) (fun e => hne e.symm) (.string ⟨m0.toArray⟩)
  replace hg5 := gfar (p := ⟨w.heap.size, 4, none⟩) hg5 (Nat.le_refl _) (.string ⟨m0.toArray⟩)
  replace hB5 := BlkS.set (x' := ((u, p, n, (v0, m0), (v1, []), (false, []), (false, [])), (c : Int) - 1, [])) (v' := .slice none 0 0) (j := 5) (u := .bool v1) hB5 rfl
  replace hR5 := hR5.far (p := ⟨w.heap.size, 5, none⟩) (fun e => hne e.symm) (.bool v1)
  replace hg5 := gfar (p := ⟨w.heap.size, 5, none⟩) hg5 (Nat.le_refl _) (.bool v1)
  replace hB5 := BlkS.set (x' := ((u, p, n, (v0, m0), (v1, m1), (false, []), (false, [])), (c : Int) - 1, [])) (v' := .slice none 0 0) (j := 6) (u := .string ⟨m1.toArray⟩) hB5 rfl
  replace hR5 := hR5.far (p := ⟨w.heap.size, 6, none⟩) (fun e => hne e.symm) (.string ⟨m1.toArray⟩)
  replace hg5 := gfar (p := ⟨w.heap.size, 6, none⟩) hg5 (Nat.le_refl _) (.string ⟨m1.toArray⟩)
  replace hB5 := BlkS.set (x' := ((u, p, n, (v0, m0), (v1, m1), (v2, []), (false, [])), (c : Int) - 1, [])) (v' := .slice none 0 0) (j := 7) (u := .bool v2) hB5 rfl
  replace hR5 := hR5.far (p := ⟨w.heap.size, 7, none⟩) (fun e => hne e.symm) (.bool v2)
  replace hg5 := gfar (p := ⟨w.heap.size, 7, none⟩) hg5 (Nat.le_refl _) (.bool v2)
  replace hB5 := BlkS.set (x' := ((u, p, n, (v0, m0), (v1, m1), (v2, m2), (false, [])), (c : Int) - 1, [])) (v' := .slice none 0 0) (j := 8) (u := .string ⟨m2.toArray⟩) hB5 rfl
  replace hR5 := hR5.far (p := ⟨w.heap.size, 8, none⟩) (fun e => hne e.symm) (.string ⟨m2.toArray⟩)
  replace hg5 := gfar (p := ⟨w.heap.size, 8, none⟩) hg5 (Nat.le_refl _) (.string ⟨m2.toArray⟩)
  replace hB5 := BlkS.set (x' := ((u, p, n, (v0, m0), (v1, m1), (v2, m2), (v3, [])), (c : Int) - 1, [])) (v' := .slice none 0 0) (j := 9) (u := .bool v3) hB5 rfl
  replace hR5 := hR5.far (p := ⟨w.heap.size, 9, none⟩) (fun e => hne e.symm) (.bool v3)
  replace hg5 := gfar (p := ⟨w.heap.size, 9, none⟩) hg5 (Nat.le_refl _) (.bool v3)
  replace hB5 := BlkS.set (x' := ((u, p, n, (v0, m0), (v1, m1), (v2, m2), (v3, m3)), (c : Int) - 1, [])) (v' := .slice none 0 0) (j := 10) (u := .string ⟨m3.toArray⟩) hB5 rfl
  replace hR5 := hR5.far (p := ⟨w.heap.size, 10, none⟩) (fun e => hne e.symm) (.string ⟨m3.toArray⟩)
  replace hg5 := gfar (p := ⟨w.heap.size, 10, none⟩) hg5 (Nat.le_refl _) (.string ⟨m3.toArray⟩)
  refine (HN3.out _ hR5).mono ?_
  rintro e w6 ⟨rfl, hR6, hg6⟩
  have hB6 := hB5.grown hg6 hsn
  replace hg6 := gtrans hg5 hg6
  clear hB5 hR5 hg5 hB4 hR4 hg4 hB3 hR3 hg3 hB2 hR2 hg2 y0 y1 y2 y3 y4 y5 y6 y7 y8 y9 y10 hl4 hf4 z11 hl2 hf2
  obtain ⟨B, hBd⟩ : ∃ B, Hid (B = (b3 || decide (16 < k))) := ⟨_, rfl⟩
  obtain ⟨q, hq⟩ : ∃ q, Hid (q = natsS s k i3 B) := ⟨_, rfl⟩
  have hST : stepS s i bad = (((u, p, n, (v0, m0), (v1, m1), (v2, m2), (v3, m3)), (c : Int) - 1, q.1.map fun x : Nat => (x : Int)), q.2.1, q.2.2) := by
    unfold stepS
    rw [← hC.out]
    simp only
    rw [← hA.out]
    simp only
    rw [← hM.out]
    simp only
    rw [hq.out, hBd.out]
  have HP : Hid (∀ W cv j bb L, q = (L, j, bb) → W.ownsRow (w.heap.size + 1) 3 1 cv L.length (L.map natV) → Rdr W g T s j bb → w.grownBy W (some g) → RStepPost s i bad g T w (.returned (.agg (stpA ((u, p, n, (v0, m0), (v1, m1), (v2, m2), (v3, m3)), (c : Int) - 1, []) cv))) W) := by
    intro W cv j bb L hqe ho hr hg
    rw [hqe] at hST
    unfold RStepPost
    rw [hST]
    refine ⟨cv, rfl, ?_, hr, hg⟩
    have h1 := own_down ho (Nat.le_succ w.heap.size)
    simp only [List.length_map, List.map_map]
    exact h1
  have hR7 := hR6.set2 B
  have hB7 := hB6.far (p := ⟨g, 2, none⟩) hne (.bool B)
  have hg7 := gset hg6 2 (.bool B)
  have hBk : B = false → k ≤ 16 := by
    intro h
    rw [hBd.out, Bool.or_eq_false_iff, decide_eq_false_iff_not] at h
    omega
  obtain ⟨w7, hw7⟩ : ∃ w7, Hid (w6.setCell ⟨g, 2, none⟩ (.bool B) = w7) := ⟨_, rfl⟩
  rw [hw7.out] at hR7 hB7 hg7
  have hcase : (b3 = true ∧ B = true) ∨ (b3 = false ∧ decide ((16 : Int) < (k : Int)) = B) := by
    have e : decide ((16 : Int) < (k : Int)) = decide (16 < k) := by
      rw [Bool.eq_iff_iff, decide_eq_true_eq, decide_eq_true_eq]; omega
    rw [e, hBd.out]
    cases b3
    · exact .inr ⟨rfl, by simp⟩
    · exact .inl ⟨rfl, by simp⟩
  have c2 := hR6.c2
  have hl6 := hR6.lt
  have hf6 := hR6.free
  have hs7 : w.heap.size + 1 ≤ w7.heap.size := hB7.lt
  have how7 : w7.ownsRow (w.heap.size + 1) 3 1 (.slice none 0 0) 0 [] := World.ownsRow_nil _ _ _ _
  have hq0 : Hid (q = (([] : List Nat) ++ (natsS s (k - 0) i3 B).1, (natsS s (k - 0) i3 B).2)) := hq.out
  clear hST hBd hq hR6 hB6 hg6 HC1 HA2 HN3 hC hA hM l1 l2 n1 ec ec1
  obtain ⟨i0, hi0, hz0, hz1, hz2⟩ := info_parts infoInt
  have HI := Lib.hid (And.intro hi0 (And.intro hz0 (And.intro hz1 hz2)))
  clear hi0 hz0 hz1 hz2
  rcases hcase with ⟨rfl, rfl⟩ | ⟨rfl, hd16⟩
  all_goals
    go_wp2_with fail
    rw [hw7.out]
    try clear hd16
    clear hw7 c2 hl6 hf6
    go_loopw [4] (fun x wr => ∃ (m : Nat) (cv : Value) (L : List Nat) (j : Nat) (bb : Bool), m ≤ k ∧ L.length = m ∧ x = .int .u32 (m : Int) ∧ j ≤ s.length ∧ (bb = false → k ≤ 16) ∧ Rdr wr g T s j bb ∧ BlkS wr w.heap.size ((u, p, n, (v0, m0), (v1, m1), (v2, m2), (v3, m3)), (c : Int) - 1, []) cv ∧ wr.ownsRow (w.heap.size + 1) 3 1 cv m (L.map natV) ∧ w.grownBy wr (some g) ∧ Hid (q = (L ++ (natsS s (k - m) j bb).1, (natsS s (k - m) j bb).2))) (fun x _ => k - (intOf x).toNat)
    case atStart => exact ⟨0, .slice none 0 0, [], i3, _, by omega, rfl, rfl, l3, hBk, hR7, hB7, how7, hg7, hq0.out⟩
    case round =>
      clear hR7 hB7 how7 hg7 hq0 hBk hs7
      obtain ⟨m, cv, L, j, bb, hm, hLm, rfl, hj, hbb, hRj, hBj, how, hgj, hres⟩ := hrel
      have c2 := hRj.c2
      have HLM := Lib.hid hLm
      clear hLm
      by_cases hgo : m < k ∧ bb = false
      · obtain ⟨hlt, rfl⟩ := hgo
        have l16 := hbb rfl
        obtain ⟨N, hN⟩ : ∃ N, Hid (N = numS s j false) := ⟨_, rfl⟩
        have HNM := Lib.hid (fun W h => cnum_any s j false g T W hs hj h)
        have lN := (numS_le (bad := false) hj).2
        have nN := (numS_le (bad := false) hj).1
        unfold NumPost at HNM
        rw [← hN.out] at HNM lN nN
        obtain ⟨v, j1, b1⟩ := N
        simp only at HNM lN nN
        have hres2 : Hid (q = ((L ++ [v]) ++ (natsS s (k - (m + 1)) j1 b1).1, (natsS s (k - (m + 1)) j1 b1).2)) := by
          have hnn : k - m = (k - (m + 1)) + 1 := by omega
          have h := hres.out
          rw [hnn, natsS, if_neg (by simp)] at h
          simp only at h
          rw [← hN.out] at h
          show _ = _
          rw [h]; simp
        have z12 : wr.cell? ⟨w.heap.size, 12, none⟩ = some cv := hBj.cell 12
        have ev : IntKind.i64.wrap (v : Int) = (v : Int) := IntWalk.i64_in _ (by omega)
        have hltB := hBj.lt
        have hRjd : Rdr wr.drew g T s j false := hRj
        have hBjd : BlkS wr.drew w.heap.size ((u, p, n, (v0, m0), (v1, m1), (v2, m2), (v3, m3)), (c : Int) - 1, []) cv := hBj
        have howd : wr.drew.ownsRow (w.heap.size + 1) 3 1 cv m (L.map natV) := how
        have hgjd : w.grownBy wr.drew (some g) := gdrew hgj
        have hgw := hR.lt
        clear hres hN
        go_wp2_with fail
        have hlg := hRj.lt
        go_region_law (first
            | (go_simp; go_at_call 33; (with_reducible refine Calls.mono (HNM.out _ ?_) ?_); exact hRjd; rintro e w8 ⟨rfl, hR8, hg8⟩; have hB8 := hBjd.grown hg8 hsn; have y12 : w8.cell? ⟨w.heap.size, 12, none⟩ = some cv := hB8.cell 12; have ho8 : w8.ownsRow (w.heap.size + 1) 3 1 cv m (L.map natV) := own_far howd hg8 (by omega); have hz8 : w.heap.size + 1 ≤ w8.heap.size := hB8.lt; have hgg8 := gtrans hgjd hg8; have hz8' : w.heap.size < w8.heap.size := hz8; have y12a : (w8.alloc (.cells #[.int .i64 (v : Int)] 3)).cell? ⟨w.heap.size, 12, none⟩ = some cv := Since.cell ((Since.refl _).alloc _) y12)
            | ((refine step_append_own rfl (.tmp 46) (.tmp 52) 37 rfl (w.heap.size + 1) 3 i0 (.int .i64 0) 1 8 Tryd.underlying37 HI.out.1 HI.out.2.1 HI.out.2.2.1 HI.out.2.2.2 rfl (by decide) cv m (L.map natV) rfl (ho8.alloc _) ⟨w8.heap.size, 0, none⟩ 1 1 [natV v] rfl rfl (cell_one_new _ _ _) (by simp [natV, Value.oneCell']) (by unfold maxLen; omega) (by omega) (by simp; omega) ?_); intro v9 w9 hown9 hg9 _; have hx9 := steptail hB8 hR8 ho8 hgg8 hg9 hown9 hgw; clear hown9 hg9; obtain ⟨g9, c9, rfl, y12b, yf9, yl9, hX9⟩ := hx9))
        all_goals
          go_wp2_with fail
          have hX := hX9.out _ rfl
          clear hX9
          go_roundw
          case rel => exact ⟨m + 1, .slice (some ⟨g9, 0, none⟩) (m + 1) c9, L ++ [v], j1, b1, by omega, by simp [HLM.out], by go_num, lN, fun _ => l16, hX.1, hX.2.1, hX.2.2.1, hX.2.2.2, hres2.out⟩
          case measure => simp [intOf]; omega
      · have hqe : q = (L, j, bb) := by
          rw [hres.out]
          by_cases hlt : m < k
          · obtain rfl : bb = true := by
              cases bb
              · exact absurd ⟨hlt, rfl⟩ hgo
              · rfl
            rw [natsS_bad]; simp
          · rw [show k - m = 0 by omega, natsS]; simp
        have HPP := HP.out wr cv j bb L hqe (by rw [HLM.out]; exact how) hRj hgj
        have HPQ := Lib.hid HPP
        have hone : Hid ((#[.string ⟨u.toArray⟩, .string ⟨p.toArray⟩, .int .i64 n, .bool v0, .string ⟨m0.toArray⟩, .bool v1, .string ⟨m1.toArray⟩, .bool v2, .string ⟨m2.toArray⟩, .bool v3, .string ⟨m3.toArray⟩, .int .i64 ((c : Int) - 1), cv] : Array Value).all (·.oneCell') = true) := by
          show _ = _
          rcases Joins.ownsRow_forms how with ⟨rfl, _⟩ | ⟨_, _, rfl⟩ <;> simp [Value.oneCell']
        have HBK : Hid (wr.heap[w.heap.size]? = some (.cells #[.string ⟨u.toArray⟩, .string ⟨p.toArray⟩, .int .i64 n, .bool v0, .string ⟨m0.toArray⟩, .bool v1, .string ⟨m1.toArray⟩, .bool v2, .string ⟨m2.toArray⟩, .bool v3, .string ⟨m3.toArray⟩, .int .i64 ((c : Int) - 1), cv] 39 (0, 0))) := hBj
        have hself : Hid (wr.setRow w.heap.size #[.string ⟨u.toArray⟩, .string ⟨p.toArray⟩, .int .i64 n, .bool v0, .string ⟨m0.toArray⟩, .bool v1, .string ⟨m1.toArray⟩, .bool v2, .string ⟨m2.toArray⟩, .bool v3, .string ⟨m3.toArray⟩, .int .i64 ((c : Int) - 1), cv] = wr) := setRow_self wr w.heap.size _ _ _ HBK.out
        have hlB := hBj.lt
        clear HPP hres hqe hBj how hgj
        by_cases hlt : m < k
        · obtain rfl : bb = true := by
            cases bb
            · exact absurd ⟨hlt, rfl⟩ hgo
            · rfl
          clear hgo
          go_wp2_with (first
            | (refine wpList_load_row rfl 39 (.tmp 2) rfl w.heap.size rfl 39 _ (0, 0) _ HBK.out Tryd.underlying39 rfl stpInfo ?_)
            | ((refine wpList_store_row rfl 39 (.tmp 2) (.tmp 55) rfl w.heap.size _ rfl rfl 39 _ HBK.out stpInfo rfl hone.out ?_); rw [hself.out]))
          refine bodyPost_ret (results_cell_row rfl _ _ w.heap.size 39 _ (0, 0) _ rfl HBK.out Tryd.underlying39 rfl stpInfo) rfl ?_
          exact HPQ.out
        · clear hgo
          go_wp2_with (first
            | (refine wpList_load_row rfl 39 (.tmp 2) rfl w.heap.size rfl 39 _ (0, 0) _ HBK.out Tryd.underlying39 rfl stpInfo ?_)
            | ((refine wpList_store_row rfl 39 (.tmp 2) (.tmp 55) rfl w.heap.size _ rfl rfl 39 _ HBK.out stpInfo rfl hone.out ?_); rw [hself.out]))
          refine bodyPost_ret (results_cell_row rfl _ _ w.heap.size 39 _ (0, 0) _ rfl HBK.out Tryd.underlying39 rfl stpInfo) rfl ?_
          exact HPQ.out
end Go.Proofs.YtiadjmfdahendaaDoor
