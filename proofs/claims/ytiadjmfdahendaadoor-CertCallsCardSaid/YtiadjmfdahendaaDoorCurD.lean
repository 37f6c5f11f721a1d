/- The reference's ReadAtom: it answers as cert's. -/
import Derived.Test.YtiadjmfdahendaaDoorCurC
import Derived.Test.YtiadjmfdahendaaDoorCertG
namespace Go.Proofs.YtiadjmfdahendaaDoor
open Go.RowKit

set_option maxHeartbeats 4000000 in
set_option maxRecDepth 100000 in
theorem rreadatom_any (s : List UInt8) (w : World) (hs : s.length ≤ 1000000) :
    Calls Tryd.prog 23 #[.string ⟨s.toArray⟩] w (ReadAtomPost s w) := by
  have hz := atomS_zero (s := s) (i := 0) (bad := false)
  have HP : Hid (∀ W A, A = ratomS s 0 false → Since w W → ReadAtomPost s w (.returned (.tuple #[.agg (atmC A.1), .int .i64 (if A.2.2 then 0 else (A.2.1 : Int)), .int .i64 (if A.2.2 then 15 else 0)])) W) := by
    rintro W A rfl h
    obtain ⟨h1, h2, h3⟩ := ratom_eq s 0 false
    unfold ReadAtomPost
    cases hb : (atomS s 0 false).2.2
    · rw [h3 hb, hb]; exact ⟨rfl, h⟩
    · rw [h1, h2, hb]; exact ⟨rfl, h⟩
  have hz2 : (ratomS s 0 false).2.2 = true → (ratomS s 0 false).1 = zeroAtm := by
    obtain ⟨h1, h2, h3⟩ := ratom_eq s 0 false
    intro h
    rw [h1]
    exact hz (by rw [← h2]; exact h)
  clear hz
  have HT := Lib.hid (fun (w1 : World) (hR : Cur w1 (w.heap.size + 1) s 0 false) => curatom_any s 0 false (w.heap.size + 1) w1 hs (Nat.zero_le _) hR)
  obtain ⟨R, hR⟩ : ∃ R, Hid (R = ratomS s 0 false) := ⟨_, rfl⟩
  unfold CAtomPost at HT
  rw [← hR.out] at HT hz2
  obtain ⟨⟨u, p, n, ⟨v0, m0⟩, ⟨v1, m1⟩, ⟨v2, m2⟩, ⟨v3, m3⟩⟩, j, b⟩ := R
  simp only [atmC] at HT
  go_enter Tryd.func23, Tryd.ntmps23
  go_wp2_with fail
  have hR1 : Cur ((w.alloc (.cells #[.string ⟨#[]⟩, .string ⟨#[]⟩, .int .i64 0, .bool false, .string ⟨#[]⟩, .bool false, .string ⟨#[]⟩, .bool false, .string ⟨#[]⟩, .bool false, .string ⟨#[]⟩] 27)).alloc (.cells #[.string ⟨s.toArray⟩, .int .i64 0, .int .i64 0] 73)) (w.heap.size + 1) s 0 false := by
    have := heap_alloc_new (w.alloc (.cells #[.string ⟨#[]⟩, .string ⟨#[]⟩, .int .i64 0, .bool false, .string ⟨#[]⟩, .bool false, .string ⟨#[]⟩, .bool false, .string ⟨#[]⟩, .bool false, .string ⟨#[]⟩] 27)) (.cells #[.string ⟨s.toArray⟩, .int .i64 0, .int .i64 0] 73)
    rw [World.size_alloc] at this
    exact this
  have hS1 : Since w ((w.alloc (.cells #[.string ⟨#[]⟩, .string ⟨#[]⟩, .int .i64 0, .bool false, .string ⟨#[]⟩, .bool false, .string ⟨#[]⟩, .bool false, .string ⟨#[]⟩, .bool false, .string ⟨#[]⟩] 27)).alloc (.cells #[.string ⟨s.toArray⟩, .int .i64 0, .int .i64 0] 73)) := ((Since.refl _).alloc _).alloc _
  have hB1 : BlkA ((w.alloc (.cells #[.string ⟨#[]⟩, .string ⟨#[]⟩, .int .i64 0, .bool false, .string ⟨#[]⟩, .bool false, .string ⟨#[]⟩, .bool false, .string ⟨#[]⟩, .bool false, .string ⟨#[]⟩] 27)).alloc (.cells #[.string ⟨s.toArray⟩, .int .i64 0, .int .i64 0] 73)) w.heap.size zeroAtm := BlkA.next (W := w.alloc (.cells #[.string ⟨#[]⟩, .string ⟨#[]⟩, .int .i64 0, .bool false, .string ⟨#[]⟩, .bool false, .string ⟨#[]⟩, .bool false, .string ⟨#[]⟩, .bool false, .string ⟨#[]⟩] 27)) (heap_alloc_new w _) ((Since.refl _).alloc _)
  refine (HT.out _ hR1).mono ?_
  rintro e w2 ⟨rfl, hR2, hg2⟩
  have hB2 := hB1.grown hg2 (fun e => by injection e with e; omega)
  have hS2 : Since w w2 := since_far hS1 hg2 (by omega)
  have hlw := hB2.lt
  have hnew : Hid ((w2.alloc (.cells #[.string ⟨#[]⟩, .string ⟨#[]⟩, .int .i64 0, .bool false, .string ⟨#[]⟩, .bool false, .string ⟨#[]⟩, .bool false, .string ⟨#[]⟩, .bool false, .string ⟨#[]⟩] 27)).heap[w2.heap.size]? = some (.cells (atmC zeroAtm) 27 (0, 0))) := heap_alloc_new w2 _
  have hone : Hid ((#[.string ⟨u.toArray⟩, .string ⟨p.toArray⟩, .int .i64 n, .bool v0, .string ⟨m0.toArray⟩, .bool v1, .string ⟨m1.toArray⟩, .bool v2, .string ⟨m2.toArray⟩, .bool v3, .string ⟨m3.toArray⟩] : Array Value).all (·.oneCell') = true) := by show _ = _; simp [Value.oneCell']
  have hA3 : BlkA ((w2.alloc (.cells #[.string ⟨#[]⟩, .string ⟨#[]⟩, .int .i64 0, .bool false, .string ⟨#[]⟩, .bool false, .string ⟨#[]⟩, .bool false, .string ⟨#[]⟩, .bool false, .string ⟨#[]⟩] 27)).setRow w2.heap.size #[.string ⟨u.toArray⟩, .string ⟨p.toArray⟩, .int .i64 n, .bool v0, .string ⟨m0.toArray⟩, .bool v1, .string ⟨m1.toArray⟩, .bool v2, .string ⟨m2.toArray⟩, .bool v3, .string ⟨m3.toArray⟩]) w2.heap.size ((u, p, n, (v0, m0), (v1, m1), (v2, m2), (v3, m3)) : Atm) := BlkA.row (a := zeroAtm) hnew.out ((u, p, n, (v0, m0), (v1, m1), (v2, m2), (v3, m3)) : Atm)
  have hB3 : BlkA ((w2.alloc (.cells #[.string ⟨#[]⟩, .string ⟨#[]⟩, .int .i64 0, .bool false, .string ⟨#[]⟩, .bool false, .string ⟨#[]⟩, .bool false, .string ⟨#[]⟩, .bool false, .string ⟨#[]⟩] 27)).setRow w2.heap.size #[.string ⟨u.toArray⟩, .string ⟨p.toArray⟩, .int .i64 n, .bool v0, .string ⟨m0.toArray⟩, .bool v1, .string ⟨m1.toArray⟩, .bool v2, .string ⟨m2.toArray⟩, .bool v3, .string ⟨m3.toArray⟩]) w.heap.size zeroAtm := (setRow_other _ _ _ _ (by omega)).trans (hB2.next ((Since.refl _).alloc _))
  have hR3 : Cur ((w2.alloc (.cells #[.string ⟨#[]⟩, .string ⟨#[]⟩, .int .i64 0, .bool false, .string ⟨#[]⟩, .bool false, .string ⟨#[]⟩, .bool false, .string ⟨#[]⟩, .bool false, .string ⟨#[]⟩] 27)).setRow w2.heap.size #[.string ⟨u.toArray⟩, .string ⟨p.toArray⟩, .int .i64 n, .bool v0, .string ⟨m0.toArray⟩, .bool v1, .string ⟨m1.toArray⟩, .bool v2, .string ⟨m2.toArray⟩, .bool v3, .string ⟨m3.toArray⟩]) (w.heap.size + 1) s j b := (hR2.next ((Since.refl _).alloc _)).row (by have := hR2.lt; omega) _
  have hS3 : Since w ((w2.alloc (.cells #[.string ⟨#[]⟩, .string ⟨#[]⟩, .int .i64 0, .bool false, .string ⟨#[]⟩, .bool false, .string ⟨#[]⟩, .bool false, .string ⟨#[]⟩, .bool false, .string ⟨#[]⟩] 27)).setRow w2.heap.size #[.string ⟨u.toArray⟩, .string ⟨p.toArray⟩, .int .i64 n, .bool v0, .string ⟨m0.toArray⟩, .bool v1, .string ⟨m1.toArray⟩, .bool v2, .string ⟨m2.toArray⟩, .bool v3, .string ⟨m3.toArray⟩]) := since_row (hS2.alloc _) (by omega) _
  clear hR1 hB1 hS1 hR2 hB2 hg2 hS2 HT
  have x1 := hR3.c1
  have hl3 := hR3.lt
  have hlB := hB3.lt
  have hfB := hB3.free
  obtain ⟨y0, y1, y2, y3, y4, y5, y6, y7, y8, y9, y10⟩ := hB3.box.all
  obtain ⟨z0, z1, z2, z3, z4, z5, z6, z7, z8, z9, z10⟩ := hA3.box.all
  have hT0 := Lib.hid hB3
  clear hB3
  cases b
  case true =>
    have x2 := hR3.c2t
    have hA0 := hz2 rfl
    have HA0 := Lib.hid hA0
    clear hA0 hz2
    go_wp2_with (refine wpList_store_row rfl 27 (.tmp 6) (.tmp 11) rfl w2.heap.size #[.string ⟨u.toArray⟩, .string ⟨p.toArray⟩, .int .i64 n, .bool v0, .string ⟨m0.toArray⟩, .bool v1, .string ⟨m1.toArray⟩, .bool v2, .string ⟨m2.toArray⟩, .bool v3, .string ⟨m3.toArray⟩] rfl rfl 27 (atmC zeroAtm) hnew.out ainfoA rfl hone.out ?_)
    generalize (w2.alloc (.cells #[.string ⟨#[]⟩, .string ⟨#[]⟩, .int .i64 0, .bool false, .string ⟨#[]⟩, .bool false, .string ⟨#[]⟩, .bool false, .string ⟨#[]⟩, .bool false, .string ⟨#[]⟩] 27)).setRow w2.heap.size #[.string ⟨u.toArray⟩, .string ⟨p.toArray⟩, .int .i64 n, .bool v0, .string ⟨m0.toArray⟩, .bool v1, .string ⟨m1.toArray⟩, .bool v2, .string ⟨m2.toArray⟩, .bool v3, .string ⟨m3.toArray⟩] = w3 at *
    generalize w2.heap.size = nb at *
    go_region
    all_goals
      go_wp2_with fail
      have hT := hT0.out
      have hs := hS3
      replace hT := BlkA.set (a' := zeroAtm) (j := 0) (v := (.string ⟨#[]⟩)) hT rfl
      replace hs := Since.setCell (p := ⟨w.heap.size, 0, none⟩) hs (Nat.le_refl _) (.string ⟨#[]⟩)
      replace hT := BlkA.set (a' := zeroAtm) (j := 1) (v := (.string ⟨#[]⟩)) hT rfl
      replace hs := Since.setCell (p := ⟨w.heap.size, 1, none⟩) hs (Nat.le_refl _) (.string ⟨#[]⟩)
      replace hT := BlkA.set (a' := zeroAtm) (j := 2) (v := (.int .i64 0)) hT rfl
      replace hs := Since.setCell (p := ⟨w.heap.size, 2, none⟩) hs (Nat.le_refl _) (.int .i64 0)
      replace hT := BlkA.set (a' := zeroAtm) (j := 3) (v := (.bool false)) hT rfl
      replace hs := Since.setCell (p := ⟨w.heap.size, 3, none⟩) hs (Nat.le_refl _) (.bool false)
      replace hT := BlkA.set (a' := zeroAtm) (j := 4) (v := (.string ⟨#[]⟩)) hT rfl
      replace hs := Since.setCell (p := ⟨w.heap.size, 4, none⟩) hs (Nat.le_refl _) (.string ⟨#[]⟩)
      replace hT := BlkA.set (a' := zeroAtm) (j := 5) (v := (.bool false)) hT rfl
      replace hs := Since.setCell (p := ⟨w.heap.size, 5, none⟩) hs (Nat.le_refl _) (.bool false)
      replace hT := BlkA.set (a' := zeroAtm) (j := 6) (v := (.string ⟨#[]⟩)) hT rfl
      replace hs := Since.setCell (p := ⟨w.heap.size, 6, none⟩) hs (Nat.le_refl _) (.string ⟨#[]⟩)
      replace hT := BlkA.set (a' := zeroAtm) (j := 7) (v := (.bool false)) hT rfl
      replace hs := Since.setCell (p := ⟨w.heap.size, 7, none⟩) hs (Nat.le_refl _) (.bool false)
      replace hT := BlkA.set (a' := zeroAtm) (j := 8) (v := (.string ⟨#[]⟩)) hT rfl
      replace hs := Since.setCell (p := ⟨w.heap.size, 8, none⟩) hs (Nat.le_refl _) (.string ⟨#[]⟩)
      replace hT := BlkA.set (a' := zeroAtm) (j := 9) (v := (.bool false)) hT rfl
      replace hs := Since.setCell (p := ⟨w.heap.size, 9, none⟩) hs (Nat.le_refl _) (.bool false)
      replace hT := BlkA.set (a' := zeroAtm) (j := 10) (v := (.string ⟨#[]⟩)) hT rfl
      replace hs := Since.setCell (p := ⟨w.heap.size, 10, none⟩) hs (Nat.le_refl _) (.string ⟨#[]⟩)
      obtain ⟨e0, e1, e2, e3, e4, e5, e6, e7, e8, e9, e10⟩ := hT.box.all
      refine bodyPost_ret (v := .tuple #[.agg #[.string ⟨#[]⟩, .string ⟨#[]⟩, .int .i64 0, .bool false, .string ⟨#[]⟩, .bool false, .string ⟨#[]⟩, .bool false, .string ⟨#[]⟩, .bool false, .string ⟨#[]⟩], .int .i64 0, .int .i64 15]) (by simp [results, Tryd.results23, go_sem, e0, e1, e2, e3, e4, e5, e6, e7, e8, e9, e10, zeroAtm]) rfl ?_
      have h := HP.out _ _ hR.out hs.drew
      rw [HA0.out] at h
      exact h
  case false =>
    have x2 := hR3.c2f
    clear hz2
    go_wp2_with (refine wpList_store_row rfl 27 (.tmp 6) (.tmp 11) rfl w2.heap.size #[.string ⟨u.toArray⟩, .string ⟨p.toArray⟩, .int .i64 n, .bool v0, .string ⟨m0.toArray⟩, .bool v1, .string ⟨m1.toArray⟩, .bool v2, .string ⟨m2.toArray⟩, .bool v3, .string ⟨m3.toArray⟩] rfl rfl 27 (atmC zeroAtm) hnew.out ainfoA rfl hone.out ?_)
    generalize (w2.alloc (.cells #[.string ⟨#[]⟩, .string ⟨#[]⟩, .int .i64 0, .bool false, .string ⟨#[]⟩, .bool false, .string ⟨#[]⟩, .bool false, .string ⟨#[]⟩, .bool false, .string ⟨#[]⟩] 27)).setRow w2.heap.size #[.string ⟨u.toArray⟩, .string ⟨p.toArray⟩, .int .i64 n, .bool v0, .string ⟨m0.toArray⟩, .bool v1, .string ⟨m1.toArray⟩, .bool v2, .string ⟨m2.toArray⟩, .bool v3, .string ⟨m3.toArray⟩] = w3 at *
    generalize w2.heap.size = nb at *
    go_region
    all_goals
      go_wp2_with fail
      have hT := hT0.out
      have hs := hS3
      replace hT := BlkA.set (a' := ((u, [], 0, (false, []), (false, []), (false, []), (false, [])) : Atm)) (j := 0) (v := (.string ⟨u.toArray⟩)) hT rfl
      replace hs := Since.setCell (p := ⟨w.heap.size, 0, none⟩) hs (Nat.le_refl _) (.string ⟨u.toArray⟩)
      replace hT := BlkA.set (a' := ((u, p, 0, (false, []), (false, []), (false, []), (false, [])) : Atm)) (j := 1) (v := (.string ⟨p.toArray⟩)) hT rfl
      replace hs := Since.setCell (p := ⟨w.heap.size, 1, none⟩) hs (Nat.le_refl _) (.string ⟨p.toArray⟩)
      replace hT := BlkA.set (a' := ((u, p, n, (false, []), (false, []), (false, []), (false, [])) : Atm)) (j := 2) (v := (.int .i64 n)) hT rfl
      replace hs := Since.setCell (p := ⟨w.heap.size, 2, none⟩) hs (Nat.le_refl _) (.int .i64 n)
      replace hT := BlkA.set (a' := ((u, p, n, (v0, []), (false, []), (false, []), (false, [])) : Atm)) (j := 3) (v := (.bool v0)) hT rfl
      replace hs := Since.setCell (p := ⟨w.heap.size, 3, none⟩) hs (Nat.le_refl _) (.bool v0)
      replace hT := BlkA.set (a' := ((u, p, n, (v0, m0), (false, []), (false, []), (false, [])) : Atm)) (j := 4) (v := (.string ⟨m0.toArray⟩)) hT rfl
      replace hs := Since.setCell (p := ⟨w.heap.size, 4, none⟩) hs (Nat.le_refl _) (.string ⟨m0.toArray⟩)
      replace hT := BlkA.set (a' := ((u, p, n, (v0, m0), (v1, []), (false, []), (false, [])) : Atm)) (j := 5) (v := (.bool v1)) hT rfl
      replace hs := Since.setCell (p := ⟨w.heap.size, 5, none⟩) hs (Nat.le_refl _) (.bool v1)
      replace hT := BlkA.set (a' := ((u, p, n, (v0, m0), (v1, m1), (false, []), (false, [])) : Atm)) (j := 6) (v := (.string ⟨m1.toArray⟩)) hT rfl
      replace hs := Since.setCell (p := ⟨w.heap.size, 6, none⟩) hs (Nat.le_refl _) (.string ⟨m1.toArray⟩)
      replace hT := BlkA.set (a' := ((u, p, n, (v0, m0), (v1, m1), (v2, []), (false, [])) : Atm)) (j := 7) (v := (.bool v2)) hT rfl
      replace hs := Since.setCell (p := ⟨w.heap.size, 7, none⟩) hs (Nat.le_refl _) (.bool v2)
      replace hT := BlkA.set (a' := ((u, p, n, (v0, m0), (v1, m1), (v2, m2), (false, [])) : Atm)) (j := 8) (v := (.string ⟨m2.toArray⟩)) hT rfl
      replace hs := Since.setCell (p := ⟨w.heap.size, 8, none⟩) hs (Nat.le_refl _) (.string ⟨m2.toArray⟩)
      replace hT := BlkA.set (a' := ((u, p, n, (v0, m0), (v1, m1), (v2, m2), (v3, [])) : Atm)) (j := 9) (v := (.bool v3)) hT rfl
      replace hs := Since.setCell (p := ⟨w.heap.size, 9, none⟩) hs (Nat.le_refl _) (.bool v3)
      replace hT := BlkA.set (a' := ((u, p, n, (v0, m0), (v1, m1), (v2, m2), (v3, m3)) : Atm)) (j := 10) (v := (.string ⟨m3.toArray⟩)) hT rfl
      replace hs := Since.setCell (p := ⟨w.heap.size, 10, none⟩) hs (Nat.le_refl _) (.string ⟨m3.toArray⟩)
      obtain ⟨e0, e1, e2, e3, e4, e5, e6, e7, e8, e9, e10⟩ := hT.box.all
      refine bodyPost_ret (v := .tuple #[.agg #[.string ⟨u.toArray⟩, .string ⟨p.toArray⟩, .int .i64 n, .bool v0, .string ⟨m0.toArray⟩, .bool v1, .string ⟨m1.toArray⟩, .bool v2, .string ⟨m2.toArray⟩, .bool v3, .string ⟨m3.toArray⟩], .int .i64 (j : Int), .int .i64 0]) (by simp [results, Tryd.results23, go_sem, e0, e1, e2, e3, e4, e5, e6, e7, e8, e9, e10]) rfl ?_
      exact HP.out _ _ hR.out hs.drew
end Go.Proofs.YtiadjmfdahendaaDoor
