/- cert.ReadAtom. -/
import Derived.Test.YtkdeokgkjmboeaaGreatDoorCertF
import Derived.Test.YtkdeokgkjmboeaaGreatDoorCertH
namespace Go.Proofs.YtkdeokgkjmboeaaGreatDoor
open Go.RowKit

theorem since_row {w W : World} (h : Since w W) {B : Nat} (hB : w.heap.size ≤ B) (cs : Array Value) : Since w (W.setRow B cs) :=
  ⟨h.os, h.tape, h.output, by simpa using h.size, fun k hk => (setRow_other W B k cs (by omega)).trans (Below.block h k hk)⟩
def ReadAtomPost (s : List UInt8) (w : World) (e : Ending) (w' : World) : Prop :=
  e = .returned (.tuple #[.agg (atmC (atomS s 0 false).1), .int .i64 (if (atomS s 0 false).2.2 then 0 else ((atomS s 0 false).2.1 : Int)), .int .i64 (if (atomS s 0 false).2.2 then 15 else 0)]) ∧ Since w w'
theorem atomS_zero {s : List UInt8} {i : Nat} {bad : Bool} (h : (atomS s i bad).2.2 = true) : (atomS s i bad).1 = zeroAtm := by
  unfold atomS at h ⊢
  simp only at h ⊢
  split at h
  · rename_i h1
    rw [if_pos h1]
  · cases h
set_option maxHeartbeats 4000000 in
set_option maxRecDepth 100000 in
theorem readatom_any (s : List UInt8) (w : World) (hs : s.length ≤ 1000000) (hE : Env w) :
    Calls Tryz.prog 47 #[.string ⟨s.toArray⟩] w (ReadAtomPost s w) := by
  have hz := atomS_zero (s := s) (i := 0) (bad := false)
  have HP : Hid (∀ W A, A = atomS s 0 false → Since w W → ReadAtomPost s w (.returned (.tuple #[.agg (atmC A.1), .int .i64 (if A.2.2 then 0 else (A.2.1 : Int)), .int .i64 (if A.2.2 then 15 else 0)])) W) := by
    rintro W A rfl h
    exact ⟨rfl, h⟩
  have HT := Lib.hid (fun (T : TypeId) (w1 : World) (hR : Rdr w1 (w.heap.size + 1) T s 0 false) (hS : Since w w1) => ratom_any w s 0 false (w.heap.size + 1) T w1 hs (Nat.zero_le _) hR hE hS (by omega))
  obtain ⟨R, hR⟩ : ∃ R, Hid (R = atomS s 0 false) := ⟨_, rfl⟩
  unfold RAtomPost at HT
  rw [← hR.out] at HT hz
  obtain ⟨⟨u, p, n, ⟨v0, m0⟩, ⟨v1, m1⟩, ⟨v2, m2⟩, ⟨v3, m3⟩⟩, j, b⟩ := R
  simp only [atmC] at HT
  go_enter Tryz.func47, Tryz.ntmps47
  go_wp2_with fail
  have hR1 : Rdr ((w.alloc (.cells #[.string ⟨#[]⟩, .string ⟨#[]⟩, .int .i64 0, .bool false, .string ⟨#[]⟩, .bool false, .string ⟨#[]⟩, .bool false, .string ⟨#[]⟩, .bool false, .string ⟨#[]⟩] 26)).alloc (.cells #[.string ⟨s.toArray⟩, .int .i64 0, .bool false] 98)) (w.heap.size + 1) 98 s 0 false := by
    have := heap_alloc_new (w.alloc (.cells #[.string ⟨#[]⟩, .string ⟨#[]⟩, .int .i64 0, .bool false, .string ⟨#[]⟩, .bool false, .string ⟨#[]⟩, .bool false, .string ⟨#[]⟩, .bool false, .string ⟨#[]⟩] 26)) (.cells #[.string ⟨s.toArray⟩, .int .i64 0, .bool false] 98)
    rw [World.size_alloc] at this
    exact this
  have hS1 : Since w ((w.alloc (.cells #[.string ⟨#[]⟩, .string ⟨#[]⟩, .int .i64 0, .bool false, .string ⟨#[]⟩, .bool false, .string ⟨#[]⟩, .bool false, .string ⟨#[]⟩, .bool false, .string ⟨#[]⟩] 26)).alloc (.cells #[.string ⟨s.toArray⟩, .int .i64 0, .bool false] 98)) := ((Since.refl _).alloc _).alloc _
  have hB1 : BlkA ((w.alloc (.cells #[.string ⟨#[]⟩, .string ⟨#[]⟩, .int .i64 0, .bool false, .string ⟨#[]⟩, .bool false, .string ⟨#[]⟩, .bool false, .string ⟨#[]⟩, .bool false, .string ⟨#[]⟩] 26)).alloc (.cells #[.string ⟨s.toArray⟩, .int .i64 0, .bool false] 98)) w.heap.size zeroAtm := BlkA.next (W := w.alloc (.cells #[.string ⟨#[]⟩, .string ⟨#[]⟩, .int .i64 0, .bool false, .string ⟨#[]⟩, .bool false, .string ⟨#[]⟩, .bool false, .string ⟨#[]⟩, .bool false, .string ⟨#[]⟩] 26)) (heap_alloc_new w _) ((Since.refl _).alloc _)
  refine (HT.out _ _ hR1 hS1).mono ?_
  rintro e w2 ⟨rfl, hR2, hg2⟩
  have hne : w.heap.size + 1 ≠ w.heap.size := by omega
  have hB2 := hB1.grown hg2 (fun e => hne (by injection e with e; exact e.symm))
  have hS2 : Since w w2 := since_far hS1 hg2 (by omega)
  have HBK : Hid (w2.heap[w.heap.size]? = some (.cells (atmC zeroAtm) 26 (0, 0))) := hB2
  have hone : Hid ((#[.string ⟨u.toArray⟩, .string ⟨p.toArray⟩, .int .i64 n, .bool v0, .string ⟨m0.toArray⟩, .bool v1, .string ⟨m1.toArray⟩, .bool v2, .string ⟨m2.toArray⟩, .bool v3, .string ⟨m3.toArray⟩] : Array Value).all (·.oneCell') = true) := by show _ = _; simp [Value.oneCell']
  have hone0 : Hid ((#[.string ⟨#[]⟩, .string ⟨#[]⟩, .int .i64 0, .bool false, .string ⟨#[]⟩, .bool false, .string ⟨#[]⟩, .bool false, .string ⟨#[]⟩, .bool false, .string ⟨#[]⟩] : Array Value).all (·.oneCell') = true) := by show _ = _; simp [Value.oneCell']
  have HR2 := Lib.hid hR2
  have HB2 := Lib.hid hB2
  have HBK3 : Hid ((w2.setRow w.heap.size #[.string ⟨u.toArray⟩, .string ⟨p.toArray⟩, .int .i64 n, .bool v0, .string ⟨m0.toArray⟩, .bool v1, .string ⟨m1.toArray⟩, .bool v2, .string ⟨m2.toArray⟩, .bool v3, .string ⟨m3.toArray⟩]).heap[w.heap.size]? = some (.cells #[.string ⟨u.toArray⟩, .string ⟨p.toArray⟩, .int .i64 n, .bool v0, .string ⟨m0.toArray⟩, .bool v1, .string ⟨m1.toArray⟩, .bool v2, .string ⟨m2.toArray⟩, .bool v3, .string ⟨m3.toArray⟩] 26 (0, 0))) := BlkA.row (a := zeroAtm) hB2 ((u, p, n, (v0, m0), (v1, m1), (v2, m2), (v3, m3)) : Atm)
  have hS3 : Since w (w2.setRow w.heap.size #[.string ⟨u.toArray⟩, .string ⟨p.toArray⟩, .int .i64 n, .bool v0, .string ⟨m0.toArray⟩, .bool v1, .string ⟨m1.toArray⟩, .bool v2, .string ⟨m2.toArray⟩, .bool v3, .string ⟨m3.toArray⟩]) := since_row hS2 (Nat.le_refl _) _
  have hR3 : Rdr (w2.setRow w.heap.size #[.string ⟨u.toArray⟩, .string ⟨p.toArray⟩, .int .i64 n, .bool v0, .string ⟨m0.toArray⟩, .bool v1, .string ⟨m1.toArray⟩, .bool v2, .string ⟨m2.toArray⟩, .bool v3, .string ⟨m3.toArray⟩]) (w.heap.size + 1) 98 s j b := hR2.row hne _
  have x1 := hR3.c1
  have x2 := hR3.c2
  have hl3 := hR3.lt
  clear hR2 hB2 HR2 HB2 hR1 hB1 hS1 hg2 HT
  cases b
  case true =>
    have hA0 := hz rfl
    have HA0 := Lib.hid hA0
    clear hA0 hz
    go_wp2_with (first
      | (refine wpList_store_row rfl 26 (.tmp 2) (.tmp 11) rfl w.heap.size #[.string ⟨u.toArray⟩, .string ⟨p.toArray⟩, .int .i64 n, .bool v0, .string ⟨m0.toArray⟩, .bool v1, .string ⟨m1.toArray⟩, .bool v2, .string ⟨m2.toArray⟩, .bool v3, .string ⟨m3.toArray⟩] rfl rfl 26 (atmC zeroAtm) HBK.out ainfoA rfl hone.out ?_)
      | (refine wpList_store_row rfl 26 (.tmp 2) (.tmp 17) rfl w.heap.size #[.string ⟨#[]⟩, .string ⟨#[]⟩, .int .i64 0, .bool false, .string ⟨#[]⟩, .bool false, .string ⟨#[]⟩, .bool false, .string ⟨#[]⟩, .bool false, .string ⟨#[]⟩] rfl rfl 26 #[.string ⟨u.toArray⟩, .string ⟨p.toArray⟩, .int .i64 n, .bool v0, .string ⟨m0.toArray⟩, .bool v1, .string ⟨m1.toArray⟩, .bool v2, .string ⟨m2.toArray⟩, .bool v3, .string ⟨m3.toArray⟩] HBK3.out ainfoA rfl hone0.out ?_))
    have hbx : Box ((w2.setRow w.heap.size #[.string ⟨u.toArray⟩, .string ⟨p.toArray⟩, .int .i64 n, .bool v0, .string ⟨m0.toArray⟩, .bool v1, .string ⟨m1.toArray⟩, .bool v2, .string ⟨m2.toArray⟩, .bool v3, .string ⟨m3.toArray⟩]).setRow w.heap.size #[.string ⟨#[]⟩, .string ⟨#[]⟩, .int .i64 0, .bool false, .string ⟨#[]⟩, .bool false, .string ⟨#[]⟩, .bool false, .string ⟨#[]⟩, .bool false, .string ⟨#[]⟩]) w.heap.size zeroAtm := (BlkA.row (a := ((u, p, n, (v0, m0), (v1, m1), (v2, m2), (v3, m3)) : Atm)) HBK3.out zeroAtm).box
    obtain ⟨e0, e1, e2, e3, e4, e5, e6, e7, e8, e9, e10⟩ := hbx.all
    refine bodyPost_ret (v := .tuple #[.agg #[.string ⟨#[]⟩, .string ⟨#[]⟩, .int .i64 0, .bool false, .string ⟨#[]⟩, .bool false, .string ⟨#[]⟩, .bool false, .string ⟨#[]⟩, .bool false, .string ⟨#[]⟩], .int .i64 0, .int .i64 15]) (by simp [results, Tryz.results47, go_sem, e0, e1, e2, e3, e4, e5, e6, e7, e8, e9, e10, zeroAtm]) rfl ?_
    have h := HP.out _ _ hR.out (since_row hS3 (Nat.le_refl _) #[.string ⟨#[]⟩, .string ⟨#[]⟩, .int .i64 0, .bool false, .string ⟨#[]⟩, .bool false, .string ⟨#[]⟩, .bool false, .string ⟨#[]⟩, .bool false, .string ⟨#[]⟩])
    rw [HA0.out] at h
    exact h
  case false =>
    clear hz
    go_wp2_with (first
      | (refine wpList_store_row rfl 26 (.tmp 2) (.tmp 11) rfl w.heap.size #[.string ⟨u.toArray⟩, .string ⟨p.toArray⟩, .int .i64 n, .bool v0, .string ⟨m0.toArray⟩, .bool v1, .string ⟨m1.toArray⟩, .bool v2, .string ⟨m2.toArray⟩, .bool v3, .string ⟨m3.toArray⟩] rfl rfl 26 (atmC zeroAtm) HBK.out ainfoA rfl hone.out ?_))
    obtain ⟨z0, z1, z2, z3, z4, z5, z6, z7, z8, z9, z10⟩ := (BlkA.box (a := ((u, p, n, (v0, m0), (v1, m1), (v2, m2), (v3, m3)) : Atm)) HBK3.out).all
    have hT0 : Hid (BlkA (w2.setRow w.heap.size #[.string ⟨u.toArray⟩, .string ⟨p.toArray⟩, .int .i64 n, .bool v0, .string ⟨m0.toArray⟩, .bool v1, .string ⟨m1.toArray⟩, .bool v2, .string ⟨m2.toArray⟩, .bool v3, .string ⟨m3.toArray⟩]) w.heap.size ((u, p, n, (v0, m0), (v1, m1), (v2, m2), (v3, m3)) : Atm)) := HBK3.out
    have hlB := BlkA.lt (a := ((u, p, n, (v0, m0), (v1, m1), (v2, m2), (v3, m3)) : Atm)) HBK3.out
    have hfB := BlkA.free (a := ((u, p, n, (v0, m0), (v1, m1), (v2, m2), (v3, m3)) : Atm)) HBK3.out
    generalize w2.setRow w.heap.size #[.string ⟨u.toArray⟩, .string ⟨p.toArray⟩, .int .i64 n, .bool v0, .string ⟨m0.toArray⟩, .bool v1, .string ⟨m1.toArray⟩, .bool v2, .string ⟨m2.toArray⟩, .bool v3, .string ⟨m3.toArray⟩] = w3 at *
    go_region
    all_goals
      go_wp2_with fail
      have hT := hT0.out
      have hs := hS3
      replace hT := BlkA.set (a' := ((u, p, n, (v0, m0), (v1, m1), (v2, m2), (v3, m3)) : Atm)) (j := 0) (v := .string ⟨u.toArray⟩) hT rfl
      replace hs := Since.setCell (p := ⟨w.heap.size, 0, none⟩) hs (Nat.le_refl _) (.string ⟨u.toArray⟩)
      replace hT := BlkA.set (a' := ((u, p, n, (v0, m0), (v1, m1), (v2, m2), (v3, m3)) : Atm)) (j := 1) (v := .string ⟨p.toArray⟩) hT rfl
      replace hs := Since.setCell (p := ⟨w.heap.size, 1, none⟩) hs (Nat.le_refl _) (.string ⟨p.toArray⟩)
      replace hT := BlkA.set (a' := ((u, p, n, (v0, m0), (v1, m1), (v2, m2), (v3, m3)) : Atm)) (j := 2) (v := .int .i64 n) hT rfl
      replace hs := Since.setCell (p := ⟨w.heap.size, 2, none⟩) hs (Nat.le_refl _) (.int .i64 n)
      replace hT := BlkA.set (a' := ((u, p, n, (v0, m0), (v1, m1), (v2, m2), (v3, m3)) : Atm)) (j := 3) (v := .bool v0) hT rfl
      replace hs := Since.setCell (p := ⟨w.heap.size, 3, none⟩) hs (Nat.le_refl _) (.bool v0)
      replace hT := BlkA.set (a' := ((u, p, n, (v0, m0), (v1, m1), (v2, m2), (v3, m3)) : Atm)) (j := 4) (v := .string ⟨m0.toArray⟩) hT rfl
      replace hs := Since.setCell (p := ⟨w.heap.size, 4, none⟩) hs (Nat.le_refl _) (.string ⟨m0.toArray⟩)
      replace hT := BlkA.set (a' := ((u, p, n, (v0, m0), (v1, m1), (v2, m2), (v3, m3)) : Atm)) (j := 5) (v := .bool v1) hT rfl
      replace hs := Since.setCell (p := ⟨w.heap.size, 5, none⟩) hs (Nat.le_refl _) (.bool v1)
      replace hT := BlkA.set (a' := ((u, p, n, (v0, m0), (v1, m1), (v2, m2), (v3, m3)) : Atm)) (j := 6) (v := .string ⟨m1.toArray⟩) hT rfl
      replace hs := Since.setCell (p := ⟨w.heap.size, 6, none⟩) hs (Nat.le_refl _) (.string ⟨m1.toArray⟩)
      replace hT := BlkA.set (a' := ((u, p, n, (v0, m0), (v1, m1), (v2, m2), (v3, m3)) : Atm)) (j := 7) (v := .bool v2) hT rfl
      replace hs := Since.setCell (p := ⟨w.heap.size, 7, none⟩) hs (Nat.le_refl _) (.bool v2)
      replace hT := BlkA.set (a' := ((u, p, n, (v0, m0), (v1, m1), (v2, m2), (v3, m3)) : Atm)) (j := 8) (v := .string ⟨m2.toArray⟩) hT rfl
      replace hs := Since.setCell (p := ⟨w.heap.size, 8, none⟩) hs (Nat.le_refl _) (.string ⟨m2.toArray⟩)
      replace hT := BlkA.set (a' := ((u, p, n, (v0, m0), (v1, m1), (v2, m2), (v3, m3)) : Atm)) (j := 9) (v := .bool v3) hT rfl
      replace hs := Since.setCell (p := ⟨w.heap.size, 9, none⟩) hs (Nat.le_refl _) (.bool v3)
      replace hT := BlkA.set (a' := ((u, p, n, (v0, m0), (v1, m1), (v2, m2), (v3, m3)) : Atm)) (j := 10) (v := .string ⟨m3.toArray⟩) hT rfl
      replace hs := Since.setCell (p := ⟨w.heap.size, 10, none⟩) hs (Nat.le_refl _) (.string ⟨m3.toArray⟩)
      obtain ⟨e0, e1, e2, e3, e4, e5, e6, e7, e8, e9, e10⟩ := hT.box.all
      refine bodyPost_ret (v := .tuple #[.agg #[.string ⟨u.toArray⟩, .string ⟨p.toArray⟩, .int .i64 n, .bool v0, .string ⟨m0.toArray⟩, .bool v1, .string ⟨m1.toArray⟩, .bool v2, .string ⟨m2.toArray⟩, .bool v3, .string ⟨m3.toArray⟩], .int .i64 (j : Int), .int .i64 0]) (by simp [results, Tryz.results47, go_sem, e0, e1, e2, e3, e4, e5, e6, e7, e8, e9, e10]) rfl ?_
      exact HP.out _ _ hR.out hs.drew
end Go.Proofs.YtkdeokgkjmboeaaGreatDoor
