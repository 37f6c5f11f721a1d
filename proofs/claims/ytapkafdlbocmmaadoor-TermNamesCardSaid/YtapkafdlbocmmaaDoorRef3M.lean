/- The reference of layer 3: Made: what it answers at every two names and list of terms. -/
import Derived.Test.YtapkafdlbocmmaaDoorRef3N
import Derived.Test.YtapkafdlbocmmaaDoorTermQ
import Derived.LoopN
namespace Go.Proofs.YtapkafdlbocmmaaDoor
open Go.RowKit

set_option maxHeartbeats 2000000 in
set_option maxRecDepth 100000 in
theorem rmade_0 (s p : List UInt8) (a : Option Addr) (c : Nat) (w : World) (hs : s.length ≤ maxLen) (hp : p.length ≤ maxLen) :
    Calls Tryd.prog 31 #[.string ⟨s.toArray⟩, .string ⟨p.toArray⟩, .slice a 0 c] w (MadePost w (madeA s p ([] : List Tm))) := by
  obtain ⟨A, hA⟩ : ∃ A, Hid (A = ((s, p, 0, (false, []), (false, []), (false, []), (false, [])) : Atm)) := ⟨_, rfl⟩
  have hM : madeA s p ([] : List Tm) = if (checkA A != 0) = true then (zeroA, checkA A) else (A, 0) := by rw [hA.out]; rfl
  have HM := Lib.hid hM
  have hFit : FitsA A := by
    rw [hA.out]
    refine ⟨hs, hp, ?_⟩
    intro t ht
    have ht' : t ∈ [(false, []), (false, []), (false, []), (false, [])] := ht
    simp only [List.mem_cons, List.not_mem_nil, or_false] at ht'
    rcases ht' with rfl | rfl | rfl | rfl <;> first | exact Nat.zero_le _ | assumption
  have hW1 : ∀ (o1 o2 : Obj), Since w ((w.alloc o1).alloc o2) := fun o1 o2 => ((Since.refl _).alloc _).alloc _
  have HCK := Lib.hid (fun W => rcheck_any s p 0 false false false false [] [] [] [] W (by rw [← hA.out]; exact hFit))
  rw [← hA.out] at HCK
  clear hM hFit
  go_enter Tryd.func31, Tryd.ntmps31
  go_wp2_with fail
  refine wp_loop_rounds 1 ?_
  rw [rounds_succ]
  go_wp2_with fail
  refine (HCK.out _).mono ?_
  rintro e w1 ⟨rfl, hb⟩
  have hS2 := (hW1 _ _).trans hb
  have hblk : w1.heap[w.heap.size]? = some (.cells #[.string ⟨#[]⟩, .string ⟨#[]⟩, .int .i64 0, .bool false, .string ⟨#[]⟩, .bool false, .string ⟨#[]⟩, .bool false, .string ⟨#[]⟩, .bool false, .string ⟨#[]⟩] 26 (0, 0)) := (Below.block hb w.heap.size (by rw [World.size_alloc, World.size_alloc]; omega)).trans (heap_alloc1 _ _ _)
  have HBLK := Lib.hid hblk
  clear hblk
  have hsz1 : w.heap.size ≤ w1.heap.size := hS2.size
  have hone1 : Hid ((#[.string ⟨s.toArray⟩, .string ⟨p.toArray⟩, .int .i64 0, .bool false, .string ⟨#[]⟩, .bool false, .string ⟨#[]⟩, .bool false, .string ⟨#[]⟩, .bool false, .string ⟨#[]⟩] : Array Value).all (·.oneCell') = true) := by show _ = _; simp [Value.oneCell']
  have hone0 : Hid ((#[.string ⟨#[]⟩, .string ⟨#[]⟩, .int .i64 0, .bool false, .string ⟨#[]⟩, .bool false, .string ⟨#[]⟩, .bool false, .string ⟨#[]⟩, .bool false, .string ⟨#[]⟩] : Array Value).all (·.oneCell') = true) := by show _ = _; simp [Value.oneCell']
  cases hz0 : (checkA A != 0)
  · have hbox := (box_new (w.alloc (.cells #[.string ⟨#[]⟩, .string ⟨#[]⟩, .int .i64 0, .bool false, .string ⟨#[]⟩, .bool false, .string ⟨#[]⟩, .bool false, .string ⟨#[]⟩, .bool false, .string ⟨#[]⟩] 26)) ((s, p, 0, (false, []), (false, []), (false, []), (false, [])) : Atm) 26).next hb
    rw [World.size_alloc] at hbox
    obtain ⟨b0, b1, b2, b3, b4, b5, b6, b7, b8, b9, b10⟩ := hbox.all
    go_wp2_with (refine wpList_store_row rfl 26 (.tmp 6) (.tmp 39) rfl w.heap.size #[.string ⟨s.toArray⟩, .string ⟨p.toArray⟩, .int .i64 0, .bool false, .string ⟨#[]⟩, .bool false, .string ⟨#[]⟩, .bool false, .string ⟨#[]⟩, .bool false, .string ⟨#[]⟩] rfl rfl 26 #[.string ⟨#[]⟩, .string ⟨#[]⟩, .int .i64 0, .bool false, .string ⟨#[]⟩, .bool false, .string ⟨#[]⟩, .bool false, .string ⟨#[]⟩, .bool false, .string ⟨#[]⟩] HBLK.out ainfo11 rfl hone1.out ?_)
    have hbx : Box (w1.setRow w.heap.size #[.string ⟨s.toArray⟩, .string ⟨p.toArray⟩, .int .i64 0, .bool false, .string ⟨#[]⟩, .bool false, .string ⟨#[]⟩, .bool false, .string ⟨#[]⟩, .bool false, .string ⟨#[]⟩]) w.heap.size ((s, p, 0, (false, []), (false, []), (false, []), (false, [])) : Atm) := box_of_heap (t := 26) (setRow_heap w1 w.heap.size _ #[.string ⟨s.toArray⟩, .string ⟨p.toArray⟩, .int .i64 0, .bool false, .string ⟨#[]⟩, .bool false, .string ⟨#[]⟩, .bool false, .string ⟨#[]⟩, .bool false, .string ⟨#[]⟩] 26 _ HBLK.out)
    obtain ⟨e0, e1, e2, e3, e4, e5, e6, e7, e8, e9, e10⟩ := hbx.all
    refine bodyPost_ret (v := .tuple #[.agg #[.string ⟨s.toArray⟩, .string ⟨p.toArray⟩, .int .i64 0, .bool false, .string ⟨#[]⟩, .bool false, .string ⟨#[]⟩, .bool false, .string ⟨#[]⟩, .bool false, .string ⟨#[]⟩], .int .i64 0]) (by simp [results, Tryd.results31, go_sem, e0, e1, e2, e3, e4, e5, e6, e7, e8, e9, e10]) rfl ⟨?_, below_setRow hS2 (Nat.le_refl _) _⟩
    rw [HM.out, if_neg (by rw [hz0]; simp), hA.out]
    rfl
  · go_wp2_with (refine wpList_store_row rfl 26 (.tmp 6) (.tmp 37) rfl w.heap.size #[.string ⟨#[]⟩, .string ⟨#[]⟩, .int .i64 0, .bool false, .string ⟨#[]⟩, .bool false, .string ⟨#[]⟩, .bool false, .string ⟨#[]⟩, .bool false, .string ⟨#[]⟩] rfl rfl 26 #[.string ⟨#[]⟩, .string ⟨#[]⟩, .int .i64 0, .bool false, .string ⟨#[]⟩, .bool false, .string ⟨#[]⟩, .bool false, .string ⟨#[]⟩, .bool false, .string ⟨#[]⟩] HBLK.out ainfo11 rfl hone0.out ?_)
    have hbx : Box (w1.setRow w.heap.size #[.string ⟨#[]⟩, .string ⟨#[]⟩, .int .i64 0, .bool false, .string ⟨#[]⟩, .bool false, .string ⟨#[]⟩, .bool false, .string ⟨#[]⟩, .bool false, .string ⟨#[]⟩]) w.heap.size zeroA := box_of_heap (t := 26) (setRow_heap w1 w.heap.size _ #[.string ⟨#[]⟩, .string ⟨#[]⟩, .int .i64 0, .bool false, .string ⟨#[]⟩, .bool false, .string ⟨#[]⟩, .bool false, .string ⟨#[]⟩, .bool false, .string ⟨#[]⟩] 26 _ HBLK.out)
    obtain ⟨e0, e1, e2, e3, e4, e5, e6, e7, e8, e9, e10⟩ := hbx.all
    refine bodyPost_ret (v := .tuple #[.agg #[.string ⟨#[]⟩, .string ⟨#[]⟩, .int .i64 0, .bool false, .string ⟨#[]⟩, .bool false, .string ⟨#[]⟩, .bool false, .string ⟨#[]⟩, .bool false, .string ⟨#[]⟩], .int .i64 (checkA A)]) (by simp [results, Tryd.results31, go_sem, e0, e1, e2, e3, e4, e5, e6, e7, e8, e9, e10, zeroA]) rfl ⟨?_, below_setRow hS2 (Nat.le_refl _) _⟩
    rw [HM.out, if_pos hz0]
    rfl

set_option maxHeartbeats 2000000 in
set_option maxRecDepth 100000 in
theorem rmade_1 (s p : List UInt8) (v0 : Bool) (l0 : List UInt8) (b o c : Nat) (w : World) (hc : ∀ k, (h : k < ([(v0, l0)] : List Tm).length) → w.cell? ⟨b, o + k * 2, none⟩ = some (.bool ([(v0, l0)] : List Tm)[k].1) ∧ w.cell? ⟨b, o + k * 2 + 1, none⟩ = some (.string ⟨([(v0, l0)] : List Tm)[k].2.toArray⟩)) (hs : s.length ≤ maxLen) (hp : p.length ≤ maxLen) (h0 : l0.length ≤ maxLen) :
    Calls Tryd.prog 31 #[.string ⟨s.toArray⟩, .string ⟨p.toArray⟩, .slice (some ⟨b, o, none⟩) 1 c] w (MadePost w (madeA s p ([(v0, l0)] : List Tm))) := by
  have q0 : w.cell? ⟨b, o, none⟩ = some (.bool v0) := (hc 0 (by simp)).1
  have q1 : w.cell? ⟨b, o + 1, none⟩ = some (.string ⟨l0.toArray⟩) := (hc 0 (by simp)).2
  have hblt : b < w.heap.size := World.block_lt_of_cell? w _ q0
  have hblt1 : b < w.heap.size + 1 := by omega
  have hblt2 : b < w.heap.size + 1 + 1 := by omega
  clear hc
  obtain ⟨A, hA⟩ : ∃ A, Hid (A = ((s, p, 1, (v0, l0), (false, []), (false, []), (false, [])) : Atm)) := ⟨_, rfl⟩
  have hM : madeA s p ([(v0, l0)] : List Tm) = if (checkA A != 0) = true then (zeroA, checkA A) else (A, 0) := by rw [hA.out]; rfl
  have HM := Lib.hid hM
  have hFit : FitsA A := by
    rw [hA.out]
    refine ⟨hs, hp, ?_⟩
    intro t ht
    have ht' : t ∈ [(v0, l0), (false, []), (false, []), (false, [])] := ht
    simp only [List.mem_cons, List.not_mem_nil, or_false] at ht'
    rcases ht' with rfl | rfl | rfl | rfl <;> first | exact Nat.zero_le _ | assumption
  have hW1 : ∀ (o1 o2 : Obj), Since w ((w.alloc o1).alloc o2) := fun o1 o2 => ((Since.refl _).alloc _).alloc _
  have HCK := Lib.hid (fun W => rcheck_any s p 1 v0 false false false l0 [] [] [] W (by rw [← hA.out]; exact hFit))
  rw [← hA.out] at HCK
  clear hM hFit
  go_enter Tryd.func31, Tryd.ntmps31
  go_wp2_with fail
  refine wp_loop_rounds 2 ?_
  rw [rounds_succ]
  go_wp2_with fail
  rw [rounds_succ]
  go_wp2_with fail
  refine (HCK.out _).mono ?_
  rintro e w1 ⟨rfl, hb⟩
  have hS2 := (hW1 _ _).trans hb
  have hblk : w1.heap[w.heap.size]? = some (.cells #[.string ⟨#[]⟩, .string ⟨#[]⟩, .int .i64 0, .bool false, .string ⟨#[]⟩, .bool false, .string ⟨#[]⟩, .bool false, .string ⟨#[]⟩, .bool false, .string ⟨#[]⟩] 26 (0, 0)) := (Below.block hb w.heap.size (by rw [World.size_alloc, World.size_alloc]; omega)).trans (heap_alloc1 _ _ _)
  have HBLK := Lib.hid hblk
  clear hblk
  have hsz1 : w.heap.size ≤ w1.heap.size := hS2.size
  have hone1 : Hid ((#[.string ⟨s.toArray⟩, .string ⟨p.toArray⟩, .int .i64 1, .bool v0, .string ⟨l0.toArray⟩, .bool false, .string ⟨#[]⟩, .bool false, .string ⟨#[]⟩, .bool false, .string ⟨#[]⟩] : Array Value).all (·.oneCell') = true) := by show _ = _; simp [Value.oneCell']
  have hone0 : Hid ((#[.string ⟨#[]⟩, .string ⟨#[]⟩, .int .i64 0, .bool false, .string ⟨#[]⟩, .bool false, .string ⟨#[]⟩, .bool false, .string ⟨#[]⟩, .bool false, .string ⟨#[]⟩] : Array Value).all (·.oneCell') = true) := by show _ = _; simp [Value.oneCell']
  cases hz0 : (checkA A != 0)
  · have hbox := (box_new (w.alloc (.cells #[.string ⟨#[]⟩, .string ⟨#[]⟩, .int .i64 0, .bool false, .string ⟨#[]⟩, .bool false, .string ⟨#[]⟩, .bool false, .string ⟨#[]⟩, .bool false, .string ⟨#[]⟩] 26)) ((s, p, 1, (v0, l0), (false, []), (false, []), (false, [])) : Atm) 26).next hb
    rw [World.size_alloc] at hbox
    obtain ⟨b0, b1, b2, b3, b4, b5, b6, b7, b8, b9, b10⟩ := hbox.all
    go_wp2_with (refine wpList_store_row rfl 26 (.tmp 6) (.tmp 39) rfl w.heap.size #[.string ⟨s.toArray⟩, .string ⟨p.toArray⟩, .int .i64 1, .bool v0, .string ⟨l0.toArray⟩, .bool false, .string ⟨#[]⟩, .bool false, .string ⟨#[]⟩, .bool false, .string ⟨#[]⟩] rfl rfl 26 #[.string ⟨#[]⟩, .string ⟨#[]⟩, .int .i64 0, .bool false, .string ⟨#[]⟩, .bool false, .string ⟨#[]⟩, .bool false, .string ⟨#[]⟩, .bool false, .string ⟨#[]⟩] HBLK.out ainfo11 rfl hone1.out ?_)
    have hbx : Box (w1.setRow w.heap.size #[.string ⟨s.toArray⟩, .string ⟨p.toArray⟩, .int .i64 1, .bool v0, .string ⟨l0.toArray⟩, .bool false, .string ⟨#[]⟩, .bool false, .string ⟨#[]⟩, .bool false, .string ⟨#[]⟩]) w.heap.size ((s, p, 1, (v0, l0), (false, []), (false, []), (false, [])) : Atm) := box_of_heap (t := 26) (setRow_heap w1 w.heap.size _ #[.string ⟨s.toArray⟩, .string ⟨p.toArray⟩, .int .i64 1, .bool v0, .string ⟨l0.toArray⟩, .bool false, .string ⟨#[]⟩, .bool false, .string ⟨#[]⟩, .bool false, .string ⟨#[]⟩] 26 _ HBLK.out)
    obtain ⟨e0, e1, e2, e3, e4, e5, e6, e7, e8, e9, e10⟩ := hbx.all
    refine bodyPost_ret (v := .tuple #[.agg #[.string ⟨s.toArray⟩, .string ⟨p.toArray⟩, .int .i64 1, .bool v0, .string ⟨l0.toArray⟩, .bool false, .string ⟨#[]⟩, .bool false, .string ⟨#[]⟩, .bool false, .string ⟨#[]⟩], .int .i64 0]) (by simp [results, Tryd.results31, go_sem, e0, e1, e2, e3, e4, e5, e6, e7, e8, e9, e10]) rfl ⟨?_, below_setRow hS2 (Nat.le_refl _) _⟩
    rw [HM.out, if_neg (by rw [hz0]; simp), hA.out]
    rfl
  · go_wp2_with (refine wpList_store_row rfl 26 (.tmp 6) (.tmp 37) rfl w.heap.size #[.string ⟨#[]⟩, .string ⟨#[]⟩, .int .i64 0, .bool false, .string ⟨#[]⟩, .bool false, .string ⟨#[]⟩, .bool false, .string ⟨#[]⟩, .bool false, .string ⟨#[]⟩] rfl rfl 26 #[.string ⟨#[]⟩, .string ⟨#[]⟩, .int .i64 0, .bool false, .string ⟨#[]⟩, .bool false, .string ⟨#[]⟩, .bool false, .string ⟨#[]⟩, .bool false, .string ⟨#[]⟩] HBLK.out ainfo11 rfl hone0.out ?_)
    have hbx : Box (w1.setRow w.heap.size #[.string ⟨#[]⟩, .string ⟨#[]⟩, .int .i64 0, .bool false, .string ⟨#[]⟩, .bool false, .string ⟨#[]⟩, .bool false, .string ⟨#[]⟩, .bool false, .string ⟨#[]⟩]) w.heap.size zeroA := box_of_heap (t := 26) (setRow_heap w1 w.heap.size _ #[.string ⟨#[]⟩, .string ⟨#[]⟩, .int .i64 0, .bool false, .string ⟨#[]⟩, .bool false, .string ⟨#[]⟩, .bool false, .string ⟨#[]⟩, .bool false, .string ⟨#[]⟩] 26 _ HBLK.out)
    obtain ⟨e0, e1, e2, e3, e4, e5, e6, e7, e8, e9, e10⟩ := hbx.all
    refine bodyPost_ret (v := .tuple #[.agg #[.string ⟨#[]⟩, .string ⟨#[]⟩, .int .i64 0, .bool false, .string ⟨#[]⟩, .bool false, .string ⟨#[]⟩, .bool false, .string ⟨#[]⟩, .bool false, .string ⟨#[]⟩], .int .i64 (checkA A)]) (by simp [results, Tryd.results31, go_sem, e0, e1, e2, e3, e4, e5, e6, e7, e8, e9, e10, zeroA]) rfl ⟨?_, below_setRow hS2 (Nat.le_refl _) _⟩
    rw [HM.out, if_pos hz0]
    rfl

set_option maxHeartbeats 2000000 in
set_option maxRecDepth 100000 in
theorem rmade_2 (s p : List UInt8) (v0 v1 : Bool) (l0 l1 : List UInt8) (b o c : Nat) (w : World) (hc : ∀ k, (h : k < ([(v0, l0), (v1, l1)] : List Tm).length) → w.cell? ⟨b, o + k * 2, none⟩ = some (.bool ([(v0, l0), (v1, l1)] : List Tm)[k].1) ∧ w.cell? ⟨b, o + k * 2 + 1, none⟩ = some (.string ⟨([(v0, l0), (v1, l1)] : List Tm)[k].2.toArray⟩)) (hs : s.length ≤ maxLen) (hp : p.length ≤ maxLen) (h0 : l0.length ≤ maxLen) (h1 : l1.length ≤ maxLen) :
    Calls Tryd.prog 31 #[.string ⟨s.toArray⟩, .string ⟨p.toArray⟩, .slice (some ⟨b, o, none⟩) 2 c] w (MadePost w (madeA s p ([(v0, l0), (v1, l1)] : List Tm))) := by
  have q0 : w.cell? ⟨b, o, none⟩ = some (.bool v0) := (hc 0 (by simp)).1
  have q1 : w.cell? ⟨b, o + 1, none⟩ = some (.string ⟨l0.toArray⟩) := (hc 0 (by simp)).2
  have q2 : w.cell? ⟨b, o + 2, none⟩ = some (.bool v1) := (hc 1 (by simp)).1
  have q3 : w.cell? ⟨b, o + 3, none⟩ = some (.string ⟨l1.toArray⟩) := (hc 1 (by simp)).2
  have hblt : b < w.heap.size := World.block_lt_of_cell? w _ q0
  have hblt1 : b < w.heap.size + 1 := by omega
  have hblt2 : b < w.heap.size + 1 + 1 := by omega
  clear hc
  obtain ⟨A, hA⟩ : ∃ A, Hid (A = ((s, p, 2, (v0, l0), (v1, l1), (false, []), (false, [])) : Atm)) := ⟨_, rfl⟩
  have hM : madeA s p ([(v0, l0), (v1, l1)] : List Tm) = if (checkA A != 0) = true then (zeroA, checkA A) else (A, 0) := by rw [hA.out]; rfl
  have HM := Lib.hid hM
  have hFit : FitsA A := by
    rw [hA.out]
    refine ⟨hs, hp, ?_⟩
    intro t ht
    have ht' : t ∈ [(v0, l0), (v1, l1), (false, []), (false, [])] := ht
    simp only [List.mem_cons, List.not_mem_nil, or_false] at ht'
    rcases ht' with rfl | rfl | rfl | rfl <;> first | exact Nat.zero_le _ | assumption
  have hW1 : ∀ (o1 o2 : Obj), Since w ((w.alloc o1).alloc o2) := fun o1 o2 => ((Since.refl _).alloc _).alloc _
  have HCK := Lib.hid (fun W => rcheck_any s p 2 v0 v1 false false l0 l1 [] [] W (by rw [← hA.out]; exact hFit))
  rw [← hA.out] at HCK
  clear hM hFit
  go_enter Tryd.func31, Tryd.ntmps31
  go_wp2_with fail
  refine wp_loop_rounds 3 ?_
  rw [rounds_succ]
  go_wp2_with fail
  rw [rounds_succ]
  go_wp2_with fail
  rw [rounds_succ]
  go_wp2_with fail
  refine (HCK.out _).mono ?_
  rintro e w1 ⟨rfl, hb⟩
  have hS2 := (hW1 _ _).trans hb
  have hblk : w1.heap[w.heap.size]? = some (.cells #[.string ⟨#[]⟩, .string ⟨#[]⟩, .int .i64 0, .bool false, .string ⟨#[]⟩, .bool false, .string ⟨#[]⟩, .bool false, .string ⟨#[]⟩, .bool false, .string ⟨#[]⟩] 26 (0, 0)) := (Below.block hb w.heap.size (by rw [World.size_alloc, World.size_alloc]; omega)).trans (heap_alloc1 _ _ _)
  have HBLK := Lib.hid hblk
  clear hblk
  have hsz1 : w.heap.size ≤ w1.heap.size := hS2.size
  have hone1 : Hid ((#[.string ⟨s.toArray⟩, .string ⟨p.toArray⟩, .int .i64 2, .bool v0, .string ⟨l0.toArray⟩, .bool v1, .string ⟨l1.toArray⟩, .bool false, .string ⟨#[]⟩, .bool false, .string ⟨#[]⟩] : Array Value).all (·.oneCell') = true) := by show _ = _; simp [Value.oneCell']
  have hone0 : Hid ((#[.string ⟨#[]⟩, .string ⟨#[]⟩, .int .i64 0, .bool false, .string ⟨#[]⟩, .bool false, .string ⟨#[]⟩, .bool false, .string ⟨#[]⟩, .bool false, .string ⟨#[]⟩] : Array Value).all (·.oneCell') = true) := by show _ = _; simp [Value.oneCell']
  cases hz0 : (checkA A != 0)
  · have hbox := (box_new (w.alloc (.cells #[.string ⟨#[]⟩, .string ⟨#[]⟩, .int .i64 0, .bool false, .string ⟨#[]⟩, .bool false, .string ⟨#[]⟩, .bool false, .string ⟨#[]⟩, .bool false, .string ⟨#[]⟩] 26)) ((s, p, 2, (v0, l0), (v1, l1), (false, []), (false, [])) : Atm) 26).next hb
    rw [World.size_alloc] at hbox
    obtain ⟨b0, b1, b2, b3, b4, b5, b6, b7, b8, b9, b10⟩ := hbox.all
    go_wp2_with (refine wpList_store_row rfl 26 (.tmp 6) (.tmp 39) rfl w.heap.size #[.string ⟨s.toArray⟩, .string ⟨p.toArray⟩, .int .i64 2, .bool v0, .string ⟨l0.toArray⟩, .bool v1, .string ⟨l1.toArray⟩, .bool false, .string ⟨#[]⟩, .bool false, .string ⟨#[]⟩] rfl rfl 26 #[.string ⟨#[]⟩, .string ⟨#[]⟩, .int .i64 0, .bool false, .string ⟨#[]⟩, .bool false, .string ⟨#[]⟩, .bool false, .string ⟨#[]⟩, .bool false, .string ⟨#[]⟩] HBLK.out ainfo11 rfl hone1.out ?_)
    have hbx : Box (w1.setRow w.heap.size #[.string ⟨s.toArray⟩, .string ⟨p.toArray⟩, .int .i64 2, .bool v0, .string ⟨l0.toArray⟩, .bool v1, .string ⟨l1.toArray⟩, .bool false, .string ⟨#[]⟩, .bool false, .string ⟨#[]⟩]) w.heap.size ((s, p, 2, (v0, l0), (v1, l1), (false, []), (false, [])) : Atm) := box_of_heap (t := 26) (setRow_heap w1 w.heap.size _ #[.string ⟨s.toArray⟩, .string ⟨p.toArray⟩, .int .i64 2, .bool v0, .string ⟨l0.toArray⟩, .bool v1, .string ⟨l1.toArray⟩, .bool false, .string ⟨#[]⟩, .bool false, .string ⟨#[]⟩] 26 _ HBLK.out)
    obtain ⟨e0, e1, e2, e3, e4, e5, e6, e7, e8, e9, e10⟩ := hbx.all
    refine bodyPost_ret (v := .tuple #[.agg #[.string ⟨s.toArray⟩, .string ⟨p.toArray⟩, .int .i64 2, .bool v0, .string ⟨l0.toArray⟩, .bool v1, .string ⟨l1.toArray⟩, .bool false, .string ⟨#[]⟩, .bool false, .string ⟨#[]⟩], .int .i64 0]) (by simp [results, Tryd.results31, go_sem, e0, e1, e2, e3, e4, e5, e6, e7, e8, e9, e10]) rfl ⟨?_, below_setRow hS2 (Nat.le_refl _) _⟩
    rw [HM.out, if_neg (by rw [hz0]; simp), hA.out]
    rfl
  · go_wp2_with (refine wpList_store_row rfl 26 (.tmp 6) (.tmp 37) rfl w.heap.size #[.string ⟨#[]⟩, .string ⟨#[]⟩, .int .i64 0, .bool false, .string ⟨#[]⟩, .bool false, .string ⟨#[]⟩, .bool false, .string ⟨#[]⟩, .bool false, .string ⟨#[]⟩] rfl rfl 26 #[.string ⟨#[]⟩, .string ⟨#[]⟩, .int .i64 0, .bool false, .string ⟨#[]⟩, .bool false, .string ⟨#[]⟩, .bool false, .string ⟨#[]⟩, .bool false, .string ⟨#[]⟩] HBLK.out ainfo11 rfl hone0.out ?_)
    have hbx : Box (w1.setRow w.heap.size #[.string ⟨#[]⟩, .string ⟨#[]⟩, .int .i64 0, .bool false, .string ⟨#[]⟩, .bool false, .string ⟨#[]⟩, .bool false, .string ⟨#[]⟩, .bool false, .string ⟨#[]⟩]) w.heap.size zeroA := box_of_heap (t := 26) (setRow_heap w1 w.heap.size _ #[.string ⟨#[]⟩, .string ⟨#[]⟩, .int .i64 0, .bool false, .string ⟨#[]⟩, .bool false, .string ⟨#[]⟩, .bool false, .string ⟨#[]⟩, .bool false, .string ⟨#[]⟩] 26 _ HBLK.out)
    obtain ⟨e0, e1, e2, e3, e4, e5, e6, e7, e8, e9, e10⟩ := hbx.all
    refine bodyPost_ret (v := .tuple #[.agg #[.string ⟨#[]⟩, .string ⟨#[]⟩, .int .i64 0, .bool false, .string ⟨#[]⟩, .bool false, .string ⟨#[]⟩, .bool false, .string ⟨#[]⟩, .bool false, .string ⟨#[]⟩], .int .i64 (checkA A)]) (by simp [results, Tryd.results31, go_sem, e0, e1, e2, e3, e4, e5, e6, e7, e8, e9, e10, zeroA]) rfl ⟨?_, below_setRow hS2 (Nat.le_refl _) _⟩
    rw [HM.out, if_pos hz0]
    rfl

set_option maxHeartbeats 2000000 in
set_option maxRecDepth 100000 in
theorem rmade_3 (s p : List UInt8) (v0 v1 v2 : Bool) (l0 l1 l2 : List UInt8) (b o c : Nat) (w : World) (hc : ∀ k, (h : k < ([(v0, l0), (v1, l1), (v2, l2)] : List Tm).length) → w.cell? ⟨b, o + k * 2, none⟩ = some (.bool ([(v0, l0), (v1, l1), (v2, l2)] : List Tm)[k].1) ∧ w.cell? ⟨b, o + k * 2 + 1, none⟩ = some (.string ⟨([(v0, l0), (v1, l1), (v2, l2)] : List Tm)[k].2.toArray⟩)) (hs : s.length ≤ maxLen) (hp : p.length ≤ maxLen) (h0 : l0.length ≤ maxLen) (h1 : l1.length ≤ maxLen) (h2 : l2.length ≤ maxLen) :
    Calls Tryd.prog 31 #[.string ⟨s.toArray⟩, .string ⟨p.toArray⟩, .slice (some ⟨b, o, none⟩) 3 c] w (MadePost w (madeA s p ([(v0, l0), (v1, l1), (v2, l2)] : List Tm))) := by
  have q0 : w.cell? ⟨b, o, none⟩ = some (.bool v0) := (hc 0 (by simp)).1
  have q1 : w.cell? ⟨b, o + 1, none⟩ = some (.string ⟨l0.toArray⟩) := (hc 0 (by simp)).2
  have q2 : w.cell? ⟨b, o + 2, none⟩ = some (.bool v1) := (hc 1 (by simp)).1
  have q3 : w.cell? ⟨b, o + 3, none⟩ = some (.string ⟨l1.toArray⟩) := (hc 1 (by simp)).2
  have q4 : w.cell? ⟨b, o + 4, none⟩ = some (.bool v2) := (hc 2 (by simp)).1
  have q5 : w.cell? ⟨b, o + 5, none⟩ = some (.string ⟨l2.toArray⟩) := (hc 2 (by simp)).2
  have hblt : b < w.heap.size := World.block_lt_of_cell? w _ q0
  have hblt1 : b < w.heap.size + 1 := by omega
  have hblt2 : b < w.heap.size + 1 + 1 := by omega
  clear hc
  obtain ⟨A, hA⟩ : ∃ A, Hid (A = ((s, p, 3, (v0, l0), (v1, l1), (v2, l2), (false, [])) : Atm)) := ⟨_, rfl⟩
  have hM : madeA s p ([(v0, l0), (v1, l1), (v2, l2)] : List Tm) = if (checkA A != 0) = true then (zeroA, checkA A) else (A, 0) := by rw [hA.out]; rfl
  have HM := Lib.hid hM
  have hFit : FitsA A := by
    rw [hA.out]
    refine ⟨hs, hp, ?_⟩
    intro t ht
    have ht' : t ∈ [(v0, l0), (v1, l1), (v2, l2), (false, [])] := ht
    simp only [List.mem_cons, List.not_mem_nil, or_false] at ht'
    rcases ht' with rfl | rfl | rfl | rfl <;> first | exact Nat.zero_le _ | assumption
  have hW1 : ∀ (o1 o2 : Obj), Since w ((w.alloc o1).alloc o2) := fun o1 o2 => ((Since.refl _).alloc _).alloc _
  have HCK := Lib.hid (fun W => rcheck_any s p 3 v0 v1 v2 false l0 l1 l2 [] W (by rw [← hA.out]; exact hFit))
  rw [← hA.out] at HCK
  clear hM hFit
  go_enter Tryd.func31, Tryd.ntmps31
  go_wp2_with fail
  refine wp_loop_rounds 4 ?_
  rw [rounds_succ]
  go_wp2_with fail
  rw [rounds_succ]
  go_wp2_with fail
  rw [rounds_succ]
  go_wp2_with fail
  rw [rounds_succ]
  go_wp2_with fail
  refine (HCK.out _).mono ?_
  rintro e w1 ⟨rfl, hb⟩
  have hS2 := (hW1 _ _).trans hb
  have hblk : w1.heap[w.heap.size]? = some (.cells #[.string ⟨#[]⟩, .string ⟨#[]⟩, .int .i64 0, .bool false, .string ⟨#[]⟩, .bool false, .string ⟨#[]⟩, .bool false, .string ⟨#[]⟩, .bool false, .string ⟨#[]⟩] 26 (0, 0)) := (Below.block hb w.heap.size (by rw [World.size_alloc, World.size_alloc]; omega)).trans (heap_alloc1 _ _ _)
  have HBLK := Lib.hid hblk
  clear hblk
  have hsz1 : w.heap.size ≤ w1.heap.size := hS2.size
  have hone1 : Hid ((#[.string ⟨s.toArray⟩, .string ⟨p.toArray⟩, .int .i64 3, .bool v0, .string ⟨l0.toArray⟩, .bool v1, .string ⟨l1.toArray⟩, .bool v2, .string ⟨l2.toArray⟩, .bool false, .string ⟨#[]⟩] : Array Value).all (·.oneCell') = true) := by show _ = _; simp [Value.oneCell']
  have hone0 : Hid ((#[.string ⟨#[]⟩, .string ⟨#[]⟩, .int .i64 0, .bool false, .string ⟨#[]⟩, .bool false, .string ⟨#[]⟩, .bool false, .string ⟨#[]⟩, .bool false, .string ⟨#[]⟩] : Array Value).all (·.oneCell') = true) := by show _ = _; simp [Value.oneCell']
  cases hz0 : (checkA A != 0)
  · have hbox := (box_new (w.alloc (.cells #[.string ⟨#[]⟩, .string ⟨#[]⟩, .int .i64 0, .bool false, .string ⟨#[]⟩, .bool false, .string ⟨#[]⟩, .bool false, .string ⟨#[]⟩, .bool false, .string ⟨#[]⟩] 26)) ((s, p, 3, (v0, l0), (v1, l1), (v2, l2), (false, [])) : Atm) 26).next hb
    rw [World.size_alloc] at hbox
    obtain ⟨b0, b1, b2, b3, b4, b5, b6, b7, b8, b9, b10⟩ := hbox.all
    go_wp2_with (refine wpList_store_row rfl 26 (.tmp 6) (.tmp 39) rfl w.heap.size #[.string ⟨s.toArray⟩, .string ⟨p.toArray⟩, .int .i64 3, .bool v0, .string ⟨l0.toArray⟩, .bool v1, .string ⟨l1.toArray⟩, .bool v2, .string ⟨l2.toArray⟩, .bool false, .string ⟨#[]⟩] rfl rfl 26 #[.string ⟨#[]⟩, .string ⟨#[]⟩, .int .i64 0, .bool false, .string ⟨#[]⟩, .bool false, .string ⟨#[]⟩, .bool false, .string ⟨#[]⟩, .bool false, .string ⟨#[]⟩] HBLK.out ainfo11 rfl hone1.out ?_)
    have hbx : Box (w1.setRow w.heap.size #[.string ⟨s.toArray⟩, .string ⟨p.toArray⟩, .int .i64 3, .bool v0, .string ⟨l0.toArray⟩, .bool v1, .string ⟨l1.toArray⟩, .bool v2, .string ⟨l2.toArray⟩, .bool false, .string ⟨#[]⟩]) w.heap.size ((s, p, 3, (v0, l0), (v1, l1), (v2, l2), (false, [])) : Atm) := box_of_heap (t := 26) (setRow_heap w1 w.heap.size _ #[.string ⟨s.toArray⟩, .string ⟨p.toArray⟩, .int .i64 3, .bool v0, .string ⟨l0.toArray⟩, .bool v1, .string ⟨l1.toArray⟩, .bool v2, .string ⟨l2.toArray⟩, .bool false, .string ⟨#[]⟩] 26 _ HBLK.out)
    obtain ⟨e0, e1, e2, e3, e4, e5, e6, e7, e8, e9, e10⟩ := hbx.all
    refine bodyPost_ret (v := .tuple #[.agg #[.string ⟨s.toArray⟩, .string ⟨p.toArray⟩, .int .i64 3, .bool v0, .string ⟨l0.toArray⟩, .bool v1, .string ⟨l1.toArray⟩, .bool v2, .string ⟨l2.toArray⟩, .bool false, .string ⟨#[]⟩], .int .i64 0]) (by simp [results, Tryd.results31, go_sem, e0, e1, e2, e3, e4, e5, e6, e7, e8, e9, e10]) rfl ⟨?_, below_setRow hS2 (Nat.le_refl _) _⟩
    rw [HM.out, if_neg (by rw [hz0]; simp), hA.out]
    rfl
  · go_wp2_with (refine wpList_store_row rfl 26 (.tmp 6) (.tmp 37) rfl w.heap.size #[.string ⟨#[]⟩, .string ⟨#[]⟩, .int .i64 0, .bool false, .string ⟨#[]⟩, .bool false, .string ⟨#[]⟩, .bool false, .string ⟨#[]⟩, .bool false, .string ⟨#[]⟩] rfl rfl 26 #[.string ⟨#[]⟩, .string ⟨#[]⟩, .int .i64 0, .bool false, .string ⟨#[]⟩, .bool false, .string ⟨#[]⟩, .bool false, .string ⟨#[]⟩, .bool false, .string ⟨#[]⟩] HBLK.out ainfo11 rfl hone0.out ?_)
    have hbx : Box (w1.setRow w.heap.size #[.string ⟨#[]⟩, .string ⟨#[]⟩, .int .i64 0, .bool false, .string ⟨#[]⟩, .bool false, .string ⟨#[]⟩, .bool false, .string ⟨#[]⟩, .bool false, .string ⟨#[]⟩]) w.heap.size zeroA := box_of_heap (t := 26) (setRow_heap w1 w.heap.size _ #[.string ⟨#[]⟩, .string ⟨#[]⟩, .int .i64 0, .bool false, .string ⟨#[]⟩, .bool false, .string ⟨#[]⟩, .bool false, .string ⟨#[]⟩, .bool false, .string ⟨#[]⟩] 26 _ HBLK.out)
    obtain ⟨e0, e1, e2, e3, e4, e5, e6, e7, e8, e9, e10⟩ := hbx.all
    refine bodyPost_ret (v := .tuple #[.agg #[.string ⟨#[]⟩, .string ⟨#[]⟩, .int .i64 0, .bool false, .string ⟨#[]⟩, .bool false, .string ⟨#[]⟩, .bool false, .string ⟨#[]⟩, .bool false, .string ⟨#[]⟩], .int .i64 (checkA A)]) (by simp [results, Tryd.results31, go_sem, e0, e1, e2, e3, e4, e5, e6, e7, e8, e9, e10, zeroA]) rfl ⟨?_, below_setRow hS2 (Nat.le_refl _) _⟩
    rw [HM.out, if_pos hz0]
    rfl

set_option maxHeartbeats 2000000 in
set_option maxRecDepth 100000 in
theorem rmade_4 (s p : List UInt8) (v0 v1 v2 v3 : Bool) (l0 l1 l2 l3 : List UInt8) (b o c : Nat) (w : World) (hc : ∀ k, (h : k < ([(v0, l0), (v1, l1), (v2, l2), (v3, l3)] : List Tm).length) → w.cell? ⟨b, o + k * 2, none⟩ = some (.bool ([(v0, l0), (v1, l1), (v2, l2), (v3, l3)] : List Tm)[k].1) ∧ w.cell? ⟨b, o + k * 2 + 1, none⟩ = some (.string ⟨([(v0, l0), (v1, l1), (v2, l2), (v3, l3)] : List Tm)[k].2.toArray⟩)) (hs : s.length ≤ maxLen) (hp : p.length ≤ maxLen) (h0 : l0.length ≤ maxLen) (h1 : l1.length ≤ maxLen) (h2 : l2.length ≤ maxLen) (h3 : l3.length ≤ maxLen) :
    Calls Tryd.prog 31 #[.string ⟨s.toArray⟩, .string ⟨p.toArray⟩, .slice (some ⟨b, o, none⟩) 4 c] w (MadePost w (madeA s p ([(v0, l0), (v1, l1), (v2, l2), (v3, l3)] : List Tm))) := by
  have q0 : w.cell? ⟨b, o, none⟩ = some (.bool v0) := (hc 0 (by simp)).1
  have q1 : w.cell? ⟨b, o + 1, none⟩ = some (.string ⟨l0.toArray⟩) := (hc 0 (by simp)).2
  have q2 : w.cell? ⟨b, o + 2, none⟩ = some (.bool v1) := (hc 1 (by simp)).1
  have q3 : w.cell? ⟨b, o + 3, none⟩ = some (.string ⟨l1.toArray⟩) := (hc 1 (by simp)).2
  have q4 : w.cell? ⟨b, o + 4, none⟩ = some (.bool v2) := (hc 2 (by simp)).1
  have q5 : w.cell? ⟨b, o + 5, none⟩ = some (.string ⟨l2.toArray⟩) := (hc 2 (by simp)).2
  have q6 : w.cell? ⟨b, o + 6, none⟩ = some (.bool v3) := (hc 3 (by simp)).1
  have q7 : w.cell? ⟨b, o + 7, none⟩ = some (.string ⟨l3.toArray⟩) := (hc 3 (by simp)).2
  have hblt : b < w.heap.size := World.block_lt_of_cell? w _ q0
  have hblt1 : b < w.heap.size + 1 := by omega
  have hblt2 : b < w.heap.size + 1 + 1 := by omega
  clear hc
  obtain ⟨A, hA⟩ : ∃ A, Hid (A = ((s, p, 4, (v0, l0), (v1, l1), (v2, l2), (v3, l3)) : Atm)) := ⟨_, rfl⟩
  have hM : madeA s p ([(v0, l0), (v1, l1), (v2, l2), (v3, l3)] : List Tm) = if (checkA A != 0) = true then (zeroA, checkA A) else (A, 0) := by rw [hA.out]; rfl
  have HM := Lib.hid hM
  have hFit : FitsA A := by
    rw [hA.out]
    refine ⟨hs, hp, ?_⟩
    intro t ht
    have ht' : t ∈ [(v0, l0), (v1, l1), (v2, l2), (v3, l3)] := ht
    simp only [List.mem_cons, List.not_mem_nil, or_false] at ht'
    rcases ht' with rfl | rfl | rfl | rfl <;> first | exact Nat.zero_le _ | assumption
  have hW1 : ∀ (o1 o2 : Obj), Since w ((w.alloc o1).alloc o2) := fun o1 o2 => ((Since.refl _).alloc _).alloc _
  have HCK := Lib.hid (fun W => rcheck_any s p 4 v0 v1 v2 v3 l0 l1 l2 l3 W (by rw [← hA.out]; exact hFit))
  rw [← hA.out] at HCK
  clear hM hFit
  go_enter Tryd.func31, Tryd.ntmps31
  go_wp2_with fail
  refine wp_loop_rounds 5 ?_
  rw [rounds_succ]
  go_wp2_with fail
  rw [rounds_succ]
  go_wp2_with fail
  rw [rounds_succ]
  go_wp2_with fail
  rw [rounds_succ]
  go_wp2_with fail
  rw [rounds_succ]
  go_wp2_with fail
  refine (HCK.out _).mono ?_
  rintro e w1 ⟨rfl, hb⟩
  have hS2 := (hW1 _ _).trans hb
  have hblk : w1.heap[w.heap.size]? = some (.cells #[.string ⟨#[]⟩, .string ⟨#[]⟩, .int .i64 0, .bool false, .string ⟨#[]⟩, .bool false, .string ⟨#[]⟩, .bool false, .string ⟨#[]⟩, .bool false, .string ⟨#[]⟩] 26 (0, 0)) := (Below.block hb w.heap.size (by rw [World.size_alloc, World.size_alloc]; omega)).trans (heap_alloc1 _ _ _)
  have HBLK := Lib.hid hblk
  clear hblk
  have hsz1 : w.heap.size ≤ w1.heap.size := hS2.size
  have hone1 : Hid ((#[.string ⟨s.toArray⟩, .string ⟨p.toArray⟩, .int .i64 4, .bool v0, .string ⟨l0.toArray⟩, .bool v1, .string ⟨l1.toArray⟩, .bool v2, .string ⟨l2.toArray⟩, .bool v3, .string ⟨l3.toArray⟩] : Array Value).all (·.oneCell') = true) := by show _ = _; simp [Value.oneCell']
  have hone0 : Hid ((#[.string ⟨#[]⟩, .string ⟨#[]⟩, .int .i64 0, .bool false, .string ⟨#[]⟩, .bool false, .string ⟨#[]⟩, .bool false, .string ⟨#[]⟩, .bool false, .string ⟨#[]⟩] : Array Value).all (·.oneCell') = true) := by show _ = _; simp [Value.oneCell']
  cases hz0 : (checkA A != 0)
  · have hbox := (box_new (w.alloc (.cells #[.string ⟨#[]⟩, .string ⟨#[]⟩, .int .i64 0, .bool false, .string ⟨#[]⟩, .bool false, .string ⟨#[]⟩, .bool false, .string ⟨#[]⟩, .bool false, .string ⟨#[]⟩] 26)) ((s, p, 4, (v0, l0), (v1, l1), (v2, l2), (v3, l3)) : Atm) 26).next hb
    rw [World.size_alloc] at hbox
    obtain ⟨b0, b1, b2, b3, b4, b5, b6, b7, b8, b9, b10⟩ := hbox.all
    go_wp2_with (refine wpList_store_row rfl 26 (.tmp 6) (.tmp 39) rfl w.heap.size #[.string ⟨s.toArray⟩, .string ⟨p.toArray⟩, .int .i64 4, .bool v0, .string ⟨l0.toArray⟩, .bool v1, .string ⟨l1.toArray⟩, .bool v2, .string ⟨l2.toArray⟩, .bool v3, .string ⟨l3.toArray⟩] rfl rfl 26 #[.string ⟨#[]⟩, .string ⟨#[]⟩, .int .i64 0, .bool false, .string ⟨#[]⟩, .bool false, .string ⟨#[]⟩, .bool false, .string ⟨#[]⟩, .bool false, .string ⟨#[]⟩] HBLK.out ainfo11 rfl hone1.out ?_)
    have hbx : Box (w1.setRow w.heap.size #[.string ⟨s.toArray⟩, .string ⟨p.toArray⟩, .int .i64 4, .bool v0, .string ⟨l0.toArray⟩, .bool v1, .string ⟨l1.toArray⟩, .bool v2, .string ⟨l2.toArray⟩, .bool v3, .string ⟨l3.toArray⟩]) w.heap.size ((s, p, 4, (v0, l0), (v1, l1), (v2, l2), (v3, l3)) : Atm) := box_of_heap (t := 26) (setRow_heap w1 w.heap.size _ #[.string ⟨s.toArray⟩, .string ⟨p.toArray⟩, .int .i64 4, .bool v0, .string ⟨l0.toArray⟩, .bool v1, .string ⟨l1.toArray⟩, .bool v2, .string ⟨l2.toArray⟩, .bool v3, .string ⟨l3.toArray⟩] 26 _ HBLK.out)
    obtain ⟨e0, e1, e2, e3, e4, e5, e6, e7, e8, e9, e10⟩ := hbx.all
    refine bodyPost_ret (v := .tuple #[.agg #[.string ⟨s.toArray⟩, .string ⟨p.toArray⟩, .int .i64 4, .bool v0, .string ⟨l0.toArray⟩, .bool v1, .string ⟨l1.toArray⟩, .bool v2, .string ⟨l2.toArray⟩, .bool v3, .string ⟨l3.toArray⟩], .int .i64 0]) (by simp [results, Tryd.results31, go_sem, e0, e1, e2, e3, e4, e5, e6, e7, e8, e9, e10]) rfl ⟨?_, below_setRow hS2 (Nat.le_refl _) _⟩
    rw [HM.out, if_neg (by rw [hz0]; simp), hA.out]
    rfl
  · go_wp2_with (refine wpList_store_row rfl 26 (.tmp 6) (.tmp 37) rfl w.heap.size #[.string ⟨#[]⟩, .string ⟨#[]⟩, .int .i64 0, .bool false, .string ⟨#[]⟩, .bool false, .string ⟨#[]⟩, .bool false, .string ⟨#[]⟩, .bool false, .string ⟨#[]⟩] rfl rfl 26 #[.string ⟨#[]⟩, .string ⟨#[]⟩, .int .i64 0, .bool false, .string ⟨#[]⟩, .bool false, .string ⟨#[]⟩, .bool false, .string ⟨#[]⟩, .bool false, .string ⟨#[]⟩] HBLK.out ainfo11 rfl hone0.out ?_)
    have hbx : Box (w1.setRow w.heap.size #[.string ⟨#[]⟩, .string ⟨#[]⟩, .int .i64 0, .bool false, .string ⟨#[]⟩, .bool false, .string ⟨#[]⟩, .bool false, .string ⟨#[]⟩, .bool false, .string ⟨#[]⟩]) w.heap.size zeroA := box_of_heap (t := 26) (setRow_heap w1 w.heap.size _ #[.string ⟨#[]⟩, .string ⟨#[]⟩, .int .i64 0, .bool false, .string ⟨#[]⟩, .bool false, .string ⟨#[]⟩, .bool false, .string ⟨#[]⟩, .bool false, .string ⟨#[]⟩] 26 _ HBLK.out)
    obtain ⟨e0, e1, e2, e3, e4, e5, e6, e7, e8, e9, e10⟩ := hbx.all
    refine bodyPost_ret (v := .tuple #[.agg #[.string ⟨#[]⟩, .string ⟨#[]⟩, .int .i64 0, .bool false, .string ⟨#[]⟩, .bool false, .string ⟨#[]⟩, .bool false, .string ⟨#[]⟩, .bool false, .string ⟨#[]⟩], .int .i64 (checkA A)]) (by simp [results, Tryd.results31, go_sem, e0, e1, e2, e3, e4, e5, e6, e7, e8, e9, e10, zeroA]) rfl ⟨?_, below_setRow hS2 (Nat.le_refl _) _⟩
    rw [HM.out, if_pos hz0]
    rfl

set_option maxHeartbeats 1000000 in
set_option maxRecDepth 100000 in
theorem rmade_long (s p : List UInt8) (a : Option Addr) (n c : Nat) (w : World) (h : (4 : Int) < n) (_hn : n ≤ maxLen) :
    Calls Tryd.prog 31 #[.string ⟨s.toArray⟩, .string ⟨p.toArray⟩, .slice a n c] w (MadePost w (zeroA, 4)) := by
  unfold maxLen at _hn
  go_enter Tryd.func31, Tryd.ntmps31
  go_wp2_with fail
  refine bodyPost_ret (v := .tuple #[.agg #[.string ⟨#[]⟩, .string ⟨#[]⟩, .int .i64 0, .bool false, .string ⟨#[]⟩, .bool false, .string ⟨#[]⟩, .bool false, .string ⟨#[]⟩, .bool false, .string ⟨#[]⟩], .int .i64 4]) (by simp [results, Tryd.results31, go_sem]) rfl ⟨rfl, (Since.refl _).alloc _⟩

/-- The reference's Made at every list of terms. -/
theorem rmade_any (s p : List UInt8) (v : Value) (L : List Tm) (w : World) (hv : RowOf 2 tmC w v L) (hs : s.length ≤ maxLen) (hp : p.length ≤ maxLen) (hL : ∀ t ∈ L, t.2.length ≤ maxLen) :
    Calls Tryd.prog 31 #[.string ⟨s.toArray⟩, .string ⟨p.toArray⟩, v] w (MadePost w (madeA s p L)) := by
  have hm := hv.len
  by_cases h4 : 4 < L.length
  · have e : madeA s p L = (zeroA, 4) := by rw [madeA, if_pos h4]
    rw [e]
    obtain ⟨a, c, rfl⟩ := hv.form
    exact rmade_long s p a L.length c w (by omega) hm
  · obtain ⟨a, c, rfl, hc1, hc2, hc⟩ := hv
    have hcell : 0 < L.length → ∃ b o, a = some ⟨b, o, none⟩ ∧ ∀ k, (h : k < L.length) → w.cell? ⟨b, o + k * 2, none⟩ = some (.bool L[k].1) ∧ w.cell? ⟨b, o + k * 2 + 1, none⟩ = some (.string ⟨L[k].2.toArray⟩) := by
      intro h0
      obtain ⟨b, o, e, hx⟩ := hc h0
      exact ⟨b, o, e, fun k hk => ⟨hx k hk 0 _ rfl, hx k hk 1 _ rfl⟩⟩
    clear hc
    match L, hcell, hL, h4 with
    | [], _, _, _ => exact rmade_0 s p a c w hs hp
    | [(v0, l0)], hcell, hL, _ =>
      obtain ⟨b, o, rfl, hx⟩ := hcell (by simp)
      exact rmade_1 s p v0 l0 b o c w hx hs hp (hL (v0, l0) (by simp))
    | [(v0, l0), (v1, l1)], hcell, hL, _ =>
      obtain ⟨b, o, rfl, hx⟩ := hcell (by simp)
      exact rmade_2 s p v0 v1 l0 l1 b o c w hx hs hp (hL (v0, l0) (by simp)) (hL (v1, l1) (by simp))
    | [(v0, l0), (v1, l1), (v2, l2)], hcell, hL, _ =>
      obtain ⟨b, o, rfl, hx⟩ := hcell (by simp)
      exact rmade_3 s p v0 v1 v2 l0 l1 l2 b o c w hx hs hp (hL (v0, l0) (by simp)) (hL (v1, l1) (by simp)) (hL (v2, l2) (by simp))
    | [(v0, l0), (v1, l1), (v2, l2), (v3, l3)], hcell, hL, _ =>
      obtain ⟨b, o, rfl, hx⟩ := hcell (by simp)
      exact rmade_4 s p v0 v1 v2 v3 l0 l1 l2 l3 b o c w hx hs hp (hL (v0, l0) (by simp)) (hL (v1, l1) (by simp)) (hL (v2, l2) (by simp)) (hL (v3, l3) (by simp))
    | _ :: _ :: _ :: _ :: _ :: _, _, _, h4 => exact absurd (by simp) h4
end Go.Proofs.YtapkafdlbocmmaaDoor
