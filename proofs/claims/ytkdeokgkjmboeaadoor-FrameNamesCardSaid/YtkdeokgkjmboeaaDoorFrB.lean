/- Package frame: the reader's atom. -/
import Derived.Test.YtkdeokgkjmboeaaDoorFrA
import Derived.Test.YtkdeokgkjmboeaaDoorCertH3
namespace Go.Proofs.YtkdeokgkjmboeaaDoor
open Go.RowKit

theorem RdF.row {W : World} {g B : Nat} {s : List UInt8} {bad : Bool} (h : RdF W g s bad) (hB : g ≠ B) (cs : Array Value) : RdF (W.setRow B cs) g s bad := (setRow_other W B g cs hB).trans h
def AtPost (s : List UInt8) (bad : Bool) (g : Nat) (w : World) (e : Ending) (w' : World) : Prop :=
  e = .returned (.agg (atmC (atomF s bad).1)) ∧ RdF w' g (atomF s bad).2.1 (atomF s bad).2.2 ∧ w.grownBy w' (some g)
set_option maxHeartbeats 4000000 in
set_option maxRecDepth 100000 in
theorem fatom_any (s : List UInt8) (bad : Bool) (g : Nat) (w : World) (hs : s.length ≤ 1000000) (hR : RdF w g s bad) (hE : Env w) :
    Calls Tryd.prog 30 #[.pointer (some ⟨g, 0, none⟩)] w (AtPost s bad g w) := by
  have hgl := hR.lt
  have hA : Since w (w.alloc (.cells #[.string ⟨#[]⟩, .string ⟨#[]⟩, .int .i64 0, .bool false, .string ⟨#[]⟩, .bool false, .string ⟨#[]⟩, .bool false, .string ⟨#[]⟩, .bool false, .string ⟨#[]⟩] 26)) := (Since.refl _).alloc _
  have hR1 := hR.next hA
  have hE1 := hE.next hA
  have hZ0 : BlkA (w.alloc (.cells #[.string ⟨#[]⟩, .string ⟨#[]⟩, .int .i64 0, .bool false, .string ⟨#[]⟩, .bool false, .string ⟨#[]⟩, .bool false, .string ⟨#[]⟩, .bool false, .string ⟨#[]⟩] 26)) w.heap.size zeroAtm := heap_alloc_new w _
  have c0 := hR1.c0
  have c1 := hR1.c1
  have hlt := hR1.lt
  have hfree := hR1.free
  have hg0 : w.grownBy (w.alloc (.cells #[.string ⟨#[]⟩, .string ⟨#[]⟩, .int .i64 0, .bool false, .string ⟨#[]⟩, .bool false, .string ⟨#[]⟩, .bool false, .string ⟨#[]⟩, .bool false, .string ⟨#[]⟩] 26)) (some g) := gsince (World.grownBy.refl _ _) hA
  cases bad
  case true =>
    have HP : Hid (∀ W, RdF W g s true → w.grownBy W (some g) → AtPost s true g w (.returned (.agg #[.string ⟨#[]⟩, .string ⟨#[]⟩, .int .i64 0, .bool false, .string ⟨#[]⟩, .bool false, .string ⟨#[]⟩, .bool false, .string ⟨#[]⟩, .bool false, .string ⟨#[]⟩])) W) := fun W h1 h2 => ⟨rfl, h1, h2⟩
    simp only [if_true] at c1
    have HZ0 : Hid ((w.alloc (.cells #[.string ⟨#[]⟩, .string ⟨#[]⟩, .int .i64 0, .bool false, .string ⟨#[]⟩, .bool false, .string ⟨#[]⟩, .bool false, .string ⟨#[]⟩, .bool false, .string ⟨#[]⟩] 26)).heap[w.heap.size]? = some (.cells #[.string ⟨#[]⟩, .string ⟨#[]⟩, .int .i64 0, .bool false, .string ⟨#[]⟩, .bool false, .string ⟨#[]⟩, .bool false, .string ⟨#[]⟩, .bool false, .string ⟨#[]⟩] 26 (0, 0))) := hZ0
    have hself : Hid ((w.alloc (.cells #[.string ⟨#[]⟩, .string ⟨#[]⟩, .int .i64 0, .bool false, .string ⟨#[]⟩, .bool false, .string ⟨#[]⟩, .bool false, .string ⟨#[]⟩, .bool false, .string ⟨#[]⟩] 26)).setRow w.heap.size #[.string ⟨#[]⟩, .string ⟨#[]⟩, .int .i64 0, .bool false, .string ⟨#[]⟩, .bool false, .string ⟨#[]⟩, .bool false, .string ⟨#[]⟩, .bool false, .string ⟨#[]⟩] = w.alloc (.cells #[.string ⟨#[]⟩, .string ⟨#[]⟩, .int .i64 0, .bool false, .string ⟨#[]⟩, .bool false, .string ⟨#[]⟩, .bool false, .string ⟨#[]⟩, .bool false, .string ⟨#[]⟩] 26)) := setRow_self _ w.heap.size _ _ _ HZ0.out
    have hone : Hid ((#[.string ⟨#[]⟩, .string ⟨#[]⟩, .int .i64 0, .bool false, .string ⟨#[]⟩, .bool false, .string ⟨#[]⟩, .bool false, .string ⟨#[]⟩, .bool false, .string ⟨#[]⟩] : Array Value).all (·.oneCell') = true) := by show _ = _; simp [Value.oneCell']
    go_enter Tryd.func30, Tryd.ntmps30
    go_wp2_with ((refine wpList_store_row rfl 26 (.tmp 2) (.tmp 11) rfl w.heap.size #[.string ⟨#[]⟩, .string ⟨#[]⟩, .int .i64 0, .bool false, .string ⟨#[]⟩, .bool false, .string ⟨#[]⟩, .bool false, .string ⟨#[]⟩, .bool false, .string ⟨#[]⟩] rfl rfl 26 _ HZ0.out ainfoA rfl hone.out ?_); rw [hself.out])
    refine bodyPost_ret (results_cell_row rfl _ _ w.heap.size 26 #[.string ⟨#[]⟩, .string ⟨#[]⟩, .int .i64 0, .bool false, .string ⟨#[]⟩, .bool false, .string ⟨#[]⟩, .bool false, .string ⟨#[]⟩, .bool false, .string ⟨#[]⟩] (0, 0) _ rfl HZ0.out Tryd.underlying26 rfl ainfoA) rfl ?_
    exact HP.out _ hR1 hg0
  case false =>
    simp only [Bool.false_eq_true, if_false] at c1
    cases hz : (atomS s 0 false).2.2
    case true =>
      have HP : Hid (∀ W, RdF W g s true → w.grownBy W (some g) → AtPost s false g w (.returned (.agg #[.string ⟨#[]⟩, .string ⟨#[]⟩, .int .i64 0, .bool false, .string ⟨#[]⟩, .bool false, .string ⟨#[]⟩, .bool false, .string ⟨#[]⟩, .bool false, .string ⟨#[]⟩])) W) := by
        intro W h1 h2
        unfold AtPost atomF
        rw [if_neg (by simp), hz, if_pos rfl]
        exact ⟨rfl, h1, h2⟩
      have HRA := Lib.hid (readatom_no s _ hs hE1 hz)
      clear hz
      go_enter Tryd.func30, Tryd.ntmps30
      go_wp2_with fail
      refine HRA.out.mono ?_
      rintro e w1 ⟨rfl, hb⟩
      have hR2 := hR1.next hb
      have hS1 := hA.trans hb
      have hZ1 := hZ0.next hb
      have hl1 := hR2.lt
      have hlz := hZ1.lt
      have hf2 := hR2.free
      have d1 := hR2.c1
      simp only [Bool.false_eq_true, if_false] at d1
      have hBx : BlkA ((w1.setCell ⟨g, 1, none⟩ (.int .i64 15)).alloc (.cells #[.string ⟨#[]⟩, .string ⟨#[]⟩, .int .i64 0, .bool false, .string ⟨#[]⟩, .bool false, .string ⟨#[]⟩, .bool false, .string ⟨#[]⟩, .bool false, .string ⟨#[]⟩] 26)) w1.heap.size zeroAtm := by
        have h := heap_alloc_new (w1.setCell ⟨g, 1, none⟩ (.int .i64 15)) (.cells #[.string ⟨#[]⟩, .string ⟨#[]⟩, .int .i64 0, .bool false, .string ⟨#[]⟩, .bool false, .string ⟨#[]⟩, .bool false, .string ⟨#[]⟩, .bool false, .string ⟨#[]⟩] 26)
        have hsz : (w1.setCell ⟨g, 1, none⟩ (.int .i64 15)).heap.size = w1.heap.size := by simp
        rw [hsz] at h
        exact h
      have hR3 := (hR2.set1 true).next (W' := (w1.setCell ⟨g, 1, none⟩ (.int .i64 15)).alloc (.cells #[.string ⟨#[]⟩, .string ⟨#[]⟩, .int .i64 0, .bool false, .string ⟨#[]⟩, .bool false, .string ⟨#[]⟩, .bool false, .string ⟨#[]⟩, .bool false, .string ⟨#[]⟩] 26)) ((Since.refl _).alloc _)
      have HT := Lib.hid (ftake_any s true 0 g _ hR3)
      unfold TakePost takeF at HT
      simp only [if_true] at HT
      clear c0 c1 hlt hfree hb
      go_wp2_with fail
      refine HT.out.mono ?_
      rintro e w2 ⟨rfl, h1, h2⟩
      have hB3 : BlkA w2 w1.heap.size zeroAtm := hBx.grown h2 (fun e => by injection e with e; omega)
      have hZ3 : BlkA w2 w.heap.size zeroAtm := ((hZ1.far (p := ⟨g, 1, none⟩) (by show w.heap.size ≠ g; omega) _).next ((Since.refl _).alloc _)).grown h2 (fun e => by injection e with e; omega)
      have HB3 : Hid (w2.heap[w1.heap.size]? = some (.cells #[.string ⟨#[]⟩, .string ⟨#[]⟩, .int .i64 0, .bool false, .string ⟨#[]⟩, .bool false, .string ⟨#[]⟩, .bool false, .string ⟨#[]⟩, .bool false, .string ⟨#[]⟩] 26 (0, 0))) := hB3
      have HZ3 : Hid (w2.heap[w.heap.size]? = some (.cells #[.string ⟨#[]⟩, .string ⟨#[]⟩, .int .i64 0, .bool false, .string ⟨#[]⟩, .bool false, .string ⟨#[]⟩, .bool false, .string ⟨#[]⟩, .bool false, .string ⟨#[]⟩] 26 (0, 0))) := hZ3
      have HF3 : Hid ((w2.setRow w.heap.size #[.string ⟨#[]⟩, .string ⟨#[]⟩, .int .i64 0, .bool false, .string ⟨#[]⟩, .bool false, .string ⟨#[]⟩, .bool false, .string ⟨#[]⟩, .bool false, .string ⟨#[]⟩]).heap[w.heap.size]? = some (.cells #[.string ⟨#[]⟩, .string ⟨#[]⟩, .int .i64 0, .bool false, .string ⟨#[]⟩, .bool false, .string ⟨#[]⟩, .bool false, .string ⟨#[]⟩, .bool false, .string ⟨#[]⟩] 26 (0, 0))) := setRow_heap _ _ _ _ _ (0, 0) HZ3.out
      have hone : Hid ((#[.string ⟨#[]⟩, .string ⟨#[]⟩, .int .i64 0, .bool false, .string ⟨#[]⟩, .bool false, .string ⟨#[]⟩, .bool false, .string ⟨#[]⟩, .bool false, .string ⟨#[]⟩] : Array Value).all (·.oneCell') = true) := by show _ = _; simp [Value.oneCell']
      have hg3 : w.grownBy w2 (some g) := gtrans (gsince (gset (gsince (World.grownBy.refl _ _) hS1) 1 _) ((Since.refl _).alloc _)) h2
      clear hB3 hZ3 hBx hZ1
      go_wp2_with (first
        | (refine wpList_load_row rfl 26 (.tmp 3) rfl w1.heap.size rfl 26 #[.string ⟨#[]⟩, .string ⟨#[]⟩, .int .i64 0, .bool false, .string ⟨#[]⟩, .bool false, .string ⟨#[]⟩, .bool false, .string ⟨#[]⟩, .bool false, .string ⟨#[]⟩] (0, 0) _ HB3.out Tryd.underlying26 rfl ainfoA ?_)
        | (refine wpList_store_row rfl 26 (.tmp 2) (.tmp 28) rfl w.heap.size #[.string ⟨#[]⟩, .string ⟨#[]⟩, .int .i64 0, .bool false, .string ⟨#[]⟩, .bool false, .string ⟨#[]⟩, .bool false, .string ⟨#[]⟩, .bool false, .string ⟨#[]⟩] rfl rfl 26 _ HZ3.out ainfoA rfl hone.out ?_))
      refine bodyPost_ret (results_cell_row rfl _ _ w.heap.size 26 #[.string ⟨#[]⟩, .string ⟨#[]⟩, .int .i64 0, .bool false, .string ⟨#[]⟩, .bool false, .string ⟨#[]⟩, .bool false, .string ⟨#[]⟩, .bool false, .string ⟨#[]⟩] (0, 0) _ rfl HF3.out Tryd.underlying26 rfl ainfoA) rfl ?_
      exact HP.out _ (h1.row (by omega) _) (grow_row hg3 (Nat.le_refl _) _)
    case false =>
      obtain ⟨⟨b_s, b_p, b_n, ⟨b_v0, b_l0⟩, ⟨b_v1, b_l1⟩, ⟨b_v2, b_l2⟩, ⟨b_v3, b_l3⟩⟩, k, hq⟩ : ∃ (b : Atm) (k : Nat), atomS s 0 false = (b, k, false) := ⟨_, _, Prod.ext rfl (Prod.ext rfl hz)⟩
      obtain ⟨_, hk, _⟩ := atomS_dec hq
      have HP : Hid (∀ W, RdF W g (s.drop k) false → w.grownBy W (some g) → AtPost s false g w (.returned (.agg #[.string ⟨b_s.toArray⟩, .string ⟨b_p.toArray⟩, .int .i64 b_n, .bool b_v0, .string ⟨b_l0.toArray⟩, .bool b_v1, .string ⟨b_l1.toArray⟩, .bool b_v2, .string ⟨b_l2.toArray⟩, .bool b_v3, .string ⟨b_l3.toArray⟩])) W) := by
        intro W h1 h2
        unfold AtPost atomF
        rw [if_neg (by simp), hq, if_neg (by simp)]
        exact ⟨rfl, h1, h2⟩
      have HRA := Lib.hid (readatom_yes s b_s b_p b_n b_v0 b_v1 b_v2 b_v3 b_l0 b_l1 b_l2 b_l3 k _ hs hE1 hq)
      clear hz hq
      go_enter Tryd.func30, Tryd.ntmps30
      go_wp2_with fail
      refine HRA.out.mono ?_
      rintro e w1 ⟨rfl, hb⟩
      have hR2 := hR1.next hb
      have hS1 := hA.trans hb
      have hZ1 := hZ0.next hb
      have hl1 := hR2.lt
      have hlz := hZ1.lt
      have hf2 := hR2.free
      have d1 := hR2.c1
      simp only [Bool.false_eq_true, if_false] at d1
      have hBx : BlkA ((w1.setCell ⟨g, 1, none⟩ (.int .i64 0)).alloc (.cells #[.string ⟨b_s.toArray⟩, .string ⟨b_p.toArray⟩, .int .i64 b_n, .bool b_v0, .string ⟨b_l0.toArray⟩, .bool b_v1, .string ⟨b_l1.toArray⟩, .bool b_v2, .string ⟨b_l2.toArray⟩, .bool b_v3, .string ⟨b_l3.toArray⟩] 26)) w1.heap.size ((b_s, b_p, b_n, (b_v0, b_l0), (b_v1, b_l1), (b_v2, b_l2), (b_v3, b_l3)) : Atm) := by
        have h := heap_alloc_new (w1.setCell ⟨g, 1, none⟩ (.int .i64 0)) (.cells #[.string ⟨b_s.toArray⟩, .string ⟨b_p.toArray⟩, .int .i64 b_n, .bool b_v0, .string ⟨b_l0.toArray⟩, .bool b_v1, .string ⟨b_l1.toArray⟩, .bool b_v2, .string ⟨b_l2.toArray⟩, .bool b_v3, .string ⟨b_l3.toArray⟩] 26)
        have hsz : (w1.setCell ⟨g, 1, none⟩ (.int .i64 0)).heap.size = w1.heap.size := by simp
        rw [hsz] at h
        exact h
      have hR3 := (hR2.set1 false).next (W' := (w1.setCell ⟨g, 1, none⟩ (.int .i64 0)).alloc (.cells #[.string ⟨b_s.toArray⟩, .string ⟨b_p.toArray⟩, .int .i64 b_n, .bool b_v0, .string ⟨b_l0.toArray⟩, .bool b_v1, .string ⟨b_l1.toArray⟩, .bool b_v2, .string ⟨b_l2.toArray⟩, .bool b_v3, .string ⟨b_l3.toArray⟩] 26)) ((Since.refl _).alloc _)
      have HT := Lib.hid (ftake_any s false k g _ hR3)
      unfold TakePost takeF at HT
      simp only [Bool.false_eq_true, if_false, if_neg (show ¬ s.length < k by omega)] at HT
      clear c0 c1 hlt hfree hb
      go_wp2_with fail
      refine HT.out.mono ?_
      rintro e w2 ⟨rfl, h1, h2⟩
      have hB3 : BlkA w2 w1.heap.size ((b_s, b_p, b_n, (b_v0, b_l0), (b_v1, b_l1), (b_v2, b_l2), (b_v3, b_l3)) : Atm) := hBx.grown h2 (fun e => by injection e with e; omega)
      have hZ3 : BlkA w2 w.heap.size zeroAtm := ((hZ1.far (p := ⟨g, 1, none⟩) (by show w.heap.size ≠ g; omega) _).next ((Since.refl _).alloc _)).grown h2 (fun e => by injection e with e; omega)
      have HB3 : Hid (w2.heap[w1.heap.size]? = some (.cells #[.string ⟨b_s.toArray⟩, .string ⟨b_p.toArray⟩, .int .i64 b_n, .bool b_v0, .string ⟨b_l0.toArray⟩, .bool b_v1, .string ⟨b_l1.toArray⟩, .bool b_v2, .string ⟨b_l2.toArray⟩, .bool b_v3, .string ⟨b_l3.toArray⟩] 26 (0, 0))) := hB3
      have HZ3 : Hid (w2.heap[w.heap.size]? = some (.cells #[.string ⟨#[]⟩, .string ⟨#[]⟩, .int .i64 0, .bool false, .string ⟨#[]⟩, .bool false, .string ⟨#[]⟩, .bool false, .string ⟨#[]⟩, .bool false, .string ⟨#[]⟩] 26 (0, 0))) := hZ3
      have HF3 : Hid ((w2.setRow w.heap.size #[.string ⟨b_s.toArray⟩, .string ⟨b_p.toArray⟩, .int .i64 b_n, .bool b_v0, .string ⟨b_l0.toArray⟩, .bool b_v1, .string ⟨b_l1.toArray⟩, .bool b_v2, .string ⟨b_l2.toArray⟩, .bool b_v3, .string ⟨b_l3.toArray⟩]).heap[w.heap.size]? = some (.cells #[.string ⟨b_s.toArray⟩, .string ⟨b_p.toArray⟩, .int .i64 b_n, .bool b_v0, .string ⟨b_l0.toArray⟩, .bool b_v1, .string ⟨b_l1.toArray⟩, .bool b_v2, .string ⟨b_l2.toArray⟩, .bool b_v3, .string ⟨b_l3.toArray⟩] 26 (0, 0))) := setRow_heap _ _ _ _ _ (0, 0) HZ3.out
      have hone : Hid ((#[.string ⟨b_s.toArray⟩, .string ⟨b_p.toArray⟩, .int .i64 b_n, .bool b_v0, .string ⟨b_l0.toArray⟩, .bool b_v1, .string ⟨b_l1.toArray⟩, .bool b_v2, .string ⟨b_l2.toArray⟩, .bool b_v3, .string ⟨b_l3.toArray⟩] : Array Value).all (·.oneCell') = true) := by show _ = _; simp [Value.oneCell']
      have hg3 : w.grownBy w2 (some g) := gtrans (gsince (gset (gsince (World.grownBy.refl _ _) hS1) 1 _) ((Since.refl _).alloc _)) h2
      clear hB3 hZ3 hBx hZ1
      go_wp2_with (first
        | (refine wpList_load_row rfl 26 (.tmp 3) rfl w1.heap.size rfl 26 #[.string ⟨b_s.toArray⟩, .string ⟨b_p.toArray⟩, .int .i64 b_n, .bool b_v0, .string ⟨b_l0.toArray⟩, .bool b_v1, .string ⟨b_l1.toArray⟩, .bool b_v2, .string ⟨b_l2.toArray⟩, .bool b_v3, .string ⟨b_l3.toArray⟩] (0, 0) _ HB3.out Tryd.underlying26 rfl ainfoA ?_)
        | (refine wpList_store_row rfl 26 (.tmp 2) (.tmp 28) rfl w.heap.size #[.string ⟨b_s.toArray⟩, .string ⟨b_p.toArray⟩, .int .i64 b_n, .bool b_v0, .string ⟨b_l0.toArray⟩, .bool b_v1, .string ⟨b_l1.toArray⟩, .bool b_v2, .string ⟨b_l2.toArray⟩, .bool b_v3, .string ⟨b_l3.toArray⟩] rfl rfl 26 _ HZ3.out ainfoA rfl hone.out ?_))
      refine bodyPost_ret (results_cell_row rfl _ _ w.heap.size 26 #[.string ⟨b_s.toArray⟩, .string ⟨b_p.toArray⟩, .int .i64 b_n, .bool b_v0, .string ⟨b_l0.toArray⟩, .bool b_v1, .string ⟨b_l1.toArray⟩, .bool b_v2, .string ⟨b_l2.toArray⟩, .bool b_v3, .string ⟨b_l3.toArray⟩] (0, 0) _ rfl HF3.out Tryd.underlying26 rfl ainfoA) rfl ?_
      exact HP.out _ (h1.row (by omega) _) (grow_row hg3 (Nat.le_refl _) _)
end Go.Proofs.YtkdeokgkjmboeaaDoor
