/- The reference's cursor: Number. -/
import Derived.Test.YtiadjmfdahendaaDoorCurP
namespace Go.Proofs.YtiadjmfdahendaaDoor
open Go.RowKit

def eV (b : Bool) : Int := if b then 15 else 0
/-- The cursor's block. -/
def Cur (W : World) (g : Nat) (s : List UInt8) (i : Nat) (bad : Bool) : Prop := W.heap[g]? = some (.cells #[.string ⟨s.toArray⟩, .int .i64 (i : Int), .int .i64 (eV bad)] 73 (0, 0))
section
variable {W W' : World} {g : Nat} {s : List UInt8} {i : Nat} {bad : Bool}
theorem Cur.c0 (h : Cur W g s i bad) : W.cell? ⟨g, 0, none⟩ = some (.string ⟨s.toArray⟩) := by
  unfold Cur at h; simp [World.cell?, h]
theorem Cur.c1 (h : Cur W g s i bad) : W.cell? ⟨g, 1, none⟩ = some (.int .i64 (i : Int)) := by
  unfold Cur at h; simp [World.cell?, h]
theorem Cur.c2 (h : Cur W g s i bad) : W.cell? ⟨g, 2, none⟩ = some (.int .i64 (eV bad)) := by
  unfold Cur at h; simp [World.cell?, h]
theorem Cur.c2t (h : Cur W g s i true) : W.cell? ⟨g, 2, none⟩ = some (.int .i64 15) := h.c2
theorem Cur.c2f (h : Cur W g s i false) : W.cell? ⟨g, 2, none⟩ = some (.int .i64 0) := h.c2
theorem Cur.free (h : Cur W g s i bad) (j : Nat) : W.frozen? ⟨g, j, none⟩ = false := by
  unfold Cur at h; simp [World.frozen?, h]
theorem Cur.lt (h : Cur W g s i bad) : g < W.heap.size := (Array.getElem?_eq_some_iff.1 h).1
theorem Cur.grown {row : Option Nat} (h : Cur W g s i bad) (hg : W.grownBy W' row) (hr : some g ≠ row) : Cur W' g s i bad := (hg.block g h.lt hr).trans h
theorem Cur.next (h : Cur W g s i bad) (hs : Since W W') : Cur W' g s i bad := (Below.block hs g h.lt).trans h
theorem Cur.drew (h : Cur W g s i bad) : Cur W.drew g s i bad := h
theorem Cur.drewN (h : Cur W g s i bad) (n : Nat) : Cur (W.drewN n) g s i bad := h
theorem Cur.set1 (h : Cur W g s i bad) (k : Nat) : Cur (W.setCell ⟨g, 1, none⟩ (.int .i64 (k : Int))) g s k bad := by
  unfold Cur at h ⊢
  rw [setCell_eq_setRow W g 1 _ _ (0, 0) _ h, setRow_heap W g _ _ _ (0, 0) h]
  rfl
theorem Cur.set2 (h : Cur W g s i bad) (b : Bool) : Cur (W.setCell ⟨g, 2, none⟩ (.int .i64 (eV b))) g s i b := by
  unfold Cur at h ⊢
  rw [setCell_eq_setRow W g 2 _ _ (0, 0) _ h, setRow_heap W g _ _ _ (0, 0) h]
  rfl
theorem Cur.set2t (h : Cur W g s i bad) : Cur (W.setCell ⟨g, 2, none⟩ (.int .i64 15)) g s i true := h.set2 true
theorem Cur.set2f (h : Cur W g s i bad) : Cur (W.setCell ⟨g, 2, none⟩ (.int .i64 0)) g s i false := h.set2 false
end
def CNumPost (s : List UInt8) (i : Nat) (bad : Bool) (g : Nat) (w : World) (e : Ending) (w' : World) : Prop :=
  e = .returned (.int .u32 (numS s i bad).1) ∧ Cur w' g s (numS s i bad).2.1 (numS s i bad).2.2 ∧ w.grownBy w' (some g)
set_option maxHeartbeats 1000000 in
theorem curnum_any (s : List UInt8) (i : Nat) (bad : Bool) (g : Nat) (w : World) (hs : s.length ≤ 1000000) (hi : i ≤ s.length) (hR : Cur w g s i bad) :
    Calls Tryd.prog 40 #[.pointer (some ⟨g, 0, none⟩)] w (CNumPost s i bad g w) := by
  have c0 := hR.c0
  have c1 := hR.c1
  have hlt := hR.lt
  have hfree := hR.free
  have hrest := fun W => run_rest s i hi W
  have HRd := Lib.hid (fun W => rreadnum_any (s.drop i) W (by rw [List.length_drop]; omega))
  cases hb : bad
  case true =>
    subst hb
    have c2 := hR.c2t
    go_enter Tryd.func40, Tryd.ntmps40
    go_wp2_with fail
    go_ret
    exact ⟨rfl, hR, World.grownBy.refl _ _⟩
  case false =>
    subst hb
    have c2 := hR.c2f
    cases hr : readL (s.drop i)
    case none =>
      have HP : Hid (∀ W, Cur W g s i true → w.grownBy W (some g) → CNumPost s i false g w (.returned (.int .u32 0)) W) := by
        intro W h1 h2
        unfold CNumPost
        rw [numS, if_neg (by simp), hr]; exact ⟨rfl, h1, h2⟩
      rw [hr] at HRd
      simp only [rdV] at HRd
      go_enter Tryd.func40, Tryd.ntmps40
      go_wp2_with fail
      go_region_held3 (fun w' => w'.cell? ⟨g, 0, none⟩ = some (.string ⟨s.toArray⟩) ∧ w'.cell? ⟨g, 1, none⟩ = some (.int .i64 (i : Int)) ∧ Cur w' g s i false ∧ w.grownBy w' (some g))
        ((go_split_ands; (refine ⟨?_, ?_, ?_, ?_⟩) <;> (first | assumption | (refine Cur.drew ?_; assumption) | (refine gdrew ?_; assumption) | exact gdrew (World.grownBy.refl _ _) | (refine Cur.next ?_ hb2; assumption) | (refine gsince ?_ hb2; assumption) | (refine hb2.cell ?_; assumption))))
        (first | (go_at_call 21; ((with_reducible refine (HRd.out _).mono ?_); rintro e w2 ⟨rfl, hb2⟩)))
      all_goals go_split_ands
      all_goals rename_i q0 q1 hR2 hg2
      all_goals have hlt2 := hR2.lt
      all_goals have hfree2 := hR2.free
      all_goals have d2 := hR2.c2f
      all_goals go_wp2_with fail
      all_goals go_ret
      exact HP.out _ ((hR2.set1 i).set2t) (gset (gset hg2 _ _) _ _)
    case some p =>
      obtain ⟨n, k⟩ := p
      obtain ⟨k1, n1, k5⟩ := readL_len hr
      rw [List.length_drop] at k1
      have HP : Hid (∀ W, Cur W g s (i + k) false → w.grownBy W (some g) → CNumPost s i false g w (.returned (.int .u32 (n : Int))) W) := by
        intro W h1 h2
        unfold CNumPost
        rw [numS, if_neg (by simp), hr]; exact ⟨rfl, h1, h2⟩
      rw [hr] at HRd
      simp only [rdV] at HRd
      have e1 : IntKind.i64.wrap ((i : Int) + (k : Int)) = (i : Int) + (k : Int) := IntWalk.i64_in _ (by omega)
      go_enter Tryd.func40, Tryd.ntmps40
      go_wp2_with fail
      go_region_held3 (fun w' => w'.cell? ⟨g, 0, none⟩ = some (.string ⟨s.toArray⟩) ∧ w'.cell? ⟨g, 1, none⟩ = some (.int .i64 (i : Int)) ∧ Cur w' g s i false ∧ w.grownBy w' (some g))
        ((go_split_ands; (refine ⟨?_, ?_, ?_, ?_⟩) <;> (first | assumption | (refine Cur.drew ?_; assumption) | (refine gdrew ?_; assumption) | exact gdrew (World.grownBy.refl _ _) | (refine Cur.next ?_ hb2; assumption) | (refine gsince ?_ hb2; assumption) | (refine hb2.cell ?_; assumption))))
        (first | (go_at_call 21; ((with_reducible refine (HRd.out _).mono ?_); rintro e w2 ⟨rfl, hb2⟩)))
      all_goals go_split_ands
      all_goals rename_i q0 q1 hR2 hg2
      all_goals have hlt2 := hR2.lt
      all_goals have hfree2 := hR2.free
      all_goals have d2 := hR2.c2f
      all_goals go_wp2_with fail
      all_goals go_ret
      have h1 := (hR2.set1 (i + k)).set2f
      rw [Int.natCast_add] at h1
      exact HP.out _ h1 (gset (gset hg2 _ _) _ _)
end Go.Proofs.YtiadjmfdahendaaDoor
