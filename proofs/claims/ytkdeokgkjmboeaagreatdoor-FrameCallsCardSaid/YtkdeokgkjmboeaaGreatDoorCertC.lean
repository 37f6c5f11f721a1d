/- The cursor of package cert: number, text, flag. -/
import Derived.Test.YtkdeokgkjmboeaaGreatDoorCertQ2
import Derived.Test.YtkdeokgkjmboeaaGreatDoorCertRdW
import Derived.Lib.BufferOwn
import Derived.Lib.HexFns2
namespace Go.Proofs.YtkdeokgkjmboeaaGreatDoor
open Go.RowKit

/-- The reader's block. -/
def Rdr (W : World) (g : Nat) (T : TypeId) (s : List UInt8) (i : Nat) (bad : Bool) : Prop := W.heap[g]? = some (.cells #[.string ⟨s.toArray⟩, .int .i64 (i : Int), .bool bad] T (0, 0))
section
variable {W W' : World} {g : Nat} {T : TypeId} {s : List UInt8} {i : Nat} {bad : Bool}
theorem Rdr.c0 (h : Rdr W g T s i bad) : W.cell? ⟨g, 0, none⟩ = some (.string ⟨s.toArray⟩) := by
  unfold Rdr at h; simp [World.cell?, h]
theorem Rdr.c1 (h : Rdr W g T s i bad) : W.cell? ⟨g, 1, none⟩ = some (.int .i64 (i : Int)) := by
  unfold Rdr at h; simp [World.cell?, h]
theorem Rdr.c2 (h : Rdr W g T s i bad) : W.cell? ⟨g, 2, none⟩ = some (.bool bad) := by
  unfold Rdr at h; simp [World.cell?, h]
theorem Rdr.free (h : Rdr W g T s i bad) (j : Nat) : W.frozen? ⟨g, j, none⟩ = false := by
  unfold Rdr at h; simp [World.frozen?, h]
theorem Rdr.lt (h : Rdr W g T s i bad) : g < W.heap.size := (Array.getElem?_eq_some_iff.1 h).1
theorem Rdr.grown {row : Option Nat} (h : Rdr W g T s i bad) (hg : W.grownBy W' row) (hr : some g ≠ row) : Rdr W' g T s i bad := (hg.block g h.lt hr).trans h
theorem Rdr.next (h : Rdr W g T s i bad) (hs : Since W W') : Rdr W' g T s i bad := (Below.block hs g h.lt).trans h
theorem Rdr.drew (h : Rdr W g T s i bad) : Rdr W.drew g T s i bad := h
theorem Rdr.drewN (h : Rdr W g T s i bad) (n : Nat) : Rdr (W.drewN n) g T s i bad := h
theorem Rdr.set1 (h : Rdr W g T s i bad) (k : Nat) : Rdr (W.setCell ⟨g, 1, none⟩ (.int .i64 (k : Int))) g T s k bad := by
  unfold Rdr at h ⊢
  rw [setCell_eq_setRow W g 1 _ T (0, 0) _ h, setRow_heap W g _ _ T (0, 0) h]
  rfl
theorem Rdr.set2 (h : Rdr W g T s i bad) (b : Bool) : Rdr (W.setCell ⟨g, 2, none⟩ (.bool b)) g T s i b := by
  unfold Rdr at h ⊢
  rw [setCell_eq_setRow W g 2 _ T (0, 0) _ h, setRow_heap W g _ _ T (0, 0) h]
  rfl
end
theorem gdrew {w w' : World} {row : Option Nat} (h : w.grownBy w' row) : w.grownBy w'.drew row := ⟨h.os, h.tape, h.output, h.size, h.block⟩
theorem gset {w w' : World} {g : Nat} (h : w.grownBy w' (some g)) (j : Nat) (v : Value) : w.grownBy (w'.setCell ⟨g, j, none⟩ v) (some g) :=
  ⟨h.os, h.tape, h.output, by simpa using h.size, fun k hk hne => (Below.heap_setCell w' ⟨g, j, none⟩ v k (fun e => hne (by rw [e]))).trans (h.block k hk hne)⟩
theorem gtrans {a b c : World} {row : Option Nat} (h : a.grownBy b row) (k : b.grownBy c row) : a.grownBy c row := Lib.grownBy_trans h k
theorem gsince {a b c : World} {row : Option Nat} (h : a.grownBy b row) (k : Since b c) : a.grownBy c row := Lib.grownBy_below h k
theorem readL_len {l : List UInt8} {n k : Nat} (h : readL l = some (n, k)) : k ≤ l.length ∧ n ≤ 4294967295 ∧ k ≤ 5 := by
  obtain ⟨m, r, h1, h2, h3, h4, h5⟩ := rdF_back 5 0 0 l n k h
  have h6 := numF_len 4 m
  have h7 := congrArg List.length h1
  rw [List.length_append] at h7
  rw [show 5 - 1 = 4 from rfl] at h3 h7
  omega
/-- What number comes to: the number, the place, is it bad. -/
def numS (s : List UInt8) (i : Nat) (bad : Bool) : Nat × Nat × Bool := if bad then (0, i, true) else match readL (s.drop i) with | none => (0, i, true) | some (n, k) => (n, i + k, false)
theorem run_rest (S : List UInt8) (n : Nat) (hn : n ≤ S.length) (W : World) : (Instr.slice 9 (.string ⟨S.toArray⟩) (some (.int .i64 n)) none none).run Tryz.prog W = .ok (.string ⟨(S.drop n).toArray⟩) W := by
  have e := ext_bytes S n S.length
  rw [List.take_length] at e
  rw [← e]
  have hle' : (n : Int) ≤ (S.length : Int) := by omega
  clear e
  go_simp
def NumPost (s : List UInt8) (i : Nat) (bad : Bool) (g : Nat) (T : TypeId) (w : World) (e : Ending) (w' : World) : Prop :=
  e = .returned (.int .u32 (numS s i bad).1) ∧ Rdr w' g T s (numS s i bad).2.1 (numS s i bad).2.2 ∧ w.grownBy w' (some g)
set_option maxHeartbeats 1000000 in
theorem cnum_any (s : List UInt8) (i : Nat) (bad : Bool) (g : Nat) (T : TypeId) (w : World) (hs : s.length ≤ 1000000) (hi : i ≤ s.length) (hR : Rdr w g T s i bad) :
    Calls Tryz.prog 88 #[.pointer (some ⟨g, 0, none⟩)] w (NumPost s i bad g T w) := by
  have c0 := hR.c0
  have c1 := hR.c1
  have c2 := hR.c2
  have hlt := hR.lt
  have hfree := hR.free
  have hrest := fun W => run_rest s i hi W
  have HRd := Lib.hid (fun W => readnum_any (s.drop i) W (by rw [List.length_drop]; unfold maxLen; omega))
  have hnum : Hid (∀ W, Calls Tryz.prog 54 #[.string ⟨(s.drop i).toArray⟩] W fun e w' => e = .returned (rdV (readL (s.drop i))) ∧ W = w') := HRd.out
  cases hb : bad
  case true =>
    subst hb
    have HP : Hid (∀ W, Rdr W g T s i true → w.grownBy W (some g) → NumPost s i true g T w (.returned (.int .u32 0)) W) := fun W h1 h2 => ⟨rfl, h1, h2⟩
    cases hr : readL (s.drop i)
    case none =>
      rw [hr] at hnum
      simp only [rdV] at hnum
      go_enter Tryz.func88, Tryz.ntmps88
      go_wp2_with fail
      go_region_held3 (fun w' => w'.cell? ⟨g, 0, none⟩ = some (.string ⟨s.toArray⟩) ∧ w'.cell? ⟨g, 1, none⟩ = some (.int .i64 (i : Int)) ∧ Rdr w' g T s i true ∧ w.grownBy w' (some g))
        ((go_split_ands; (refine ⟨?_, ?_, ?_, ?_⟩) <;> (first | assumption | (refine Rdr.drew ?_; assumption) | (refine gdrew ?_; assumption) | exact gdrew (World.grownBy.refl _ _))))
        (first | (go_at_call 54; ((with_reducible refine (hnum.out _).mono ?_); rintro e w2 ⟨rfl, rfl⟩)))
      go_split_ands
      go_wp2_with fail
      go_ret
      exact HP.out _ (hR.set2 true).drew (gdrew (gset (World.grownBy.refl _ _) _ _))
    case some p =>
      obtain ⟨n, k⟩ := p
      rw [hr] at hnum
      simp only [rdV] at hnum
      go_enter Tryz.func88, Tryz.ntmps88
      go_wp2_with fail
      go_region_held3 (fun w' => w'.cell? ⟨g, 0, none⟩ = some (.string ⟨s.toArray⟩) ∧ w'.cell? ⟨g, 1, none⟩ = some (.int .i64 (i : Int)) ∧ Rdr w' g T s i true ∧ w.grownBy w' (some g))
        ((go_split_ands; (refine ⟨?_, ?_, ?_, ?_⟩) <;> (first | assumption | (refine Rdr.drew ?_; assumption) | (refine gdrew ?_; assumption) | exact gdrew (World.grownBy.refl _ _))))
        (first | (go_at_call 54; ((with_reducible refine (hnum.out _).mono ?_); rintro e w2 ⟨rfl, rfl⟩)))
      go_split_ands
      go_wp2_with fail
      go_ret
      exact HP.out _ (hR.set2 true).drew (gdrew (gset (World.grownBy.refl _ _) _ _))
  case false =>
    subst hb
    cases hr : readL (s.drop i)
    case none =>
      have HP : Hid (∀ W, Rdr W g T s i true → w.grownBy W (some g) → NumPost s i false g T w (.returned (.int .u32 0)) W) := by
        intro W h1 h2
        unfold NumPost
        rw [numS, if_neg (by simp), hr]; exact ⟨rfl, h1, h2⟩
      rw [hr] at hnum
      simp only [rdV] at hnum
      go_enter Tryz.func88, Tryz.ntmps88
      go_wp2_with fail
      go_region_held3 (fun w' => w'.cell? ⟨g, 0, none⟩ = some (.string ⟨s.toArray⟩) ∧ w'.cell? ⟨g, 1, none⟩ = some (.int .i64 (i : Int)) ∧ Rdr w' g T s i false ∧ w.grownBy w' (some g))
        ((go_split_ands; (refine ⟨?_, ?_, ?_, ?_⟩) <;> (first | assumption | (refine Rdr.drew ?_; assumption) | (refine gdrew ?_; assumption) | exact gdrew (World.grownBy.refl _ _))))
        (first | (go_at_call 54; ((with_reducible refine (hnum.out _).mono ?_); rintro e w2 ⟨rfl, rfl⟩)))
      go_split_ands
      go_wp2_with fail
      go_ret
      exact HP.out _ (hR.set2 true).drew (gdrew (gset (World.grownBy.refl _ _) _ _))
    case some p =>
      obtain ⟨n, k⟩ := p
      obtain ⟨k1, n1, k5⟩ := readL_len hr
      rw [List.length_drop] at k1
      have HP : Hid (∀ W, Rdr W g T s (i + k) false → w.grownBy W (some g) → NumPost s i false g T w (.returned (.int .u32 (n : Int))) W) := by
        intro W h1 h2
        unfold NumPost
        rw [numS, if_neg (by simp), hr]; exact ⟨rfl, h1, h2⟩
      rw [hr] at hnum
      simp only [rdV] at hnum
      have e1 : IntKind.i64.wrap ((i : Int) + (k : Int)) = (i : Int) + (k : Int) := IntWalk.i64_in _ (by omega)
      go_enter Tryz.func88, Tryz.ntmps88
      go_wp2_with fail
      go_region_held3 (fun w' => w'.cell? ⟨g, 0, none⟩ = some (.string ⟨s.toArray⟩) ∧ w'.cell? ⟨g, 1, none⟩ = some (.int .i64 (i : Int)) ∧ Rdr w' g T s i false ∧ w.grownBy w' (some g))
        ((go_split_ands; (refine ⟨?_, ?_, ?_, ?_⟩) <;> (first | assumption | (refine Rdr.drew ?_; assumption) | (refine gdrew ?_; assumption) | exact gdrew (World.grownBy.refl _ _))))
        (first | (go_at_call 54; ((with_reducible refine (hnum.out _).mono ?_); rintro e w2 ⟨rfl, rfl⟩)))
      go_split_ands
      go_wp2_with fail
      go_ret
      have h1 := ((hR.set2 false).set1 (i + k)).drew
      rw [Int.natCast_add] at h1
      exact HP.out _ h1 (gdrew (gset (gset (World.grownBy.refl _ _) _ _) _ _))
end Go.Proofs.YtkdeokgkjmboeaaGreatDoor
