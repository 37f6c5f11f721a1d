/- Package term: Term, Check, Ground: what they answer at every term and atom, in every world in which the library's table strings.asciiSpace stands. -/
import Derived.Test.YtnfjjckbgnieeaaGreatDoorRef03
import Derived.Test.YtnfjjckbgnieeaaGreatDoorSpell
namespace Go.Proofs.YtnfjjckbgnieeaaGreatDoor
open Go.RowKit

/-- A slice value that reads as terms. -/
def TmRow (W : World) (v : Value) (L : List Tm) : Prop :=
  (v = .slice none 0 0 ∧ L = []) ∨ ∃ b o c, v = .slice (some ⟨b, o, none⟩) L.length c ∧ L.length ≤ c ∧ ∀ k, (h : k < L.length) → W.cell? ⟨b, o + k * 2, none⟩ = some (.bool L[k].1) ∧ W.cell? ⟨b, o + k * 2 + 1, none⟩ = some (.string ⟨L[k].2.toArray⟩)
theorem TmRow.next {W W' : World} {v : Value} {L : List Tm} (h : TmRow W v L) (hs : Since W W') : TmRow W' v L := by
  rcases h with h | ⟨b, o, c, h1, h2, h3⟩
  · exact .inl h
  · exact .inr ⟨b, o, c, h1, h2, fun k hk => ⟨hs.cell (h3 k hk).1, hs.cell (h3 k hk).2⟩⟩
theorem TmRow.form {W : World} {v : Value} {L : List Tm} (h : TmRow W v L) : ∃ a c, v = .slice a L.length c := by
  rcases h with ⟨h, rfl⟩ | ⟨b, o, c, h1, _, _⟩
  · exact ⟨_, _, h⟩
  · exact ⟨_, _, h1⟩
theorem TmRow.some {W : World} {v : Value} {L : List Tm} (h : TmRow W v L) (hn : 0 < L.length) : ∃ b o c, v = .slice (some ⟨b, o, none⟩) L.length c ∧ L.length ≤ c ∧ ∀ k, (h : k < L.length) → W.cell? ⟨b, o + k * 2, none⟩ = some (.bool L[k].1) ∧ W.cell? ⟨b, o + k * 2 + 1, none⟩ = some (.string ⟨L[k].2.toArray⟩) := by
  rcases h with ⟨_, h⟩ | h
  · rw [h] at hn; simp at hn
  · exact h

theorem alen : Tryz.prog.arrayLen 42 = 4 := by kernel_rfl
theorem aelem : Tryz.prog.elem 42 = 41 := by kernel_rfl
theorem tsize (W : World) : (sizeOf 41).run Tryz.prog W = .ok 2 W := by kernel_rfl
/-- 'a.Args[:n]'. -/
theorem sl_h (n : Int) (h0 : 0 ≤ n) (h4 : n ≤ 4) (b o : Nat) (W : World) :
    (Instr.sliceAt 42 (.pointer (some ⟨b, o, none⟩)) none (some (.int .i64 n)) none).run Tryz.prog W = .ok (.slice (some ⟨b, o, none⟩) n.toNat 4) W := by
  rw [run_sliceAt_array_h W 42 ⟨b, o, none⟩ (by rw [alen, aelem]; exact Tryz.underlying42) .i64 n h0 (by rw [alen]; exact h4), aelem, tsize, alen]
  show Result.ok (slicedAt _ _ _ _ _) W = _
  rw [slicedAt, if_neg (by omega)]
  rfl
/-- 'a.Args[n:]'. -/
theorem sl_l (n : Nat) (h4 : n ≤ 4) (b o : Nat) (W : World) :
    (Instr.sliceAt 42 (.pointer (some ⟨b, o, none⟩)) (some (.int .i64 n)) none none).run Tryz.prog W = .ok (.slice (some ⟨b, if 4 = n then o else o + n * 2, none⟩) (4 - n) (4 - n)) W := by
  rw [run_sliceAt_array_l W 42 ⟨b, o, none⟩ (by rw [alen, aelem]; exact Tryz.underlying42) .i64 n (by omega) (by rw [alen]; omega), aelem, tsize, alen]
  show Result.ok (slicedAt _ _ _ _ _) W = _
  rw [slicedAt, Int.toNat_natCast]
  by_cases h : 4 = n
  · rw [if_pos h, if_pos h]
  · rw [if_neg h, if_neg h]
    congr 2
    unfold Addr.add
    split
    · rename_i h0; rw [h0]; rfl
    · rfl

/-- The place of the first term that meets f, from k on; -1: there is none. -/
def idxT (f : Tm → Bool) : List Tm → Nat → Int
  | [], _ => -1
  | t :: r, k => if f t then k else idxT f r (k + 1)
theorem idxT_any (f : Tm → Bool) : ∀ (L : List Tm) (k : Nat), decide (0 ≤ idxT f L k) = L.any f
  | [], _ => rfl
  | t :: r, k => by
    rw [idxT, List.any_cons]
    cases h : f t
    · rw [if_neg (by simp), Bool.false_or]; exact idxT_any f r (k + 1)
    · rw [if_pos rfl, Bool.true_or]; exact decide_eq_true (by omega)

/-- The terms that are looked at are those up to N. -/
theorem countA_in {a : Atm} (h0 : 0 ≤ a.2.2.1) (h4 : a.2.2.1 ≤ 4) : countA a = a.2.2.1.toNat := by unfold countA; omega
theorem any_not_all (L : List Tm) : (L.any fun t => !termB t) = !(L.all termB) := by
  induction L with
  | nil => rfl
  | cons t r ih => rw [List.any_cons, List.all_cons, ih, Bool.not_and]

end Go.Proofs.YtnfjjckbgnieeaaGreatDoor
