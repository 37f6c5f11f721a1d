/- Spellings, in plain words: which bytes stand where, the reserved words; no program's function in sight. -/
import Derived.Test.YtnfjjckbgnieeaaGreatDoorVBase
namespace Go.Proofs.YtnfjjckbgnieeaaGreatDoor
open Go.RowKit

def smallB (n : Int) : Bool := decide (97 ≤ n) && decide (n ≤ 122)
def greatB (n : Int) : Bool := decide (65 ≤ n) && decide (n ≤ 90)
def digitB (n : Int) : Bool := decide (48 ≤ n) && decide (n ≤ 57)
def lowB (n : Int) : Bool := smallB n || digitB n || n == 95
def firstB (n : Int) : Bool := smallB n || digitB n
def varB (n : Int) : Bool := lowB n || greatB n
def spelledB (f m : Int → Bool) : List UInt8 → Bool
  | [] => false
  | c :: r => decide ((c :: r).length ≤ 255) && f c.toNat && r.all fun x => m x.toNat
theorem spelledB_long {f m : Int → Bool} {l : List UInt8} (h : ¬ l.length ≤ 255) : spelledB f m l = false := by
  cases l with
  | nil => rfl
  | cons c r => simp only [spelledB, decide_eq_false h, Bool.false_and]
theorem spelledB_first {f m : Int → Bool} {l : List UInt8} (h0 : 0 < l.length) (hc : f (l[0]).toNat = false) : spelledB f m l = false := by
  cases l with
  | nil => rfl
  | cons c r =>
    have : f (c.toNat : Int) = false := hc
    simp only [spelledB, this, Bool.and_false, Bool.false_and]
theorem spelledB_rest {f m : Int → Bool} {l : List UInt8} (h0 : 0 < l.length) (h1 : l.length ≤ 255) (hc : f (l[0]).toNat = true) : spelledB f m l = (l.drop 1).all fun x => m x.toNat := by
  cases l with
  | nil => simp at h0
  | cons c r =>
    have : f (c.toNat : Int) = true := hc
    simp only [spelledB, this, decide_eq_true h1, Bool.true_and, List.drop_one, List.tail_cons]
theorem all_drop_step {m : UInt8 → Bool} {l : List UInt8} {k : Nat} (h : k < l.length) : (l.drop k).all m = (m l[k] && (l.drop (k + 1)).all m) := by
  rw [List.drop_eq_getElem_cons h, List.all_cons]
theorem all_drop_end {m : UInt8 → Bool} {l : List UInt8} {k : Nat} (h : ¬ k < l.length) : (l.drop k).all m = true := by
  rw [List.drop_eq_nil_of_le (by omega), List.all_nil]
/-- The reserved words, in order. -/
def wordsL : List (List UInt8) := [[115, 97, 121, 115], [105, 102], [99, 97, 110, 115, 97, 121], [112, 114, 105, 110, 99, 105, 112, 97, 108], [112, 114, 101, 100], [99, 108, 101, 97, 114], [113, 117, 111, 116, 97], [98, 117, 100, 103, 101, 116]]
def reservedL : List UInt8 := [115, 97, 121, 115, 32, 105, 102, 32, 99, 97, 110, 115, 97, 121, 32, 112, 114, 105, 110, 99, 105, 112, 97, 108, 32, 112, 114, 101, 100, 32, 99, 108, 101, 97, 114, 32, 113, 117, 111, 116, 97, 32, 98, 117, 100, 103, 101, 116]
def wordsO : Obj := .cells (wordsL.map fun l => Value.string ⟨l.toArray⟩).toArray 9
def reservedB (l : List UInt8) : Bool := wordsL.contains l
def principalB (l : List UInt8) : Bool := spelledB smallB lowB l && !reservedB l
def constantB (l : List UInt8) : Bool := spelledB firstB lowB l && !reservedB l
def variableB (l : List UInt8) : Bool := spelledB greatB varB l
theorem drop_eq_step {α : Type} [DecidableEq α] [BEq α] [LawfulBEq α] {l m : List α} {k : Nat} (h1 : k < l.length) (h2 : k < m.length) : decide (l.drop k = m.drop k) = ((l[k] == m[k]) && decide (l.drop (k + 1) = m.drop (k + 1))) := by
  have e1 := List.drop_eq_getElem_cons h1
  have e2 := List.drop_eq_getElem_cons h2
  generalize l[k] = x at *
  generalize m[k] = y at *
  rw [e1, e2, Bool.eq_iff_iff]
  simp
/-- ref01.constant, by bytes. -/
def rconB : List UInt8 → Bool
  | [] => false
  | c :: r => decide ((c :: r).length ≤ 255) && !((c.toNat : Int) == 95) && (c :: r).all fun x => lowB x.toNat
theorem rconB_long {l : List UInt8} (h : ¬ l.length ≤ 255) : rconB l = false := by
  cases l with
  | nil => rfl
  | cons c r => simp only [rconB, decide_eq_false h, Bool.false_and]
theorem rconB_line {l : List UInt8} (h0 : 0 < l.length) (hc : ((l[0].toNat : Int) == 95) = true) : rconB l = false := by
  cases l with
  | nil => rfl
  | cons c r =>
    have : ((c.toNat : Int) == 95) = true := hc
    simp only [rconB, this, Bool.not_true, Bool.and_false, Bool.false_and]
theorem rconB_all {l : List UInt8} (h0 : 0 < l.length) (h1 : l.length ≤ 255) (hc : ((l[0].toNat : Int) == 95) = false) : rconB l = (l.drop 0).all fun x => lowB x.toNat := by
  cases l with
  | nil => simp at h0
  | cons c r =>
    have : ((c.toNat : Int) == 95) = false := hc
    simp only [rconB, this, decide_eq_true h1, Bool.not_false, Bool.and_true, Bool.true_and, List.drop_zero]
theorem low_yes {n : Int} (h : lowB n = true) : smallB n = true ∨ (smallB n = false ∧ digitB n = true) ∨ (smallB n = false ∧ digitB n = false ∧ (n == 95) = true ∧ (n != 95) = false) := by
  unfold lowB at h
  cases hs : smallB n <;> cases hd : digitB n <;> simp_all
theorem low_no {n : Int} (h : lowB n = false) : smallB n = false ∧ digitB n = false ∧ (n == 95) = false ∧ (n != 95) = true := by
  unfold lowB at h
  cases hs : smallB n <;> cases hd : digitB n <;> simp_all
theorem cell_words' (w : World) (k : Nat) (hk : k < wordsL.length) : (w.alloc wordsO).cell? ⟨w.heap.size, k, none⟩ = some (.string ⟨wordsL[k].toArray⟩) := by
  rw [wordsO, World.cell?_alloc_new]
  simp [hk]
def rconstantB (l : List UInt8) : Bool := rconB l && !reservedB l
def rprincipalB (l : List UInt8) : Bool := rconstantB l && smallB (l.getD 0 0).toNat
theorem rconstantB_pos {l : List UInt8} (h : rconstantB l = true) : 0 < l.length := by
  cases l with
  | nil => simp [rconstantB, rconB] at h
  | cons c r => simp
theorem var_yes {n : Int} (h : varB n = true) : smallB n = true ∨ (smallB n = false ∧ greatB n = true) ∨ (smallB n = false ∧ greatB n = false ∧ digitB n = true) ∨ (smallB n = false ∧ greatB n = false ∧ digitB n = false ∧ (n != 95) = false) := by
  unfold varB lowB at h
  cases hs : smallB n <;> cases hd : digitB n <;> cases hg : greatB n <;> simp_all
theorem var_no {n : Int} (h : varB n = false) : smallB n = false ∧ greatB n = false ∧ digitB n = false ∧ (n != 95) = true := by
  unfold varB lowB at h
  cases hs : smallB n <;> cases hd : digitB n <;> cases hg : greatB n <;> simp_all
theorem var_great {n : Int} (h : greatB n = true) : varB n = true := by rw [varB, h, Bool.or_true]
theorem first_low (n : Int) : (!(n == 95) && lowB n) = firstB n := by
  unfold lowB
  by_cases h : n = 95
  · subst h; decide
  · have : (n == 95) = false := by simpa using h
    rw [this, Bool.not_false, Bool.true_and, Bool.or_false]; rfl
theorem rcon_eq (l : List UInt8) : rconB l = spelledB firstB lowB l := by
  cases l with
  | nil => rfl
  | cons c r => simp only [rconB, spelledB, List.all_cons, ← first_low, Bool.and_assoc]
theorem rconstant_eq (l : List UInt8) : rconstantB l = constantB l := by rw [rconstantB, rcon_eq]; rfl
theorem small_of (n : Int) : (firstB n && smallB n) = smallB n := by unfold firstB; cases smallB n <;> simp
theorem rprincipal_eq (l : List UInt8) : rprincipalB l = principalB l := by
  rw [rprincipalB, rconstant_eq, constantB, principalB]
  cases l with
  | nil => rfl
  | cons c r =>
    have : (c :: r).getD 0 0 = c := rfl
    rw [this]
    simp only [spelledB]
    rw [← small_of]
    cases smallB (c.toNat : Int) <;> cases firstB (c.toNat : Int) <;> simp
end Go.Proofs.YtnfjjckbgnieeaaGreatDoor
