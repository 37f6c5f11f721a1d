/- Atoms, steps and derivations as bytes: plain words and facts, no program in sight. -/
import Derived.Test.YtkdeokgkjmboeaaGreatDoorNum
import Derived.Test.YtkdeokgkjmboeaaGreatDoorRef03
namespace Go.Proofs.YtkdeokgkjmboeaaGreatDoor
open Go.RowKit

def textB (s : List UInt8) : List UInt8 := numL s.length ++ s
def markB (v : Bool) : List UInt8 := if v then [1] else [0]
def nameB (t : Tm) : List UInt8 := markB t.1 ++ textB t.2
def atomB (a : Atm) : List UInt8 := (textB a.1 ++ (textB a.2.1 ++ numL a.2.2.1.toNat)) ++ ((argsL a).take (countA a)).flatMap nameB
/-- A step: its atom, its clause, what it cites. -/
abbrev Stp := Atm × Int × List Int
def citesB (l : List Int) : List UInt8 := l.flatMap fun c => numL c.toNat
def headB (x : Stp) : List UInt8 := numL (x.2.1 + 1).toNat ++ (atomB x.1 ++ numL x.2.2.length)
def stepB (x : Stp) : List UInt8 := headB x ++ citesB x.2.2
def stepsB (L : List Stp) : List UInt8 := numL L.length ++ L.flatMap stepB
/-- May a step be written at its place? -/
def citeB (i : Nat) (c : Int) : Bool := decide (0 ≤ c) && decide (c < i)
def mayB (i : Nat) (x : Stp) : Bool := checkA x.1 == 0 && (groundA x.1 && (decide (-1 ≤ x.2.1) && (decide (x.2.1 ≤ 65536) && (decide (x.2.2.length ≤ 16) && x.2.2.all (citeB i)))))
def maysF : Nat → List Stp → Bool
  | _, [] => true
  | i, x :: r => mayB i x && maysF (i + 1) r
def maysB (L : List Stp) : Bool := decide (L.length ≤ 1048576) && maysF 0 L

theorem num_one {n : Nat} (h : n < 128) : (numL n).length = 1 := by rw [numL, numF_small h]; rfl
theorem num_two {n : Nat} (h : ¬ n < 128) (h2 : n < 16384) : (numL n).length = 2 := by
  rw [numL, numF_big h, numF_small (by omega)]; rfl
theorem textB_len {s : List UInt8} (h : s.length < 16384) : (textB s).length = 1 + (if 128 ≤ s.length then 1 else 0) + s.length := by
  rw [textB, List.length_append]
  split
  · rw [num_two (by omega) h]
  · rw [num_one (by omega)]
def nameN (t : Tm) : Nat := 2 + t.2.length + (if 128 ≤ t.2.length then 1 else 0)
theorem nameB_len {t : Tm} (h : t.2.length < 16384) : (nameB t).length = nameN t := by
  have hm : (markB t.1).length = 1 := by cases t.1 <;> rfl
  rw [nameB, List.length_append, hm, textB_len h, nameN]; omega
theorem textB_le {s : List UInt8} : (textB s).length ≤ s.length + 5 := by
  have := num_len s.length
  rw [textB, List.length_append]; omega
theorem nameB_le {t : Tm} : (nameB t).length ≤ t.2.length + 6 := by
  have hm : (markB t.1).length = 1 := by cases t.1 <;> rfl
  have := @textB_le t.2
  rw [nameB, List.length_append, hm]; omega
theorem flat_len_le {α : Type} (f : α → List UInt8) (m : Nat) : ∀ (L : List α), (∀ x ∈ L, (f x).length ≤ m) → (L.flatMap f).length ≤ L.length * m
  | [], _ => by simp
  | x :: r, h => by
    have h1 := h x (by simp)
    have h2 := flat_len_le f m r (fun y hy => h y (by simp [hy]))
    rw [List.flatMap_cons, List.length_append, List.length_cons, Nat.succ_mul]; omega
theorem atomB_le {a : Atm} (h : lightB a = true) : (atomB a).length ≤ 2000 := by
  simp only [lightB, Bool.and_eq_true, decide_eq_true_eq, List.all_eq_true] at h
  obtain ⟨⟨h1, h2⟩, h3⟩ := h
  have e1 := @textB_le a.1
  have e2 := @textB_le a.2.1
  have e3 := num_len a.2.2.1.toNat
  have e4 := flat_len_le nameB 306 ((argsL a).take (countA a)) (fun t ht => by
    have := h3 t (List.mem_of_mem_take ht)
    have := @nameB_le t
    omega)
  have e5 : ((argsL a).take (countA a)).length ≤ 4 := by rw [List.length_take, argsL_len]; omega
  have e6 := Nat.mul_le_mul_right 306 e5
  rw [atomB, List.length_append, List.length_append, List.length_append]
  omega
theorem citesB_le (l : List Int) : (citesB l).length ≤ l.length * 5 := flat_len_le _ 5 l (fun _ _ => num_len _)
theorem headB_le {x : Stp} (h : lightB x.1 = true) : (headB x).length ≤ 2010 := by
  have e1 := atomB_le h
  have e2 := num_len (x.2.1 + 1).toNat
  have e3 := num_len x.2.2.length
  rw [headB, List.length_append, List.length_append]; omega
theorem stepB_le {x : Stp} (h : lightB x.1 = true) (h2 : x.2.2.length ≤ 20) : (stepB x).length ≤ 2110 := by
  have e1 := headB_le h
  have e2 := citesB_le x.2.2
  rw [stepB, List.length_append]; omega
theorem take_flat {α : Type} (f : α → List UInt8) {L : List α} {k : Nat} (hk : k < L.length) : (L.take (k + 1)).flatMap f = (L.take k).flatMap f ++ f L[k] := by
  rw [List.take_succ_eq_append_getElem hk, List.flatMap_append, List.flatMap_singleton]
theorem maysF_at : ∀ (i : Nat) (L : List Stp), maysF i L = true → ∀ k, (h : k < L.length) → mayB (i + k) L[k] = true
  | _, [], _, k, h => by simp at h
  | i, x :: r, hm, 0, _ => by rw [maysF, Bool.and_eq_true] at hm; exact hm.1
  | i, x :: r, hm, k + 1, h => by
    rw [maysF, Bool.and_eq_true] at hm
    have := maysF_at (i + 1) r hm.2 k (by simpa using h)
    rw [show i + (k + 1) = i + 1 + k by omega]; exact this
theorem maysF_drop {i : Nat} {L : List Stp} {k : Nat} (hk : k < L.length) : maysF (i + k) (L.drop k) = (mayB (i + k) L[k] && maysF (i + (k + 1)) (L.drop (k + 1))) := by
  rw [List.drop_eq_getElem_cons hk, maysF, Nat.add_assoc]
end Go.Proofs.YtkdeokgkjmboeaaGreatDoor
