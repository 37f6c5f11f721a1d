/- Slices in memory as rows of things: texts, integers, atoms, clauses, steps. -/
import Derived.Test.YtnfjjckbgnieeaaGreatDoorVCel
import Derived.Test.YtnfjjckbgnieeaaGreatDoorVAtom
import Derived.Test.YtnfjjckbgnieeaaGreatDoorVRow
namespace Go.Proofs.YtnfjjckbgnieeaaGreatDoor
open Go.RowKit

abbrev Txt := List UInt8
/-- A slice of elements of K cells, of whose cells R speaks. -/
def KRow {α : Type} (K : Nat) (R : World → Nat → Nat → α → Prop) (W : World) (v : Value) (L : List α) : Prop :=
  ∃ a c, v = .slice a L.length c ∧ L.length ≤ c ∧ (0 < L.length → ∃ b o, a = some ⟨b, o, none⟩ ∧ ∀ k, (h : k < L.length) → R W b (o + k * K) L[k])
theorem KRow.next {α : Type} {K : Nat} {R : World → Nat → Nat → α → Prop} (hR : ∀ W W' b o x, R W b o x → Since W W' → R W' b o x) {W W' : World} {v : Value} {L : List α} (h : KRow K R W v L) (hs : Since W W') : KRow K R W' v L := by
  obtain ⟨a, c, h1, h2, h3⟩ := h
  refine ⟨a, c, h1, h2, fun h0 => ?_⟩
  obtain ⟨b, o, h4, h5⟩ := h3 h0
  exact ⟨b, o, h4, fun k hk => hR _ _ _ _ _ (h5 k hk) hs⟩
theorem KRow.slice {α : Type} {K : Nat} {R : World → Nat → Nat → α → Prop} {W : World} {v : Value} {L : List α} (h : KRow K R W v L) : ∃ a c, v = .slice a L.length c := by
  obtain ⟨a, c, h1, -, -⟩ := h
  exact ⟨a, c, h1⟩
theorem KRow.get {α : Type} {K : Nat} {R : World → Nat → Nat → α → Prop} {W : World} {a : Option Addr} {n c : Nat} {L : List α} (h : KRow K R W (.slice a n c) L) (h0 : 0 < L.length) : ∃ b o, a = some ⟨b, o, none⟩ ∧ n ≤ c ∧ ∀ k, (h : k < L.length) → R W b (o + k * K) L[k] := by
  obtain ⟨a', c', h1, h2, h3⟩ := h
  cases h1
  obtain ⟨b, o, h4, h5⟩ := h3 h0
  exact ⟨b, o, h4, h2, h5⟩
theorem KRow.nil {α : Type} {K : Nat} {R : World → Nat → Nat → α → Prop} {W : World} (a : Option Addr) (c : Nat) : KRow K R W (.slice a 0 c) [] := ⟨a, c, rfl, Nat.zero_le _, fun h => absurd h (Nat.lt_irrefl 0)⟩
def TxtAt (W : World) (b o : Nat) (x : Txt) : Prop := W.cell? ⟨b, o, none⟩ = some (strV x)
abbrev TRow := KRow 1 TxtAt
/-- An atom's cells in a row. -/
def AtAt (W : World) (b o : Nat) (x : Atm) : Prop := ∀ j u, (atmC x)[j]? = some u → W.cell? ⟨b, o + j, none⟩ = some u
abbrev ARow := KRow 11 AtAt
def RulAt (W : World) (b o : Nat) (x : Atm × List Atm) : Prop := AtAt W b o x.1 ∧ ∃ u, W.cell? ⟨b, o + 11, none⟩ = some u ∧ ARow W u x.2
abbrev RRow := KRow 12 RulAt
theorem TxtAt.next {W W' : World} {b o : Nat} {x : Txt} (h : TxtAt W b o x) (hs : Since W W') : TxtAt W' b o x := hs.cell h
theorem tnext {W W' : World} {v : Value} {L : List Txt} (h : TRow W v L) (hs : Since W W') : TRow W' v L := KRow.next (R := TxtAt) (fun _ _ _ _ _ h s => h.next s) h hs
theorem AtAt.next {W W' : World} {b o : Nat} {x : Atm} (h : AtAt W b o x) (hs : Since W W') : AtAt W' b o x := fun j u hu => hs.cell (h j u hu)
theorem anext {W W' : World} {v : Value} {L : List Atm} (h : ARow W v L) (hs : Since W W') : ARow W' v L := KRow.next (R := AtAt) (fun _ _ _ _ _ h s => h.next s) h hs
theorem RulAt.next {W W' : World} {b o : Nat} {x : Atm × List Atm} (h : RulAt W b o x) (hs : Since W W') : RulAt W' b o x := by
  obtain ⟨h1, u, h2, h3⟩ := h
  exact ⟨h1.next hs, u, hs.cell h2, anext h3 hs⟩
theorem rnext {W W' : World} {v : Value} {L : List (Atm × List Atm)} (h : RRow W v L) (hs : Since W W') : RRow W' v L := KRow.next (R := RulAt) (fun _ _ _ _ _ h s => h.next s) h hs
def IntAt (W : World) (b o : Nat) (x : Int) : Prop := W.cell? ⟨b, o, none⟩ = some (.int .i64 x)
abbrev IRow := KRow 1 IntAt
theorem inext {W W' : World} {v : Value} {L : List Int} (h : IRow W v L) (hs : Since W W') : IRow W' v L := KRow.next (R := IntAt) (fun _ _ _ _ _ h s => s.cell h) h hs
/-- A step: its atom, its clause, its cites. -/
abbrev Stp := Atm × Int × List Int
def StpAt (W : World) (b o : Nat) (x : Stp) : Prop := AtAt W b o x.1 ∧ W.cell? ⟨b, o + 11, none⟩ = some (.int .i64 x.2.1) ∧ ∃ u, W.cell? ⟨b, o + 12, none⟩ = some u ∧ IRow W u x.2.2
theorem StpAt.next {W W' : World} {b o : Nat} {x : Stp} (h : StpAt W b o x) (hs : Since W W') : StpAt W' b o x := by
  obtain ⟨h1, h2, u, h3, h4⟩ := h
  exact ⟨h1.next hs, hs.cell h2, u, hs.cell h3, inext h4 hs⟩
theorem AtAt.all {W : World} {b o : Nat} (a_s a_p : List UInt8) (a_n : Int) (a_v0 a_v1 a_v2 a_v3 : Bool) (a_l0 a_l1 a_l2 a_l3 : List UInt8) (h : AtAt W b o ((a_s, a_p, a_n, (a_v0, a_l0), (a_v1, a_l1), (a_v2, a_l2), (a_v3, a_l3)) : Atm)) : W.cell? ⟨b, o, none⟩ = some (.string ⟨a_s.toArray⟩) ∧ W.cell? ⟨b, o + 1, none⟩ = some (.string ⟨a_p.toArray⟩) ∧ W.cell? ⟨b, o + 2, none⟩ = some (.int .i64 a_n) ∧ W.cell? ⟨b, o + 3, none⟩ = some (.bool a_v0) ∧ W.cell? ⟨b, o + 4, none⟩ = some (.string ⟨a_l0.toArray⟩) ∧ W.cell? ⟨b, o + 5, none⟩ = some (.bool a_v1) ∧ W.cell? ⟨b, o + 6, none⟩ = some (.string ⟨a_l1.toArray⟩) ∧ W.cell? ⟨b, o + 7, none⟩ = some (.bool a_v2) ∧ W.cell? ⟨b, o + 8, none⟩ = some (.string ⟨a_l2.toArray⟩) ∧ W.cell? ⟨b, o + 9, none⟩ = some (.bool a_v3) ∧ W.cell? ⟨b, o + 10, none⟩ = some (.string ⟨a_l3.toArray⟩) :=
  ⟨h 0 _ rfl, h 1 _ rfl, h 2 _ rfl, h 3 _ rfl, h 4 _ rfl, h 5 _ rfl, h 6 _ rfl, h 7 _ rfl, h 8 _ rfl, h 9 _ rfl, h 10 _ rfl⟩
end Go.Proofs.YtnfjjckbgnieeaaGreatDoor
