/- Policies in memory: rows of declarations, rules, grants. -/
import Derived.Test.YtnfjjckbgnieeaaGreatDoorVKRow
namespace Go.Proofs.YtnfjjckbgnieeaaGreatDoor
open Go.RowKit

structure Pol where
  pr : List Txt
  pd : List (Txt × Int)
  cl : List (Txt × List Txt)
  qu : Int
  bu : Int
  ru : List (Atm × List Atm)
  gr : List (Txt × Atm × List Atm)
def PrdAt (W : World) (b o : Nat) (x : Txt × Int) : Prop := W.cell? ⟨b, o, none⟩ = some (strV x.1) ∧ W.cell? ⟨b, o + 1, none⟩ = some (.int .i64 x.2)
abbrev PRow := KRow 2 PrdAt
def ClrAt (W : World) (b o : Nat) (x : Txt × List Txt) : Prop := W.cell? ⟨b, o, none⟩ = some (strV x.1) ∧ ∃ u, W.cell? ⟨b, o + 1, none⟩ = some u ∧ TRow W u x.2
abbrev CRow := KRow 2 ClrAt
def GrnAt (W : World) (b o : Nat) (x : Txt × Atm × List Atm) : Prop := W.cell? ⟨b, o, none⟩ = some (strV x.1) ∧ AtAt W b (o + 1) x.2.1 ∧ ∃ u, W.cell? ⟨b, o + 12, none⟩ = some u ∧ ARow W u x.2.2
abbrev GRow := KRow 13 GrnAt
theorem PrdAt.next {W W' : World} {b o : Nat} {x : Txt × Int} (h : PrdAt W b o x) (hs : Since W W') : PrdAt W' b o x := ⟨hs.cell h.1, hs.cell h.2⟩
theorem pnext {W W' : World} {v : Value} {L : List (Txt × Int)} (h : PRow W v L) (hs : Since W W') : PRow W' v L := KRow.next (R := PrdAt) (fun _ _ _ _ _ h s => h.next s) h hs
theorem ClrAt.next {W W' : World} {b o : Nat} {x : Txt × List Txt} (h : ClrAt W b o x) (hs : Since W W') : ClrAt W' b o x := by
  obtain ⟨h1, u, h2, h3⟩ := h
  exact ⟨hs.cell h1, u, hs.cell h2, tnext h3 hs⟩
theorem cnext {W W' : World} {v : Value} {L : List (Txt × List Txt)} (h : CRow W v L) (hs : Since W W') : CRow W' v L := KRow.next (R := ClrAt) (fun _ _ _ _ _ h s => h.next s) h hs
theorem GrnAt.next {W W' : World} {b o : Nat} {x : Txt × Atm × List Atm} (h : GrnAt W b o x) (hs : Since W W') : GrnAt W' b o x := by
  obtain ⟨h0, h1, u, h2, h3⟩ := h
  exact ⟨hs.cell h0, h1.next hs, u, hs.cell h2, anext h3 hs⟩
theorem gnext {W W' : World} {v : Value} {L : List (Txt × Atm × List Atm)} (h : GRow W v L) (hs : Since W W') : GRow W' v L := KRow.next (R := GrnAt) (fun _ _ _ _ _ h s => h.next s) h hs
/-- A policy's seven cells, and what they hold. -/
def PolAt (W : World) (ap ad ac ar ag : Option Addr) (np cp nd cd nc cc nr cr ng cg : Nat) (qu bu : Int) (P : Pol) : Prop :=
  TRow W (.slice ap np cp) P.pr ∧ PRow W (.slice ad nd cd) P.pd ∧ CRow W (.slice ac nc cc) P.cl ∧ qu = P.qu ∧ bu = P.bu ∧ RRow W (.slice ar nr cr) P.ru ∧ GRow W (.slice ag ng cg) P.gr
theorem PolAt.next {W W' : World} {ap ad ac ar ag : Option Addr} {np cp nd cd nc cc nr cr ng cg : Nat} {qu bu : Int} {P : Pol} (h : PolAt W ap ad ac ar ag np cp nd cd nc cc nr cr ng cg qu bu P) (hs : Since W W') : PolAt W' ap ad ac ar ag np cp nd cd nc cc nr cr ng cg qu bu P :=
  ⟨tnext h.1 hs, pnext h.2.1 hs, cnext h.2.2.1 hs, h.2.2.2.1, h.2.2.2.2.1, rnext h.2.2.2.2.2.1 hs, gnext h.2.2.2.2.2.2 hs⟩
end Go.Proofs.YtnfjjckbgnieeaaGreatDoor
