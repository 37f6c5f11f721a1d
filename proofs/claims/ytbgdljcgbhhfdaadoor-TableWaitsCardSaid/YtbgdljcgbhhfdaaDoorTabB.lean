/- Package table: Tables in memory; at, Len, Count, Find. -/
import Derived.Test.YtbgdljcgbhhfdaaDoorTabA
import Derived.Test.YtbgdljcgbhhfdaaDoorNest
namespace Go.Proofs.YtbgdljcgbhhfdaaDoor
open Go.RowKit Go.Maps Go.WideMaps

/-- A call: its atom, its answers, who waits. -/
abbrev TCall := Atm × List Atm × List Int
def callC (c : TCall) (av : Value) (th : Nat) (wv : Value) : Array Value := (((atmC c.1).push av).push (.map (some th))).push wv
def intV1 (x : Int) : List Value := [.int .i64 x]
def cntS (S : List TCall) : Nat := (S.map fun c => c.2.1.length).sum
/-- Where a call lies. -/
structure CallP where
  b : Nat
  th : Nat
  nt : Nat
  av : Value
  wv : Value
def ptrV (p : CallP) : List Value := [.pointer (some ⟨p.b, 0, none⟩)]
structure CallAt (W : World) (B : Nat) (p : CallP) (c : TCall) : Prop where
  cel : Cel W p.b (callC c p.av p.th p.wv) 68
  ans : W.ownsRow B 34 11 p.av c.2.1.length (c.2.1.flatMap atmL)
  who : W.ownsRow B 3 1 p.wv c.2.2.length (c.2.2.flatMap intV1)
  map : AIdx W p.th p.nt c.2.1
  bb : B ≤ p.b
  bt : B ≤ p.th
  fit : FitsN c.1 ∧ ∀ a ∈ c.2.1, FitsN a
  nd : c.2.1.Nodup
  ln : p.nt ≤ c.2.1.length ∧ c.2.1.length ≤ 100000 ∧ c.2.2.length ≤ 100000
def CallP.apart (p q : CallP) : Prop := p.b ≠ q.b ∧ p.th ≠ q.th ∧ apartV p.av q.av ∧ apartV p.wv q.wv
/-- Tables in memory, from block B on. -/
structure TabAt (W : World) (B g mp np : Nat) (cv : Value) (R : List CallP) (S : List TCall) : Prop where
  cel : Cel W g #[.map (some mp), cv, .int .i64 (cntS S : Int)] 64
  map : AIdx W mp np (S.map fun c => c.1)
  row : W.ownsRow B 66 1 cv R.length (R.flatMap ptrV)
  len : R.length = S.length
  call : ∀ i (h : i < R.length) (h2 : i < S.length), CallAt W B R[i] S[i]
  apart : R.Pairwise CallP.apart
  mapart : ∀ p ∈ R, p.th ≠ mp
  bg : B ≤ g
  bm : B ≤ mp
  nd : (S.map fun c => c.1).Nodup
  ln : np ≤ S.length ∧ S.length ≤ 1000
theorem CallAt.next {W W' : World} {B : Nat} {p : CallP} {c : TCall} (h : CallAt W B p c) (hs : Since W W') : CallAt W' B p c :=
  ⟨h.cel.next hs, own_since h.ans hs, own_since h.who hs, h.map.next hs, h.bb, h.bt, h.fit, h.nd, h.ln⟩
theorem TabAt.next {W W' : World} {B g mp np : Nat} {cv : Value} {R : List CallP} {S : List TCall} (h : TabAt W B g mp np cv R S) (hs : Since W W') : TabAt W' B g mp np cv R S :=
  ⟨h.cel.next hs, h.map.next hs, own_since h.row hs, h.len, fun i h1 h2 => (h.call i h1 h2).next hs, h.apart, h.mapart, h.bg, h.bm, h.nd, h.ln⟩
theorem TabAt.fits {W : World} {B g mp np : Nat} {cv : Value} {R : List CallP} {S : List TCall} (h : TabAt W B g mp np cv R S) : ∀ y ∈ S.map (fun c => c.1), FitsN y := by
  intro y hy
  obtain ⟨c, hc, rfl⟩ := List.mem_map.1 hy
  obtain ⟨i, hi, rfl⟩ := List.getElem_of_mem hc
  exact (h.call i (by rw [h.len]; exact hi) hi).fit.1
theorem TabAt.slice {W : World} {B g mp np : Nat} {cv : Value} {R : List CallP} {S : List TCall} (h : TabAt W B g mp np cv R S) : ∃ a c, cv = .slice a S.length c := by
  obtain ⟨a, c, e⟩ := own_slice h.row
  exact ⟨a, c, by rw [e, h.len]⟩
/-- The cell that leads to a call. -/
theorem TabAt.ptr {W : World} {B g mp np : Nat} {a : Option Addr} {n cc : Nat} {R : List CallP} {S : List TCall} (h : TabAt W B g mp np (.slice a n cc) R S) {i : Nat} (hi : i < R.length) : ∃ b o, a = some ⟨b, o, none⟩ ∧ W.cell? ⟨b, o + i, none⟩ = some (.pointer (some ⟨R[i].b, 0, none⟩)) := by
  rcases row_of_own h.row with ⟨_, h2, _⟩ | ⟨b, o, c', h1, _, h3⟩
  · omega
  · injection h1 with e1 e2 e3
    refine ⟨b, o, e1, ?_⟩
    have hl : (R.flatMap ptrV).length = R.length := by rw [flat_len (K := 1) (f := ptrV) (fun _ => rfl), Nat.mul_one]
    have h4 := h3 i (by rw [hl]; exact hi)
    rw [h4]
    congr 1
    have h5 := flat_at (f := ptrV) (K := 1) (fun _ => rfl) R i hi 0 (by omega)
    rw [Nat.mul_one, Nat.add_zero, List.getElem?_eq_getElem (by rw [hl]; exact hi)] at h5
    injection h5
set_option maxHeartbeats 1000000 in
theorem tlen_any {B g mp np : Nat} {cv : Value} {R : List CallP} {S : List TCall} (w : World) (h : TabAt w B g mp np cv R S) :
    Calls Tryd.prog 14 #[.pointer (some ⟨g, 0, none⟩)] w fun e w' => e = .returned (.int .i64 (S.length : Int)) ∧ Since w w' := by
  obtain ⟨a, c, rfl⟩ := h.slice
  have g1 : w.cell? ⟨g, 1, none⟩ = some (.slice a S.length c) := h.cel.cell 1
  clear h
  go_enter Tryd.func14, Tryd.ntmps14
  go_wp2_with fail
  go_ret
  exact ⟨rfl, Since.refl _⟩
set_option maxHeartbeats 1000000 in
theorem tcount_any {B g mp np : Nat} {cv : Value} {R : List CallP} {S : List TCall} (w : World) (h : TabAt w B g mp np cv R S) :
    Calls Tryd.prog 19 #[.pointer (some ⟨g, 0, none⟩)] w fun e w' => e = .returned (.int .i64 (cntS S : Int)) ∧ Since w w' := by
  have g2 : w.cell? ⟨g, 2, none⟩ = some (.int .i64 (cntS S : Int)) := h.cel.cell 2
  clear h
  go_enter Tryd.func19, Tryd.ntmps19
  go_wp2_with fail
  go_ret
  exact ⟨rfl, Since.refl _⟩
set_option maxHeartbeats 2000000 in
theorem tat_yes {B g mp np : Nat} {cv : Value} {R : List CallP} {S : List TCall} (i : Nat) (w : World) (h : TabAt w B g mp np cv R S) (hi : i < R.length) :
    Calls Tryd.prog 33 #[.pointer (some ⟨g, 0, none⟩), .int .i64 (i : Int)] w fun e w' => e = .returned (.pointer (some ⟨R[i].b, 0, none⟩)) ∧ Since w w' := by
  obtain ⟨a, c, rfl⟩ := h.slice
  have g1 : w.cell? ⟨g, 1, none⟩ = some (.slice a S.length c) := h.cel.cell 1
  have hl := h.len
  obtain ⟨b, o, rfl, hp⟩ := h.ptr hi
  have h1 : (i : Int) < (S.length : Int) := by omega
  have h2 : ¬ (S.length : Int) ≤ (i : Int) := by omega
  have h3 : (0 : Int) ≤ (i : Int) := by omega
  have h4 : ¬ (i : Int) < 0 := by omega
  obtain ⟨q, hq⟩ : ∃ q, Hid (q = R[i].b) := ⟨R[i].b, rfl⟩
  rw [← hq.out] at hp ⊢
  clear h hl hi hq
  go_enter Tryd.func33, Tryd.ntmps33
  go_wp2_with fail
  go_ret
  exact ⟨rfl, Since.refl _⟩
set_option maxHeartbeats 2000000 in
theorem tat_no {B g mp np : Nat} {cv : Value} {R : List CallP} {S : List TCall} (i : Int) (w : World) (h : TabAt w B g mp np cv R S) (hi : i < 0 ∨ (S.length : Int) ≤ i) :
    Calls Tryd.prog 33 #[.pointer (some ⟨g, 0, none⟩), .int .i64 i] w fun e w' => e = .returned (.pointer none) ∧ Since w w' := by
  obtain ⟨a, c, rfl⟩ := h.slice
  have g1 : w.cell? ⟨g, 1, none⟩ = some (.slice a S.length c) := h.cel.cell 1
  clear h
  by_cases h0 : i < 0
  · go_enter Tryd.func33, Tryd.ntmps33
    go_wp2_with fail
    go_ret
    exact ⟨rfl, Since.refl _⟩
  · have h2 : (S.length : Int) ≤ i := by omega
    clear hi
    go_enter Tryd.func33, Tryd.ntmps33
    go_wp2_with fail
    go_ret
    exact ⟨rfl, Since.refl _⟩
end Go.Proofs.YtbgdljcgbhhfdaaDoor
