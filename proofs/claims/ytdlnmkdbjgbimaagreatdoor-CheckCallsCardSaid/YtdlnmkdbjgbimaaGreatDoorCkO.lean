/- Clauses, steps, atoms opened to plain data by their readings. -/
import Derived.Test.YtdlnmkdbjgbimaaGreatDoorOpen
import Derived.Test.YtdlnmkdbjgbimaaGreatDoorCkB
namespace Go.Proofs.YtdlnmkdbjgbimaaGreatDoor
open Go.RowKit Go.ChangeShapes Go.WideShapes Go.Deep

section
variable {H : Type} {enc : TypeId × Value → H} {w : World} {base : Nat} {sp : Nat → Bool} {held : Bool} {fuel : Nat} {cs : List Value} {x : DataW H × List MemPlace}
/-- A slice in a cell, opened to a row of things of K cells. -/
theorem rd_krow {P : Program} {α : Type} {R : World → Nat → Nat → α → Prop} {K : Nat} {Q : α → Prop} {t e : TypeId} (ht : P.underlying t = some (.slice e)) (hK : P.cellsOf e = K) (hpos : 0 < K)
    (hrd : ∀ {n : Nat} {cs : List Value} {x : DataW H × List MemPlace}, DataW.trod enc P w base sp held n e cs = some x → cs.length = K ∧ ∃ a, Q a ∧ ∀ b o, (∀ j u, cs[j]? = some u → w.cell? ⟨b, o + j, none⟩ = some u) → R w b o a)
    (h : DataW.trod enc P w base sp held fuel t cs = some x) : ∃ a n c, ∃ L : List α, cs = [.slice a n c] ∧ KRow K R w (.slice a n c) L ∧ (∀ y ∈ L, Q y) := by
  obtain ⟨d, ps⟩ := x
  rcases open_slice ht h with ⟨h0, _⟩ | ⟨a, len, cap, m, n, D, Pl, hcs, hb, hl, hm, hmm, hx, hi⟩
  · exact ⟨none, 0, 0, [], h0, KRow.nil _ _, (by intro y hy; cases hy)⟩
  · have hlen : len ≤ m := by rw [hmm]; split <;> omega
    obtain ⟨L, hL, hp⟩ := pick_lt (n := len) (p := fun i (y : α) => Q y ∧ ∃ cs', w.cells? base (a.add (i * K)) K = some cs' ∧ cs'.length = K ∧ ∀ b o, (∀ j u, cs'[j]? = some u → w.cell? ⟨b, o + j, none⟩ = some u) → R w b o y) (fun i hil => by
      obtain ⟨cs', hc, htr⟩ := hi i (by omega)
      rw [hK] at hc
      obtain ⟨hlc, y, hq, hy⟩ := hrd htr
      exact ⟨y, hq, cs', hc, hlc, hy⟩)
    refine ⟨some a, len, cap, L, hcs, ⟨some a, cap, by rw [hL], by omega, fun h0 => ?_⟩, fun y hy => ?_⟩
    · obtain ⟨_, cs', hc, hlc, _⟩ := hp 0 h0
      obtain ⟨_, hcl, hat⟩ := World.cells?_some hc
      have h00 := hat 0 hpos
      rw [List.getElem?_eq_getElem (by omega)] at h00
      obtain ⟨b, o, pa⟩ := a
      obtain rfl : pa = none := by simpa [Addr.add] using World.cell?_spot h00
      refine ⟨b, o, rfl, fun k hk => ?_⟩
      obtain ⟨_, cs', hc, hlc, hR⟩ := hp k hk
      refine hR b (o + k * K) fun j u hu => ?_
      obtain ⟨_, hcl, hat⟩ := World.cells?_some hc
      have hj : j < cs'.length := (List.getElem?_eq_some_iff.1 hu).1
      have := hat j (by omega)
      rw [add_form, add_form, hu] at this
      exact this
    · obtain ⟨i, hi', rfl⟩ := List.getElem_of_mem hy
      exact (hp i hi').1
theorem cells_atoms : Tryz.prog.cellsOf 23 = 1 := by kernel_rfl
theorem cells_ints : Tryz.prog.cellsOf 41 = 1 := by kernel_rfl
theorem cells_clause : Tryz.prog.cellsOf 47 = 12 := by kernel_rfl
theorem cells_step : Tryz.prog.cellsOf 49 = 13 := by kernel_rfl
theorem rd_atmR (h : DataW.trod enc Tryz.prog w base sp held fuel 29 cs = some x) : cs.length = 11 ∧ ∃ y : Atm, FitsN y ∧ ∀ b o, (∀ j u, cs[j]? = some u → w.cell? ⟨b, o + j, none⟩ = some u) → AtAt w b o y := by
  obtain ⟨a, rfl, hq⟩ := rd_atom h
  refine ⟨rfl, a, hq, fun b o hc j u hu => hc j u ?_⟩
  rw [Array.getElem?_toList]; exact hu
theorem rd_intR (h : DataW.trod enc Tryz.prog w base sp held fuel 3 cs = some x) : cs.length = 1 ∧ ∃ y : Int, True ∧ ∀ b o, (∀ j u, cs[j]? = some u → w.cell? ⟨b, o + j, none⟩ = some u) → IntAt w b o y := by
  obtain ⟨d, ps⟩ := x
  obtain ⟨y, hy, _, _⟩ := DataW.trod_int Tryz.underlying3 h
  obtain rfl : cs = [.int .i64 y] := hy
  exact ⟨rfl, y, trivial, fun b o hc => hc 0 _ rfl⟩
theorem rd_atomsR (h : DataW.trod enc Tryz.prog w base sp held fuel 23 cs = some x) : ∃ a n c, ∃ L : List Atm, cs = [.slice a n c] ∧ ARow w (.slice a n c) L ∧ (∀ y ∈ L, FitsN y) :=
  rd_krow (R := AtAt) (Q := FitsN) Tryz.underlying23 cells_atom (by decide) (fun h => rd_atmR h) h
theorem rd_intsR (h : DataW.trod enc Tryz.prog w base sp held fuel 41 cs = some x) : ∃ a n c, ∃ L : List Int, cs = [.slice a n c] ∧ IRow w (.slice a n c) L ∧ (∀ y ∈ L, True) :=
  rd_krow (R := IntAt) (Q := fun _ => True) Tryz.underlying41 cells_int (by decide) (fun h => rd_intR h) h
theorem drop_take_app {α : Type} {a b : List α} {n m : Nat} (ha : a.length = n) (hb : b.length = m) : ((a ++ b).drop n).take m = b := by
  subst ha; subst hb
  simp
theorem take_app {α : Type} {a b : List α} {n : Nat} (ha : a.length = n) : ((a ++ b).drop 0).take n = a := by
  subst ha
  simp
theorem cut_at {α : Type} {l : List α} {n m : Nat} (h : l.length = n + m) : ∃ a b, l = a ++ b ∧ a.length = n ∧ b.length = m :=
  ⟨l.take n, l.drop n, (List.take_append_drop _ _).symm, by simp; omega, by simp; omega⟩
/-- A clause's cells. -/
theorem rd_clsC (h : DataW.trod enc Tryz.prog w base sp held fuel 47 cs = some x) : ∃ (y : Cls) (a : Option Addr) (n c : Nat), cs = (atmC y.1).toList ++ [.slice a n c] ∧ FitsC y ∧ ARow w (.slice a n c) y.2 := by
  obtain ⟨ys, n, _, hx, hlen, hyl, hf⟩ := DataW.trod_struct Tryz.underlying47 h
  have hl12 : cs.length = 11 + 1 := hlen.trans cells_clause
  obtain ⟨ca, cb, rfl, hca, hcb⟩ := cut_at hl12
  have l0 : 0 < ys.length := by rw [hyl]; decide
  have l1 : 1 < ys.length := by rw [hyl]; decide
  have h0 : DataW.trod enc Tryz.prog w base sp held n 29 (((ca ++ cb).drop 0).take (Tryz.prog.cellsOf 29)) = some ys[0] := (hf 0 _ rfl).trans (List.getElem?_eq_getElem l0)
  have h1 : DataW.trod enc Tryz.prog w base sp held n 23 (((ca ++ cb).drop 11).take (Tryz.prog.cellsOf 23)) = some ys[1] := (hf 1 _ rfl).trans (List.getElem?_eq_getElem l1)
  rw [cells_atom, take_app hca] at h0
  rw [cells_atoms, drop_take_app hca hcb] at h1
  obtain ⟨y, e0, hy⟩ := rd_atom h0
  obtain ⟨a, m, c, L, e1, hT, hq⟩ := rd_atomsR h1
  exact ⟨(y, L), a, m, c, by rw [e0, e1], ⟨hy, hq⟩, hT⟩
theorem rd_clsR (h : DataW.trod enc Tryz.prog w base sp held fuel 47 cs = some x) : cs.length = 12 ∧ ∃ y : Cls, FitsC y ∧ ∀ b o, (∀ j u, cs[j]? = some u → w.cell? ⟨b, o + j, none⟩ = some u) → RulAt w b o y := by
  obtain ⟨y, a, n, c, rfl, hy, hT⟩ := rd_clsC h
  refine ⟨rfl, y, hy, fun b o hc => ⟨fun j u hu => hc j u ?_, _, hc 11 _ rfl, hT⟩⟩
  have hj : j < (atmC y.1).toList.length := by simpa using (Array.getElem?_eq_some_iff.1 hu).1
  rw [List.getElem?_append_left hj, Array.getElem?_toList]; exact hu
theorem rd_stpR (h : DataW.trod enc Tryz.prog w base sp held fuel 49 cs = some x) : cs.length = 13 ∧ ∃ y : Stp, FitsN y.1 ∧ ∀ b o, (∀ j u, cs[j]? = some u → w.cell? ⟨b, o + j, none⟩ = some u) → StpAt w b o y := by
  obtain ⟨ys, n, _, hx, hlen, hyl, hf⟩ := DataW.trod_struct Tryz.underlying49 h
  have hl13 : cs.length = (11 + 1) + 1 := hlen.trans cells_step
  obtain ⟨cab, cc, rfl, hcab, hcc⟩ := cut_at hl13
  obtain ⟨ca, cb, rfl, hca, hcb⟩ := cut_at hcab
  have l0 : 0 < ys.length := by rw [hyl]; decide
  have l1 : 1 < ys.length := by rw [hyl]; decide
  have l2 : 2 < ys.length := by rw [hyl]; decide
  have h0 : DataW.trod enc Tryz.prog w base sp held n 29 ((((ca ++ cb) ++ cc).drop 0).take (Tryz.prog.cellsOf 29)) = some ys[0] := (hf 0 _ rfl).trans (List.getElem?_eq_getElem l0)
  have h1 : DataW.trod enc Tryz.prog w base sp held n 3 ((((ca ++ cb) ++ cc).drop 11).take (Tryz.prog.cellsOf 3)) = some ys[1] := (hf 1 _ rfl).trans (List.getElem?_eq_getElem l1)
  have h2 : DataW.trod enc Tryz.prog w base sp held n 41 ((((ca ++ cb) ++ cc).drop 12).take (Tryz.prog.cellsOf 41)) = some ys[2] := (hf 2 _ rfl).trans (List.getElem?_eq_getElem l2)
  rw [cells_atom, List.append_assoc, take_app hca] at h0
  rw [cells_ints, drop_take_app (by rw [List.length_append, hca, hcb]) hcc] at h2
  have e11 : (((ca ++ cb) ++ cc).drop 11).take 1 = cb := by
    rw [List.append_assoc, List.drop_append_of_le_length (by omega), List.drop_eq_nil_of_le (by omega), List.nil_append, List.take_append_of_le_length (by omega), List.take_of_length_le (by omega)]
  rw [cells_int, e11] at h1
  obtain ⟨y, e0, hy⟩ := rd_atom h0
  obtain ⟨m, e1, _, _⟩ := DataW.trod_int Tryz.underlying3 h1
  obtain ⟨a, q, c, L, e2, hT, _⟩ := rd_intsR h2
  have e1' : cb = [.int .i64 m] := e1
  subst e0; subst e1'; subst e2
  refine ⟨rfl, (y, m, L), hy, fun b o hc => ⟨fun j u hu => hc j u ?_, hc 11 _ rfl, _, hc 12 _ rfl, hT⟩⟩
  have hj : j < (atmC y).toList.length := by simpa using (Array.getElem?_eq_some_iff.1 hu).1
  rw [List.append_assoc, List.getElem?_append_left hj, Array.getElem?_toList]; exact hu
end
section
variable {H : Type} {enc : TypeId × Value → H} {w : World} {base : Nat} {sp : Nat → Bool} {held : Bool} {r : Reach} {b0 : Nat} {v : Value} {d : DataW H} {ps : List MemPlace}
theorem open_krow {P : Program} {α : Type} {R : World → Nat → Nat → α → Prop} {K : Nat} {Q : α → Prop} {t e : TypeId} (ht : P.underlying t = some (.slice e)) (hK : P.cellsOf e = K) (hpos : 0 < K)
    (hrd : ∀ {n : Nat} {cs : List Value} {x : DataW H × List MemPlace}, DataW.trod enc P w base sp held n e cs = some x → cs.length = K ∧ ∃ a, Q a ∧ ∀ b o, (∀ j u, cs[j]? = some u → w.cell? ⟨b, o + j, none⟩ = some u) → R w b o a)
    (hval : Value.okWide P w r b0 t v) (h : DataW.Trod enc P w base sp held t v d ps) : ∃ a c, ∃ L : List α, v = .slice a L.length c ∧ KRow K R w (.slice a L.length c) L ∧ (∀ y ∈ L, Q y) := by
  obtain ⟨a1, l1, c1, rfl⟩ := okWide_slice ht hval
  obtain ⟨fuel, hf⟩ := h
  obtain ⟨a, n, c, L, e, hr, hq⟩ := rd_krow (R := R) (Q := Q) ht hK hpos hrd hf
  have e' : [Value.slice a1 l1 c1] = [.slice a n c] := e
  injection e' with e' _
  have hn := hr.form
  subst hn
  exact ⟨a, c, L, e', hr, hq⟩
set_option maxRecDepth 100000 in
theorem open_atoms (hval : Value.okWide Tryz.prog w r b0 23 v) (h : DataW.Trod enc Tryz.prog w base sp held 23 v d ps) : ∃ a c, ∃ L : List Atm, v = .slice a L.length c ∧ ARow w (.slice a L.length c) L ∧ (∀ y ∈ L, FitsN y) :=
  open_krow (R := AtAt) (Q := FitsN) Tryz.underlying23 cells_atom (by decide) (fun h => rd_atmR h) hval h
set_option maxRecDepth 100000 in
theorem open_clauses (hval : Value.okWide Tryz.prog w r b0 22 v) (h : DataW.Trod enc Tryz.prog w base sp held 22 v d ps) : ∃ a c, ∃ L : List Cls, v = .slice a L.length c ∧ RRow w (.slice a L.length c) L ∧ (∀ y ∈ L, FitsC y) :=
  open_krow (R := RulAt) (Q := FitsC) Tryz.underlying22 cells_clause (by decide) (fun h => rd_clsR h) hval h
set_option maxRecDepth 100000 in
theorem open_stps (hval : Value.okWide Tryz.prog w r b0 24 v) (h : DataW.Trod enc Tryz.prog w base sp held 24 v d ps) : ∃ a c, ∃ L : List Stp, v = .slice a L.length c ∧ SRow w (.slice a L.length c) L ∧ (∀ y ∈ L, FitsN y.1) :=
  open_krow (R := StpAt) (Q := fun y : Stp => FitsN y.1) Tryz.underlying24 cells_step (by decide) (fun h => rd_stpR h) hval h
set_option maxRecDepth 100000 in
theorem open_clause (hval : Value.okWide Tryz.prog w r b0 47 v) (h : DataW.Trod enc Tryz.prog w base sp held 47 v d ps) : ∃ (y : Cls) (a : Option Addr) (c : Nat), v = .agg ((atmC y.1).push (.slice a y.2.length c)) ∧ FitsC y ∧ ARow w (.slice a y.2.length c) y.2 := by
  obtain ⟨cs, fuel, rfl, hf⟩ := open_struct' Tryz.underlying47 hval h
  obtain ⟨y, a, n, c, e, hy, hT⟩ := rd_clsC hf
  have hn := hT.form
  subst hn
  refine ⟨y, a, c, ?_, hy, hT⟩
  obtain ⟨l⟩ := cs
  have e' : l = (atmC y.1).toList ++ [.slice a y.2.length c] := e
  rw [e']
  congr 1
end
end Go.Proofs.YtdlnmkdbjgbimaaGreatDoor
