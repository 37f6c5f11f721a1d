/- Rows of atoms, of numbers, opened to plain data by their readings. -/
import Derived.Test.YtnfjjckbgnieeaaGreatDoorOpen
import Derived.Test.YtnfjjckbgnieeaaGreatDoorKRow
import Derived.Test.YtnfjjckbgnieeaaGreatDoorASet
namespace Go.Proofs.YtnfjjckbgnieeaaGreatDoor
open Go.RowKit Go.ChangeShapes Go.WideShapes Go.Deep

section
variable {H : Type} {enc : TypeId × Value → H} {w : World} {base : Nat} {sp : Nat → Bool} {held : Bool} {fuel : Nat} {cs : List Value} {x : DataW H × List MemPlace}
/-- A slice in a cell, opened to a row of things of K cells. -/
theorem rd_krow {P : Program} {α : Type} {R : World → Nat → Nat → α → Prop} {K : Nat} {Q : α → Prop} {t e : TypeId} (ht : P.underlying t = some (.slice e)) (hK : P.cellsOf e = K) (hpos : 0 < K)
    (hrd : ∀ {n : Nat} {cs : List Value} {x : DataW H × List MemPlace}, DataW.trod enc P w base sp held n e cs = some x → cs.length = K ∧ ∃ a, Q a ∧ ∀ b o, (∀ j u, cs[j]? = some u → w.cell? ⟨b, o + j, none⟩ = some u) → R w b o a)
    (h : DataW.trod enc P w base sp held fuel t cs = some x) : ∃ a n c, ∃ L : List α, cs = [.slice a n c] ∧ KRow K R w (.slice a n c) L ∧ (∀ y ∈ L, Q y) := by
  obtain ⟨d, ps⟩ := x
  rcases open_slice ht h with ⟨h0, _⟩ | ⟨a, len, cap, m, n, D, Pl, hcs, hb, hl, hm, hmm, hx, hi⟩
  · exact ⟨none, 0, 0, [], h0, KRow.nil _ _, (by intro y hy; cases hy)⟩
  · have hlen : len ≤ m := by rw [hmm]; split <;> omega
    obtain ⟨L, hL, hp⟩ := pick_lt (n := len) (p := fun i (y : α) => Q y ∧ ∃ cs', w.cells? base (a.add (i * K)) K = some cs' ∧ cs'.length = K ∧ ∀ b o, (∀ j u, cs'[j]? = some u → w.cell? ⟨b, o + j, none⟩ = some u) → R w b o y) (fun i hil => by
      obtain ⟨cs', hc, htr⟩ := hi i (by omega)
      rw [hK] at hc
      obtain ⟨hlc, y, hq, hy⟩ := hrd htr
      exact ⟨y, hq, cs', hc, hlc, hy⟩)
    refine ⟨some a, len, cap, L, hcs, ⟨some a, cap, by rw [hL], by omega, fun h0 => ?_⟩, fun y hy => ?_⟩
    · obtain ⟨_, cs', hc, hlc, _⟩ := hp 0 h0
      obtain ⟨_, hcl, hat⟩ := World.cells?_some hc
      have h00 := hat 0 hpos
      rw [List.getElem?_eq_getElem (by omega)] at h00
      obtain ⟨b, o, pa⟩ := a
      obtain rfl : pa = none := by simpa [Addr.add] using World.cell?_spot h00
      refine ⟨b, o, rfl, fun k hk => ?_⟩
      obtain ⟨_, cs', hc, hlc, hR⟩ := hp k hk
      refine hR b (o + k * K) fun j u hu => ?_
      obtain ⟨_, hcl, hat⟩ := World.cells?_some hc
      have hj : j < cs'.length := (List.getElem?_eq_some_iff.1 hu).1
      have := hat j (by omega)
      rw [add_form, add_form, hu] at this
      exact this
    · obtain ⟨i, hi', rfl⟩ := List.getElem_of_mem hy
      exact (hp i hi').1
theorem cells_atoms : Tryz.prog.cellsOf 45 = 1 := by kernel_rfl
theorem cells_ints : Tryz.prog.cellsOf 58 = 1 := by kernel_rfl
theorem rd_atmR (h : DataW.trod enc Tryz.prog w base sp held fuel 44 cs = some x) : cs.length = 11 ∧ ∃ y : Atm, FitsN y ∧ ∀ b o, (∀ j u, cs[j]? = some u → w.cell? ⟨b, o + j, none⟩ = some u) → AtAt w b o y := by
  obtain ⟨a, rfl, hq⟩ := rd_atom h
  refine ⟨rfl, a, hq, fun b o hc j u hu => hc j u ?_⟩
  rw [Array.getElem?_toList]; exact hu
theorem rd_intR (h : DataW.trod enc Tryz.prog w base sp held fuel 3 cs = some x) : cs.length = 1 ∧ ∃ y : Int, (-9223372036854775808 ≤ y ∧ y ≤ 9223372036854775807) ∧ ∀ b o, (∀ j u, cs[j]? = some u → w.cell? ⟨b, o + j, none⟩ = some u) → IntAt w b o y := by
  obtain ⟨d, ps⟩ := x
  obtain ⟨y, hy, _, hw⟩ := DataW.trod_int Tryz.underlying3 h
  obtain rfl : cs = [.int .i64 y] := hy
  exact ⟨rfl, y, bounds_i64 hw, fun b o hc => hc 0 _ rfl⟩
end
section
variable {H : Type} {enc : TypeId × Value → H} {w : World} {base : Nat} {sp : Nat → Bool} {held : Bool} {r : Reach} {b0 : Nat} {v : Value} {d : DataW H} {ps : List MemPlace}
theorem open_krow {P : Program} {α : Type} {R : World → Nat → Nat → α → Prop} {K : Nat} {Q : α → Prop} {t e : TypeId} (ht : P.underlying t = some (.slice e)) (hK : P.cellsOf e = K) (hpos : 0 < K)
    (hrd : ∀ {n : Nat} {cs : List Value} {x : DataW H × List MemPlace}, DataW.trod enc P w base sp held n e cs = some x → cs.length = K ∧ ∃ a, Q a ∧ ∀ b o, (∀ j u, cs[j]? = some u → w.cell? ⟨b, o + j, none⟩ = some u) → R w b o a)
    (hval : Value.okWide P w r b0 t v) (h : DataW.Trod enc P w base sp held t v d ps) : ∃ a c, ∃ L : List α, v = .slice a L.length c ∧ KRow K R w (.slice a L.length c) L ∧ (∀ y ∈ L, Q y) := by
  obtain ⟨a1, l1, c1, rfl⟩ := okWide_slice ht hval
  obtain ⟨fuel, hf⟩ := h
  obtain ⟨a, n, c, L, e, hr, hq⟩ := rd_krow (R := R) (Q := Q) ht hK hpos hrd hf
  have e' : [Value.slice a1 l1 c1] = [.slice a n c] := e
  injection e' with e' _
  have hn := hr.form
  subst hn
  exact ⟨a, c, L, e', hr, hq⟩
set_option maxRecDepth 100000 in
theorem open_atoms (hval : Value.okWide Tryz.prog w r b0 45 v) (h : DataW.Trod enc Tryz.prog w base sp held 45 v d ps) : ∃ a c, ∃ L : List Atm, v = .slice a L.length c ∧ ARow w (.slice a L.length c) L ∧ (∀ y ∈ L, FitsN y) :=
  open_krow (R := AtAt) (Q := FitsN) Tryz.underlying45 cells_atom (by decide) (fun h => rd_atmR h) hval h
set_option maxRecDepth 100000 in
theorem open_ints (hval : Value.okWide Tryz.prog w r b0 58 v) (h : DataW.Trod enc Tryz.prog w base sp held 58 v d ps) : ∃ a c, ∃ L : List Int, v = .slice a L.length c ∧ IRow w (.slice a L.length c) L ∧ (∀ y ∈ L, -9223372036854775808 ≤ y ∧ y ≤ 9223372036854775807) :=
  open_krow (R := IntAt) (Q := fun y : Int => -9223372036854775808 ≤ y ∧ y ≤ 9223372036854775807) Tryz.underlying58 cells_int (by decide) (fun h => rd_intR h) hval h
end
end Go.Proofs.YtnfjjckbgnieeaaGreatDoor
