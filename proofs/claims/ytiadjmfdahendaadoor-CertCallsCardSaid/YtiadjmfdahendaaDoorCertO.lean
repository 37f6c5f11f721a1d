/- Steps opened to plain data by their readings. -/
import Derived.Test.YtiadjmfdahendaaDoorOpen
import Derived.Test.YtiadjmfdahendaaDoorCertS
namespace Go.Proofs.YtiadjmfdahendaaDoor
open Go.RowKit Go.ChangeShapes Go.WideShapes Go.Deep

theorem cells_cites : Tryd.prog.cellsOf 37 = 1 := by kernel_rfl
theorem cells_step : Tryd.prog.cellsOf 39 = 13 := by kernel_rfl
section
variable {H : Type} {enc : TypeId × Value → H} {w : World} {base : Nat} {sp : Nat → Bool} {held : Bool} {fuel : Nat} {cs : List Value} {x : DataW H × List MemPlace}
theorem rd_cites {c : Value} (h : DataW.trod enc Tryd.prog w base sp held fuel 37 [c] = some x) : ∃ l : List Int, CiteRow w c l := by
  obtain ⟨d, ps⟩ := x
  rcases open_slice Tryd.underlying37 h with ⟨h0, _⟩ | ⟨a, len, cap, m, n, D, Pl, hcs, hb, hl, hm, hmm, hx, hi⟩
  · obtain rfl : c = .slice none 0 0 := by simpa using h0
    exact ⟨[], none, 0, rfl, fun h => by simp at h⟩
  · obtain rfl : c = .slice (some a) len cap := by simpa using hcs
    have hlen : len ≤ m := by rw [hmm]; split <;> omega
    obtain ⟨L, hL, hp⟩ := pick_lt (n := len) (p := fun i (y : Int) => w.cells? base (a.add (i * 1)) 1 = some [.int .i64 y]) (fun i hil => by
      obtain ⟨cs', hc, htr⟩ := hi i (by omega)
      obtain ⟨y, hy, _, _⟩ := DataW.trod_int Tryd.underlying3 htr
      rw [cells_int] at hc
      refine ⟨y, ?_⟩
      rw [hc, hy])
    refine ⟨L, some a, cap, by rw [hL], fun h0 => ?_⟩
    have hc := hp 0 h0
    obtain ⟨_, hcl, hat⟩ := World.cells?_some hc
    have h00 := hat 0 (by omega)
    rw [List.getElem?_cons_zero] at h00
    obtain ⟨b, o, pa⟩ := a
    obtain rfl : pa = none := by simpa [Addr.add] using World.cell?_spot h00
    refine ⟨b, o, rfl, by omega, fun j hj => ?_⟩
    have hjL : j < L.length := by simpa using hj
    obtain ⟨_, _, hat⟩ := World.cells?_some (hp j hjL)
    have := hat 0 (by omega)
    rw [add_form, add_form, Nat.mul_one, Nat.add_zero] at this
    rw [this]
    simp [intV]
theorem thirteen_of {cs : List Value} {n : Nat} (h : cs.length = n) (hn : n = 13) : ∃ c0 c1 c2 c3 c4 c5 c6 c7 c8 c9 c10 c11 c12, cs = [c0, c1, c2, c3, c4, c5, c6, c7, c8, c9, c10, c11, c12] := by
  subst hn
  match cs, h with
  | [c0, c1, c2, c3, c4, c5, c6, c7, c8, c9, c10, c11, c12], _ => exact ⟨_, _, _, _, _, _, _, _, _, _, _, _, _, rfl⟩
/-- A step's cells: the atom's, the clause, the slice of cites. -/
def stpC (y : Stp × Value) : List Value := (atmC y.1.1).toList ++ [.int .i64 y.1.2.1, y.2]
def FitsY (w : World) (y : Stp × Value) : Prop := FitsN y.1.1 ∧ CiteRow w y.2 y.1.2.2
set_option maxHeartbeats 1000000 in
theorem rd_step (h : DataW.trod enc Tryd.prog w base sp held fuel 39 cs = some x) : ∃ y : Stp × Value, cs = stpC y ∧ FitsY w y := by
  obtain ⟨ys, n, _, _, hlen, hyl, hf⟩ := DataW.trod_struct Tryd.underlying39 h
  obtain ⟨c0, c1, c2, c3, c4, c5, c6, c7, c8, c9, c10, c11, c12, rfl⟩ := thirteen_of hlen cells_step
  have l0 : 0 < ys.length := by rw [hyl]; decide
  have h0 : DataW.trod enc Tryd.prog w base sp held n 27 (([c0, c1, c2, c3, c4, c5, c6, c7, c8, c9, c10, c11, c12].drop 0).take (Tryd.prog.cellsOf 27)) = some ys[0] := (hf 0 _ rfl).trans (List.getElem?_eq_getElem l0)
  rw [cells_atom] at h0
  have l1 : 1 < ys.length := by rw [hyl]; decide
  have h1 : DataW.trod enc Tryd.prog w base sp held n 3 (([c0, c1, c2, c3, c4, c5, c6, c7, c8, c9, c10, c11, c12].drop 11).take (Tryd.prog.cellsOf 3)) = some ys[1] := (hf 1 _ rfl).trans (List.getElem?_eq_getElem l1)
  rw [cells_int] at h1
  have l2 : 2 < ys.length := by rw [hyl]; decide
  have h2 : DataW.trod enc Tryd.prog w base sp held n 37 (([c0, c1, c2, c3, c4, c5, c6, c7, c8, c9, c10, c11, c12].drop 12).take (Tryd.prog.cellsOf 37)) = some ys[2] := (hf 2 _ rfl).trans (List.getElem?_eq_getElem l2)
  rw [cells_cites] at h2
  obtain ⟨a, e0, ha⟩ := rd_atom h0
  obtain ⟨m, e1, _, hm⟩ := DataW.trod_int Tryd.underlying3 h1
  obtain ⟨l, hl⟩ := rd_cites (c := c12) h2
  have e1' : [c11] = [Value.int .i64 m] := e1
  injection e1' with e1' _
  have e0' : [c0, c1, c2, c3, c4, c5, c6, c7, c8, c9, c10] = (atmC a).toList := e0
  refine ⟨((a, m, l), c12), ?_, ha, hl⟩
  show [c0, c1, c2, c3, c4, c5, c6, c7, c8, c9, c10] ++ [c11, c12] = _
  rw [e0', e1']; rfl
end
section
variable {H : Type} {enc : TypeId × Value → H} {w : World} {base : Nat} {sp : Nat → Bool} {held : Bool} {r : Reach} {b0 : Nat} {v : Value} {d : DataW H} {ps : List MemPlace}
set_option maxRecDepth 100000 in
theorem open_steps (hval : Value.okWide Tryd.prog w r b0 22 v) (h : DataW.Trod enc Tryd.prog w base sp held 22 v d ps) : ∃ L : List Stp, StpRow w v L ∧ FitsS L := by
  obtain ⟨Y, hY, hq⟩ := open_rowOf' slicesP (K := 13) (f := stpC) (Q := FitsY w) (of_decide_eq_true (show decide (22 < Tryd.prog.types.size) = true by kernel_rfl)) Tryd.underlying22 cells_step (fun h => rd_step h) hval h
  refine ⟨Y.map (·.1), ?_, ?_⟩
  · obtain ⟨a, c, h1, h2, _, h4⟩ := hY
    refine ⟨a, c, by rw [List.length_map]; exact h1, by rw [List.length_map]; exact h2, fun h0 => ?_⟩
    rw [List.length_map] at h0
    obtain ⟨b, o, h5, h6⟩ := h4 h0
    refine ⟨b, o, h5, fun k hk => ?_⟩
    rw [List.length_map] at hk
    have hqk := (hq _ (List.getElem_mem hk)).2
    have hk6 := h6 k hk
    rw [List.getElem_map]
    generalize Y[k] = y at *
    obtain ⟨⟨ya, ym, yl⟩, yv⟩ := y
    have hqk' : CiteRow w yv yl := hqk
    obtain ⟨ca, cc, rfl⟩ := hqk'.len
    refine ⟨fun j u hu => hk6 j u ?_, hk6 11 _ rfl, ca, cc, hk6 12 _ rfl, hqk'⟩
    have hj : j < (atmC ya).toList.length := by
      have := (Array.getElem?_eq_some_iff.1 hu).1
      simpa using this
    show ((atmC ya).toList ++ _)[j]? = some u
    rw [List.getElem?_append_left hj, Array.getElem?_toList]
    exact hu
  · intro x hx
    obtain ⟨y, hy, rfl⟩ := List.mem_map.1 hx
    exact (hq y hy).1.1
end
end Go.Proofs.YtiadjmfdahendaaDoor
