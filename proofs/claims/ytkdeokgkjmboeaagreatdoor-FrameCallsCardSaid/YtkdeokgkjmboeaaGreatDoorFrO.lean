/- Requests and responses opened to plain data by their readings. -/
import Derived.Test.YtkdeokgkjmboeaaGreatDoorOpen
import Derived.Test.YtkdeokgkjmboeaaGreatDoorFrE
namespace Go.Proofs.YtkdeokgkjmboeaaGreatDoor
open Go.RowKit Go.ChangeShapes Go.WideShapes Go.Deep

theorem cells_atoms : Tryz.prog.cellsOf 30 = 1 := by kernel_rfl
theorem cells_req : Tryz.prog.cellsOf 28 = 12 := by kernel_rfl
theorem cells_rsp : Tryz.prog.cellsOf 32 = 4 := by kernel_rfl
theorem cells_errno : Tryz.prog.cellsOf 29 = 1 := by kernel_rfl
section
variable {H : Type} {enc : TypeId × Value → H} {w : World} {base : Nat} {sp : Nat → Bool} {held : Bool} {fuel : Nat} {cs : List Value} {x : DataW H × List MemPlace}
theorem rd_atoms {c : Value} (h : DataW.trod enc Tryz.prog w base sp held fuel 30 [c] = some x) : ∃ L : List Atm, AtmRow w c L ∧ ∀ a ∈ L, FitsA a := by
  obtain ⟨d, ps⟩ := x
  rcases open_slice Tryz.underlying30 h with ⟨h0, _⟩ | ⟨a, len, cap, m, n, D, Pl, hcs, hb, hl, hm, hmm, hx, hi⟩
  · obtain rfl : c = .slice none 0 0 := by simpa using h0
    exact ⟨[], ⟨none, 0, rfl, fun h => by simp at h⟩, by simp⟩
  · obtain rfl : c = .slice (some a) len cap := by simpa using hcs
    have hlen : len ≤ m := by rw [hmm]; split <;> omega
    obtain ⟨L, hL, hp⟩ := pick_lt (n := len) (p := fun i (y : Atm) => w.cells? base (a.add (i * 11)) 11 = some (atmC y).toList ∧ FitsA y) (fun i hil => by
      obtain ⟨cs', hc, htr⟩ := hi i (by omega)
      obtain ⟨y, hy, hf⟩ := rd_atom htr
      rw [cells_atom] at hc
      exact ⟨y, by rw [hc, hy], hf.1⟩)
    refine ⟨L, ⟨some a, cap, by rw [hL], fun h0 => ?_⟩, fun y hy => ?_⟩
    · have hc := (hp 0 h0).1
      obtain ⟨_, hcl, hat⟩ := World.cells?_some hc
      have h00 := hat 0 (by omega)
      have h01 : (atmC L[0]).toList[0]? = some (.string ⟨L[0].1.toArray⟩) := rfl
      rw [h01] at h00
      obtain ⟨b, o, pa⟩ := a
      obtain rfl : pa = none := by
        have h := World.cell?_spot h00
        simpa [Addr.add] using h
      refine ⟨b, o, rfl, by omega, fun j hj => ?_⟩
      obtain ⟨_, _, hat⟩ := World.cells?_some (hp j hj).1
      intro q u hu
      have hq : q < 11 := (Array.getElem?_eq_some_iff.1 hu).1
      have := hat q (by omega)
      rw [add_form, add_form, Array.getElem?_toList] at this
      rw [this]
      exact hu
    · obtain ⟨j, hj, rfl⟩ := List.getElem_of_mem hy
      exact (hp j hj).2
theorem twelve_of {cs : List Value} {n : Nat} (h : cs.length = n) (hn : n = 12) : ∃ c0 c1 c2 c3 c4 c5 c6 c7 c8 c9 c10 c11, cs = [c0, c1, c2, c3, c4, c5, c6, c7, c8, c9, c10, c11] := by
  subst hn
  match cs, h with
  | [c0, c1, c2, c3, c4, c5, c6, c7, c8, c9, c10, c11], _ => exact ⟨_, _, _, _, _, _, _, _, _, _, _, _, rfl⟩
theorem four_of {cs : List Value} {n : Nat} (h : cs.length = n) (hn : n = 4) : ∃ c0 c1 c2 c3, cs = [c0, c1, c2, c3] := by
  subst hn
  match cs, h with
  | [c0, c1, c2, c3], _ => exact ⟨_, _, _, _, rfl⟩
set_option maxHeartbeats 1000000 in
theorem rd_req (h : DataW.trod enc Tryz.prog w base sp held fuel 28 cs = some x) : ∃ (k : Int) (a : Atm), cs = .int .i64 k :: (atmC a).toList ∧ FitsN a := by
  obtain ⟨ys, n, _, _, hlen, hyl, hf⟩ := DataW.trod_struct Tryz.underlying28 h
  obtain ⟨c0, c1, c2, c3, c4, c5, c6, c7, c8, c9, c10, c11, rfl⟩ := twelve_of hlen cells_req
  have l0 : 0 < ys.length := by rw [hyl]; decide
  have h0 : DataW.trod enc Tryz.prog w base sp held n 3 (([c0, c1, c2, c3, c4, c5, c6, c7, c8, c9, c10, c11].drop 0).take (Tryz.prog.cellsOf 3)) = some ys[0] := (hf 0 _ rfl).trans (List.getElem?_eq_getElem l0)
  rw [cells_int] at h0
  have l1 : 1 < ys.length := by rw [hyl]; decide
  have h1 : DataW.trod enc Tryz.prog w base sp held n 26 (([c0, c1, c2, c3, c4, c5, c6, c7, c8, c9, c10, c11].drop 1).take (Tryz.prog.cellsOf 26)) = some ys[1] := (hf 1 _ rfl).trans (List.getElem?_eq_getElem l1)
  rw [cells_atom] at h1
  obtain ⟨a, e1, ha⟩ := rd_atom h1
  obtain ⟨m, e0, _, hm⟩ := DataW.trod_int Tryz.underlying3 h0
  refine ⟨m, a, ?_, ha⟩
  have e0' : [c0] = [Value.int .i64 m] := e0
  have e1' : [c1, c2, c3, c4, c5, c6, c7, c8, c9, c10, c11] = (atmC a).toList := e1
  injection e0' with e0' _
  rw [e0', ← e1']
set_option maxHeartbeats 1000000 in
theorem rd_rsp (h : DataW.trod enc Tryz.prog w base sp held fuel 32 cs = some x) : ∃ (k : Int) (ch : Bool) (v : Value) (L : List Atm) (ct : List UInt8), cs = [.int .i64 k, .bool ch, v, .string ⟨ct.toArray⟩] ∧ AtmRow w v L ∧ (∀ a ∈ L, FitsA a) ∧ ct.length ≤ maxLen := by
  obtain ⟨ys, n, _, _, hlen, hyl, hf⟩ := DataW.trod_struct Tryz.underlying32 h
  obtain ⟨c0, c1, c2, c3, rfl⟩ := four_of hlen cells_rsp
  have l0 : 0 < ys.length := by rw [hyl]; decide
  have h0 : DataW.trod enc Tryz.prog w base sp held n 29 (([c0, c1, c2, c3].drop 0).take (Tryz.prog.cellsOf 29)) = some ys[0] := (hf 0 _ rfl).trans (List.getElem?_eq_getElem l0)
  rw [cells_errno] at h0
  have l1 : 1 < ys.length := by rw [hyl]; decide
  have h1 : DataW.trod enc Tryz.prog w base sp held n 4 (([c0, c1, c2, c3].drop 1).take (Tryz.prog.cellsOf 4)) = some ys[1] := (hf 1 _ rfl).trans (List.getElem?_eq_getElem l1)
  rw [cells_bool] at h1
  have l2 : 2 < ys.length := by rw [hyl]; decide
  have h2 : DataW.trod enc Tryz.prog w base sp held n 30 (([c0, c1, c2, c3].drop 2).take (Tryz.prog.cellsOf 30)) = some ys[2] := (hf 2 _ rfl).trans (List.getElem?_eq_getElem l2)
  rw [cells_atoms] at h2
  have l3 : 3 < ys.length := by rw [hyl]; decide
  have h3 : DataW.trod enc Tryz.prog w base sp held n 9 (([c0, c1, c2, c3].drop 3).take (Tryz.prog.cellsOf 9)) = some ys[3] := (hf 3 _ rfl).trans (List.getElem?_eq_getElem l3)
  rw [cells_string] at h3
  obtain ⟨m, e0, _, hm⟩ := DataW.trod_int Tryz.underlying29 h0
  obtain ⟨b, e1, _⟩ := DataW.trod_bool Tryz.underlying4 h1
  obtain ⟨L, hL, hF⟩ := rd_atoms (c := c2) h2
  obtain ⟨ct, e3, hct⟩ := rd_str Tryz.underlying9 h3
  refine ⟨m, b, c2, L, ct, ?_, hL, hF, hct⟩
  have e0' : [c0] = [Value.int .i64 m] := e0
  have e1' : [c1] = [Value.bool b] := e1
  have e3' : [c3] = [Value.string ⟨ct.toArray⟩] := e3
  injection e0' with e0' _
  injection e1' with e1' _
  injection e3' with e3' _
  rw [e0', e1', e3']
end
section
variable {H : Type} {enc : TypeId × Value → H} {w : World} {base : Nat} {sp : Nat → Bool} {held : Bool} {r : Reach} {b0 : Nat} {v : Value} {d : DataW H} {ps : List MemPlace}
def rqC (k : Int) (a : Atm) : Array Value := #[.int .i64 k, .string ⟨a.1.toArray⟩, .string ⟨a.2.1.toArray⟩, .int .i64 a.2.2.1, .bool a.2.2.2.1.1, .string ⟨a.2.2.2.1.2.toArray⟩, .bool a.2.2.2.2.1.1, .string ⟨a.2.2.2.2.1.2.toArray⟩, .bool a.2.2.2.2.2.1.1, .string ⟨a.2.2.2.2.2.1.2.toArray⟩, .bool a.2.2.2.2.2.2.1, .string ⟨a.2.2.2.2.2.2.2.toArray⟩]
set_option maxRecDepth 100000 in
theorem open_req (hval : Value.okWide Tryz.prog w r b0 28 v) (h : DataW.Trod enc Tryz.prog w base sp held 28 v d ps) : ∃ (k : Int) (a : Atm), v = .agg (rqC k a) ∧ FitsN a := by
  obtain ⟨cs, fuel, rfl, hh⟩ := open_struct' Tryz.underlying28 hval h
  obtain ⟨k, a, e, hf⟩ := rd_req hh
  have e2 : cs.toList = (rqC k a).toList := e
  exact ⟨k, a, by rw [Array.toList_inj.1 e2], hf⟩
set_option maxRecDepth 100000 in
theorem open_rsp (hval : Value.okWide Tryz.prog w r b0 32 v) (h : DataW.Trod enc Tryz.prog w base sp held 32 v d ps) : ∃ (k : Int) (ch : Bool) (sv : Value) (L : List Atm) (ct : List UInt8), v = .agg #[.int .i64 k, .bool ch, sv, .string ⟨ct.toArray⟩] ∧ AtmRow w sv L ∧ (∀ a ∈ L, FitsA a) ∧ ct.length ≤ maxLen := by
  obtain ⟨cs, fuel, rfl, hh⟩ := open_struct' Tryz.underlying32 hval h
  obtain ⟨k, ch, sv, L, ct, e, hL, hF, hc⟩ := rd_rsp hh
  have e2 : cs.toList = (#[.int .i64 k, .bool ch, sv, .string ⟨ct.toArray⟩] : Array Value).toList := e
  exact ⟨k, ch, sv, L, ct, by rw [Array.toList_inj.1 e2], hL, hF, hc⟩
end
end Go.Proofs.YtkdeokgkjmboeaaGreatDoor
