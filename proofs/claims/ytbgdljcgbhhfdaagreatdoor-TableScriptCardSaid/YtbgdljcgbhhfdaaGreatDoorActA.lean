/- Acts of layer 18: rows of them, opened; light. -/
import Derived.Test.YtbgdljcgbhhfdaaGreatDoorTabO
import Derived.Test.YtbgdljcgbhhfdaaGreatDoorTabK
namespace Go.Proofs.YtbgdljcgbhhfdaaGreatDoor
open Go.RowKit Go.ChangeShapes Go.WideShapes Go.Deep

abbrev Act18 := Int × Atm × Int × Int
def ActAt (W : World) (b o : Nat) (x : Act18) : Prop := W.cell? ⟨b, o, none⟩ = some (.int .i64 x.1) ∧ AtAt W b (o + 1) x.2.1 ∧ W.cell? ⟨b, o + 12, none⟩ = some (.int .i64 x.2.2.1) ∧ W.cell? ⟨b, o + 13, none⟩ = some (.int .i64 x.2.2.2)
abbrev ActRow := KRow 14 ActAt
theorem ActAt.next {W W' : World} {b o : Nat} {x : Act18} (h : ActAt W b o x) (hs : Since W W') : ActAt W' b o x := ⟨hs.cell h.1, h.2.1.next hs, hs.cell h.2.2.1, hs.cell h.2.2.2⟩
theorem actnext {W W' : World} {v : Value} {L : List Act18} (h : ActRow W v L) (hs : Since W W') : ActRow W' v L := KRow.next (R := ActAt) (fun _ _ _ _ _ h s => h.next s) h hs
def B64 (n : Int) : Prop := -9223372036854775808 ≤ n ∧ n ≤ 9223372036854775807
def FitsAct (x : Act18) : Prop := B64 x.1 ∧ FitsN x.2.1 ∧ B64 x.2.2.1 ∧ B64 x.2.2.2
theorem cells_act : Tryz.prog.cellsOf 35 = 14 := by kernel_rfl
theorem cut_atA {α : Type} {l : List α} {n m : Nat} (h : l.length = n + m) : ∃ a b, l = a ++ b ∧ a.length = n ∧ b.length = m :=
  ⟨l.take n, l.drop n, (List.take_append_drop _ _).symm, by simp; omega, by simp; omega⟩
section
variable {H : Type} {enc : TypeId × Value → H} {w : World} {base : Nat} {sp : Nat → Bool} {held : Bool} {fuel : Nat} {cs : List Value} {x : DataW H × List MemPlace}
theorem rd_actR (h : DataW.trod enc Tryz.prog w base sp held fuel 35 cs = some x) : cs.length = 14 ∧ ∃ y : Act18, FitsAct y ∧ ∀ b o, (∀ j u, cs[j]? = some u → w.cell? ⟨b, o + j, none⟩ = some u) → ActAt w b o y := by
  obtain ⟨ys, n, _, hx, hlen, hyl, hf⟩ := DataW.trod_struct Tryz.underlying35 h
  have hl14 : cs.length = 1 + 13 := hlen.trans cells_act
  obtain ⟨c0, cr, rfl, h0, hr⟩ := cut_atA hl14
  obtain ⟨ca, cq, rfl, ha, hq⟩ := cut_atA (n := 11) (m := 2) hr
  obtain ⟨c1, c2, rfl, h1, h2⟩ := cut_atA (n := 1) (m := 1) hq
  have l0 : 0 < ys.length := by rw [hyl]; decide
  have l1 : 1 < ys.length := by rw [hyl]; decide
  have l2 : 2 < ys.length := by rw [hyl]; decide
  have l3 : 3 < ys.length := by rw [hyl]; decide
  have g0 : DataW.trod enc Tryz.prog w base sp held n 3 (((c0 ++ (ca ++ (c1 ++ c2))).drop 0).take (Tryz.prog.cellsOf 3)) = some ys[0] := (hf 0 _ rfl).trans (List.getElem?_eq_getElem l0)
  have g1 : DataW.trod enc Tryz.prog w base sp held n 33 (((c0 ++ (ca ++ (c1 ++ c2))).drop 1).take (Tryz.prog.cellsOf 33)) = some ys[1] := (hf 1 _ rfl).trans (List.getElem?_eq_getElem l1)
  have g2 : DataW.trod enc Tryz.prog w base sp held n 3 (((c0 ++ (ca ++ (c1 ++ c2))).drop 12).take (Tryz.prog.cellsOf 3)) = some ys[2] := (hf 2 _ rfl).trans (List.getElem?_eq_getElem l2)
  have g3 : DataW.trod enc Tryz.prog w base sp held n 3 (((c0 ++ (ca ++ (c1 ++ c2))).drop 13).take (Tryz.prog.cellsOf 3)) = some ys[3] := (hf 3 _ rfl).trans (List.getElem?_eq_getElem l3)
  have e0 : ((c0 ++ (ca ++ (c1 ++ c2))).drop 0).take 1 = c0 := by rw [List.drop_zero, List.take_append_of_le_length (by omega), List.take_of_length_le (by omega)]
  have d1 : (c0 ++ (ca ++ (c1 ++ c2))).drop 1 = ca ++ (c1 ++ c2) := by rw [List.drop_append_of_le_length (by omega), List.drop_eq_nil_of_le (by omega), List.nil_append]
  have e1 : ((c0 ++ (ca ++ (c1 ++ c2))).drop 1).take 11 = ca := by rw [d1, List.take_append_of_le_length (by omega), List.take_of_length_le (by omega)]
  have d2 : (c0 ++ (ca ++ (c1 ++ c2))).drop 12 = c1 ++ c2 := by
    rw [show 12 = 1 + 11 by rfl, ← List.drop_drop, d1, List.drop_append_of_le_length (by omega), List.drop_eq_nil_of_le (by omega), List.nil_append]
  have e2 : ((c0 ++ (ca ++ (c1 ++ c2))).drop 12).take 1 = c1 := by rw [d2, List.take_append_of_le_length (by omega), List.take_of_length_le (by omega)]
  have e3 : ((c0 ++ (ca ++ (c1 ++ c2))).drop 13).take 1 = c2 := by
    rw [show 13 = 12 + 1 by rfl, ← List.drop_drop, d2, List.drop_append_of_le_length (by omega), List.drop_eq_nil_of_le (by omega), List.nil_append, List.take_of_length_le (by omega)]
  rw [cells_int, e0] at g0
  rw [cells_atom, e1] at g1
  rw [cells_int, e2] at g2
  rw [cells_int, e3] at g3
  obtain ⟨k0, q0, _, b0⟩ := DataW.trod_int Tryz.underlying3 g0
  obtain ⟨y, q1, hy⟩ := rd_atom g1
  obtain ⟨k2, q2, _, b2⟩ := DataW.trod_int Tryz.underlying3 g2
  obtain ⟨k3, q3, _, b3⟩ := DataW.trod_int Tryz.underlying3 g3
  subst q0 q1 q2 q3
  refine ⟨by simpa using hl14, (k0, y, k2, k3), ⟨bounds_i64 b0, hy, bounds_i64 b2, bounds_i64 b3⟩, fun b o hc => ⟨hc 0 _ rfl, fun j u hu => ?_, hc 12 _ rfl, hc 13 _ rfl⟩⟩
  have hj : j < (atmC y).toList.length := by simpa using (Array.getElem?_eq_some_iff.1 hu).1
  have h9 := hc (1 + j) u (by
    rw [List.getElem?_append_right (by simp), List.length_singleton, Nat.add_sub_cancel_left, List.getElem?_append_left hj, Array.getElem?_toList]; exact hu)
  rw [← Nat.add_assoc] at h9
  exact h9
end
section
variable {H : Type} {enc : TypeId × Value → H} {w : World} {base : Nat} {sp : Nat → Bool} {held : Bool} {r : Reach} {b0 : Nat} {v : Value} {d : DataW H} {ps : List MemPlace}
set_option maxRecDepth 100000 in
theorem open_acts (hval : Value.okWide Tryz.prog w r b0 22 v) (h : DataW.Trod enc Tryz.prog w base sp held 22 v d ps) : ∃ a c, ∃ L : List Act18, v = .slice a L.length c ∧ ActRow w (.slice a L.length c) L ∧ (∀ y ∈ L, FitsAct y) :=
  open_krow (R := ActAt) (Q := FitsAct) Tryz.underlying22 cells_act (by decide) (fun h => rd_actR h) hval h
end
def lightActs (L : List Act18) : Bool := if (60 : Int) < (L.length : Int) then false else L.all fun x => lightB x.2.1
set_option maxHeartbeats 2000000 in
set_option maxRecDepth 100000 in
theorem light18_any (v : Value) (L : List Act18) (w : World) (hT : ActRow w v L) :
    Calls Tryz.prog 5 #[v] w fun e w' => e = .returned (.bool (lightActs L)) ∧ Since w w' := by
  obtain ⟨a, c, rfl⟩ := hT.slice
  have HT := Lib.hid hT
  clear hT
  by_cases hm : (60 : Int) < (L.length : Int)
  · go_enter Tryz.func5, Tryz.ntmps5
    go_wp2_with fail
    go_ret
    exact ⟨ret_bool (by rw [lightActs, if_pos hm]), Since.refl _⟩
  · obtain ⟨R, hR⟩ : ∃ R, Hid (R = lightActs L) := ⟨_, rfl⟩
    rw [← hR.out]
    have hR0 : Hid (R = (L.drop 0).all fun x => lightB x.2.1) := by show _ = _; rw [hR.out, lightActs, if_neg hm]; rfl
    clear hR
    go_enter Tryz.func5, Tryz.ntmps5
    go_wp2_with fail
    go_loopw [3] (fun m wr => ∃ k : Nat, k ≤ L.length ∧ m = .int .i64 (k : Int) ∧ Hid (R = (L.drop k).all fun x => lightB x.2.1) ∧ Since w wr) (fun m _ => L.length - (intOf m).toNat)
    case atStart => exact ⟨0, by omega, rfl, hR0, Since.refl _⟩
    case round =>
      obtain ⟨k, hk, rfl, hF, hSr⟩ := hrel
      by_cases hlt : k < L.length
      · have hlt2 : (k : Int) < (L.length : Int) := by omega
        have hlt0 : (0 : Int) ≤ (k : Int) := by omega
        obtain ⟨b, o, rfl, hc, hat⟩ := (actnext HT.out hSr).get (by omega)
        have d1 := (hat k hlt).2.1
        have hnx : Hid (R = (lightB (L[k]).2.1 && (L.drop (k + 1)).all fun x => lightB x.2.1)) := by
          show _ = _
          rw [hF.out, List.drop_eq_getElem_cons hlt, List.all_cons]
        obtain ⟨⟨x_s, x_p, x_n, ⟨x_v0, x_l0⟩, ⟨x_v1, x_l1⟩, ⟨x_v2, x_l2⟩, ⟨x_v3, x_l3⟩⟩, hx⟩ : ∃ x, Hid (x = (L[k]).2.1) := ⟨(L[k]).2.1, rfl⟩
        rw [← hx.out] at d1 hnx
        obtain ⟨x_c0, x_c1, x_c2, x_c3, x_c4, x_c5, x_c6, x_c7, x_c8, x_c9, x_c10⟩ := d1.all
        have HL := Lib.hid (light_any x_s x_p x_n x_v0 x_v1 x_v2 x_v3 x_l0 x_l1 x_l2 x_l3 wr)
        obtain ⟨q, hq⟩ : ∃ q, Hid (q = lightB ((x_s, x_p, x_n, (x_v0, x_l0), (x_v1, x_l1), (x_v2, x_l2), (x_v3, x_l3)) : Atm)) := ⟨_, rfl⟩
        rw [← hq.out] at HL hnx
        clear hat d1 hF hx hq
        go_wp2_with fail
        refine HL.out.mono ?_
        rintro e w1 ⟨rfl, hb⟩
        clear x_c0 x_c1 x_c2 x_c3 x_c4 x_c5 x_c6 x_c7 x_c8 x_c9 x_c10
        cases q
        · have hf : R = false := by rw [hnx.out]; rfl
          subst hf
          clear hnx
          go_wp2_with fail
          go_ret
          exact ⟨rfl, hSr.trans hb⟩
        · have hnx2 : Hid (R = (L.drop (k + 1)).all fun x => lightB x.2.1) := by show _ = _; rw [hnx.out]; rfl
          clear hnx
          go_wp2_with fail
          go_roundw
          case rel => exact ⟨k + 1, by omega, by go_num, hnx2, hSr.trans hb⟩
          case measure => simp [intOf]; omega
      · have hlt2 : ¬ (k : Int) < (L.length : Int) := by omega
        have hf : R = true := by rw [hF.out, List.drop_eq_nil_of_le (by omega)]; rfl
        subst hf
        clear hF
        go_wp2_with fail
        go_ret
        exact ⟨rfl, hSr⟩
end Go.Proofs.YtbgdljcgbhhfdaaGreatDoor
