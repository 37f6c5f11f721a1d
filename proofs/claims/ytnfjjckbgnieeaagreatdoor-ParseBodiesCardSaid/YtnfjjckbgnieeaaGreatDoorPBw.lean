/- ParseBodies of law 10: the walk. -/
import Derived.Test.YtnfjjckbgnieeaaGreatDoorPBo
import Derived.Test.YtnfjjckbgnieeaaGreatDoorPSa
import Derived.Test.YtnfjjckbgnieeaaGreatDoorPLv
namespace Go.Proofs.YtnfjjckbgnieeaaGreatDoor
open Go.RowKit

theorem cond_snoc (L : List Atm) (b : Atm) : condTx (L ++ [b]) = condTx L ++ ((if L = [] then [32, 105, 102, 32] else [44]) ++ textA b) := by
  cases L with
  | nil => simp [condTx]
  | cons a r => simp [condTx, List.flatMap_append]
theorem flat_lenP : ∀ (L : List Atm), (∀ a ∈ L, Light a) → (L.flatMap (fun b => 44 :: textA b)).length ≤ 3001 * L.length
  | [], _ => by simp
  | a :: r, h => by
    have h1 := text_len (h a (by simp)) trivial
    have h2 := flat_lenP r (fun x hx => h x (List.mem_cons_of_mem _ hx))
    rw [List.flatMap_cons, List.length_append, List.length_cons, List.length_cons]
    omega
theorem cond_len (L : List Atm) (h : ∀ a ∈ L, Light a) : (condTx L).length ≤ 3004 * L.length := by
  cases L with
  | nil => simp [condTx]
  | cons a r =>
    have h1 := text_len (h a (by simp)) trivial
    have h2 := flat_lenP r (fun x hx => h x (List.mem_cons_of_mem _ hx))
    rw [condTx, List.length_append, List.length_append, List.length_cons]
    simp only [List.length_cons, List.length_nil]
    omega
theorem light_ofP {a : Atm} (h : lightB a = true) : Light a := by
  simp only [lightB, Bool.and_eq_true, decide_eq_true_eq, List.all_eq_true] at h
  exact ⟨by omega, by omega, fun t ht => by have := h.2 t ht; omega⟩
theorem said_lenP {a : Atm} (h : Light a) : (saidA a).length ≤ 3000 := by
  have h1 := text_len h trivial
  rw [said_text] at h1
  simp only [List.length_append] at h1
  omega
theorem since_setRowP {w W : World} {B : Nat} (h : Since w W) (hB : w.heap.size ≤ B) (cs : Array Value) : Since w (W.setRow B cs) :=
  Below.grown h (row := some B) ⟨rfl, rfl, rfl, by simp, fun k hk hne => setRow_other W B k cs (fun e => hne (by rw [e]))⟩ h.size (fun k hk => by injection hk with hk; omega)
theorem st_rowP {P : Program} {o : Oper} {x y : Operand} {ev : Operand → Value} {ty T : TypeId} {g : Nat} {cells old : Array Value} (ho : o.op = Op.store ty x y) (hx : ev x = .pointer (some ⟨g, 0, none⟩)) (hy : ev y = .agg cells) (hi : (P.info? ty).map (·.size) = some cells.size) (hs : old.size = cells.size) (h1 : cells.all (·.oneCell') = true) (W : World) (h : Cel W g old T) :
    (execOp ev o).run P W = .ok .skip (W.setRow g cells) := by
  simp only [execOp, ho, hx, hy, Instr.storeAt, Instr.sureAddr, Sem.run_bind, Sem.run_pure, Result.andThen_ok, run_storeVar_row W g T ty old cells h hi hs h1]
theorem at_box11P {W : World} {g : Nat} (a_s a_p : List UInt8) (a_n : Int) (a_v0 a_v1 a_v2 a_v3 : Bool) (a_l0 a_l1 a_l2 a_l3 : List UInt8) (h : Box W g ((a_s, a_p, a_n, (a_v0, a_l0), (a_v1, a_l1), (a_v2, a_l2), (a_v3, a_l3)) : Atm)) : At W g 0 #[.string ⟨a_s.toArray⟩, .string ⟨a_p.toArray⟩, .int .i64 a_n, .bool a_v0, .string ⟨a_l0.toArray⟩, .bool a_v1, .string ⟨a_l1.toArray⟩, .bool a_v2, .string ⟨a_l2.toArray⟩, .bool a_v3, .string ⟨a_l3.toArray⟩] := by
  intro j u hu
  have hj : j < 11 := by
    have := (Array.getElem?_eq_some_iff.1 hu).1
    simpa using this
  rw [Nat.zero_add]
  exact (h j hj).trans ((Array.getElem?_eq_getElem _).symm.trans hu)
theorem cat_opP {o : Oper} {x y : Operand} {ev : Operand → Value} {a b c : List UInt8} (h : a ++ b = c) (hl : c.length ≤ 1000000) (ho : o.op = .binOp .add 9 x y 9) (hx : ev x = .string ⟨a.toArray⟩) (hy : ev y = .string ⟨b.toArray⟩) (W : World) :
    (execOp ev o).run Tryz.prog W = .ok (.value (.string ⟨c.toArray⟩)) W := by
  have k := cat_run2 h hl W
  simp only [execOp, ho]
  go_simp
set_option maxHeartbeats 8000000 in
set_option maxRecDepth 100000 in
theorem pbodies_any (a_s a_p : List UInt8) (a_n : Int) (a_v0 a_v1 a_v2 a_v3 : Bool) (a_l0 a_l1 a_l2 a_l3 : List UInt8) (vB : Value) (B : List Atm) (t : Txt) (w : World) (hB : ARow w vB B) (hF : FitsA ((a_s, a_p, a_n, (a_v0, a_l0), (a_v1, a_l1), (a_v2, a_l2), (a_v3, a_l3)) : Atm)) (hFB : ∀ x ∈ B, FitsA x) (ht : t.length ≤ maxLen) (hE : EnvT w) :
    Calls Tryz.prog 5 #[.agg #[.string ⟨a_s.toArray⟩, .string ⟨a_p.toArray⟩, .int .i64 a_n, .bool a_v0, .string ⟨a_l0.toArray⟩, .bool a_v1, .string ⟨a_l1.toArray⟩, .bool a_v2, .string ⟨a_l2.toArray⟩, .bool a_v3, .string ⟨a_l3.toArray⟩], vB, .string ⟨t.toArray⟩] w fun e w' => e = .returned (.bool true) ∧ Since w w' := by
  obtain ⟨sa, sc, rfl⟩ := hB.slice
  have hS1 : Since w (w.alloc (.cells #[.string ⟨a_s.toArray⟩, .string ⟨a_p.toArray⟩, .int .i64 a_n, .bool a_v0, .string ⟨a_l0.toArray⟩, .bool a_v1, .string ⟨a_l1.toArray⟩, .bool a_v2, .string ⟨a_l2.toArray⟩, .bool a_v3, .string ⟨a_l3.toArray⟩] 44)) := (Since.refl _).alloc _
  have a_B : Box (w.alloc (.cells #[.string ⟨a_s.toArray⟩, .string ⟨a_p.toArray⟩, .int .i64 a_n, .bool a_v0, .string ⟨a_l0.toArray⟩, .bool a_v1, .string ⟨a_l1.toArray⟩, .bool a_v2, .string ⟨a_l2.toArray⟩, .bool a_v3, .string ⟨a_l3.toArray⟩] 44)) w.heap.size ((a_s, a_p, a_n, (a_v0, a_l0), (a_v1, a_l1), (a_v2, a_l2), (a_v3, a_l3)) : Atm) := box_new w ((a_s, a_p, a_n, (a_v0, a_l0), (a_v1, a_l1), (a_v2, a_l2), (a_v3, a_l3)) : Atm) 44
  obtain ⟨K, hK⟩ : ∃ K : Ending → World → Prop, Hid (K = fun e w' => e = .returned (.bool true) ∧ Since w w') := ⟨_, rfl⟩
  have hgood : Hid (∀ w', Since w w' → K (.returned (.bool true)) w') := fun w' h => by rw [hK.out]; exact ⟨rfl, h⟩
  rw [← hK.out]
  obtain ⟨M, hM⟩ : ∃ x, Hid (x = lightB ((a_s, a_p, a_n, (a_v0, a_l0), (a_v1, a_l1), (a_v2, a_l2), (a_v3, a_l3)) : Atm)) := ⟨_, rfl⟩
  obtain ⟨C, hC⟩ : ∃ x, Hid (x = checkA ((a_s, a_p, a_n, (a_v0, a_l0), (a_v1, a_l1), (a_v2, a_l2), (a_v3, a_l3)) : Atm)) := ⟨_, rfl⟩
  obtain ⟨N, hN⟩ : ∃ x, Hid (x = lightAs 6 B) := ⟨_, rfl⟩
  obtain ⟨Q, hQ⟩ : ∃ x, Hid (x = principalB t) := ⟨_, rfl⟩
  have HL : Hid (∀ W, Since w W → Calls Tryz.prog 10 #[] W fun e w' => e = .returned (.bool true) ∧ Since W w') := fun W h => lives10_any W (hE.next h)
  have HLA : Hid (∀ W, Calls Tryz.prog 17 #[.agg #[.string ⟨a_s.toArray⟩, .string ⟨a_p.toArray⟩, .int .i64 a_n, .bool a_v0, .string ⟨a_l0.toArray⟩, .bool a_v1, .string ⟨a_l1.toArray⟩, .bool a_v2, .string ⟨a_l2.toArray⟩, .bool a_v3, .string ⟨a_l3.toArray⟩]] W fun e w' => e = .returned (.bool M) ∧ Since W w') := fun W => by rw [hM.out]; exact light_any a_s a_p a_n a_v0 a_v1 a_v2 a_v3 a_l0 a_l1 a_l2 a_l3 W
  have HCK : Hid (∀ W, Calls Tryz.prog 15 #[.agg #[.string ⟨a_s.toArray⟩, .string ⟨a_p.toArray⟩, .int .i64 a_n, .bool a_v0, .string ⟨a_l0.toArray⟩, .bool a_v1, .string ⟨a_l1.toArray⟩, .bool a_v2, .string ⟨a_l2.toArray⟩, .bool a_v3, .string ⟨a_l3.toArray⟩]] W fun e w' => e = .returned (.int .i64 C) ∧ Since W w') := fun W => by rw [hC.out]; exact rcheck_any a_s a_p a_n a_v0 a_v1 a_v2 a_v3 a_l0 a_l1 a_l2 a_l3 W hF
  have HLS : Hid (∀ W, Since w W → Calls Tryz.prog 18 #[.slice sa B.length sc, .int .i64 6] W fun e w' => e = .returned (.bool N) ∧ Since W w') := fun W h => by rw [hN.out]; exact lightatoms_any _ 6 B W (anext hB h) (by omega)
  have HPR : Hid (∀ W, Calls Tryz.prog 13 #[.string ⟨t.toArray⟩] W fun e w' => e = .returned (.bool Q) ∧ Since W w') := fun W => by rw [hQ.out]; exact rpri_any' t W ht
  have HEN := Lib.hid (fun W (h : Since w W) => hE.next h)
  have HB := Lib.hid hB
  have HFB := Lib.hid hFB
  obtain ⟨a_c0, a_c1, a_c2, a_c3, a_c4, a_c5, a_c6, a_c7, a_c8, a_c9, a_c10⟩ := a_B.all
  clear hE hF hFB hK hB ht
  go_enter Tryz.func5, Tryz.ntmps5
  go_wp2_with fail
  generalize (w.alloc (.cells #[.string ⟨a_s.toArray⟩, .string ⟨a_p.toArray⟩, .int .i64 a_n, .bool a_v0, .string ⟨a_l0.toArray⟩, .bool a_v1, .string ⟨a_l1.toArray⟩, .bool a_v2, .string ⟨a_l2.toArray⟩, .bool a_v3, .string ⟨a_l3.toArray⟩] 44)) = w1 at *
  refine (HL.out _ hS1).mono ?_
  rintro e w2 ⟨rfl, hb⟩
  have hS2 := hS1.trans hb
  replace a_B := a_B.next hb; replace a_c0 := hb.cell a_c0; replace a_c1 := hb.cell a_c1; replace a_c2 := hb.cell a_c2; replace a_c3 := hb.cell a_c3; replace a_c4 := hb.cell a_c4; replace a_c5 := hb.cell a_c5; replace a_c6 := hb.cell a_c6; replace a_c7 := hb.cell a_c7; replace a_c8 := hb.cell a_c8; replace a_c9 := hb.cell a_c9; replace a_c10 := hb.cell a_c10
  clear hb HL hS1
  go_wp2_with fail
  refine (HLA.out _).mono ?_
  rintro e w3 ⟨rfl, hb⟩
  have hS3 := hS2.trans hb
  replace a_B := a_B.next hb; replace a_c0 := hb.cell a_c0; replace a_c1 := hb.cell a_c1; replace a_c2 := hb.cell a_c2; replace a_c3 := hb.cell a_c3; replace a_c4 := hb.cell a_c4; replace a_c5 := hb.cell a_c5; replace a_c6 := hb.cell a_c6; replace a_c7 := hb.cell a_c7; replace a_c8 := hb.cell a_c8; replace a_c9 := hb.cell a_c9; replace a_c10 := hb.cell a_c10
  clear hb HLA hS2
  cases M
  · go_wp2_with fail
    exact hgood.out _ hS3
  go_wp2_with fail
  refine (HCK.out _).mono ?_
  rintro e w4 ⟨rfl, hb⟩
  have hS4 := hS3.trans hb
  replace a_B := a_B.next hb; replace a_c0 := hb.cell a_c0; replace a_c1 := hb.cell a_c1; replace a_c2 := hb.cell a_c2; replace a_c3 := hb.cell a_c3; replace a_c4 := hb.cell a_c4; replace a_c5 := hb.cell a_c5; replace a_c6 := hb.cell a_c6; replace a_c7 := hb.cell a_c7; replace a_c8 := hb.cell a_c8; replace a_c9 := hb.cell a_c9; replace a_c10 := hb.cell a_c10
  clear hb HCK hS3
  by_cases hC0 : ¬ C = 0
  · go_wp2_with fail
    exact hgood.out _ hS4
  replace hC0 : C = 0 := by omega
  subst hC0
  go_wp2_with fail
  refine (HLS.out _ hS4).mono ?_
  rintro e w5 ⟨rfl, hb⟩
  have hS5 := hS4.trans hb
  replace a_B := a_B.next hb; replace a_c0 := hb.cell a_c0; replace a_c1 := hb.cell a_c1; replace a_c2 := hb.cell a_c2; replace a_c3 := hb.cell a_c3; replace a_c4 := hb.cell a_c4; replace a_c5 := hb.cell a_c5; replace a_c6 := hb.cell a_c6; replace a_c7 := hb.cell a_c7; replace a_c8 := hb.cell a_c8; replace a_c9 := hb.cell a_c9; replace a_c10 := hb.cell a_c10
  clear hb HLS hS4
  cases N
  · go_wp2_with fail
    exact hgood.out _ hS5
  obtain ⟨m, hm⟩ : ∃ m : Nat, Hid (t.length = m) := ⟨_, rfl⟩
  have hm2 := hm.out
  by_cases gm : (200 : Int) < (m : Int)
  · go_wp2_with fail
    exact hgood.out _ hS5
  go_wp2_with fail
  refine (HPR.out _).mono ?_
  rintro e w6 ⟨rfl, hb⟩
  have hS6 := hS5.trans hb
  replace a_B := a_B.next hb; replace a_c0 := hb.cell a_c0; replace a_c1 := hb.cell a_c1; replace a_c2 := hb.cell a_c2; replace a_c3 := hb.cell a_c3; replace a_c4 := hb.cell a_c4; replace a_c5 := hb.cell a_c5; replace a_c6 := hb.cell a_c6; replace a_c7 := hb.cell a_c7; replace a_c8 := hb.cell a_c8; replace a_c9 := hb.cell a_c9; replace a_c10 := hb.cell a_c10
  clear hb HPR hS5
  cases Q
  · go_wp2_with fail
    exact hgood.out _ hS6
  have hBl : B.length ≤ 6 ∧ B.all lightB = true := by
    have h := hN.out
    unfold lightAs at h
    split at h
    · cases h
    · exact ⟨by omega, h.symm⟩
  have hLB : Hid (∀ x ∈ B, Light x) := fun x hx => light_ofP (List.all_eq_true.1 hBl.2 x hx)
  have hLA := light_ofP hM.out.symm
  have hl6 := hBl.1
  clear hBl hN hM
  go_wp2_with fail
  clear a_c0 a_c1 a_c2 a_c3 a_c4 a_c5 a_c6 a_c7 a_c8 a_c9 a_c10
  go_loopw [7, 8, 9] (fun s i bt wr => ∃ k : Nat, k ≤ B.length ∧ s = .string ⟨(condTx (B.take k)).toArray⟩ ∧ i = .int .i64 (k : Int) ∧ Hid (∀ x ∈ B.take k, checkA x = 0) ∧ Since w6 wr) (fun _ i _ _ => B.length - (intOf i).toNat)
  case atStart => exact ⟨0, Nat.zero_le _, rfl, rfl, fun x hx => by simp at hx, Since.refl _⟩
  case round =>
  rename World => wr
  obtain ⟨k, hk, rfl, rfl, hch, hSr⟩ := hrel
  by_cases hlt : k < B.length
  · have hlt2 : (k : Int) < (B.length : Int) := by omega
    have hlt0 : (0 : Int) ≤ (k : Int) := by omega
    obtain ⟨b, o, rfl, hc, hat⟩ := (anext HB.out (hS6.trans hSr)).get (by omega)
    have d1 := hat k hlt
    have hxm := List.getElem_mem hlt
    have htk : B.take (k + 1) = B.take k ++ [B[k]] := List.take_append_getElem hlt |>.symm
    obtain ⟨x, hx⟩ : ∃ x, Hid (x = B[k]) := ⟨B[k], rfl⟩
    rw [← hx.out] at d1 hxm htk
    have hxl := hLB.out x hxm
    have hxf := HFB.out x hxm
    have hlk := cond_len (B.take k) (fun y hy => hLB.out y (List.mem_of_mem_take hy))
    have hkk : (B.take k).length = k := List.length_take_of_le (by omega)
    rw [hkk] at hlk
    have hnil : B.take k = [] ↔ k = 0 := by rw [← List.length_eq_zero_iff, hkk]
    have htl := text_len hxl trivial
    have hsn := cond_snoc (B.take k) x
    rw [← htk] at hsn
    obtain ⟨x_s, x_p, x_n, ⟨x_v0, x_l0⟩, ⟨x_v1, x_l1⟩, ⟨x_v2, x_l2⟩, ⟨x_v3, x_l3⟩⟩ := x
    obtain ⟨x_c0, x_c1, x_c2, x_c3, x_c4, x_c5, x_c6, x_c7, x_c8, x_c9, x_c10⟩ := d1.all
    clear hat hx
    obtain ⟨D, hD⟩ : ∃ x, Hid (x = checkA ((x_s, x_p, x_n, (x_v0, x_l0), (x_v1, x_l1), (x_v2, x_l2), (x_v3, x_l3)) : Atm)) := ⟨_, rfl⟩
    obtain ⟨Y, hY⟩ : ∃ y, Hid (y = textA ((x_s, x_p, x_n, (x_v0, x_l0), (x_v1, x_l1), (x_v2, x_l2), (x_v3, x_l3)) : Atm)) := ⟨_, rfl⟩
    obtain ⟨Z, hZ⟩ : ∃ y, Hid (y = condTx (B.take k)) := ⟨_, rfl⟩
    obtain ⟨Z1, hZ1⟩ : ∃ y, Hid (y = condTx (B.take (k + 1))) := ⟨_, rfl⟩
    rw [← hZ.out, ← hZ1.out, ← hY.out] at hsn
    rw [← hZ.out] at hlk
    rw [← hY.out] at htl
    have HCX : Hid (∀ W, Calls Tryz.prog 15 #[.agg #[.string ⟨x_s.toArray⟩, .string ⟨x_p.toArray⟩, .int .i64 x_n, .bool x_v0, .string ⟨x_l0.toArray⟩, .bool x_v1, .string ⟨x_l1.toArray⟩, .bool x_v2, .string ⟨x_l2.toArray⟩, .bool x_v3, .string ⟨x_l3.toArray⟩]] W fun e w' => e = .returned (.int .i64 D) ∧ Since W w') := fun W => by rw [hD.out]; exact rcheck_any x_s x_p x_n x_v0 x_v1 x_v2 x_v3 x_l0 x_l1 x_l2 x_l3 W hxf
    have HTX : Hid (∀ W, Calls Tryz.prog 19 #[.agg #[.string ⟨x_s.toArray⟩, .string ⟨x_p.toArray⟩, .int .i64 x_n, .bool x_v0, .string ⟨x_l0.toArray⟩, .bool x_v1, .string ⟨x_l1.toArray⟩, .bool x_v2, .string ⟨x_l2.toArray⟩, .bool x_v3, .string ⟨x_l3.toArray⟩]] W fun e w' => e = .returned (.string ⟨Y.toArray⟩) ∧ Since W w') := fun W => by rw [hY.out]; exact rtext_any x_s x_p x_n x_v0 x_v1 x_v2 x_v3 x_l0 x_l1 x_l2 x_l3 W hxl
    rw [← hZ.out]
    have hk1 : wrap64 ((k : Int) + 1) = ((k + 1 : Nat) : Int) := by rw [IntWalk.wrap64_in _ (by omega)]; omega
    go_wp2_with fail
    refine (HCX.out _).mono ?_
    rintro e w8 ⟨rfl, hb⟩
    have hS8 := hSr.trans hb
    replace x_c0 := hb.cell x_c0; replace x_c1 := hb.cell x_c1; replace x_c2 := hb.cell x_c2; replace x_c3 := hb.cell x_c3; replace x_c4 := hb.cell x_c4; replace x_c5 := hb.cell x_c5; replace x_c6 := hb.cell x_c6; replace x_c7 := hb.cell x_c7; replace x_c8 := hb.cell x_c8; replace x_c9 := hb.cell x_c9; replace x_c10 := hb.cell x_c10
    clear hb HCX
    by_cases hD0 : ¬ D = 0
    · go_wp2_with fail
      exact hgood.out _ (hS6.trans hS8)
    replace hD0 : D = 0 := by omega
    subst hD0
    have hch1 : Hid (∀ y ∈ B.take (k + 1), checkA y = 0) := fun y hy => by
      rw [htk, List.mem_append] at hy
      rcases hy with hy | hy
      · exact hch.out y hy
      · rw [List.mem_singleton.1 hy]; exact hD.out.symm
    by_cases hk0 : k = 0
    · rw [if_pos (hnil.2 hk0)] at hsn
      have hlt3 : (0 : Int) < (B.length : Int) := by omega
      subst hk0
      simp only [Nat.zero_mul, Nat.add_zero] at x_c0 x_c1 x_c2 x_c3 x_c4 x_c5 x_c6 x_c7 x_c8 x_c9 x_c10
      have q1 : ∀ W, (Op.stringOp .add ⟨Z.toArray⟩ ⟨#[32, 105, 102, 32]⟩).run Tryz.prog W = .ok (.string ⟨(Z ++ [32, 105, 102, 32]).toArray⟩) W := cat_run2 (b := [32, 105, 102, 32]) rfl (by simp; omega)
      have q2 : ∀ W, (Op.stringOp .add ⟨(Z ++ [32, 105, 102, 32]).toArray⟩ ⟨Y.toArray⟩).run Tryz.prog W = .ok (.string ⟨Z1.toArray⟩) W := cat_run2 (by rw [hsn]; simp) (by rw [hsn]; simp; omega)
      obtain ⟨Z2, hZ2⟩ : ∃ y : List UInt8, Hid (y = Z ++ [32, 105, 102, 32]) := ⟨Z ++ [32, 105, 102, 32], rfl⟩
      rw [← hZ2.out] at q1 q2
      clear hsn htk hnil hlk htl hD
      go_wp2_with fail
      refine (HTX.out _).mono ?_
      rintro e w9 ⟨rfl, hb⟩
      have hS9 := hS8.trans hb
      clear hb HTX x_c0 x_c1 x_c2 x_c3 x_c4 x_c5 x_c6 x_c7 x_c8 x_c9 x_c10
      go_wp2_with fail
      go_roundw
      case rel => exact ⟨0 + 1, by omega, by rw [hZ1.out], by first | rfl | go_num, hch1, hS9⟩
      case measure => simp [intOf]; omega
    · rw [if_neg (fun h => hk0 (hnil.1 h))] at hsn
      have hk0' : ¬ (k : Int) = 0 := by omega
      have q1 : ∀ W, (Op.stringOp .add ⟨Z.toArray⟩ ⟨#[44]⟩).run Tryz.prog W = .ok (.string ⟨(Z ++ [44]).toArray⟩) W := cat_run2 (b := [44]) rfl (by simp; omega)
      have q2 : ∀ W, (Op.stringOp .add ⟨(Z ++ [44]).toArray⟩ ⟨Y.toArray⟩).run Tryz.prog W = .ok (.string ⟨Z1.toArray⟩) W := cat_run2 (by rw [hsn]; simp) (by rw [hsn]; simp; omega)
      obtain ⟨Z2, hZ2⟩ : ∃ y : List UInt8, Hid (y = Z ++ [44]) := ⟨Z ++ [44], rfl⟩
      rw [← hZ2.out] at q1 q2
      clear hsn htk hnil hlk htl hD
      go_wp2_with fail
      refine (HTX.out _).mono ?_
      rintro e w9 ⟨rfl, hb⟩
      have hS9 := hS8.trans hb
      clear hb HTX x_c0 x_c1 x_c2 x_c3 x_c4 x_c5 x_c6 x_c7 x_c8 x_c9 x_c10
      go_wp2_with fail
      go_roundw
      case rel => exact ⟨k + 1, by omega, by rw [hZ1.out], by first | rfl | go_num, hch1, hS9⟩
      case measure => simp [intOf]; omega
  have hlt2 : ¬ (k : Int) < (B.length : Int) := by omega
  have hkB : B.take k = B := List.take_of_length_le (by omega)
  rw [hkB] at hch ⊢
  clear hkB hk hlt
  replace a_B := a_B.next hSr
  obtain ⟨a_c0, a_c1, a_c2, a_c3, a_c4, a_c5, a_c6, a_c7, a_c8, a_c9, a_c10⟩ := a_B.all
  have hSb := hS6.trans hSr
  have hlX := text_len hLA trivial
  have hlY := said_lenP hLA
  have hls := hLA.1
  have hlS := cond_len B hLB.out
  have hgm := hm.out
  have hC := hC.out.symm
  have hQ := hQ.out.symm
  have hch := hch.out
  obtain ⟨X, hX⟩ : ∃ y, Hid (y = textA ((a_s, a_p, a_n, (a_v0, a_l0), (a_v1, a_l1), (a_v2, a_l2), (a_v3, a_l3)) : Atm)) := ⟨_, rfl⟩
  obtain ⟨Y, hY⟩ : ∃ y, Hid (y = saidA ((a_s, a_p, a_n, (a_v0, a_l0), (a_v1, a_l1), (a_v2, a_l2), (a_v3, a_l3)) : Atm)) := ⟨_, rfl⟩
  obtain ⟨S, hSx⟩ : ∃ y, Hid (y = condTx B) := ⟨_, rfl⟩
  obtain ⟨T1, hT1⟩ : ∃ y, Hid (y = X ++ S) := ⟨_, rfl⟩
  obtain ⟨T2, hT2⟩ : ∃ y : List UInt8, Hid (y = T1 ++ [46]) := ⟨T1 ++ [46], rfl⟩
  obtain ⟨G1, hG1⟩ : ∃ y : List UInt8, Hid (y = a_s ++ [32, 115, 97, 121, 115, 32]) := ⟨a_s ++ [32, 115, 97, 121, 115, 32], rfl⟩
  obtain ⟨G2, hG2⟩ : ∃ y : List UInt8, Hid (y = G1 ++ t) := ⟨_, rfl⟩
  obtain ⟨G3, hG3⟩ : ∃ y : List UInt8, Hid (y = G2 ++ [32, 99, 97, 110, 115, 97, 121, 32]) := ⟨G2 ++ [32, 99, 97, 110, 115, 97, 121, 32], rfl⟩
  obtain ⟨G4, hG4⟩ : ∃ y : List UInt8, Hid (y = G3 ++ Y) := ⟨_, rfl⟩
  obtain ⟨G5, hG5⟩ : ∃ y : List UInt8, Hid (y = G4 ++ S) := ⟨_, rfl⟩
  obtain ⟨G6, hG6⟩ : ∃ y : List UInt8, Hid (y = G5 ++ [46]) := ⟨G5 ++ [46], rfl⟩
  rw [← hX.out] at hlX
  rw [← hY.out] at hlY
  rw [← hSx.out] at hlS ⊢
  have lT1 : T1.length ≤ 30000 := by rw [hT1.out, List.length_append]; omega
  have lT2 : T2.length ≤ 30001 := by rw [hT2.out, List.length_append]; simp; omega
  have lG1 : G1.length ≤ 306 := by rw [hG1.out, List.length_append]; simp at hls ⊢; omega
  have lG2 : G2.length ≤ 506 := by rw [hG2.out, List.length_append]; omega
  have lG3 : G3.length ≤ 514 := by rw [hG3.out, List.length_append]; simp; omega
  have lG4 : G4.length ≤ 3514 := by rw [hG4.out, List.length_append]; omega
  have lG5 : G5.length ≤ 30000 := by rw [hG5.out, List.length_append]; omega
  have lG6 : G6.length ≤ 30001 := by rw [hG6.out, List.length_append]; simp; omega
  have e2 : T2 = textA ((a_s, a_p, a_n, (a_v0, a_l0), (a_v1, a_l1), (a_v2, a_l2), (a_v3, a_l3)) : Atm) ++ condTx B ++ [46] := by rw [hT2.out, hT1.out, hX.out, hSx.out]
  have e6 : G6 = (((a_s, a_p, a_n, (a_v0, a_l0), (a_v1, a_l1), (a_v2, a_l2), (a_v3, a_l3)) : Atm) : Atm).1 ++ [32, 115, 97, 121, 115, 32] ++ t ++ [32, 99, 97, 110, 115, 97, 121, 32] ++ saidA ((a_s, a_p, a_n, (a_v0, a_l0), (a_v1, a_l1), (a_v2, a_l2), (a_v3, a_l3)) : Atm) ++ condTx B ++ [46] := by rw [hG6.out, hG5.out, hG4.out, hG3.out, hG2.out, hG1.out, hY.out, hSx.out]
  have hP1 : policyL T2 = (({ pol0 with ru := [(((a_s, a_p, a_n, (a_v0, a_l0), (a_v1, a_l1), (a_v2, a_l2), (a_v3, a_l3)) : Atm), B)] } : Pol), 0, 0) := by rw [e2]; exact policy_rule hC hch (by rw [← e2]; omega)
  have hP2 : policyL G6 = (({ pol0 with gr := [(t, ((a_s, a_p, a_n, (a_v0, a_l0), (a_v1, a_l1), (a_v2, a_l2), (a_v3, a_l3)) : Atm), B)] } : Pol), 0, 0) := by rw [e6]; exact policy_grant hC hQ hch (by rw [← e6]; omega)
  have HP1 : Hid (∀ W, Since w W → Calls Tryz.prog 11 #[.string ⟨T2.toArray⟩] W (fun e w' => ∃ c3 c4 c5 c6 c7 c8 c9 C U G, e = .returned (.tuple #[.agg #[c3, c4, c5, c6, c7, c8, c9], .int .i64 0, .int .i64 0]) ∧ POwn w' W.heap.size c3 c4 c5 c6 c7 c8 c9 ({ pol0 with ru := [(((a_s, a_p, a_n, (a_v0, a_l0), (a_v1, a_l1), (a_v2, a_l2), (a_v3, a_l3)) : Atm), B)] } : Pol) C U G ∧ Since W w')) := fun W h => by
    have hh := policy_any T2 (by unfold maxLen; omega) W (HEN.out W h)
    unfold PolPost at hh
    rw [hP1] at hh
    exact hh
  have HP2 : Hid (∀ W, Since w W → Calls Tryz.prog 11 #[.string ⟨G6.toArray⟩] W (fun e w' => ∃ c3 c4 c5 c6 c7 c8 c9 C U G, e = .returned (.tuple #[.agg #[c3, c4, c5, c6, c7, c8, c9], .int .i64 0, .int .i64 0]) ∧ POwn w' W.heap.size c3 c4 c5 c6 c7 c8 c9 ({ pol0 with gr := [(t, ((a_s, a_p, a_n, (a_v0, a_l0), (a_v1, a_l1), (a_v2, a_l2), (a_v3, a_l3)) : Atm), B)] } : Pol) C U G ∧ Since W w')) := fun W h => by
    have hh := policy_any G6 (by unfold maxLen; omega) W (HEN.out W h)
    unfold PolPost at hh
    rw [hP2] at hh
    exact hh
  have HTX : Hid (∀ W, Calls Tryz.prog 19 #[.agg #[.string ⟨a_s.toArray⟩, .string ⟨a_p.toArray⟩, .int .i64 a_n, .bool a_v0, .string ⟨a_l0.toArray⟩, .bool a_v1, .string ⟨a_l1.toArray⟩, .bool a_v2, .string ⟨a_l2.toArray⟩, .bool a_v3, .string ⟨a_l3.toArray⟩]] W fun e w' => e = .returned (.string ⟨X.toArray⟩) ∧ Since W w') := fun W => by rw [hX.out]; exact rtext_any a_s a_p a_n a_v0 a_v1 a_v2 a_v3 a_l0 a_l1 a_l2 a_l3 W hLA
  have HSD : Hid (∀ W, Calls Tryz.prog 20 #[.agg #[.string ⟨a_s.toArray⟩, .string ⟨a_p.toArray⟩, .int .i64 a_n, .bool a_v0, .string ⟨a_l0.toArray⟩, .bool a_v1, .string ⟨a_l1.toArray⟩, .bool a_v2, .string ⟨a_l2.toArray⟩, .bool a_v3, .string ⟨a_l3.toArray⟩]] W fun e w' => e = .returned (.string ⟨Y.toArray⟩) ∧ Since W w') := fun W => by rw [hY.out]; exact rsaid_any a_s a_p a_n a_v0 a_v1 a_v2 a_v3 a_l0 a_l1 a_l2 a_l3 W hLA
  have HSM : Hid (∀ W v, ARow W v B → Since w W → Calls Tryz.prog 21 #[v, .slice sa B.length sc] W fun e w' => e = .returned (.bool true) ∧ Since W w') := fun W v hv h => same_atms v _ B W hv (anext HB.out h) (by omega)
  have q1 : ∀ W, (Op.stringOp .add ⟨X.toArray⟩ ⟨S.toArray⟩).run Tryz.prog W = .ok (.string ⟨T1.toArray⟩) W := cat_run2 hT1.out.symm (by omega)
  have q2 : ∀ W, (Op.stringOp .add ⟨T1.toArray⟩ ⟨#[46]⟩).run Tryz.prog W = .ok (.string ⟨T2.toArray⟩) W := cat_run2 (b := [46]) hT2.out.symm (by omega)
  have E1 : Hid (a_s ++ [32, 115, 97, 121, 115, 32] = G1 ∧ G1.length ≤ 1000000) := ⟨hG1.out.symm, by omega⟩
  have E2 : Hid (G1 ++ t = G2 ∧ G2.length ≤ 1000000) := ⟨hG2.out.symm, by omega⟩
  have E3 : Hid (G2 ++ [32, 99, 97, 110, 115, 97, 121, 32] = G3 ∧ G3.length ≤ 1000000) := ⟨hG3.out.symm, by omega⟩
  have E4 : Hid (G3 ++ Y = G4 ∧ G4.length ≤ 1000000) := ⟨hG4.out.symm, by omega⟩
  have E5 : Hid (G4 ++ S = G5 ∧ G5.length ≤ 1000000) := ⟨hG5.out.symm, by omega⟩
  have E6 : Hid (G5 ++ [46] = G6 ∧ G6.length ≤ 1000000) := ⟨hG6.out.symm, by omega⟩
  have h6 : ¬ (60000 : Int) < (T1.length : Int) := by omega
  clear e2 e6 hP1 hP2 lT1 lT2 lG1 lG2 lG3 lG4 lG5 lG6 hT1 hT2 hG1 hG2 hG3 hG4 hG5 hG6 hX hY hSx hlX hlY hls hlS hgm hC hQ hch hLA hLB HB HFB HEN hS6 hSr
  go_wp2_with fail
  refine (HTX.out _).mono ?_
  rintro e w7 ⟨rfl, hb⟩
  have hS7 := hSb.trans hb
  replace a_B := a_B.next hb; replace a_c0 := hb.cell a_c0; replace a_c1 := hb.cell a_c1; replace a_c2 := hb.cell a_c2; replace a_c3 := hb.cell a_c3; replace a_c4 := hb.cell a_c4; replace a_c5 := hb.cell a_c5; replace a_c6 := hb.cell a_c6; replace a_c7 := hb.cell a_c7; replace a_c8 := hb.cell a_c8; replace a_c9 := hb.cell a_c9; replace a_c10 := hb.cell a_c10
  clear hb hSb
  go_wp2_with fail
  refine (HP1.out _ hS7).mono ?_
  rintro e w8 ⟨c3, c4, c5, c6, c7, c8, c9, C, U, G, rfl, hO, hb⟩
  have hS8 := hS7.trans hb
  replace a_B := a_B.next hb
  clear a_c0 a_c1 a_c2 a_c3 a_c4 a_c5 a_c6 a_c7 a_c8 a_c9 a_c10 hb hS7 HP1 q2
  obtain ⟨a3, e3, a4, e4, a5, e5, a8, e8, a9, e9, v3, v4, v5, v6, v7, v8, v9⟩ := pol_cells2 hO
  replace v3 : c3 = .slice a3 0 e3 := v3
  replace v4 : c4 = .slice a4 0 e4 := v4
  replace v5 : c5 = .slice a5 0 e5 := v5
  replace v6 : c6 = .int .i64 0 := v6
  replace v7 : c7 = .int .i64 0 := v7
  replace v9 : c9 = .slice a9 0 e9 := v9
  clear v8 a8 e8
  subst v3 v4 v5 v6 v7 v9
  obtain ⟨ru, rfl⟩ := one_fst hO.eU
  obtain ⟨gb, go, e8, rfl, -, hat⟩ := own_at1 hO.ru.row (Nat.succ_pos _)
  have hR8 : At w8 gb (go + 0 * 12) (#[.string ⟨a_s.toArray⟩, .string ⟨a_p.toArray⟩, .int .i64 a_n, .bool a_v0, .string ⟨a_l0.toArray⟩, .bool a_v1, .string ⟨a_l1.toArray⟩, .bool a_v2, .string ⟨a_l2.toArray⟩, .bool a_v3, .string ⟨a_l3.toArray⟩, ru]) := by rw [Nat.zero_mul, Nat.add_zero]; exact hat
  have hI8 : ARow w8 ru B := atm_row (hO.ru.ins _ (List.mem_singleton.2 rfl))
  clear hat hO
  obtain ⟨w9, hw9⟩ : ∃ W, Hid (W = w8.alloc (.cells #[.slice a3 0 e3, .slice a4 0 e4, .slice a5 0 e5, .int .i64 0, .int .i64 0, .slice (some ⟨gb, go, none⟩) 1 e8, .slice a9 0 e9] 29)) := ⟨_, rfl⟩
  have hs9 : Since w8 w9 := by rw [hw9.out]; exact (Since.refl w8).alloc _
  have hB9 : At w9 w8.heap.size 0 #[.slice a3 0 e3, .slice a4 0 e4, .slice a5 0 e5, .int .i64 0, .int .i64 0, .slice (some ⟨gb, go, none⟩) 1 e8, .slice a9 0 e9] := by rw [hw9.out]; exact (show Cel _ _ _ _ from heap_alloc_new w8 _).at
  have hS9 := hS8.trans hs9
  have hR9 := hR8.next hs9
  have hI9 := anext hI8 hs9
  replace a_B := a_B.next hs9
  clear hR8 hI8 hs9 hS8
  go_upto_region 16 with (fail)
  rw [← hw9.out]
  clear hw9
  obtain ⟨pb, hpb⟩ : ∃ x, Hid (x = w8.heap.size) := ⟨_, rfl⟩
  simp only [← hpb.out]
  rw [← hpb.out] at hB9
  clear hpb
  have hAw : At w9 w.heap.size 0 #[.string ⟨a_s.toArray⟩, .string ⟨a_p.toArray⟩, .int .i64 a_n, .bool a_v0, .string ⟨a_l0.toArray⟩, .bool a_v1, .string ⟨a_l1.toArray⟩, .bool a_v2, .string ⟨a_l2.toArray⟩, .bool a_v3, .string ⟨a_l3.toArray⟩] := at_box11P a_s a_p a_n a_v0 a_v1 a_v2 a_v3 a_l0 a_l1 a_l2 a_l3 a_B
  go_cut [13, 14, 15] from 74 to 90 (fun s13 s14 s15 W => ∃ gB kb ko ky x3 y3 x4 y4 x5 y5 x8 y8 gu D1 D2, s13 = .pointer (some ⟨gB, 0, none⟩) ∧ s15 = .int .i64 0 ∧ Cel W gB #[.slice x3 0 y3, .slice x4 0 y4, .slice x5 0 y5, .int .i64 0, .int .i64 0, .slice x8 0 y8, .slice (some ⟨kb, ko, none⟩) 1 ky] 29 ∧ W.ownsRow D1 49 13 (.slice (some ⟨kb, ko, none⟩) 1 ky) 1 (grnC (t, ((a_s, a_p, a_n, (a_v0, a_l0), (a_v1, a_l1), (a_v2, a_l2), (a_v3, a_l3)) : Atm), B) gu) ∧ W.ownsRow D2 44 11 gu B.length (B.flatMap atmL) ∧ Since w9 W)
  case first =>
    have hs0 : Since w9 w9.drew := (Since.refl _).drew
    refine hx_begin (S := fun W => Since w9 W) (by kernel_rfl) hs0 (by kernel_rfl) (fun _ _ _ _ _ h => h) (fun hns hQ => ?_)
    refine hx_take (i := 0) (oi := _) (v := .pointer (some ⟨w.heap.size, 0, none⟩)) rfl rfl hns (by kernel_rfl) (by kernel_rfl) hQ (by kernel_rfl) (fun _ _ => by kernel_rfl) hs0 ?_
    refine hx_take (i := 1) (oi := _) (v := .string ⟨a_s.toArray⟩) rfl rfl hns (by kernel_rfl) (by kernel_rfl) hQ (by kernel_rfl) (fun W hW => ld_one rfl (by kernel_rfl) (by kernel_rfl) W (hAw.next hW 0 _ rfl)) hs0 ?_
    refine hx_take (i := 2) (oi := _) (v := .string ⟨G1.toArray⟩) rfl rfl hns (by kernel_rfl) (by kernel_rfl) hQ (by kernel_rfl) (fun W _ => cat_opP E1.out.1 E1.out.2 rfl (by kernel_rfl) (by kernel_rfl) W) hs0 ?_
    refine hx_take (i := 3) (oi := _) (v := .string ⟨t.toArray⟩) rfl rfl hns (by kernel_rfl) (by kernel_rfl) hQ (by kernel_rfl) (fun _ _ => by kernel_rfl) hs0 ?_
    refine hx_take (i := 4) (oi := _) (v := .string ⟨G2.toArray⟩) rfl rfl hns (by kernel_rfl) (by kernel_rfl) hQ (by kernel_rfl) (fun W _ => cat_opP E2.out.1 E2.out.2 rfl (by kernel_rfl) (by kernel_rfl) W) hs0 ?_
    refine hx_take (i := 5) (oi := _) (v := .string ⟨G3.toArray⟩) rfl rfl hns (by kernel_rfl) (by kernel_rfl) hQ (by kernel_rfl) (fun W _ => cat_opP E3.out.1 E3.out.2 rfl (by kernel_rfl) (by kernel_rfl) W) hs0 ?_
    refine hx_take (i := 6) (oi := _) (v := .agg #[.string ⟨a_s.toArray⟩, .string ⟨a_p.toArray⟩, .int .i64 a_n, .bool a_v0, .string ⟨a_l0.toArray⟩, .bool a_v1, .string ⟨a_l1.toArray⟩, .bool a_v2, .string ⟨a_l2.toArray⟩, .bool a_v3, .string ⟨a_l3.toArray⟩]) rfl rfl hns (by kernel_rfl) (by kernel_rfl) hQ (by kernel_rfl) (fun W hW => ld_at rfl (by kernel_rfl) (by kernel_rfl) (by kernel_rfl) W (hAw.next hW)) hs0 ?_
    refine hx_take (i := 9) (oi := _) (v := .string ⟨S.toArray⟩) rfl rfl hns (by kernel_rfl) (by kernel_rfl) hQ (by kernel_rfl) (fun _ _ => by kernel_rfl) hs0 ?_
    refine hx_two_cv (i := 7) (j := 17) 20 #[.agg #[.string ⟨a_s.toArray⟩, .string ⟨a_p.toArray⟩, .int .i64 a_n, .bool a_v0, .string ⟨a_l0.toArray⟩, .bool a_v1, .string ⟨a_l1.toArray⟩, .bool a_v2, .string ⟨a_l2.toArray⟩, .bool a_v3, .string ⟨a_l3.toArray⟩]] (.pointer (some ⟨w9.drew.heap.size, 0, none⟩)) ((w9.drew.alloc (.cells #[.slice none 0 0, .slice none 0 0, .slice none 0 0, .int .i64 0, .int .i64 0, .slice none 0 0, .slice none 0 0] 29))) rfl rfl (by kernel_rfl) (by kernel_rfl) (by kernel_rfl) rfl (by kernel_rfl) (HSD.out _) rfl (by kernel_rfl) (hs0.alloc _) ?_ ?_
    · rintro e wx51 ⟨rfl, hb⟩
      have hs1 : Since w9 wx51 := hs0.trans hb
      clear hb
      refine ⟨_, rfl, hs1, ?_⟩
      refine hx_take (i := 8) (oi := _) (v := .string ⟨G4.toArray⟩) rfl rfl hns (by kernel_rfl) (by kernel_rfl) hQ (by kernel_rfl) (fun W _ => cat_opP E4.out.1 E4.out.2 rfl (by kernel_rfl) (by kernel_rfl) W) hs1 ?_
      refine hx_take (i := 10) (oi := _) (v := .string ⟨G5.toArray⟩) rfl rfl hns (by kernel_rfl) (by kernel_rfl) hQ (by kernel_rfl) (fun W _ => cat_opP E5.out.1 E5.out.2 rfl (by kernel_rfl) (by kernel_rfl) W) hs1 ?_
      refine hx_take (i := 11) (oi := _) (v := .string ⟨G6.toArray⟩) rfl rfl hns (by kernel_rfl) (by kernel_rfl) hQ (by kernel_rfl) (fun W _ => cat_opP E6.out.1 E6.out.2 rfl (by kernel_rfl) (by kernel_rfl) W) hs1 ?_
      refine hx_two_cv (i := 12) (j := 17) 11 #[.string ⟨G6.toArray⟩] (.pointer (some ⟨wx51.heap.size, 0, none⟩)) ((wx51.alloc (.cells #[.slice none 0 0, .slice none 0 0, .slice none 0 0, .int .i64 0, .int .i64 0, .slice none 0 0, .slice none 0 0] 29))) rfl rfl (by kernel_rfl) (by kernel_rfl) (by kernel_rfl) rfl (by kernel_rfl) (HP2.out _ (hS9.trans hs1)) rfl (by kernel_rfl) (hs1.alloc _) ?_ ?_
      · rintro e wx52 ⟨d3, d4, d5, d6, d7, d8, d9, C2, U2, V2, rfl, hO2, hb⟩
        have hs2 : Since w9 wx52 := hs1.trans hb
        obtain ⟨x3, y3, x4, y4, x5, y5, x8, y8, x9, y9, v3, v4, v5, v6, v7, v8, v9⟩ := pol_cells2 hO2
        replace v3 : d3 = .slice x3 0 y3 := v3
        replace v4 : d4 = .slice x4 0 y4 := v4
        replace v5 : d5 = .slice x5 0 y5 := v5
        replace v6 : d6 = .int .i64 0 := v6
        replace v7 : d7 = .int .i64 0 := v7
        replace v8 : d8 = .slice x8 0 y8 := v8
        clear v9 x9 y9
        subst v3 v4 v5 v6 v7 v8
        obtain ⟨gu, rfl⟩ := one_fst hO2.eG
        obtain ⟨kb, ko, ky, rfl, -, -⟩ := own_at1 hO2.gr.row (Nat.succ_pos _)
        obtain ⟨D1, hGr⟩ : ∃ D, World.ownsRow _ D 49 13 (.slice (some ⟨kb, ko, none⟩) 1 ky) 1 (grnC (t, ((a_s, a_p, a_n, (a_v0, a_l0), (a_v1, a_l1), (a_v2, a_l2), (a_v3, a_l3)) : Atm), B) gu) := ⟨_, hO2.gr.row⟩
        obtain ⟨D2, hGi⟩ : ∃ D, World.ownsRow _ D 44 11 gu B.length (B.flatMap atmL) := ⟨_, hO2.gr.ins _ (List.mem_singleton.2 rfl)⟩
        clear hO2
        clear hb
        refine ⟨_, rfl, hs2, ?_⟩
        refine hx_take (i := 13) (oi := _) (v := .tuple #[.agg #[.slice x3 0 y3, .slice x4 0 y4, .slice x5 0 y5, .int .i64 0, .int .i64 0, .slice x8 0 y8, .slice (some ⟨kb, ko, none⟩) 1 ky], .int .i64 0, .int .i64 0]) rfl rfl hns (by kernel_rfl) (by kernel_rfl) hQ (by kernel_rfl) (fun _ _ => by kernel_rfl) hs2 ?_
        refine hx_take (i := 14) (oi := _) (v := .agg #[.slice x3 0 y3, .slice x4 0 y4, .slice x5 0 y5, .int .i64 0, .int .i64 0, .slice x8 0 y8, .slice (some ⟨kb, ko, none⟩) 1 ky]) rfl rfl hns (by kernel_rfl) (by kernel_rfl) hQ (by kernel_rfl) (fun _ _ => by kernel_rfl) hs2 ?_
        refine hx_take (i := 15) (oi := _) (v := .int .i64 0) rfl rfl hns (by kernel_rfl) (by kernel_rfl) hQ (by kernel_rfl) (fun _ _ => by kernel_rfl) hs2 ?_
        refine hx_take (i := 16) (oi := _) (v := .int .i64 0) rfl rfl hns (by kernel_rfl) (by kernel_rfl) hQ (by kernel_rfl) (fun _ _ => by kernel_rfl) hs2 ?_
        have hs3 : Since w9 (wx52.alloc (.cells #[.slice none 0 0, .slice none 0 0, .slice none 0 0, .int .i64 0, .int .i64 0, .slice none 0 0, .slice none 0 0] 29)) := hs2.alloc _
        have hge : w9.heap.size ≤ wx52.heap.size := (hs2).size
        replace hGr := own_since hGr ((Since.refl wx52).alloc (.cells #[.slice none 0 0, .slice none 0 0, .slice none 0 0, .int .i64 0, .int .i64 0, .slice none 0 0, .slice none 0 0] 29))
        replace hGi := own_since hGi ((Since.refl wx52).alloc (.cells #[.slice none 0 0, .slice none 0 0, .slice none 0 0, .int .i64 0, .int .i64 0, .slice none 0 0, .slice none 0 0] 29))
        have hCel : Cel (wx52.alloc (.cells #[.slice none 0 0, .slice none 0 0, .slice none 0 0, .int .i64 0, .int .i64 0, .slice none 0 0, .slice none 0 0] 29)) wx52.heap.size #[.slice none 0 0, .slice none 0 0, .slice none 0 0, .int .i64 0, .int .i64 0, .slice none 0 0, .slice none 0 0] 29 := heap_alloc_new _ _
        refine hx_make (i := 17) (oi := _) (.pointer (some ⟨wx52.heap.size, 0, none⟩)) (wx52.alloc (.cells #[.slice none 0 0, .slice none 0 0, .slice none 0 0, .int .i64 0, .int .i64 0, .slice none 0 0, .slice none 0 0] 29)) rfl rfl (by kernel_rfl) (by kernel_rfl) (by kernel_rfl) hs3 ?_
        have hone : ((#[.slice x3 0 y3, .slice x4 0 y4, .slice x5 0 y5, .int .i64 0, .int .i64 0, .slice x8 0 y8, .slice (some ⟨kb, ko, none⟩) 1 ky] : Array Value).all (·.oneCell')) = true := by simp [Value.oneCell']
        have hs4 : Since w9 ((wx52.alloc (.cells #[.slice none 0 0, .slice none 0 0, .slice none 0 0, .int .i64 0, .int .i64 0, .slice none 0 0, .slice none 0 0] 29)).setRow wx52.heap.size #[.slice x3 0 y3, .slice x4 0 y4, .slice x5 0 y5, .int .i64 0, .int .i64 0, .slice x8 0 y8, .slice (some ⟨kb, ko, none⟩) 1 ky]) := since_setRowP hs3 hge _
        refine hx_store (i := 18) (oi := _) ((wx52.alloc (.cells #[.slice none 0 0, .slice none 0 0, .slice none 0 0, .int .i64 0, .int .i64 0, .slice none 0 0, .slice none 0 0] 29)).setRow wx52.heap.size #[.slice x3 0 y3, .slice x4 0 y4, .slice x5 0 y5, .int .i64 0, .int .i64 0, .slice x8 0 y8, .slice (some ⟨kb, ko, none⟩) 1 ky]) rfl rfl (by kernel_rfl) (by kernel_rfl) (st_rowP (old := #[.slice none 0 0, .slice none 0 0, .slice none 0 0, .int .i64 0, .int .i64 0, .slice none 0 0, .slice none 0 0]) (cells := #[.slice x3 0 y3, .slice x4 0 y4, .slice x5 0 y5, .int .i64 0, .int .i64 0, .slice x8 0 y8, .slice (some ⟨kb, ko, none⟩) 1 ky]) rfl (by kernel_rfl) (by kernel_rfl) (by kernel_rfl) rfl hone _ hCel) hs4 ?_
        replace hGr := own_setRow (ds := #[.slice x3 0 y3, .slice x4 0 y4, .slice x5 0 y5, .int .i64 0, .int .i64 0, .slice x8 0 y8, .slice (some ⟨kb, ko, none⟩) 1 ky]) hGr hCel (by decide)
        replace hGi := own_setRow (ds := #[.slice x3 0 y3, .slice x4 0 y4, .slice x5 0 y5, .int .i64 0, .int .i64 0, .slice x8 0 y8, .slice (some ⟨kb, ko, none⟩) 1 ky]) hGi hCel (by decide)
        replace hCel := hCel.row #[.slice x3 0 y3, .slice x4 0 y4, .slice x5 0 y5, .int .i64 0, .int .i64 0, .slice x8 0 y8, .slice (some ⟨kb, ko, none⟩) 1 ky]
        refine hx_take (i := 19) (oi := _) (v := .int .i64 0) rfl rfl hns (by kernel_rfl) (by kernel_rfl) hQ (by kernel_rfl) (fun _ _ => by kernel_rfl) hs4 ?_
        refine hx_take (i := 20) (oi := _) (v := .int .i64 0) rfl rfl hns (by kernel_rfl) (by kernel_rfl) hQ (by kernel_rfl) (fun _ _ => by kernel_rfl) hs4 ?_
        refine wpAnyH_done (by kernel_rfl) ?_ _
        clear hns hQ
        simp only [List.set_cons_zero, List.set_cons_succ]
        go_wp2_with fail
        go_meet
        case rel => exact ⟨_, kb, ko, ky, x3, y3, x4, y4, x5, y5, x8, y8, gu, D1, D2, rfl, rfl, hCel, hGr, hGi, hs4⟩
      · have hs2 : Since w9 (wx51.alloc (.cells #[.slice none 0 0, .slice none 0 0, .slice none 0 0, .int .i64 0, .int .i64 0, .slice none 0 0, .slice none 0 0] 29)) := hs1.alloc _
        have hge : w9.heap.size ≤ wx51.heap.size := (hs1).size
        have hCel : Cel (wx51.alloc (.cells #[.slice none 0 0, .slice none 0 0, .slice none 0 0, .int .i64 0, .int .i64 0, .slice none 0 0, .slice none 0 0] 29)) wx51.heap.size #[.slice none 0 0, .slice none 0 0, .slice none 0 0, .int .i64 0, .int .i64 0, .slice none 0 0, .slice none 0 0] 29 := heap_alloc_new _ _
        refine hx_call (i := 12) (oi := _) 11 #[.string ⟨G6.toArray⟩] rfl rfl (by kernel_rfl) (by kernel_rfl) (by kernel_rfl) (HP2.out _ (hS9.trans hs2)) ?_
        rintro e wx52 ⟨d3, d4, d5, d6, d7, d8, d9, C2, U2, V2, rfl, hO2, hb⟩
        have hs3 : Since w9 wx52 := hs2.trans hb
        replace hCel := hCel.next hb
        obtain ⟨x3, y3, x4, y4, x5, y5, x8, y8, x9, y9, v3, v4, v5, v6, v7, v8, v9⟩ := pol_cells2 hO2
        replace v3 : d3 = .slice x3 0 y3 := v3
        replace v4 : d4 = .slice x4 0 y4 := v4
        replace v5 : d5 = .slice x5 0 y5 := v5
        replace v6 : d6 = .int .i64 0 := v6
        replace v7 : d7 = .int .i64 0 := v7
        replace v8 : d8 = .slice x8 0 y8 := v8
        clear v9 x9 y9
        subst v3 v4 v5 v6 v7 v8
        obtain ⟨gu, rfl⟩ := one_fst hO2.eG
        obtain ⟨kb, ko, ky, rfl, -, -⟩ := own_at1 hO2.gr.row (Nat.succ_pos _)
        obtain ⟨D1, hGr⟩ : ∃ D, World.ownsRow _ D 49 13 (.slice (some ⟨kb, ko, none⟩) 1 ky) 1 (grnC (t, ((a_s, a_p, a_n, (a_v0, a_l0), (a_v1, a_l1), (a_v2, a_l2), (a_v3, a_l3)) : Atm), B) gu) := ⟨_, hO2.gr.row⟩
        obtain ⟨D2, hGi⟩ : ∃ D, World.ownsRow _ D 44 11 gu B.length (B.flatMap atmL) := ⟨_, hO2.gr.ins _ (List.mem_singleton.2 rfl)⟩
        clear hO2
        clear hb
        refine ⟨_, rfl, hs3, ?_⟩
        refine hx_take (i := 13) (oi := _) (v := .tuple #[.agg #[.slice x3 0 y3, .slice x4 0 y4, .slice x5 0 y5, .int .i64 0, .int .i64 0, .slice x8 0 y8, .slice (some ⟨kb, ko, none⟩) 1 ky], .int .i64 0, .int .i64 0]) rfl rfl hns (by kernel_rfl) (by kernel_rfl) hQ (by kernel_rfl) (fun _ _ => by kernel_rfl) hs3 ?_
        refine hx_take (i := 14) (oi := _) (v := .agg #[.slice x3 0 y3, .slice x4 0 y4, .slice x5 0 y5, .int .i64 0, .int .i64 0, .slice x8 0 y8, .slice (some ⟨kb, ko, none⟩) 1 ky]) rfl rfl hns (by kernel_rfl) (by kernel_rfl) hQ (by kernel_rfl) (fun _ _ => by kernel_rfl) hs3 ?_
        refine hx_take (i := 15) (oi := _) (v := .int .i64 0) rfl rfl hns (by kernel_rfl) (by kernel_rfl) hQ (by kernel_rfl) (fun _ _ => by kernel_rfl) hs3 ?_
        refine hx_take (i := 16) (oi := _) (v := .int .i64 0) rfl rfl hns (by kernel_rfl) (by kernel_rfl) hQ (by kernel_rfl) (fun _ _ => by kernel_rfl) hs3 ?_
        have hone : ((#[.slice x3 0 y3, .slice x4 0 y4, .slice x5 0 y5, .int .i64 0, .int .i64 0, .slice x8 0 y8, .slice (some ⟨kb, ko, none⟩) 1 ky] : Array Value).all (·.oneCell')) = true := by simp [Value.oneCell']
        have hs4 : Since w9 (wx52.setRow wx51.heap.size #[.slice x3 0 y3, .slice x4 0 y4, .slice x5 0 y5, .int .i64 0, .int .i64 0, .slice x8 0 y8, .slice (some ⟨kb, ko, none⟩) 1 ky]) := since_setRowP hs3 hge _
        refine hx_store (i := 18) (oi := _) (wx52.setRow wx51.heap.size #[.slice x3 0 y3, .slice x4 0 y4, .slice x5 0 y5, .int .i64 0, .int .i64 0, .slice x8 0 y8, .slice (some ⟨kb, ko, none⟩) 1 ky]) rfl rfl (by kernel_rfl) (by kernel_rfl) (st_rowP (old := #[.slice none 0 0, .slice none 0 0, .slice none 0 0, .int .i64 0, .int .i64 0, .slice none 0 0, .slice none 0 0]) (cells := #[.slice x3 0 y3, .slice x4 0 y4, .slice x5 0 y5, .int .i64 0, .int .i64 0, .slice x8 0 y8, .slice (some ⟨kb, ko, none⟩) 1 ky]) rfl (by kernel_rfl) (by kernel_rfl) (by kernel_rfl) rfl hone _ hCel) hs4 ?_
        replace hGr := own_setRow (ds := #[.slice x3 0 y3, .slice x4 0 y4, .slice x5 0 y5, .int .i64 0, .int .i64 0, .slice x8 0 y8, .slice (some ⟨kb, ko, none⟩) 1 ky]) hGr hCel (by decide)
        replace hGi := own_setRow (ds := #[.slice x3 0 y3, .slice x4 0 y4, .slice x5 0 y5, .int .i64 0, .int .i64 0, .slice x8 0 y8, .slice (some ⟨kb, ko, none⟩) 1 ky]) hGi hCel (by decide)
        replace hCel := hCel.row #[.slice x3 0 y3, .slice x4 0 y4, .slice x5 0 y5, .int .i64 0, .int .i64 0, .slice x8 0 y8, .slice (some ⟨kb, ko, none⟩) 1 ky]
        refine hx_take (i := 19) (oi := _) (v := .int .i64 0) rfl rfl hns (by kernel_rfl) (by kernel_rfl) hQ (by kernel_rfl) (fun _ _ => by kernel_rfl) hs4 ?_
        refine hx_take (i := 20) (oi := _) (v := .int .i64 0) rfl rfl hns (by kernel_rfl) (by kernel_rfl) hQ (by kernel_rfl) (fun _ _ => by kernel_rfl) hs4 ?_
        refine wpAnyH_done (by kernel_rfl) ?_ _
        clear hns hQ
        simp only [List.set_cons_zero, List.set_cons_succ]
        go_wp2_with fail
        go_meet
        case rel => exact ⟨_, kb, ko, ky, x3, y3, x4, y4, x5, y5, x8, y8, gu, D1, D2, rfl, rfl, hCel, hGr, hGi, hs4⟩
    · have hs1 : Since w9 (w9.drew.alloc (.cells #[.slice none 0 0, .slice none 0 0, .slice none 0 0, .int .i64 0, .int .i64 0, .slice none 0 0, .slice none 0 0] 29)) := hs0.alloc _
      have hge : w9.heap.size ≤ w9.drew.heap.size := (hs0).size
      have hCel : Cel (w9.drew.alloc (.cells #[.slice none 0 0, .slice none 0 0, .slice none 0 0, .int .i64 0, .int .i64 0, .slice none 0 0, .slice none 0 0] 29)) w9.drew.heap.size #[.slice none 0 0, .slice none 0 0, .slice none 0 0, .int .i64 0, .int .i64 0, .slice none 0 0, .slice none 0 0] 29 := heap_alloc_new _ _
      refine hx_call (i := 7) (oi := _) 20 #[.agg #[.string ⟨a_s.toArray⟩, .string ⟨a_p.toArray⟩, .int .i64 a_n, .bool a_v0, .string ⟨a_l0.toArray⟩, .bool a_v1, .string ⟨a_l1.toArray⟩, .bool a_v2, .string ⟨a_l2.toArray⟩, .bool a_v3, .string ⟨a_l3.toArray⟩]] rfl rfl (by kernel_rfl) (by kernel_rfl) (by kernel_rfl) (HSD.out _) ?_
      rintro e wx51 ⟨rfl, hb⟩
      have hs2 : Since w9 wx51 := hs1.trans hb
      replace hCel := hCel.next hb
      clear hb
      refine ⟨_, rfl, hs2, ?_⟩
      refine hx_take (i := 8) (oi := _) (v := .string ⟨G4.toArray⟩) rfl rfl hns (by kernel_rfl) (by kernel_rfl) hQ (by kernel_rfl) (fun W _ => cat_opP E4.out.1 E4.out.2 rfl (by kernel_rfl) (by kernel_rfl) W) hs2 ?_
      refine hx_take (i := 10) (oi := _) (v := .string ⟨G5.toArray⟩) rfl rfl hns (by kernel_rfl) (by kernel_rfl) hQ (by kernel_rfl) (fun W _ => cat_opP E5.out.1 E5.out.2 rfl (by kernel_rfl) (by kernel_rfl) W) hs2 ?_
      refine hx_take (i := 11) (oi := _) (v := .string ⟨G6.toArray⟩) rfl rfl hns (by kernel_rfl) (by kernel_rfl) hQ (by kernel_rfl) (fun W _ => cat_opP E6.out.1 E6.out.2 rfl (by kernel_rfl) (by kernel_rfl) W) hs2 ?_
      refine hx_call (i := 12) (oi := _) 11 #[.string ⟨G6.toArray⟩] rfl rfl (by kernel_rfl) (by kernel_rfl) (by kernel_rfl) (HP2.out _ (hS9.trans hs2)) ?_
      rintro e wx52 ⟨d3, d4, d5, d6, d7, d8, d9, C2, U2, V2, rfl, hO2, hb⟩
      have hs3 : Since w9 wx52 := hs2.trans hb
      replace hCel := hCel.next hb
      obtain ⟨x3, y3, x4, y4, x5, y5, x8, y8, x9, y9, v3, v4, v5, v6, v7, v8, v9⟩ := pol_cells2 hO2
      replace v3 : d3 = .slice x3 0 y3 := v3
      replace v4 : d4 = .slice x4 0 y4 := v4
      replace v5 : d5 = .slice x5 0 y5 := v5
      replace v6 : d6 = .int .i64 0 := v6
      replace v7 : d7 = .int .i64 0 := v7
      replace v8 : d8 = .slice x8 0 y8 := v8
      clear v9 x9 y9
      subst v3 v4 v5 v6 v7 v8
      obtain ⟨gu, rfl⟩ := one_fst hO2.eG
      obtain ⟨kb, ko, ky, rfl, -, -⟩ := own_at1 hO2.gr.row (Nat.succ_pos _)
      obtain ⟨D1, hGr⟩ : ∃ D, World.ownsRow _ D 49 13 (.slice (some ⟨kb, ko, none⟩) 1 ky) 1 (grnC (t, ((a_s, a_p, a_n, (a_v0, a_l0), (a_v1, a_l1), (a_v2, a_l2), (a_v3, a_l3)) : Atm), B) gu) := ⟨_, hO2.gr.row⟩
      obtain ⟨D2, hGi⟩ : ∃ D, World.ownsRow _ D 44 11 gu B.length (B.flatMap atmL) := ⟨_, hO2.gr.ins _ (List.mem_singleton.2 rfl)⟩
      clear hO2
      clear hb
      refine ⟨_, rfl, hs3, ?_⟩
      refine hx_take (i := 13) (oi := _) (v := .tuple #[.agg #[.slice x3 0 y3, .slice x4 0 y4, .slice x5 0 y5, .int .i64 0, .int .i64 0, .slice x8 0 y8, .slice (some ⟨kb, ko, none⟩) 1 ky], .int .i64 0, .int .i64 0]) rfl rfl hns (by kernel_rfl) (by kernel_rfl) hQ (by kernel_rfl) (fun _ _ => by kernel_rfl) hs3 ?_
      refine hx_take (i := 14) (oi := _) (v := .agg #[.slice x3 0 y3, .slice x4 0 y4, .slice x5 0 y5, .int .i64 0, .int .i64 0, .slice x8 0 y8, .slice (some ⟨kb, ko, none⟩) 1 ky]) rfl rfl hns (by kernel_rfl) (by kernel_rfl) hQ (by kernel_rfl) (fun _ _ => by kernel_rfl) hs3 ?_
      refine hx_take (i := 15) (oi := _) (v := .int .i64 0) rfl rfl hns (by kernel_rfl) (by kernel_rfl) hQ (by kernel_rfl) (fun _ _ => by kernel_rfl) hs3 ?_
      refine hx_take (i := 16) (oi := _) (v := .int .i64 0) rfl rfl hns (by kernel_rfl) (by kernel_rfl) hQ (by kernel_rfl) (fun _ _ => by kernel_rfl) hs3 ?_
      have hone : ((#[.slice x3 0 y3, .slice x4 0 y4, .slice x5 0 y5, .int .i64 0, .int .i64 0, .slice x8 0 y8, .slice (some ⟨kb, ko, none⟩) 1 ky] : Array Value).all (·.oneCell')) = true := by simp [Value.oneCell']
      have hs4 : Since w9 (wx52.setRow w9.drew.heap.size #[.slice x3 0 y3, .slice x4 0 y4, .slice x5 0 y5, .int .i64 0, .int .i64 0, .slice x8 0 y8, .slice (some ⟨kb, ko, none⟩) 1 ky]) := since_setRowP hs3 hge _
      refine hx_store (i := 18) (oi := _) (wx52.setRow w9.drew.heap.size #[.slice x3 0 y3, .slice x4 0 y4, .slice x5 0 y5, .int .i64 0, .int .i64 0, .slice x8 0 y8, .slice (some ⟨kb, ko, none⟩) 1 ky]) rfl rfl (by kernel_rfl) (by kernel_rfl) (st_rowP (old := #[.slice none 0 0, .slice none 0 0, .slice none 0 0, .int .i64 0, .int .i64 0, .slice none 0 0, .slice none 0 0]) (cells := #[.slice x3 0 y3, .slice x4 0 y4, .slice x5 0 y5, .int .i64 0, .int .i64 0, .slice x8 0 y8, .slice (some ⟨kb, ko, none⟩) 1 ky]) rfl (by kernel_rfl) (by kernel_rfl) (by kernel_rfl) rfl hone _ hCel) hs4 ?_
      replace hGr := own_setRow (ds := #[.slice x3 0 y3, .slice x4 0 y4, .slice x5 0 y5, .int .i64 0, .int .i64 0, .slice x8 0 y8, .slice (some ⟨kb, ko, none⟩) 1 ky]) hGr hCel (by decide)
      replace hGi := own_setRow (ds := #[.slice x3 0 y3, .slice x4 0 y4, .slice x5 0 y5, .int .i64 0, .int .i64 0, .slice x8 0 y8, .slice (some ⟨kb, ko, none⟩) 1 ky]) hGi hCel (by decide)
      replace hCel := hCel.row #[.slice x3 0 y3, .slice x4 0 y4, .slice x5 0 y5, .int .i64 0, .int .i64 0, .slice x8 0 y8, .slice (some ⟨kb, ko, none⟩) 1 ky]
      refine hx_take (i := 19) (oi := _) (v := .int .i64 0) rfl rfl hns (by kernel_rfl) (by kernel_rfl) hQ (by kernel_rfl) (fun _ _ => by kernel_rfl) hs4 ?_
      refine hx_take (i := 20) (oi := _) (v := .int .i64 0) rfl rfl hns (by kernel_rfl) (by kernel_rfl) hQ (by kernel_rfl) (fun _ _ => by kernel_rfl) hs4 ?_
      refine wpAnyH_done (by kernel_rfl) ?_ _
      clear hns hQ
      simp only [List.set_cons_zero, List.set_cons_succ]
      go_wp2_with fail
      go_meet
      case rel => exact ⟨_, kb, ko, ky, x3, y3, x4, y4, x5, y5, x8, y8, gu, D1, D2, rfl, rfl, hCel, hGr, hGi, hs4⟩
  case rest =>
  obtain ⟨gB, kb, ko, ky, x3, y3, x4, y4, x5, y5, x8, y8, gu, D1, D2, rfl, rfl, hCel, hGr, hGi, hsC⟩ := hcut
  have hG10 : At wc kb (ko + 0 * 13) #[.string ⟨t.toArray⟩, .string ⟨a_s.toArray⟩, .string ⟨a_p.toArray⟩, .int .i64 a_n, .bool a_v0, .string ⟨a_l0.toArray⟩, .bool a_v1, .string ⟨a_l1.toArray⟩, .bool a_v2, .string ⟨a_l2.toArray⟩, .bool a_v3, .string ⟨a_l3.toArray⟩, gu] := by
    obtain ⟨b', o', c', hv, -, hat⟩ := own_at1 hGr (Nat.succ_pos _)
    injection hv with hv
    injection hv with hv
    injection hv with hv1 hv2
    subst hv1; subst hv2
    rw [Nat.zero_mul, Nat.add_zero]; exact hat
  have hJ10 : ARow wc gu B := atm_row hGi
  have hB10 := hB9.next hsC
  have hR10 := hR9.next hsC
  have hI10 := anext hI9 hsC
  have hS10 := hS9.trans hsC
  replace a_B := a_B.next hsC
  have hQ10 := hCel.at
  obtain ⟨a_c0, a_c1, a_c2, a_c3, a_c4, a_c5, a_c6, a_c7, a_c8, a_c9, a_c10⟩ := a_B.all
  clear hCel hGr hGi hB9 hR9 hI9 hS9 hsC hAw HP2 HSD
  go_wp2_with fail
  refine (HTX.out _).mono ?_
  rintro e w11 ⟨rfl, hb⟩
  replace hB10 := hB10.next hb
  replace hR10 := hR10.next hb
  replace hI10 := anext hI10 hb
  replace hS10 := hS10.trans hb
  replace hQ10 := hQ10.next hb
  replace hG10 := hG10.next hb
  replace hJ10 := anext hJ10 hb
  replace a_B := a_B.next hb
  clear a_c0 a_c1 a_c2 a_c3 a_c4 a_c5 a_c6 a_c7 a_c8 a_c9 a_c10 hb HTX
  have hA10 : At w11 w.heap.size 0 #[.string ⟨a_s.toArray⟩, .string ⟨a_p.toArray⟩, .int .i64 a_n, .bool a_v0, .string ⟨a_l0.toArray⟩, .bool a_v1, .string ⟨a_l1.toArray⟩, .bool a_v2, .string ⟨a_l2.toArray⟩, .bool a_v3, .string ⟨a_l3.toArray⟩] := at_box11P a_s a_p a_n a_v0 a_v1 a_v2 a_v3 a_l0 a_l1 a_l2 a_l3 a_B
  have hRa : At w11 gb (go + 0 * 12) #[.string ⟨a_s.toArray⟩, .string ⟨a_p.toArray⟩, .int .i64 a_n, .bool a_v0, .string ⟨a_l0.toArray⟩, .bool a_v1, .string ⟨a_l1.toArray⟩, .bool a_v2, .string ⟨a_l2.toArray⟩, .bool a_v3, .string ⟨a_l3.toArray⟩] := at_sub hR10 0 11
  have hGa : At w11 kb (ko + 0 * 13 + 1) #[.string ⟨a_s.toArray⟩, .string ⟨a_p.toArray⟩, .int .i64 a_n, .bool a_v0, .string ⟨a_l0.toArray⟩, .bool a_v1, .string ⟨a_l1.toArray⟩, .bool a_v2, .string ⟨a_l2.toArray⟩, .bool a_v3, .string ⟨a_l3.toArray⟩] := at_sub hG10 1 11
  go_upto_region 19 with (fail)
  have hs0 : Since w11 w11.drew := (Since.refl _).drew
  refine hx_begin (S := fun W => Since w11 W) (by kernel_rfl) hs0 (by kernel_rfl) (fun _ _ _ _ _ h => h) (fun hns hQ => ?_)
  refine hx_take (i := 0) (oi := _) (v := .int .i64 0) rfl rfl hns (by kernel_rfl) (by kernel_rfl) hQ (by kernel_rfl) (fun _ _ => by kernel_rfl) hs0 ?_
  refine hx_take (i := 1) (oi := _) (v := .bool true) rfl rfl hns (by kernel_rfl) (by kernel_rfl) hQ (by kernel_rfl) (fun W _ => eqs_intE (s := 0) rfl (by kernel_rfl) (by kernel_rfl) W) hs0 ?_
  refine hx_take (i := 2) (oi := _) (v := .bool true) rfl rfl hns (by kernel_rfl) (by kernel_rfl) hQ (by kernel_rfl) (fun _ _ => by kernel_rfl) hs0 ?_
  refine hx_take (i := 3) (oi := _) (v := .pointer (some ⟨pb, 5, none⟩)) rfl rfl hns (by kernel_rfl) (by kernel_rfl) hQ (by kernel_rfl) (fun _ _ => by kernel_rfl) hs0 ?_
  refine hx_take (i := 4) (oi := _) (v := .slice (some ⟨gb, go, none⟩) 1 e8) rfl rfl hns (by kernel_rfl) (by kernel_rfl) hQ (by kernel_rfl) (fun W hW => ld_one rfl (by kernel_rfl) (by kernel_rfl) W (hB10.next hW 5 _ rfl)) hs0 ?_
  refine hx_take (i := 5) (oi := _) (v := .int .i64 1) rfl rfl hns (by kernel_rfl) (by kernel_rfl) hQ (by kernel_rfl) (fun _ _ => by kernel_rfl) hs0 ?_
  refine hx_take (i := 6) (oi := _) (v := .bool true) rfl rfl hns (by kernel_rfl) (by kernel_rfl) hQ (by kernel_rfl) (fun W _ => eqs_int (s := 1) rfl (by kernel_rfl) (by kernel_rfl) W) hs0 ?_
  refine hx_take (i := 7) (oi := _) (v := .bool true) rfl rfl hns (by kernel_rfl) (by kernel_rfl) hQ (by kernel_rfl) (fun _ _ => by kernel_rfl) hs0 ?_
  refine hx_take (i := 8) (oi := _) (v := .bool true) rfl rfl hns (by kernel_rfl) (by kernel_rfl) hQ (by kernel_rfl) (fun _ _ => by kernel_rfl) hs0 ?_
  refine hx_take (i := 9) (oi := _) (v := .pointer (some ⟨pb, 6, none⟩)) rfl rfl hns (by kernel_rfl) (by kernel_rfl) hQ (by kernel_rfl) (fun _ _ => by kernel_rfl) hs0 ?_
  refine hx_take (i := 10) (oi := _) (v := .slice a9 0 e9) rfl rfl hns (by kernel_rfl) (by kernel_rfl) hQ (by kernel_rfl) (fun W hW => ld_one rfl (by kernel_rfl) (by kernel_rfl) W (hB10.next hW 6 _ rfl)) hs0 ?_
  refine hx_take (i := 11) (oi := _) (v := .int .i64 0) rfl rfl hns (by kernel_rfl) (by kernel_rfl) hQ (by kernel_rfl) (fun _ _ => by kernel_rfl) hs0 ?_
  refine hx_take (i := 12) (oi := _) (v := .bool true) rfl rfl hns (by kernel_rfl) (by kernel_rfl) hQ (by kernel_rfl) (fun W _ => eqs_int (s := 0) rfl (by kernel_rfl) (by kernel_rfl) W) hs0 ?_
  refine hx_take (i := 13) (oi := _) (v := .bool true) rfl rfl hns (by kernel_rfl) (by kernel_rfl) hQ (by kernel_rfl) (fun _ _ => by kernel_rfl) hs0 ?_
  refine hx_take (i := 14) (oi := _) (v := .bool true) rfl rfl hns (by kernel_rfl) (by kernel_rfl) hQ (by kernel_rfl) (fun _ _ => by kernel_rfl) hs0 ?_
  refine hx_take (i := 15) (oi := _) (v := .pointer (some ⟨pb, 5, none⟩)) rfl rfl hns (by kernel_rfl) (by kernel_rfl) hQ (by kernel_rfl) (fun _ _ => by kernel_rfl) hs0 ?_
  refine hx_take (i := 16) (oi := _) (v := .slice (some ⟨gb, go, none⟩) 1 e8) rfl rfl hns (by kernel_rfl) (by kernel_rfl) hQ (by kernel_rfl) (fun W hW => ld_one rfl (by kernel_rfl) (by kernel_rfl) W (hB10.next hW 5 _ rfl)) hs0 ?_
  refine hx_take (i := 17) (oi := _) (v := .pointer (some ⟨gb, go + 0 * 12, none⟩)) rfl rfl hns (by kernel_rfl) (by kernel_rfl) hQ (by kernel_rfl) (fun W _ => ix_sl (n := 1) (c := e8) (K := 12) rfl (by kernel_rfl) (by kernel_rfl) (by kernel_rfl) rfl (by omega) W) hs0 ?_
  refine hx_take (i := 18) (oi := _) (v := .pointer (some ⟨gb, go + 0 * 12, none⟩)) rfl rfl hns (by kernel_rfl) (by kernel_rfl) hQ (by kernel_rfl) (fun _ _ => by kernel_rfl) hs0 ?_
  refine hx_take (i := 19) (oi := _) (v := .agg #[.string ⟨a_s.toArray⟩, .string ⟨a_p.toArray⟩, .int .i64 a_n, .bool a_v0, .string ⟨a_l0.toArray⟩, .bool a_v1, .string ⟨a_l1.toArray⟩, .bool a_v2, .string ⟨a_l2.toArray⟩, .bool a_v3, .string ⟨a_l3.toArray⟩]) rfl rfl hns (by kernel_rfl) (by kernel_rfl) hQ (by kernel_rfl) (fun W hW => ld_at rfl (by kernel_rfl) (by kernel_rfl) (by kernel_rfl) W (hRa.next hW)) hs0 ?_
  refine hx_take (i := 20) (oi := _) (v := .agg #[.string ⟨a_s.toArray⟩, .string ⟨a_p.toArray⟩, .int .i64 a_n, .bool a_v0, .string ⟨a_l0.toArray⟩, .bool a_v1, .string ⟨a_l1.toArray⟩, .bool a_v2, .string ⟨a_l2.toArray⟩, .bool a_v3, .string ⟨a_l3.toArray⟩]) rfl rfl hns (by kernel_rfl) (by kernel_rfl) hQ (by kernel_rfl) (fun W hW => ld_at rfl (by kernel_rfl) (by kernel_rfl) (by kernel_rfl) W (hA10.next hW)) hs0 ?_
  refine hx_take (i := 21) (oi := _) (v := .bool true) rfl rfl hns (by kernel_rfl) (by kernel_rfl) hQ (by kernel_rfl) (fun W _ => eqs_atm a_s a_p a_n a_v0 a_v1 a_v2 a_v3 a_l0 a_l1 a_l2 a_l3 rfl (by kernel_rfl) (by kernel_rfl) W) hs0 ?_
  refine hx_take (i := 22) (oi := _) (v := .bool true) rfl rfl hns (by kernel_rfl) (by kernel_rfl) hQ (by kernel_rfl) (fun _ _ => by kernel_rfl) hs0 ?_
  refine hx_take (i := 23) (oi := _) (v := .bool true) rfl rfl hns (by kernel_rfl) (by kernel_rfl) hQ (by kernel_rfl) (fun _ _ => by kernel_rfl) hs0 ?_
  refine hx_take (i := 24) (oi := _) (v := .pointer (some ⟨pb, 5, none⟩)) rfl rfl hns (by kernel_rfl) (by kernel_rfl) hQ (by kernel_rfl) (fun _ _ => by kernel_rfl) hs0 ?_
  refine hx_take (i := 25) (oi := _) (v := .slice (some ⟨gb, go, none⟩) 1 e8) rfl rfl hns (by kernel_rfl) (by kernel_rfl) hQ (by kernel_rfl) (fun W hW => ld_one rfl (by kernel_rfl) (by kernel_rfl) W (hB10.next hW 5 _ rfl)) hs0 ?_
  refine hx_take (i := 26) (oi := _) (v := .pointer (some ⟨gb, go + 0 * 12, none⟩)) rfl rfl hns (by kernel_rfl) (by kernel_rfl) hQ (by kernel_rfl) (fun W _ => ix_sl (n := 1) (c := e8) (K := 12) rfl (by kernel_rfl) (by kernel_rfl) (by kernel_rfl) rfl (by omega) W) hs0 ?_
  refine hx_take (i := 27) (oi := _) (v := .pointer (some ⟨gb, go + 0 * 12 + 11, none⟩)) rfl rfl hns (by kernel_rfl) (by kernel_rfl) hQ (by kernel_rfl) (fun _ _ => by kernel_rfl) hs0 ?_
  refine hx_take (i := 28) (oi := _) (v := ru) rfl rfl hns (by kernel_rfl) (by kernel_rfl) hQ (by kernel_rfl) (fun W hW => ld_one rfl (by kernel_rfl) (by kernel_rfl) W (hR10.next hW 11 _ rfl)) hs0 ?_
  refine hx_take (i := 29) (oi := _) (v := .slice sa B.length sc) rfl rfl hns (by kernel_rfl) (by kernel_rfl) hQ (by kernel_rfl) (fun _ _ => by kernel_rfl) hs0 ?_
  refine hx_call (i := 30) (oi := _) 21 #[ru, .slice sa B.length sc] rfl rfl (by kernel_rfl) (by kernel_rfl) (by kernel_rfl) (HSM.out _ _ (anext hI10 hs0) (hS10.trans hs0)) ?_
  rintro e wx51 ⟨rfl, hb⟩
  have hs1 : Since w11 wx51 := hs0.trans hb
  clear hb
  refine ⟨_, rfl, hs1, ?_⟩
  refine hx_take (i := 31) (oi := _) (v := .bool true) rfl rfl hns (by kernel_rfl) (by kernel_rfl) hQ (by kernel_rfl) (fun _ _ => by kernel_rfl) hs1 ?_
  refine hx_take (i := 32) (oi := _) (v := .bool true) rfl rfl hns (by kernel_rfl) (by kernel_rfl) hQ (by kernel_rfl) (fun _ _ => by kernel_rfl) hs1 ?_
  refine hx_take (i := 33) (oi := _) (v := .int .i64 0) rfl rfl hns (by kernel_rfl) (by kernel_rfl) hQ (by kernel_rfl) (fun _ _ => by kernel_rfl) hs1 ?_
  refine hx_take (i := 34) (oi := _) (v := .bool true) rfl rfl hns (by kernel_rfl) (by kernel_rfl) hQ (by kernel_rfl) (fun W _ => eqs_intE (s := 0) rfl (by kernel_rfl) (by kernel_rfl) W) hs1 ?_
  refine hx_take (i := 35) (oi := _) (v := .bool true) rfl rfl hns (by kernel_rfl) (by kernel_rfl) hQ (by kernel_rfl) (fun _ _ => by kernel_rfl) hs1 ?_
  refine hx_take (i := 36) (oi := _) (v := .bool true) rfl rfl hns (by kernel_rfl) (by kernel_rfl) hQ (by kernel_rfl) (fun _ _ => by kernel_rfl) hs1 ?_
  refine hx_take (i := 37) (oi := _) (v := .pointer (some ⟨gB, 6, none⟩)) rfl rfl hns (by kernel_rfl) (by kernel_rfl) hQ (by kernel_rfl) (fun _ _ => by kernel_rfl) hs1 ?_
  refine hx_take (i := 38) (oi := _) (v := .slice (some ⟨kb, ko, none⟩) 1 ky) rfl rfl hns (by kernel_rfl) (by kernel_rfl) hQ (by kernel_rfl) (fun W hW => ld_one rfl (by kernel_rfl) (by kernel_rfl) W (hQ10.next hW 6 _ rfl)) hs1 ?_
  refine hx_take (i := 39) (oi := _) (v := .int .i64 1) rfl rfl hns (by kernel_rfl) (by kernel_rfl) hQ (by kernel_rfl) (fun _ _ => by kernel_rfl) hs1 ?_
  refine hx_take (i := 40) (oi := _) (v := .bool true) rfl rfl hns (by kernel_rfl) (by kernel_rfl) hQ (by kernel_rfl) (fun W _ => eqs_int (s := 1) rfl (by kernel_rfl) (by kernel_rfl) W) hs1 ?_
  refine hx_take (i := 41) (oi := _) (v := .bool true) rfl rfl hns (by kernel_rfl) (by kernel_rfl) hQ (by kernel_rfl) (fun _ _ => by kernel_rfl) hs1 ?_
  refine hx_take (i := 42) (oi := _) (v := .bool true) rfl rfl hns (by kernel_rfl) (by kernel_rfl) hQ (by kernel_rfl) (fun _ _ => by kernel_rfl) hs1 ?_
  refine hx_take (i := 43) (oi := _) (v := .pointer (some ⟨gB, 5, none⟩)) rfl rfl hns (by kernel_rfl) (by kernel_rfl) hQ (by kernel_rfl) (fun _ _ => by kernel_rfl) hs1 ?_
  refine hx_take (i := 44) (oi := _) (v := .slice x8 0 y8) rfl rfl hns (by kernel_rfl) (by kernel_rfl) hQ (by kernel_rfl) (fun W hW => ld_one rfl (by kernel_rfl) (by kernel_rfl) W (hQ10.next hW 5 _ rfl)) hs1 ?_
  refine hx_take (i := 45) (oi := _) (v := .int .i64 0) rfl rfl hns (by kernel_rfl) (by kernel_rfl) hQ (by kernel_rfl) (fun _ _ => by kernel_rfl) hs1 ?_
  refine hx_take (i := 46) (oi := _) (v := .bool true) rfl rfl hns (by kernel_rfl) (by kernel_rfl) hQ (by kernel_rfl) (fun W _ => eqs_int (s := 0) rfl (by kernel_rfl) (by kernel_rfl) W) hs1 ?_
  refine hx_take (i := 47) (oi := _) (v := .bool true) rfl rfl hns (by kernel_rfl) (by kernel_rfl) hQ (by kernel_rfl) (fun _ _ => by kernel_rfl) hs1 ?_
  refine hx_take (i := 48) (oi := _) (v := .bool true) rfl rfl hns (by kernel_rfl) (by kernel_rfl) hQ (by kernel_rfl) (fun _ _ => by kernel_rfl) hs1 ?_
  refine hx_take (i := 49) (oi := _) (v := .pointer (some ⟨gB, 6, none⟩)) rfl rfl hns (by kernel_rfl) (by kernel_rfl) hQ (by kernel_rfl) (fun _ _ => by kernel_rfl) hs1 ?_
  refine hx_take (i := 50) (oi := _) (v := .slice (some ⟨kb, ko, none⟩) 1 ky) rfl rfl hns (by kernel_rfl) (by kernel_rfl) hQ (by kernel_rfl) (fun W hW => ld_one rfl (by kernel_rfl) (by kernel_rfl) W (hQ10.next hW 6 _ rfl)) hs1 ?_
  refine hx_take (i := 51) (oi := _) (v := .pointer (some ⟨kb, ko + 0 * 13, none⟩)) rfl rfl hns (by kernel_rfl) (by kernel_rfl) hQ (by kernel_rfl) (fun W _ => ix_sl (n := 1) (c := ky) (K := 13) rfl (by kernel_rfl) (by kernel_rfl) (by kernel_rfl) rfl (by omega) W) hs1 ?_
  refine hx_take (i := 52) (oi := _) (v := .pointer (some ⟨kb, ko + 0 * 13, none⟩)) rfl rfl hns (by kernel_rfl) (by kernel_rfl) hQ (by kernel_rfl) (fun _ _ => by kernel_rfl) hs1 ?_
  refine hx_take (i := 53) (oi := _) (v := .string ⟨t.toArray⟩) rfl rfl hns (by kernel_rfl) (by kernel_rfl) hQ (by kernel_rfl) (fun W hW => ld_one rfl (by kernel_rfl) (by kernel_rfl) W (hG10.next hW 0 _ rfl)) hs1 ?_
  refine hx_take (i := 54) (oi := _) (v := .string ⟨t.toArray⟩) rfl rfl hns (by kernel_rfl) (by kernel_rfl) hQ (by kernel_rfl) (fun _ _ => by kernel_rfl) hs1 ?_
  refine hx_take (i := 55) (oi := _) (v := .bool true) rfl rfl hns (by kernel_rfl) (by kernel_rfl) hQ (by kernel_rfl) (fun W _ => eqs_txt (s := t) rfl (by kernel_rfl) (by kernel_rfl) W) hs1 ?_
  refine hx_take (i := 56) (oi := _) (v := .bool true) rfl rfl hns (by kernel_rfl) (by kernel_rfl) hQ (by kernel_rfl) (fun _ _ => by kernel_rfl) hs1 ?_
  refine hx_take (i := 57) (oi := _) (v := .bool true) rfl rfl hns (by kernel_rfl) (by kernel_rfl) hQ (by kernel_rfl) (fun _ _ => by kernel_rfl) hs1 ?_
  refine hx_take (i := 58) (oi := _) (v := .pointer (some ⟨gB, 6, none⟩)) rfl rfl hns (by kernel_rfl) (by kernel_rfl) hQ (by kernel_rfl) (fun _ _ => by kernel_rfl) hs1 ?_
  refine hx_take (i := 59) (oi := _) (v := .slice (some ⟨kb, ko, none⟩) 1 ky) rfl rfl hns (by kernel_rfl) (by kernel_rfl) hQ (by kernel_rfl) (fun W hW => ld_one rfl (by kernel_rfl) (by kernel_rfl) W (hQ10.next hW 6 _ rfl)) hs1 ?_
  refine hx_take (i := 60) (oi := _) (v := .pointer (some ⟨kb, ko + 0 * 13, none⟩)) rfl rfl hns (by kernel_rfl) (by kernel_rfl) hQ (by kernel_rfl) (fun W _ => ix_sl (n := 1) (c := ky) (K := 13) rfl (by kernel_rfl) (by kernel_rfl) (by kernel_rfl) rfl (by omega) W) hs1 ?_
  refine hx_take (i := 61) (oi := _) (v := .pointer (some ⟨kb, ko + 0 * 13 + 1, none⟩)) rfl rfl hns (by kernel_rfl) (by kernel_rfl) hQ (by kernel_rfl) (fun _ _ => by kernel_rfl) hs1 ?_
  refine hx_take (i := 62) (oi := _) (v := .agg #[.string ⟨a_s.toArray⟩, .string ⟨a_p.toArray⟩, .int .i64 a_n, .bool a_v0, .string ⟨a_l0.toArray⟩, .bool a_v1, .string ⟨a_l1.toArray⟩, .bool a_v2, .string ⟨a_l2.toArray⟩, .bool a_v3, .string ⟨a_l3.toArray⟩]) rfl rfl hns (by kernel_rfl) (by kernel_rfl) hQ (by kernel_rfl) (fun W hW => ld_at rfl (by kernel_rfl) (by kernel_rfl) (by kernel_rfl) W (hGa.next hW)) hs1 ?_
  refine hx_take (i := 63) (oi := _) (v := .agg #[.string ⟨a_s.toArray⟩, .string ⟨a_p.toArray⟩, .int .i64 a_n, .bool a_v0, .string ⟨a_l0.toArray⟩, .bool a_v1, .string ⟨a_l1.toArray⟩, .bool a_v2, .string ⟨a_l2.toArray⟩, .bool a_v3, .string ⟨a_l3.toArray⟩]) rfl rfl hns (by kernel_rfl) (by kernel_rfl) hQ (by kernel_rfl) (fun W hW => ld_at rfl (by kernel_rfl) (by kernel_rfl) (by kernel_rfl) W (hA10.next hW)) hs1 ?_
  refine hx_take (i := 64) (oi := _) (v := .bool true) rfl rfl hns (by kernel_rfl) (by kernel_rfl) hQ (by kernel_rfl) (fun W _ => eqs_atm a_s a_p a_n a_v0 a_v1 a_v2 a_v3 a_l0 a_l1 a_l2 a_l3 rfl (by kernel_rfl) (by kernel_rfl) W) hs1 ?_
  refine hx_take (i := 65) (oi := _) (v := .bool true) rfl rfl hns (by kernel_rfl) (by kernel_rfl) hQ (by kernel_rfl) (fun _ _ => by kernel_rfl) hs1 ?_
  refine hx_take (i := 66) (oi := _) (v := .bool true) rfl rfl hns (by kernel_rfl) (by kernel_rfl) hQ (by kernel_rfl) (fun _ _ => by kernel_rfl) hs1 ?_
  refine hx_take (i := 67) (oi := _) (v := .pointer (some ⟨gB, 6, none⟩)) rfl rfl hns (by kernel_rfl) (by kernel_rfl) hQ (by kernel_rfl) (fun _ _ => by kernel_rfl) hs1 ?_
  refine hx_take (i := 68) (oi := _) (v := .slice (some ⟨kb, ko, none⟩) 1 ky) rfl rfl hns (by kernel_rfl) (by kernel_rfl) hQ (by kernel_rfl) (fun W hW => ld_one rfl (by kernel_rfl) (by kernel_rfl) W (hQ10.next hW 6 _ rfl)) hs1 ?_
  refine hx_take (i := 69) (oi := _) (v := .pointer (some ⟨kb, ko + 0 * 13, none⟩)) rfl rfl hns (by kernel_rfl) (by kernel_rfl) hQ (by kernel_rfl) (fun W _ => ix_sl (n := 1) (c := ky) (K := 13) rfl (by kernel_rfl) (by kernel_rfl) (by kernel_rfl) rfl (by omega) W) hs1 ?_
  refine hx_take (i := 70) (oi := _) (v := .pointer (some ⟨kb, ko + 0 * 13 + 12, none⟩)) rfl rfl hns (by kernel_rfl) (by kernel_rfl) hQ (by kernel_rfl) (fun _ _ => by kernel_rfl) hs1 ?_
  refine hx_take (i := 71) (oi := _) (v := gu) rfl rfl hns (by kernel_rfl) (by kernel_rfl) hQ (by kernel_rfl) (fun W hW => ld_one rfl (by kernel_rfl) (by kernel_rfl) W (hG10.next hW 12 _ rfl)) hs1 ?_
  refine hx_take (i := 72) (oi := _) (v := .slice sa B.length sc) rfl rfl hns (by kernel_rfl) (by kernel_rfl) hQ (by kernel_rfl) (fun _ _ => by kernel_rfl) hs1 ?_
  refine hx_call (i := 73) (oi := _) 21 #[gu, .slice sa B.length sc] rfl rfl (by kernel_rfl) (by kernel_rfl) (by kernel_rfl) (HSM.out _ _ (anext hJ10 hs1) (hS10.trans hs1)) ?_
  rintro e wx52 ⟨rfl, hb⟩
  have hs2 : Since w11 wx52 := hs1.trans hb
  clear hb
  refine ⟨_, rfl, hs2, ?_⟩
  refine hx_take (i := 74) (oi := _) (v := .bool true) rfl rfl hns (by kernel_rfl) (by kernel_rfl) hQ (by kernel_rfl) (fun _ _ => by kernel_rfl) hs2 ?_
  refine hx_take (i := 75) (oi := _) (v := .bool true) rfl rfl hns (by kernel_rfl) (by kernel_rfl) hQ (by kernel_rfl) (fun _ _ => by kernel_rfl) hs2 ?_
  refine wpAnyH_done (by kernel_rfl) ?_ _
  clear hns hQ
  simp only [List.set_cons_zero, List.set_cons_succ]
  go_wp2_with fail
  exact hgood.out _ (hS10.trans hs2)
end Go.Proofs.YtnfjjckbgnieeaaGreatDoor
