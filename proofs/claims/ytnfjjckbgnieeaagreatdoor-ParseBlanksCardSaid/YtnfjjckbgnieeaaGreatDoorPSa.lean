/- vouchsafekit: LightAtoms; Same of equal lists of atoms, of declarations, of texts; SameRule. -/
import Derived.Test.YtnfjjckbgnieeaaGreatDoorParN
import Derived.Test.YtnfjjckbgnieeaaGreatDoorRows0
namespace Go.Proofs.YtnfjjckbgnieeaaGreatDoor
open Go.RowKit
attribute [local go_sem ↓] run_termEq' run_atomEq
attribute [local go_sem] eqA_self eqT_self

def lightAs (most : Int) (L : List Atm) : Bool := if most < (L.length : Int) then false else L.all lightB
set_option maxHeartbeats 2000000 in
set_option maxRecDepth 100000 in
theorem lightatoms_any (v : Value) (most : Int) (L : List Atm) (w : World) (hT : ARow w v L) (hmo : most ≤ 1000000) :
    Calls Tryz.prog 18 #[v, .int .i64 most] w fun e w' => e = .returned (.bool (lightAs most L)) ∧ Since w w' := by
  obtain ⟨a, c, rfl⟩ := hT.slice
  have HT := Lib.hid hT
  clear hT
  by_cases hm : most < (L.length : Int)
  · go_enter Tryz.func18, Tryz.ntmps18
    go_wp2_with fail
    go_ret
    exact ⟨ret_bool (by rw [lightAs, if_pos hm]), Since.refl _⟩
  · have lm : L.length ≤ 1000000 := by omega
    obtain ⟨R, hR⟩ : ∃ R, Hid (R = lightAs most L) := ⟨_, rfl⟩
    rw [← hR.out]
    have hR0 : Hid (R = (L.drop 0).all lightB) := by show _ = _; rw [hR.out, lightAs, if_neg hm]; rfl
    clear hR
    go_enter Tryz.func18, Tryz.ntmps18
    go_wp2_with fail
    go_loopw [5] (fun m wr => ∃ k : Nat, k ≤ L.length ∧ m = .int .i64 (k : Int) ∧ Hid (R = (L.drop k).all lightB) ∧ Since w wr) (fun m _ => L.length - (intOf m).toNat)
    case atStart => exact ⟨0, by omega, rfl, hR0, Since.refl _⟩
    case round =>
      obtain ⟨k, hk, rfl, hF, hSr⟩ := hrel
      by_cases hlt : k < L.length
      · have hlt2 : (k : Int) < (L.length : Int) := by omega
        have hlt0 : (0 : Int) ≤ (k : Int) := by omega
        obtain ⟨b, o, rfl, hc, hat⟩ := (anext HT.out hSr).get (by omega)
        have d1 := hat k hlt
        have hnx : Hid (R = (lightB L[k] && (L.drop (k + 1)).all lightB)) := by
          show _ = _
          rw [hF.out, List.drop_eq_getElem_cons hlt, List.all_cons]
        obtain ⟨x, hx⟩ : ∃ x, Hid (x = L[k]) := ⟨L[k], rfl⟩
        rw [← hx.out] at d1 hnx
        obtain ⟨a_s, a_p, a_n, ⟨a_v0, a_l0⟩, ⟨a_v1, a_l1⟩, ⟨a_v2, a_l2⟩, ⟨a_v3, a_l3⟩⟩ := x
        obtain ⟨a_c0, a_c1, a_c2, a_c3, a_c4, a_c5, a_c6, a_c7, a_c8, a_c9, a_c10⟩ := d1.all
        clear hat hF d1
        obtain ⟨B, hB⟩ : ∃ B, Hid (B = lightB ((a_s, a_p, a_n, (a_v0, a_l0), (a_v1, a_l1), (a_v2, a_l2), (a_v3, a_l3)) : Atm)) := ⟨_, rfl⟩
        have HL := Lib.hid (light_any a_s a_p a_n a_v0 a_v1 a_v2 a_v3 a_l0 a_l1 a_l2 a_l3 wr)
        rw [← hB.out] at HL hnx
        cases B
        · have e : Hid (R = false) := by show _ = _; rw [hnx.out]; rfl
          have e2 := e.out
          subst e2
          go_wp2_with fail
          refine HL.out.mono ?_
          rintro e w2 ⟨rfl, hb⟩
          go_wp2_with fail
          go_ret
          exact ⟨rfl, hSr.trans hb⟩
        · have e : Hid (R = (L.drop (k + 1)).all lightB) := by show _ = _; rw [hnx.out, Bool.true_and]
          go_wp2_with fail
          refine HL.out.mono ?_
          rintro e w2 ⟨rfl, hb⟩
          go_wp2_with fail
          go_roundw
          case rel => exact ⟨k + 1, by omega, by go_num, e, hSr.trans hb⟩
          case measure => simp [intOf]; omega
      · have hlt2 : ¬ (k : Int) < (L.length : Int) := by omega
        have e : Hid (R = true) := by show _ = _; rw [hF.out, List.drop_eq_nil_of_le (by omega)]; rfl
        have e2 := e.out
        subst e2
        go_wp2_with fail
        go_ret
        exact ⟨rfl, hSr⟩
def lightX (x : Stp) : Bool := lightB x.1 && !decide ((20 : Int) < (x.2.2.length : Int))
def lightSB (L : List Stp) : Bool := !decide ((40 : Int) < (L.length : Int)) && L.all lightX
set_option maxHeartbeats 1000000 in
set_option maxRecDepth 100000 in
theorem neqg_sameA {o : Oper} {x y : Operand} {ev : Operand → Value} (a_s a_p : List UInt8) (a_n : Int) (a_v0 a_v1 a_v2 a_v3 : Bool) (a_l0 a_l1 a_l2 a_l3 : List UInt8) (ho : o.op = Op.binOp .neq 44 x y 44) (hx : ev x = .agg #[.string ⟨a_s.toArray⟩, .string ⟨a_p.toArray⟩, .int .i64 a_n, .bool a_v0, .string ⟨a_l0.toArray⟩, .bool a_v1, .string ⟨a_l1.toArray⟩, .bool a_v2, .string ⟨a_l2.toArray⟩, .bool a_v3, .string ⟨a_l3.toArray⟩]) (hy : ev y = .agg #[.string ⟨a_s.toArray⟩, .string ⟨a_p.toArray⟩, .int .i64 a_n, .bool a_v0, .string ⟨a_l0.toArray⟩, .bool a_v1, .string ⟨a_l1.toArray⟩, .bool a_v2, .string ⟨a_l2.toArray⟩, .bool a_v3, .string ⟨a_l3.toArray⟩]) (W : World) :
    (execOp ev o).run Tryz.prog W = .ok (.value (.bool false)) W := by
  simp only [execOp, ho]
  go_simp
set_option maxHeartbeats 4000000 in
set_option maxRecDepth 100000 in
theorem same_atms (v1 v2 : Value) (L : List Atm) (w : World) (h1 : ARow w v1 L) (h2 : ARow w v2 L) (hm : L.length ≤ 1000000) :
    Calls Tryz.prog 21 #[v1, v2] w fun e w' => e = .returned (.bool true) ∧ Since w w' := by
  obtain ⟨a1, c1, rfl⟩ := h1.slice
  obtain ⟨a2, c2, rfl⟩ := h2.slice
  have H1 := Lib.hid h1
  have H2 := Lib.hid h2
  clear h1 h2
  go_enter Tryz.func21, Tryz.ntmps21
  go_wp2_with fail
  go_loopw [5] (fun i wr => ∃ k : Nat, k ≤ L.length ∧ i = .int .i64 (k : Int) ∧ Since w wr) (fun i _ => L.length - (intOf i).toNat)
  case atStart => exact ⟨0, Nat.zero_le _, rfl, Since.refl _⟩
  case round =>
  rename World => w1
  obtain ⟨k, hk, rfl, hS⟩ := hrel
  by_cases hlt : k < L.length
  · have hlt2 : (k : Int) < (L.length : Int) := by omega
    have hlt0 : (0 : Int) ≤ (k : Int) := by omega
    obtain ⟨b, ob, e1, hc, hat⟩ := H1.out.get (by omega)
    obtain ⟨d, od, e2, hd, hau⟩ := H2.out.get (by omega)
    have d1 := hat k hlt
    have d2 := hau k hlt
    obtain ⟨⟨x_s, x_p, x_n, ⟨x_v0, x_l0⟩, ⟨x_v1, x_l1⟩, ⟨x_v2, x_l2⟩, ⟨x_v3, x_l3⟩⟩, hx⟩ : ∃ x, Hid (x = L[k]) := ⟨L[k], rfl⟩
    rw [← hx.out] at d1 d2
    have xA0 : At w b (ob + k * 11) #[.string ⟨x_s.toArray⟩, .string ⟨x_p.toArray⟩, .int .i64 x_n, .bool x_v0, .string ⟨x_l0.toArray⟩, .bool x_v1, .string ⟨x_l1.toArray⟩, .bool x_v2, .string ⟨x_l2.toArray⟩, .bool x_v3, .string ⟨x_l3.toArray⟩] := d1
    have yA0 : At w d (od + k * 11) #[.string ⟨x_s.toArray⟩, .string ⟨x_p.toArray⟩, .int .i64 x_n, .bool x_v0, .string ⟨x_l0.toArray⟩, .bool x_v1, .string ⟨x_l1.toArray⟩, .bool x_v2, .string ⟨x_l2.toArray⟩, .bool x_v3, .string ⟨x_l3.toArray⟩] := d2
    have xA := xA0.next hS
    have yA := yA0.next hS
    subst e1 e2
    clear hat hau d1 d2 xA0 yA0
    go_wp2_with fail
    replace hS := hS.trans ((Since.refl w1).drew)
    replace xA := xA.next ((Since.refl w1).drew)
    replace yA := yA.next ((Since.refl w1).drew)
    refine hx_begin (S := fun W => (Since w W) ∧ (At W b (ob + k * 11) #[.string ⟨x_s.toArray⟩, .string ⟨x_p.toArray⟩, .int .i64 x_n, .bool x_v0, .string ⟨x_l0.toArray⟩, .bool x_v1, .string ⟨x_l1.toArray⟩, .bool x_v2, .string ⟨x_l2.toArray⟩, .bool x_v3, .string ⟨x_l3.toArray⟩]) ∧ (At W d (od + k * 11) #[.string ⟨x_s.toArray⟩, .string ⟨x_p.toArray⟩, .int .i64 x_n, .bool x_v0, .string ⟨x_l0.toArray⟩, .bool x_v1, .string ⟨x_l1.toArray⟩, .bool x_v2, .string ⟨x_l2.toArray⟩, .bool x_v3, .string ⟨x_l3.toArray⟩])) (by kernel_rfl) ⟨hS, xA, yA⟩ (by kernel_rfl) (fun _ _ _ _ _ h => h) (fun hns hQ => ?_)
    refine hx_take (i := 0) (oi := _) (v := .slice (some ⟨b, ob, none⟩) L.length c1) rfl rfl hns (by kernel_rfl) (by kernel_rfl) hQ (by kernel_rfl) (fun _ _ => by kernel_rfl) ⟨hS, xA, yA⟩ ?_
    refine hx_take (i := 1) (oi := _) (v := .int .i64 (k : Int)) rfl rfl hns (by kernel_rfl) (by kernel_rfl) hQ (by kernel_rfl) (fun _ _ => by kernel_rfl) ⟨hS, xA, yA⟩ ?_
    refine hx_take (i := 2) (oi := _) (v := .pointer (some ⟨b, ob + k * 11, none⟩)) rfl rfl hns (by kernel_rfl) (by kernel_rfl) hQ (by kernel_rfl) (fun W _ => ix_sl (n := L.length) (c := c1) (K := 11) rfl (by kernel_rfl) (by kernel_rfl) (by kernel_rfl) rfl hlt W) ⟨hS, xA, yA⟩ ?_
    refine hx_take (i := 3) (oi := _) (v := .agg #[.string ⟨x_s.toArray⟩, .string ⟨x_p.toArray⟩, .int .i64 x_n, .bool x_v0, .string ⟨x_l0.toArray⟩, .bool x_v1, .string ⟨x_l1.toArray⟩, .bool x_v2, .string ⟨x_l2.toArray⟩, .bool x_v3, .string ⟨x_l3.toArray⟩]) rfl rfl hns (by kernel_rfl) (by kernel_rfl) hQ (by kernel_rfl) (fun W hW => ld_at rfl (by kernel_rfl) (by kernel_rfl) (by kernel_rfl) W (hW.2.1)) ⟨hS, xA, yA⟩ ?_
    refine hx_take (i := 4) (oi := _) (v := .slice (some ⟨d, od, none⟩) L.length c2) rfl rfl hns (by kernel_rfl) (by kernel_rfl) hQ (by kernel_rfl) (fun _ _ => by kernel_rfl) ⟨hS, xA, yA⟩ ?_
    refine hx_take (i := 5) (oi := _) (v := .int .i64 (k : Int)) rfl rfl hns (by kernel_rfl) (by kernel_rfl) hQ (by kernel_rfl) (fun _ _ => by kernel_rfl) ⟨hS, xA, yA⟩ ?_
    refine hx_take (i := 6) (oi := _) (v := .pointer (some ⟨d, od + k * 11, none⟩)) rfl rfl hns (by kernel_rfl) (by kernel_rfl) hQ (by kernel_rfl) (fun W _ => ix_sl (n := L.length) (c := c2) (K := 11) rfl (by kernel_rfl) (by kernel_rfl) (by kernel_rfl) rfl hlt W) ⟨hS, xA, yA⟩ ?_
    refine hx_take (i := 7) (oi := _) (v := .agg #[.string ⟨x_s.toArray⟩, .string ⟨x_p.toArray⟩, .int .i64 x_n, .bool x_v0, .string ⟨x_l0.toArray⟩, .bool x_v1, .string ⟨x_l1.toArray⟩, .bool x_v2, .string ⟨x_l2.toArray⟩, .bool x_v3, .string ⟨x_l3.toArray⟩]) rfl rfl hns (by kernel_rfl) (by kernel_rfl) hQ (by kernel_rfl) (fun W hW => ld_at rfl (by kernel_rfl) (by kernel_rfl) (by kernel_rfl) W (hW.2.2)) ⟨hS, xA, yA⟩ ?_
    refine hx_take (i := 8) (oi := _) (v := .bool false) rfl rfl hns (by kernel_rfl) (by kernel_rfl) hQ (by kernel_rfl) (fun W _ => neqg_sameA x_s x_p x_n x_v0 x_v1 x_v2 x_v3 x_l0 x_l1 x_l2 x_l3 rfl (by kernel_rfl) (by kernel_rfl) W) ⟨hS, xA, yA⟩ ?_
    refine wpAnyH_done (by kernel_rfl) ?_ _
    clear hns hQ
    simp only [List.set_cons_zero, List.set_cons_succ]
    clear xA yA
    go_wp2_with fail
    go_roundw
    case rel => exact ⟨k + 1, by omega, by go_num, hS⟩
    case measure => simp [intOf]; omega
  have hlt2 : ¬ (k : Int) < (L.length : Int) := by omega
  go_wp2_with fail
  go_ret
  exact ⟨rfl, hS⟩
set_option maxHeartbeats 1000000 in
theorem neqg_samePd {o : Oper} {x y : Operand} {ev : Operand → Value} (l : List UInt8) (n : Int) (ho : o.op = Op.binOp .neq 36 x y 36) (hx : ev x = .agg #[.string ⟨l.toArray⟩, .int .i64 n]) (hy : ev y = .agg #[.string ⟨l.toArray⟩, .int .i64 n]) (W : World) :
    (execOp ev o).run Tryz.prog W = .ok (.value (.bool false)) W := by
  simp only [execOp, ho]
  go_simp
set_option maxHeartbeats 4000000 in
set_option maxRecDepth 100000 in
theorem same_prds (v1 v2 : Value) (L : List (Txt × Int)) (w : World) (h1 : PRow w v1 L) (h2 : PRow w v2 L) (hm : L.length ≤ 1000000) :
    Calls Tryz.prog 40 #[v1, v2] w fun e w' => e = .returned (.bool true) ∧ Since w w' := by
  obtain ⟨a1, c1, rfl⟩ := h1.slice
  obtain ⟨a2, c2, rfl⟩ := h2.slice
  have H1 := Lib.hid h1
  have H2 := Lib.hid h2
  clear h1 h2
  go_enter Tryz.func40, Tryz.ntmps40
  go_wp2_with fail
  go_loopw [5] (fun i wr => ∃ k : Nat, k ≤ L.length ∧ i = .int .i64 (k : Int) ∧ Since w wr) (fun i _ => L.length - (intOf i).toNat)
  case atStart => exact ⟨0, Nat.zero_le _, rfl, Since.refl _⟩
  case round =>
  rename World => w1
  obtain ⟨k, hk, rfl, hS⟩ := hrel
  by_cases hlt : k < L.length
  · have hlt2 : (k : Int) < (L.length : Int) := by omega
    have hlt0 : (0 : Int) ≤ (k : Int) := by omega
    obtain ⟨b, ob, e1, hc, hat⟩ := H1.out.get (by omega)
    obtain ⟨d, od, e2, hd, hau⟩ := H2.out.get (by omega)
    have d1 := hat k hlt
    have d2 := hau k hlt
    obtain ⟨⟨x_s, x_n⟩, hx⟩ : ∃ x, Hid (x = L[k]) := ⟨L[k], rfl⟩
    rw [← hx.out] at d1 d2
    have xA0 : At w b (ob + k * 2) #[.string ⟨x_s.toArray⟩, .int .i64 x_n] := at_two d1.1 d1.2
    have yA0 : At w d (od + k * 2) #[.string ⟨x_s.toArray⟩, .int .i64 x_n] := at_two d2.1 d2.2
    have xA := xA0.next hS
    have yA := yA0.next hS
    subst e1 e2
    clear hat hau d1 d2 xA0 yA0
    go_wp2_with fail
    replace hS := hS.trans ((Since.refl w1).drew)
    replace xA := xA.next ((Since.refl w1).drew)
    replace yA := yA.next ((Since.refl w1).drew)
    refine hx_begin (S := fun W => (Since w W) ∧ (At W b (ob + k * 2) #[.string ⟨x_s.toArray⟩, .int .i64 x_n]) ∧ (At W d (od + k * 2) #[.string ⟨x_s.toArray⟩, .int .i64 x_n])) (by kernel_rfl) ⟨hS, xA, yA⟩ (by kernel_rfl) (fun _ _ _ _ _ h => h) (fun hns hQ => ?_)
    refine hx_take (i := 0) (oi := _) (v := .slice (some ⟨b, ob, none⟩) L.length c1) rfl rfl hns (by kernel_rfl) (by kernel_rfl) hQ (by kernel_rfl) (fun _ _ => by kernel_rfl) ⟨hS, xA, yA⟩ ?_
    refine hx_take (i := 1) (oi := _) (v := .int .i64 (k : Int)) rfl rfl hns (by kernel_rfl) (by kernel_rfl) hQ (by kernel_rfl) (fun _ _ => by kernel_rfl) ⟨hS, xA, yA⟩ ?_
    refine hx_take (i := 2) (oi := _) (v := .pointer (some ⟨b, ob + k * 2, none⟩)) rfl rfl hns (by kernel_rfl) (by kernel_rfl) hQ (by kernel_rfl) (fun W _ => ix_sl (n := L.length) (c := c1) (K := 2) rfl (by kernel_rfl) (by kernel_rfl) (by kernel_rfl) rfl hlt W) ⟨hS, xA, yA⟩ ?_
    refine hx_take (i := 3) (oi := _) (v := .agg #[.string ⟨x_s.toArray⟩, .int .i64 x_n]) rfl rfl hns (by kernel_rfl) (by kernel_rfl) hQ (by kernel_rfl) (fun W hW => ld_at rfl (by kernel_rfl) (by kernel_rfl) (by kernel_rfl) W (hW.2.1)) ⟨hS, xA, yA⟩ ?_
    refine hx_take (i := 4) (oi := _) (v := .slice (some ⟨d, od, none⟩) L.length c2) rfl rfl hns (by kernel_rfl) (by kernel_rfl) hQ (by kernel_rfl) (fun _ _ => by kernel_rfl) ⟨hS, xA, yA⟩ ?_
    refine hx_take (i := 5) (oi := _) (v := .int .i64 (k : Int)) rfl rfl hns (by kernel_rfl) (by kernel_rfl) hQ (by kernel_rfl) (fun _ _ => by kernel_rfl) ⟨hS, xA, yA⟩ ?_
    refine hx_take (i := 6) (oi := _) (v := .pointer (some ⟨d, od + k * 2, none⟩)) rfl rfl hns (by kernel_rfl) (by kernel_rfl) hQ (by kernel_rfl) (fun W _ => ix_sl (n := L.length) (c := c2) (K := 2) rfl (by kernel_rfl) (by kernel_rfl) (by kernel_rfl) rfl hlt W) ⟨hS, xA, yA⟩ ?_
    refine hx_take (i := 7) (oi := _) (v := .agg #[.string ⟨x_s.toArray⟩, .int .i64 x_n]) rfl rfl hns (by kernel_rfl) (by kernel_rfl) hQ (by kernel_rfl) (fun W hW => ld_at rfl (by kernel_rfl) (by kernel_rfl) (by kernel_rfl) W (hW.2.2)) ⟨hS, xA, yA⟩ ?_
    refine hx_take (i := 8) (oi := _) (v := .bool false) rfl rfl hns (by kernel_rfl) (by kernel_rfl) hQ (by kernel_rfl) (fun W _ => neqg_samePd x_s x_n rfl (by kernel_rfl) (by kernel_rfl) W) ⟨hS, xA, yA⟩ ?_
    refine wpAnyH_done (by kernel_rfl) ?_ _
    clear hns hQ
    simp only [List.set_cons_zero, List.set_cons_succ]
    clear xA yA
    go_wp2_with fail
    go_roundw
    case rel => exact ⟨k + 1, by omega, by go_num, hS⟩
    case measure => simp [intOf]; omega
  have hlt2 : ¬ (k : Int) < (L.length : Int) := by omega
  go_wp2_with fail
  go_ret
  exact ⟨rfl, hS⟩
theorem cat_run2 {a b c : List UInt8} (h : a ++ b = c) (hl : c.length ≤ 1000000) (W : World) : (Op.stringOp .add ⟨a.toArray⟩ ⟨b.toArray⟩).run Tryz.prog W = .ok (.string ⟨c.toArray⟩) W := by
  refine run_cat ?_ ?_ W
  · rw [← h]; apply ByteArray.ext; simp
  · have : (a ++ b).length ≤ 1000000 := by rw [h]; exact hl
    rw [List.length_append] at this
    simpa [ByteArray.size] using this
/-- A policy's cells, as a call hands them back. -/
theorem pol_cells2 {W : World} {D : Nat} {c3 c4 c5 c6 c7 c8 c9 : Value} {P : Pol} {C : List (Clr × Value)} {U : List (Rul × Value)} {G : List (Grn × Value)} (h : POwn W D c3 c4 c5 c6 c7 c8 c9 P C U G) : ∃ a3 e3 a4 e4 a5 e5 a8 e8 a9 e9, c3 = .slice a3 P.pr.length e3 ∧ c4 = .slice a4 P.pd.length e4 ∧ c5 = .slice a5 P.cl.length e5 ∧ c6 = .int .i64 P.qu ∧ c7 = .int .i64 P.bu ∧ c8 = .slice a8 P.ru.length e8 ∧ c9 = .slice a9 P.gr.length e9 := by
  obtain ⟨a3, e3, h3⟩ := own_slice h.pr
  obtain ⟨a4, e4, h4⟩ := own_slice h.pd
  obtain ⟨a5, e5, h5⟩ := own_slice h.cl.row
  obtain ⟨a8, e8, h8⟩ := own_slice h.ru.row
  obtain ⟨a9, e9, h9⟩ := own_slice h.gr.row
  have l5 : C.length = P.cl.length := by rw [← h.eC, List.length_map]
  have l8 : U.length = P.ru.length := by rw [← h.eU, List.length_map]
  have l9 : G.length = P.gr.length := by rw [← h.eG, List.length_map]
  rw [l5] at h5; rw [l8] at h8; rw [l9] at h9
  exact ⟨a3, e3, a4, e4, a5, e5, a8, e8, a9, e9, h3, h4, h5, h.qu, h.bu, h8, h9⟩
theorem tx_flat : ∀ L : List Txt, L.flatMap txtL = L.map strV
  | [] => rfl
  | a :: r => by rw [List.flatMap_cons, List.map_cons, tx_flat r]; rfl
theorem tx_row {W : World} {D : Nat} {v : Value} {L : List Txt} (h : W.ownsRow D 9 1 v L.length (L.flatMap txtL)) : Row W v L.length (L.map strV) := by
  have h1 := row_of_own h
  rwa [tx_flat] at h1
/-- An element of a row of one's own. -/
theorem own_atk {α : Type} {W : World} {D : Nat} {e : TypeId} {K : Nat} {v : Value} {L : List α} {f : α → List Value} (h : W.ownsRow D e K v L.length (L.flatMap f)) (_hK : 0 < K) (hf : ∀ x, (f x).length = K) {k : Nat} (hk : k < L.length) : ∃ b o c, v = .slice (some ⟨b, o, none⟩) L.length c ∧ L.length ≤ c ∧ At W b (o + k * K) (f L[k]).toArray := by
  obtain ⟨b, o, c, h1, h2, h3⟩ := (row_of_own h).some (by omega)
  refine ⟨b, o, c, h1, h2, fun j u hu => ?_⟩
  have hj : j < K := by have := (Array.getElem?_eq_some_iff.1 hu).1; rw [List.size_toArray, hf] at this; exact this
  rw [List.getElem?_toArray, ← flat_at hf L k hk j hj] at hu
  obtain ⟨h4, h5⟩ := List.getElem?_eq_some_iff.1 hu
  rw [Nat.add_assoc, h3 _ h4, h5]
theorem atm_row {W : World} {D : Nat} {v : Value} {L : List Atm} (h : W.ownsRow D 44 11 v L.length (L.flatMap atmL)) : ARow W v L := by
  obtain ⟨a, c, rfl⟩ := own_slice h
  rcases Nat.eq_zero_or_pos L.length with h0 | h0
  · have : L = [] := List.eq_nil_of_length_eq_zero h0
    subst this
    exact KRow.nil _ _
  · obtain ⟨b, o, c', e1, h2, -⟩ := own_atk h (by decide) (fun _ => rfl) h0
    injection e1 with e1 _ e3
    subst e1; subst e3
    refine ⟨_, _, rfl, h2, fun _ => ⟨b, o, rfl, fun k hk => ?_⟩⟩
    obtain ⟨b', o', c'', e1, _, h3⟩ := own_atk h (by decide) (fun _ => rfl) hk
    injection e1 with e1
    injection e1 with e1
    injection e1 with e1 e2
    subst e1; subst e2
    exact h3
theorem prd_row {W : World} {D : Nat} {v : Value} {L : List (Txt × Int)} (h : W.ownsRow D 36 2 v L.length (L.flatMap prdL)) : PRow W v L := by
  obtain ⟨a, c, rfl⟩ := own_slice h
  rcases Nat.eq_zero_or_pos L.length with h0 | h0
  · have : L = [] := List.eq_nil_of_length_eq_zero h0
    subst this
    exact KRow.nil _ _
  · obtain ⟨b, o, c', e1, h2, -⟩ := own_atk h (by decide) (fun _ => rfl) h0
    injection e1 with e1 _ e3
    subst e1; subst e3
    refine ⟨_, _, rfl, h2, fun _ => ⟨b, o, rfl, fun k hk => ?_⟩⟩
    obtain ⟨b', o', c'', e1, _, h3⟩ := own_atk h (by decide) (fun _ => rfl) hk
    injection e1 with e1
    injection e1 with e1
    injection e1 with e1 e2
    subst e1; subst e2
    exact ⟨h3 0 _ rfl, h3 1 _ rfl⟩
set_option maxHeartbeats 2000000 in
set_option maxRecDepth 100000 in
theorem same_rule (a_s a_p : List UInt8) (a_n : Int) (a_v0 a_v1 a_v2 a_v3 : Bool) (a_l0 a_l1 a_l2 a_l3 : List UInt8) (v1 v2 : Value) (B : List Atm) (w : World) (h1 : ARow w v1 B) (h2 : ARow w v2 B) (hm : B.length ≤ 1000000) :
    Calls Tryz.prog 41 #[.agg #[.string ⟨a_s.toArray⟩, .string ⟨a_p.toArray⟩, .int .i64 a_n, .bool a_v0, .string ⟨a_l0.toArray⟩, .bool a_v1, .string ⟨a_l1.toArray⟩, .bool a_v2, .string ⟨a_l2.toArray⟩, .bool a_v3, .string ⟨a_l3.toArray⟩], .agg #[.string ⟨a_s.toArray⟩, .string ⟨a_p.toArray⟩, .int .i64 a_n, .bool a_v0, .string ⟨a_l0.toArray⟩, .bool a_v1, .string ⟨a_l1.toArray⟩, .bool a_v2, .string ⟨a_l2.toArray⟩, .bool a_v3, .string ⟨a_l3.toArray⟩], v1, v2] w fun e w' => e = .returned (.bool true) ∧ Since w w' := by
  have hS1 : Since w ((w.alloc (.cells #[.string ⟨a_s.toArray⟩, .string ⟨a_p.toArray⟩, .int .i64 a_n, .bool a_v0, .string ⟨a_l0.toArray⟩, .bool a_v1, .string ⟨a_l1.toArray⟩, .bool a_v2, .string ⟨a_l2.toArray⟩, .bool a_v3, .string ⟨a_l3.toArray⟩] 44)).alloc (.cells #[.string ⟨a_s.toArray⟩, .string ⟨a_p.toArray⟩, .int .i64 a_n, .bool a_v0, .string ⟨a_l0.toArray⟩, .bool a_v1, .string ⟨a_l1.toArray⟩, .bool a_v2, .string ⟨a_l2.toArray⟩, .bool a_v3, .string ⟨a_l3.toArray⟩] 44)) := ((Since.refl w).alloc _).alloc _
  have HC := Lib.hid (same_atms v1 v2 B _ (anext h1 hS1) (anext h2 hS1) hm)
  have HS := Lib.hid hS1
  clear h1 h2 hm hS1
  go_enter Tryz.func41, Tryz.ntmps41
  go_wp2_with fail
  refine HC.out.mono ?_
  rintro e w2 ⟨rfl, hb⟩
  go_wp2_with fail
  go_ret
  exact ⟨rfl, HS.out.trans hb⟩
end Go.Proofs.YtnfjjckbgnieeaaGreatDoor
