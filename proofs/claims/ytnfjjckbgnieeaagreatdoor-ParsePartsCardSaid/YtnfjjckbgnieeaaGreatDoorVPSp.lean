/- vouchsafekit.SamePolicy of equal policies. -/
import Derived.Test.YtnfjjckbgnieeaaGreatDoorVPTs
namespace Go.Proofs.YtnfjjckbgnieeaaGreatDoor
open Go.RowKit
attribute [local go_sem ↓] run_termEq' run_atomEq
attribute [local go_sem] eqA_self eqT_self

set_option maxHeartbeats 4000000 in
set_option maxRecDepth 100000 in
theorem same_atmsM (v1 v2 : Value) (L : List Atm) (w : World) (h1 : ARow w v1 L) (h2 : ARow w v2 L) (hm : L.length ≤ 9223372036854775807) :
    Calls Tryz.prog 21 #[v1, v2] w fun e w' => e = .returned (.bool true) ∧ Since w w' := by
  obtain ⟨a1, c1, rfl⟩ := h1.slice
  obtain ⟨a2, c2, rfl⟩ := h2.slice
  have H1 := Lib.hid h1
  have H2 := Lib.hid h2
  have HM := Lib.hid hm
  clear h1 h2 hm
  go_enter Tryz.func21, Tryz.ntmps21
  go_wp2_with fail
  go_loopw [5] (fun i wr => ∃ k : Nat, k ≤ L.length ∧ i = .int .i64 (k : Int) ∧ Since w wr) (fun i _ => L.length - (intOf i).toNat)
  case atStart => exact ⟨0, Nat.zero_le _, rfl, Since.refl _⟩
  case round =>
  rename World => w1
  obtain ⟨k, hk, rfl, hS⟩ := hrel
  by_cases hlt : k < L.length
  · have hlt2 : (k : Int) < (L.length : Int) := by omega
    have hlt0 : (0 : Int) ≤ (k : Int) := by omega
    have hk1 := wrap_step hlt HM.out
    obtain ⟨b, ob, e1, hc, hat⟩ := H1.out.get (by omega)
    obtain ⟨d, od, e2, hd, hau⟩ := H2.out.get (by omega)
    have d1 := hat k hlt
    have d2 := hau k hlt
    obtain ⟨⟨x_s, x_p, x_n, ⟨x_v0, x_l0⟩, ⟨x_v1, x_l1⟩, ⟨x_v2, x_l2⟩, ⟨x_v3, x_l3⟩⟩, hx⟩ : ∃ x, Hid (x = L[k]) := ⟨L[k], rfl⟩
    rw [← hx.out] at d1 d2
    have xA0 : At w b (ob + k * 11) #[.string ⟨x_s.toArray⟩, .string ⟨x_p.toArray⟩, .int .i64 x_n, .bool x_v0, .string ⟨x_l0.toArray⟩, .bool x_v1, .string ⟨x_l1.toArray⟩, .bool x_v2, .string ⟨x_l2.toArray⟩, .bool x_v3, .string ⟨x_l3.toArray⟩] := d1
    have yA0 : At w d (od + k * 11) #[.string ⟨x_s.toArray⟩, .string ⟨x_p.toArray⟩, .int .i64 x_n, .bool x_v0, .string ⟨x_l0.toArray⟩, .bool x_v1, .string ⟨x_l1.toArray⟩, .bool x_v2, .string ⟨x_l2.toArray⟩, .bool x_v3, .string ⟨x_l3.toArray⟩] := d2
    have xA := xA0.next hS
    have yA := yA0.next hS
    subst e1 e2
    clear hat hau d1 d2 xA0 yA0
    go_wp2_with fail
    replace hS := hS.trans ((Since.refl w1).drew)
    replace xA := xA.next ((Since.refl w1).drew)
    replace yA := yA.next ((Since.refl w1).drew)
    refine hx_begin (S := fun W => (Since w W) ∧ (At W b (ob + k * 11) #[.string ⟨x_s.toArray⟩, .string ⟨x_p.toArray⟩, .int .i64 x_n, .bool x_v0, .string ⟨x_l0.toArray⟩, .bool x_v1, .string ⟨x_l1.toArray⟩, .bool x_v2, .string ⟨x_l2.toArray⟩, .bool x_v3, .string ⟨x_l3.toArray⟩]) ∧ (At W d (od + k * 11) #[.string ⟨x_s.toArray⟩, .string ⟨x_p.toArray⟩, .int .i64 x_n, .bool x_v0, .string ⟨x_l0.toArray⟩, .bool x_v1, .string ⟨x_l1.toArray⟩, .bool x_v2, .string ⟨x_l2.toArray⟩, .bool x_v3, .string ⟨x_l3.toArray⟩])) (by kernel_rfl) ⟨hS, xA, yA⟩ (by kernel_rfl) (fun _ _ _ _ _ h => h) (fun hns hQ => ?_)
    refine hx_take (i := 0) (oi := _) (v := .slice (some ⟨b, ob, none⟩) L.length c1) rfl rfl hns (by kernel_rfl) (by kernel_rfl) hQ (by kernel_rfl) (fun _ _ => by kernel_rfl) ⟨hS, xA, yA⟩ ?_
    refine hx_take (i := 1) (oi := _) (v := .int .i64 (k : Int)) rfl rfl hns (by kernel_rfl) (by kernel_rfl) hQ (by kernel_rfl) (fun _ _ => by kernel_rfl) ⟨hS, xA, yA⟩ ?_
    refine hx_take (i := 2) (oi := _) (v := .pointer (some ⟨b, ob + k * 11, none⟩)) rfl rfl hns (by kernel_rfl) (by kernel_rfl) hQ (by kernel_rfl) (fun W _ => ix_sl (n := L.length) (c := c1) (K := 11) rfl (by kernel_rfl) (by kernel_rfl) (by kernel_rfl) rfl hlt W) ⟨hS, xA, yA⟩ ?_
    refine hx_take (i := 3) (oi := _) (v := .agg #[.string ⟨x_s.toArray⟩, .string ⟨x_p.toArray⟩, .int .i64 x_n, .bool x_v0, .string ⟨x_l0.toArray⟩, .bool x_v1, .string ⟨x_l1.toArray⟩, .bool x_v2, .string ⟨x_l2.toArray⟩, .bool x_v3, .string ⟨x_l3.toArray⟩]) rfl rfl hns (by kernel_rfl) (by kernel_rfl) hQ (by kernel_rfl) (fun W hW => ld_at rfl (by kernel_rfl) (by kernel_rfl) (by kernel_rfl) W (hW.2.1)) ⟨hS, xA, yA⟩ ?_
    refine hx_take (i := 4) (oi := _) (v := .slice (some ⟨d, od, none⟩) L.length c2) rfl rfl hns (by kernel_rfl) (by kernel_rfl) hQ (by kernel_rfl) (fun _ _ => by kernel_rfl) ⟨hS, xA, yA⟩ ?_
    refine hx_take (i := 5) (oi := _) (v := .int .i64 (k : Int)) rfl rfl hns (by kernel_rfl) (by kernel_rfl) hQ (by kernel_rfl) (fun _ _ => by kernel_rfl) ⟨hS, xA, yA⟩ ?_
    refine hx_take (i := 6) (oi := _) (v := .pointer (some ⟨d, od + k * 11, none⟩)) rfl rfl hns (by kernel_rfl) (by kernel_rfl) hQ (by kernel_rfl) (fun W _ => ix_sl (n := L.length) (c := c2) (K := 11) rfl (by kernel_rfl) (by kernel_rfl) (by kernel_rfl) rfl hlt W) ⟨hS, xA, yA⟩ ?_
    refine hx_take (i := 7) (oi := _) (v := .agg #[.string ⟨x_s.toArray⟩, .string ⟨x_p.toArray⟩, .int .i64 x_n, .bool x_v0, .string ⟨x_l0.toArray⟩, .bool x_v1, .string ⟨x_l1.toArray⟩, .bool x_v2, .string ⟨x_l2.toArray⟩, .bool x_v3, .string ⟨x_l3.toArray⟩]) rfl rfl hns (by kernel_rfl) (by kernel_rfl) hQ (by kernel_rfl) (fun W hW => ld_at rfl (by kernel_rfl) (by kernel_rfl) (by kernel_rfl) W (hW.2.2)) ⟨hS, xA, yA⟩ ?_
    refine hx_take (i := 8) (oi := _) (v := .bool false) rfl rfl hns (by kernel_rfl) (by kernel_rfl) hQ (by kernel_rfl) (fun W _ => neqg_sameA x_s x_p x_n x_v0 x_v1 x_v2 x_v3 x_l0 x_l1 x_l2 x_l3 rfl (by kernel_rfl) (by kernel_rfl) W) ⟨hS, xA, yA⟩ ?_
    refine wpAnyH_done (by kernel_rfl) ?_ _
    clear hns hQ
    simp only [List.set_cons_zero, List.set_cons_succ]
    clear xA yA
    go_wp2_with fail
    go_roundw
    case rel => exact ⟨k + 1, hlt, congrArg (Value.int .i64) (hk1.trans (cast_step k)), hS⟩
    case measure => rw [intOf_int, intOf_int]; exact meas_wrap hlt HM.out
  have hlt2 : ¬ (k : Int) < (L.length : Int) := by omega
  go_wp2_with fail
  go_ret
  exact ⟨rfl, hS⟩
set_option maxHeartbeats 4000000 in
set_option maxRecDepth 100000 in
theorem same_prdsM (v1 v2 : Value) (L : List (Txt × Int)) (w : World) (h1 : PRow w v1 L) (h2 : PRow w v2 L) (hm : L.length ≤ 9223372036854775807) :
    Calls Tryz.prog 40 #[v1, v2] w fun e w' => e = .returned (.bool true) ∧ Since w w' := by
  obtain ⟨a1, c1, rfl⟩ := h1.slice
  obtain ⟨a2, c2, rfl⟩ := h2.slice
  have H1 := Lib.hid h1
  have H2 := Lib.hid h2
  have HM := Lib.hid hm
  clear h1 h2 hm
  go_enter Tryz.func40, Tryz.ntmps40
  go_wp2_with fail
  go_loopw [5] (fun i wr => ∃ k : Nat, k ≤ L.length ∧ i = .int .i64 (k : Int) ∧ Since w wr) (fun i _ => L.length - (intOf i).toNat)
  case atStart => exact ⟨0, Nat.zero_le _, rfl, Since.refl _⟩
  case round =>
  rename World => w1
  obtain ⟨k, hk, rfl, hS⟩ := hrel
  by_cases hlt : k < L.length
  · have hlt2 : (k : Int) < (L.length : Int) := by omega
    have hlt0 : (0 : Int) ≤ (k : Int) := by omega
    have hk1 := wrap_step hlt HM.out
    obtain ⟨b, ob, e1, hc, hat⟩ := H1.out.get (by omega)
    obtain ⟨d, od, e2, hd, hau⟩ := H2.out.get (by omega)
    have d1 := hat k hlt
    have d2 := hau k hlt
    obtain ⟨⟨x_s, x_n⟩, hx⟩ : ∃ x, Hid (x = L[k]) := ⟨L[k], rfl⟩
    rw [← hx.out] at d1 d2
    have xA0 : At w b (ob + k * 2) #[.string ⟨x_s.toArray⟩, .int .i64 x_n] := at_two d1.1 d1.2
    have yA0 : At w d (od + k * 2) #[.string ⟨x_s.toArray⟩, .int .i64 x_n] := at_two d2.1 d2.2
    have xA := xA0.next hS
    have yA := yA0.next hS
    subst e1 e2
    clear hat hau d1 d2 xA0 yA0
    go_wp2_with fail
    replace hS := hS.trans ((Since.refl w1).drew)
    replace xA := xA.next ((Since.refl w1).drew)
    replace yA := yA.next ((Since.refl w1).drew)
    refine hx_begin (S := fun W => (Since w W) ∧ (At W b (ob + k * 2) #[.string ⟨x_s.toArray⟩, .int .i64 x_n]) ∧ (At W d (od + k * 2) #[.string ⟨x_s.toArray⟩, .int .i64 x_n])) (by kernel_rfl) ⟨hS, xA, yA⟩ (by kernel_rfl) (fun _ _ _ _ _ h => h) (fun hns hQ => ?_)
    refine hx_take (i := 0) (oi := _) (v := .slice (some ⟨b, ob, none⟩) L.length c1) rfl rfl hns (by kernel_rfl) (by kernel_rfl) hQ (by kernel_rfl) (fun _ _ => by kernel_rfl) ⟨hS, xA, yA⟩ ?_
    refine hx_take (i := 1) (oi := _) (v := .int .i64 (k : Int)) rfl rfl hns (by kernel_rfl) (by kernel_rfl) hQ (by kernel_rfl) (fun _ _ => by kernel_rfl) ⟨hS, xA, yA⟩ ?_
    refine hx_take (i := 2) (oi := _) (v := .pointer (some ⟨b, ob + k * 2, none⟩)) rfl rfl hns (by kernel_rfl) (by kernel_rfl) hQ (by kernel_rfl) (fun W _ => ix_sl (n := L.length) (c := c1) (K := 2) rfl (by kernel_rfl) (by kernel_rfl) (by kernel_rfl) rfl hlt W) ⟨hS, xA, yA⟩ ?_
    refine hx_take (i := 3) (oi := _) (v := .agg #[.string ⟨x_s.toArray⟩, .int .i64 x_n]) rfl rfl hns (by kernel_rfl) (by kernel_rfl) hQ (by kernel_rfl) (fun W hW => ld_at rfl (by kernel_rfl) (by kernel_rfl) (by kernel_rfl) W (hW.2.1)) ⟨hS, xA, yA⟩ ?_
    refine hx_take (i := 4) (oi := _) (v := .slice (some ⟨d, od, none⟩) L.length c2) rfl rfl hns (by kernel_rfl) (by kernel_rfl) hQ (by kernel_rfl) (fun _ _ => by kernel_rfl) ⟨hS, xA, yA⟩ ?_
    refine hx_take (i := 5) (oi := _) (v := .int .i64 (k : Int)) rfl rfl hns (by kernel_rfl) (by kernel_rfl) hQ (by kernel_rfl) (fun _ _ => by kernel_rfl) ⟨hS, xA, yA⟩ ?_
    refine hx_take (i := 6) (oi := _) (v := .pointer (some ⟨d, od + k * 2, none⟩)) rfl rfl hns (by kernel_rfl) (by kernel_rfl) hQ (by kernel_rfl) (fun W _ => ix_sl (n := L.length) (c := c2) (K := 2) rfl (by kernel_rfl) (by kernel_rfl) (by kernel_rfl) rfl hlt W) ⟨hS, xA, yA⟩ ?_
    refine hx_take (i := 7) (oi := _) (v := .agg #[.string ⟨x_s.toArray⟩, .int .i64 x_n]) rfl rfl hns (by kernel_rfl) (by kernel_rfl) hQ (by kernel_rfl) (fun W hW => ld_at rfl (by kernel_rfl) (by kernel_rfl) (by kernel_rfl) W (hW.2.2)) ⟨hS, xA, yA⟩ ?_
    refine hx_take (i := 8) (oi := _) (v := .bool false) rfl rfl hns (by kernel_rfl) (by kernel_rfl) hQ (by kernel_rfl) (fun W _ => neqg_samePd x_s x_n rfl (by kernel_rfl) (by kernel_rfl) W) ⟨hS, xA, yA⟩ ?_
    refine wpAnyH_done (by kernel_rfl) ?_ _
    clear hns hQ
    simp only [List.set_cons_zero, List.set_cons_succ]
    clear xA yA
    go_wp2_with fail
    go_roundw
    case rel => exact ⟨k + 1, hlt, congrArg (Value.int .i64) (hk1.trans (cast_step k)), hS⟩
    case measure => rw [intOf_int, intOf_int]; exact meas_wrap hlt HM.out
  have hlt2 : ¬ (k : Int) < (L.length : Int) := by omega
  go_wp2_with fail
  go_ret
  exact ⟨rfl, hS⟩
set_option maxHeartbeats 2000000 in
set_option maxRecDepth 100000 in
theorem same_ruleM (a_s a_p : List UInt8) (a_n : Int) (a_v0 a_v1 a_v2 a_v3 : Bool) (a_l0 a_l1 a_l2 a_l3 : List UInt8) (v1 v2 : Value) (B : List Atm) (w : World) (h1 : ARow w v1 B) (h2 : ARow w v2 B) (hm : B.length ≤ 9223372036854775807) :
    Calls Tryz.prog 41 #[.agg #[.string ⟨a_s.toArray⟩, .string ⟨a_p.toArray⟩, .int .i64 a_n, .bool a_v0, .string ⟨a_l0.toArray⟩, .bool a_v1, .string ⟨a_l1.toArray⟩, .bool a_v2, .string ⟨a_l2.toArray⟩, .bool a_v3, .string ⟨a_l3.toArray⟩], .agg #[.string ⟨a_s.toArray⟩, .string ⟨a_p.toArray⟩, .int .i64 a_n, .bool a_v0, .string ⟨a_l0.toArray⟩, .bool a_v1, .string ⟨a_l1.toArray⟩, .bool a_v2, .string ⟨a_l2.toArray⟩, .bool a_v3, .string ⟨a_l3.toArray⟩], v1, v2] w fun e w' => e = .returned (.bool true) ∧ Since w w' := by
  have hS1 : Since w ((w.alloc (.cells #[.string ⟨a_s.toArray⟩, .string ⟨a_p.toArray⟩, .int .i64 a_n, .bool a_v0, .string ⟨a_l0.toArray⟩, .bool a_v1, .string ⟨a_l1.toArray⟩, .bool a_v2, .string ⟨a_l2.toArray⟩, .bool a_v3, .string ⟨a_l3.toArray⟩] 44)).alloc (.cells #[.string ⟨a_s.toArray⟩, .string ⟨a_p.toArray⟩, .int .i64 a_n, .bool a_v0, .string ⟨a_l0.toArray⟩, .bool a_v1, .string ⟨a_l1.toArray⟩, .bool a_v2, .string ⟨a_l2.toArray⟩, .bool a_v3, .string ⟨a_l3.toArray⟩] 44)) := ((Since.refl w).alloc _).alloc _
  have HC := Lib.hid (same_atmsM v1 v2 B _ (anext h1 hS1) (anext h2 hS1) hm)
  have HS := Lib.hid hS1
  clear h1 h2 hm hS1
  go_enter Tryz.func41, Tryz.ntmps41
  go_wp2_with fail
  refine HC.out.mono ?_
  rintro e w2 ⟨rfl, hb⟩
  go_wp2_with fail
  go_ret
  exact ⟨rfl, HS.out.trans hb⟩
theorem neqs_txtP {o : Oper} {x y : Operand} {ev : Operand → Value} {s : List UInt8} (ho : o.op = .binOp .neq 9 x y 9) (hx : ev x = .string ⟨s.toArray⟩) (hy : ev y = .string ⟨s.toArray⟩) (W : World) :
    (execOp ev o).run Tryz.prog W = .ok (.value (.bool false)) W := by
  simp only [execOp, ho]
  go_simp
theorem box_at {W : World} {g : Nat} {c0 c1 c2 c3 c4 c5 c6 : Value} (h0 : W.cell? ⟨g, 0, none⟩ = some c0) (h1 : W.cell? ⟨g, 1, none⟩ = some c1) (h2 : W.cell? ⟨g, 2, none⟩ = some c2) (h3 : W.cell? ⟨g, 3, none⟩ = some c3) (h4 : W.cell? ⟨g, 4, none⟩ = some c4) (h5 : W.cell? ⟨g, 5, none⟩ = some c5) (h6 : W.cell? ⟨g, 6, none⟩ = some c6) : At W g 0 #[c0, c1, c2, c3, c4, c5, c6] := by
  intro j u hu
  have hj : j < 7 := by
    have := (Array.getElem?_eq_some_iff.1 hu).1
    simpa using this
  match j, hj with
  | 0, _ => rw [h0]; exact hu
  | 1, _ => rw [h1]; exact hu
  | 2, _ => rw [h2]; exact hu
  | 3, _ => rw [h3]; exact hu
  | 4, _ => rw [h4]; exact hu
  | 5, _ => rw [h5]; exact hu
  | 6, _ => rw [h6]; exact hu
end Go.Proofs.YtnfjjckbgnieeaaGreatDoor
