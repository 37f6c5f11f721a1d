/- formed: numbers, clause. -/
import Derived.Test.YtpkggopaigledaaDoorFoH
namespace Go.Proofs.YtpkggopaigledaaDoor
open Go.RowKit

set_option maxHeartbeats 1000000 in
set_option maxRecDepth 100000 in
theorem fcl1_any (ap ad ac ar ag : Option Addr) (np cp nd cd nc cc nr cr ng cg : Nat) (qu bu : Int) (pr : List Txt) (pd : List (Txt × Int)) (a_s a_p : List UInt8) (a_n : Int) (a_v0 a_v1 a_v2 a_v3 : Bool) (a_l0 a_l1 a_l2 a_l3 : List UInt8) (g k : Nat) (w : World) (p_B : PBox w g ap ad ac ar ag np cp nd cd nc cc nr cr ng cg qu bu) (a_B : Box w k ((a_s, a_p, a_n, (a_v0, a_l0), (a_v1, a_l1), (a_v2, a_l2), (a_v3, a_l3)) : Atm)) (hT : TRow w (.slice ap np cp) pr) (hP : PRow w (.slice ad nd cd) pd) (lr : pr.length ≤ 1000000) (lp : pd.length ≤ 1000000) (hF : FitsA ((a_s, a_p, a_n, (a_v0, a_l0), (a_v1, a_l1), (a_v2, a_l2), (a_v3, a_l3)) : Atm)) (hE : Env w) :
    Calls Tryd.prog 84 #[.pointer (some ⟨g, 0, none⟩), .pointer (some ⟨k, 0, none⟩)] w fun e w' => e = .returned (.int .i64 (atomE pr pd ((a_s, a_p, a_n, (a_v0, a_l0), (a_v1, a_l1), (a_v2, a_l2), (a_v3, a_l3)) : Atm))) ∧ Since w w' := by
  have HC := Lib.hid (fatom_any ap ad ac ar ag np cp nd cd nc cc nr cr ng cg qu bu pr pd a_s a_p a_n a_v0 a_v1 a_v2 a_v3 a_l0 a_l1 a_l2 a_l3 _ hT hP lr lp hF hE)
  clear hT hP hF hE
  obtain ⟨p_c0, p_c1, p_c2, p_c3, p_c4, p_c5, p_c6⟩ := p_B
  obtain ⟨a_c0, a_c1, a_c2, a_c3, a_c4, a_c5, a_c6, a_c7, a_c8, a_c9, a_c10⟩ := a_B.all
  clear a_B
  go_enter Tryd.func84, Tryd.ntmps84
  go_wp2_with fail
  refine HC.out.mono ?_
  rintro e w1 ⟨rfl, hb⟩
  go_wp2_with fail
  go_ret
  exact ⟨rfl, hb⟩
set_option maxRecDepth 100000 in
theorem run_cl1 (cap : Array Value) (W : World) : (callFunc 84 cap).run Tryd.prog W = .ok (.enter 84 cap) W := by kernel_rfl
set_option maxRecDepth 100000 in
theorem run_cl2 (cap : Array Value) (W : World) : (callFunc 85 cap).run Tryd.prog W = .ok (.enter 85 cap) W := by kernel_rfl
def bodyF (pr : List Txt) (pd : List (Txt × Int)) : List Atm → Int
  | [] => 0
  | a :: r => if atomE pr pd a = 0 then bodyF pr pd r else atomE pr pd a
theorem atat_cells {W : World} {b o : Nat} (a_s a_p : List UInt8) (a_n : Int) (a_v0 a_v1 a_v2 a_v3 : Bool) (a_l0 a_l1 a_l2 a_l3 : List UInt8) (h : AtAt W b o ((a_s, a_p, a_n, (a_v0, a_l0), (a_v1, a_l1), (a_v2, a_l2), (a_v3, a_l3)) : Atm)) : W.cell? ⟨b, o, none⟩ = some (.string ⟨a_s.toArray⟩) ∧ W.cell? ⟨b, o + 1, none⟩ = some (.string ⟨a_p.toArray⟩) ∧ W.cell? ⟨b, o + 2, none⟩ = some (.int .i64 a_n) ∧ W.cell? ⟨b, o + 3, none⟩ = some (.bool a_v0) ∧ W.cell? ⟨b, o + 4, none⟩ = some (.string ⟨a_l0.toArray⟩) ∧ W.cell? ⟨b, o + 5, none⟩ = some (.bool a_v1) ∧ W.cell? ⟨b, o + 6, none⟩ = some (.string ⟨a_l1.toArray⟩) ∧ W.cell? ⟨b, o + 7, none⟩ = some (.bool a_v2) ∧ W.cell? ⟨b, o + 8, none⟩ = some (.string ⟨a_l2.toArray⟩) ∧ W.cell? ⟨b, o + 9, none⟩ = some (.bool a_v3) ∧ W.cell? ⟨b, o + 10, none⟩ = some (.string ⟨a_l3.toArray⟩) :=
  ⟨h 0 _ rfl, h 1 _ rfl, h 2 _ rfl, h 3 _ rfl, h 4 _ rfl, h 5 _ rfl, h 6 _ rfl, h 7 _ rfl, h 8 _ rfl, h 9 _ rfl, h 10 _ rfl⟩
set_option maxHeartbeats 4000000 in
set_option maxRecDepth 100000 in
theorem fcl2_any (ap ad ac ar ag : Option Addr) (np cp nd cd nc cc nr cr ng cg : Nat) (qu bu : Int) (pr : List Txt) (pd : List (Txt × Int)) (v : Option Addr) (n c : Nat) (L : List Atm) (k0 g : Nat) (w : World) (hA : ARow w (.slice v n c) L) (p_B : PBox w g ap ad ac ar ag np cp nd cd nc cc nr cr ng cg qu bu) (b0 : w.cell? ⟨k0, 0, none⟩ = some (.slice v n c))
    (hT : TRow w (.slice ap np cp) pr) (hP : PRow w (.slice ad nd cd) pd) (lr : pr.length ≤ 1000000) (lp : pd.length ≤ 1000000) (lm : L.length ≤ 1000000) (hF : ∀ a ∈ L, FitsA a) (hE : Env w) :
    Calls Tryd.prog 85 #[.pointer (some ⟨k0, 0, none⟩), .pointer (some ⟨g, 0, none⟩)] w fun e w' => e = .returned (.int .i64 (bodyF pr pd L)) ∧ Since w w' := by
  have HA := Lib.hid hA
  have HPT := Lib.hid hT
  have HPD := Lib.hid hP
  have HE := Lib.hid hE
  have hn := Lib.hid hA.form
  have hnm : n ≤ 1000000 := by have := hA.form; omega
  clear hA hT hP hE
  go_enter Tryd.func85, Tryd.ntmps85
  go_wp2_with fail
  go_loopw [8] (fun m wr => ∃ k : Nat, k ≤ n ∧ m = .int .i64 (k : Int) ∧ bodyF pr pd L = bodyF pr pd (L.drop k) ∧ Since w wr) (fun m _ => n - (intOf m).toNat)
  case atStart => exact ⟨0, by omega, rfl, rfl, Since.refl _⟩
  case round =>
    obtain ⟨k, hk, rfl, hFF, hSr⟩ := hrel
    have HF := Lib.hid hFF
    clear hFF
    by_cases hlt : k < n
    · have hkl : k < L.length := by have := hn.out; omega
      have hlt2 : (k : Int) < (n : Int) := by omega
      have hlt0 : (0 : Int) ≤ (k : Int) := by omega
      obtain ⟨b, o, rfl, hc, hat⟩ := (anext HA.out hSr).get (by omega)
      have d1 := hat k hkl
      obtain ⟨x, hx⟩ : ∃ x, Hid (x = L[k]) := ⟨L[k], rfl⟩
      have hfx : FitsA x := by rw [hx.out]; exact hF _ (List.getElem_mem hkl)
      rw [← hx.out] at d1
      have hE2 : Hid (bodyF pr pd L = if atomE pr pd x = 0 then bodyF pr pd (L.drop (k + 1)) else atomE pr pd x) := by
        show _ = _
        rw [HF.out, List.drop_eq_getElem_cons hkl, bodyF, ← hx.out]
      obtain ⟨a_s, a_p, a_n, ⟨a_v0, a_l0⟩, ⟨a_v1, a_l1⟩, ⟨a_v2, a_l2⟩, ⟨a_v3, a_l3⟩⟩ := x
      obtain ⟨a_c0, a_c1, a_c2, a_c3, a_c4, a_c5, a_c6, a_c7, a_c8, a_c9, a_c10⟩ := atat_cells a_s a_p a_n a_v0 a_v1 a_v2 a_v3 a_l0 a_l1 a_l2 a_l3 d1
      clear hat HF d1
      have hA1 : Since wr (wr.alloc (.cells #[.string ⟨a_s.toArray⟩, .string ⟨a_p.toArray⟩, .int .i64 a_n, .bool a_v0, .string ⟨a_l0.toArray⟩, .bool a_v1, .string ⟨a_l1.toArray⟩, .bool a_v2, .string ⟨a_l2.toArray⟩, .bool a_v3, .string ⟨a_l3.toArray⟩] 39)) := (Since.refl _).alloc _
      obtain ⟨p_c0, p_c1, p_c2, p_c3, p_c4, p_c5, p_c6⟩ := p_B.next (hSr.trans hA1)
      have HC := Lib.hid (fatom_any ap ad ac ar ag np cp nd cd nc cc nr cr ng cg qu bu pr pd a_s a_p a_n a_v0 a_v1 a_v2 a_v3 a_l0 a_l1 a_l2 a_l3 _ (tnext HPT.out (hSr.trans hA1)) (pnext HPD.out (hSr.trans hA1)) lr lp hfx (HE.out.next (hSr.trans hA1)))
      go_wp2_with fail
      refine HC.out.mono ?_
      rintro e w2 ⟨rfl, hb⟩
      replace hSr := (hSr.trans hA1).trans hb
      obtain ⟨E, hE1⟩ : ∃ E, Hid (E = atomE pr pd ((a_s, a_p, a_n, (a_v0, a_l0), (a_v1, a_l1), (a_v2, a_l2), (a_v3, a_l3)) : Atm)) := ⟨_, rfl⟩
      rw [← hE1.out] at hE2 ⊢
      clear hb hA1 HC p_c0 p_c1 p_c2 p_c3 p_c4 p_c5 p_c6 a_c0 a_c1 a_c2 a_c3 a_c4 a_c5 a_c6 a_c7 a_c8 a_c9 a_c10
      by_cases he : E = 0
      · go_wp2_with fail
        go_roundw
        case rel => exact ⟨k + 1, by omega, by go_num, by rw [hE2.out, if_pos he], hSr⟩
        case measure => simp [intOf]; omega
      · go_wp2_with fail
        go_ret
        refine ⟨ret_int ?_, hSr⟩
        rw [hE2.out, if_neg he]
    · have hlt2 : ¬ (k : Int) < (n : Int) := by omega
      go_wp2_with fail
      go_ret
      refine ⟨ret_int ?_, hSr⟩
      have h3 := hn.out
      rw [HF.out, List.drop_eq_nil_of_le (by omega)]
      rfl
def clauseE (pr : List Txt) (pd : List (Txt × Int)) (a : Atm) (L : List Atm) : Int := firstE [atomE pr pd a, ifE (decide (6 < L.length)) 4, bodyF pr pd L]
set_option maxHeartbeats 4000000 in
set_option maxRecDepth 100000 in
theorem fclause_any (ap ad ac ar ag : Option Addr) (np cp nd cd nc cc nr cr ng cg : Nat) (qu bu : Int) (pr : List Txt) (pd : List (Txt × Int)) (a_s a_p : List UInt8) (a_n : Int) (a_v0 a_v1 a_v2 a_v3 : Bool) (a_l0 a_l1 a_l2 a_l3 : List UInt8) (v : Option Addr) (n c : Nat) (L : List Atm) (w : World) (hA : ARow w (.slice v n c) L)
    (hT : TRow w (.slice ap np cp) pr) (hP : PRow w (.slice ad nd cd) pd) (lr : pr.length ≤ 1000000) (lp : pd.length ≤ 1000000) (lm : L.length ≤ 1000000) (hf : FitsA ((a_s, a_p, a_n, (a_v0, a_l0), (a_v1, a_l1), (a_v2, a_l2), (a_v3, a_l3)) : Atm)) (hF : ∀ a ∈ L, FitsA a) (hE : Env w) :
    Calls Tryd.prog 65 #[.agg #[.slice ap np cp, .slice ad nd cd, .slice ac nc cc, .int .i64 qu, .int .i64 bu, .slice ar nr cr, .slice ag ng cg], .agg #[.string ⟨a_s.toArray⟩, .string ⟨a_p.toArray⟩, .int .i64 a_n, .bool a_v0, .string ⟨a_l0.toArray⟩, .bool a_v1, .string ⟨a_l1.toArray⟩, .bool a_v2, .string ⟨a_l2.toArray⟩, .bool a_v3, .string ⟨a_l3.toArray⟩], .slice v n c] w fun e w' => e = .returned (.int .i64 (clauseE pr pd ((a_s, a_p, a_n, (a_v0, a_l0), (a_v1, a_l1), (a_v2, a_l2), (a_v3, a_l3)) : Atm) L)) ∧ Since w w' := by
  have hmf : ∀ (fn : Fn) (first cap : Array Value) (w : World), (Instr.makeFunc fn first cap).run Tryd.prog w = .ok (.func fn first cap) w := fun _ _ _ _ => rfl
  have hS : Since w (((w.alloc (.cells #[.slice ap np cp, .slice ad nd cd, .slice ac nc cc, .int .i64 qu, .int .i64 bu, .slice ar nr cr, .slice ag ng cg] 28)).alloc (.cells #[.string ⟨a_s.toArray⟩, .string ⟨a_p.toArray⟩, .int .i64 a_n, .bool a_v0, .string ⟨a_l0.toArray⟩, .bool a_v1, .string ⟨a_l1.toArray⟩, .bool a_v2, .string ⟨a_l2.toArray⟩, .bool a_v3, .string ⟨a_l3.toArray⟩] 39)).alloc (.cells #[.slice v n c] 40)) := (((Since.refl _).alloc _).alloc _).alloc _
  have p_B : PBox (((w.alloc (.cells #[.slice ap np cp, .slice ad nd cd, .slice ac nc cc, .int .i64 qu, .int .i64 bu, .slice ar nr cr, .slice ag ng cg] 28)).alloc (.cells #[.string ⟨a_s.toArray⟩, .string ⟨a_p.toArray⟩, .int .i64 a_n, .bool a_v0, .string ⟨a_l0.toArray⟩, .bool a_v1, .string ⟨a_l1.toArray⟩, .bool a_v2, .string ⟨a_l2.toArray⟩, .bool a_v3, .string ⟨a_l3.toArray⟩] 39)).alloc (.cells #[.slice v n c] 40)) w.heap.size ap ad ac ar ag np cp nd cd nc cc nr cr ng cg qu bu := (pbox_new w ap ad ac ar ag np cp nd cd nc cc nr cr ng cg qu bu 28).next (((Since.refl _).alloc _).alloc _)
  have a_B : Box (((w.alloc (.cells #[.slice ap np cp, .slice ad nd cd, .slice ac nc cc, .int .i64 qu, .int .i64 bu, .slice ar nr cr, .slice ag ng cg] 28)).alloc (.cells #[.string ⟨a_s.toArray⟩, .string ⟨a_p.toArray⟩, .int .i64 a_n, .bool a_v0, .string ⟨a_l0.toArray⟩, .bool a_v1, .string ⟨a_l1.toArray⟩, .bool a_v2, .string ⟨a_l2.toArray⟩, .bool a_v3, .string ⟨a_l3.toArray⟩] 39)).alloc (.cells #[.slice v n c] 40)) (w.heap.size + 1) ((a_s, a_p, a_n, (a_v0, a_l0), (a_v1, a_l1), (a_v2, a_l2), (a_v3, a_l3)) : Atm) := by
    have := box_new (w.alloc (.cells #[.slice ap np cp, .slice ad nd cd, .slice ac nc cc, .int .i64 qu, .int .i64 bu, .slice ar nr cr, .slice ag ng cg] 28)) ((a_s, a_p, a_n, (a_v0, a_l0), (a_v1, a_l1), (a_v2, a_l2), (a_v3, a_l3)) : Atm) 39
    rw [World.size_alloc] at this
    exact this.next ((Since.refl _).alloc _)
  have b0 : (((w.alloc (.cells #[.slice ap np cp, .slice ad nd cd, .slice ac nc cc, .int .i64 qu, .int .i64 bu, .slice ar nr cr, .slice ag ng cg] 28)).alloc (.cells #[.string ⟨a_s.toArray⟩, .string ⟨a_p.toArray⟩, .int .i64 a_n, .bool a_v0, .string ⟨a_l0.toArray⟩, .bool a_v1, .string ⟨a_l1.toArray⟩, .bool a_v2, .string ⟨a_l2.toArray⟩, .bool a_v3, .string ⟨a_l3.toArray⟩] 39)).alloc (.cells #[.slice v n c] 40)).cell? ⟨w.heap.size + 2, 0, none⟩ = some (.slice v n c) := by
    have := World.cell?_alloc_new ((w.alloc (.cells #[.slice ap np cp, .slice ad nd cd, .slice ac nc cc, .int .i64 qu, .int .i64 bu, .slice ar nr cr, .slice ag ng cg] 28)).alloc (.cells #[.string ⟨a_s.toArray⟩, .string ⟨a_p.toArray⟩, .int .i64 a_n, .bool a_v0, .string ⟨a_l0.toArray⟩, .bool a_v1, .string ⟨a_l1.toArray⟩, .bool a_v2, .string ⟨a_l2.toArray⟩, .bool a_v3, .string ⟨a_l3.toArray⟩] 39)) #[.slice v n c] 40 0
    rw [World.size_alloc, World.size_alloc] at this
    exact this
  have hn := Lib.hid hA.form
  have hnm : n ≤ 1000000 := by have := hA.form; omega
  have R1 : Hid (Rule (((w.alloc (.cells #[.slice ap np cp, .slice ad nd cd, .slice ac nc cc, .int .i64 qu, .int .i64 bu, .slice ar nr cr, .slice ag ng cg] 28)).alloc (.cells #[.string ⟨a_s.toArray⟩, .string ⟨a_p.toArray⟩, .int .i64 a_n, .bool a_v0, .string ⟨a_l0.toArray⟩, .bool a_v1, .string ⟨a_l1.toArray⟩, .bool a_v2, .string ⟨a_l2.toArray⟩, .bool a_v3, .string ⟨a_l3.toArray⟩] 39)).alloc (.cells #[.slice v n c] 40)) (.func (.func 84) #[] #[.pointer (some ⟨w.heap.size, 0, none⟩), .pointer (some ⟨w.heap.size + 1, 0, none⟩)]) (atomE pr pd ((a_s, a_p, a_n, (a_v0, a_l0), (a_v1, a_l1), (a_v2, a_l2), (a_v3, a_l3)) : Atm))) :=
    ⟨_, _, rfl, run_cl1 _, fun W hW => fcl1_any ap ad ac ar ag np cp nd cd nc cc nr cr ng cg qu bu pr pd a_s a_p a_n a_v0 a_v1 a_v2 a_v3 a_l0 a_l1 a_l2 a_l3 _ _ W (p_B.next hW) (a_B.next hW) (tnext hT (hS.trans hW)) (pnext hP (hS.trans hW)) lr lp hf (hE.next (hS.trans hW))⟩
  have R2 : Hid (Rule (((w.alloc (.cells #[.slice ap np cp, .slice ad nd cd, .slice ac nc cc, .int .i64 qu, .int .i64 bu, .slice ar nr cr, .slice ag ng cg] 28)).alloc (.cells #[.string ⟨a_s.toArray⟩, .string ⟨a_p.toArray⟩, .int .i64 a_n, .bool a_v0, .string ⟨a_l0.toArray⟩, .bool a_v1, .string ⟨a_l1.toArray⟩, .bool a_v2, .string ⟨a_l2.toArray⟩, .bool a_v3, .string ⟨a_l3.toArray⟩] 39)).alloc (.cells #[.slice v n c] 40)) (.func (.func 85) #[] #[.pointer (some ⟨w.heap.size + 2, 0, none⟩), .pointer (some ⟨w.heap.size, 0, none⟩)]) (bodyF pr pd L)) :=
    ⟨_, _, rfl, run_cl2 _, fun W hW => fcl2_any ap ad ac ar ag np cp nd cd nc cc nr cr ng cg qu bu pr pd v n c L _ _ W (anext hA (hS.trans hW)) (p_B.next hW) (hW.cell b0) (tnext hT (hS.trans hW)) (pnext hP (hS.trans hW)) lr lp lm hF (hE.next (hS.trans hW))⟩
  clear hA hT hP hf hF hE p_B a_B
  go_enter Tryd.func65, Tryd.ntmps65
  go_wp2_with fail
  refine (not_rule _ 4 _).mono ?_
  rintro e w4 ⟨g1, rfl, n1, hb⟩
  replace hS := hS.trans hb; replace R1 := Lib.hid (R1.out.next hb); replace R2 := Lib.hid (R2.out.next hb)
  have r1 := Lib.hid n1
  clear hb n1 b0
  go_wp2_with fail
  refine (first3 _ _ _ _ _ _ _ R1.out r1.out R2.out).mono ?_
  rintro e w5 ⟨rfl, hb⟩
  go_wp2_with fail
  go_ret
  refine ⟨ret_int ?_, (hS.alloc _).trans hb⟩
  unfold clauseE
  rw [← hn.out]
  have e : decide ((6 : Int) < (n : Int)) = decide (6 < n) := by by_cases h : 6 < n <;> simp [h] <;> omega
  first | rfl | rw [e] | simp
end Go.Proofs.YtpkggopaigledaaDoor
