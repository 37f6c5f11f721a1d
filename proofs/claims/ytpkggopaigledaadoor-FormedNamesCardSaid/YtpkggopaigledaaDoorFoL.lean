/- formed: rules. -/
import Derived.Test.YtpkggopaigledaaDoorFoK
namespace Go.Proofs.YtpkggopaigledaaDoor
open Go.RowKit

set_option maxHeartbeats 1000000 in
theorem fa_grn0 (o : Oper) (x : Operand) (ho : o.op = Op.fieldAddr 54 x 0) (ev : Operand → Value) (g : Nat) (hx : ev x = .pointer (some ⟨g, 0, none⟩)) (W : World) :
    (execOp ev o).run Tryd.prog W = .ok (.value (.pointer (some ⟨g, 0, none⟩))) W := by
  simp only [execOp, ho]
  go_simp
set_option maxHeartbeats 1000000 in
theorem fa_grn1 (o : Oper) (x : Operand) (ho : o.op = Op.fieldAddr 54 x 1) (ev : Operand → Value) (g : Nat) (hx : ev x = .pointer (some ⟨g, 0, none⟩)) (W : World) :
    (execOp ev o).run Tryd.prog W = .ok (.value (.pointer (some ⟨g, 1, none⟩))) W := by
  simp only [execOp, ho]
  go_simp
set_option maxHeartbeats 1000000 in
theorem fa_atm0 (o : Oper) (x : Operand) (ho : o.op = Op.fieldAddr 39 x 0) (ev : Operand → Value) (g k : Nat) (hx : ev x = .pointer (some ⟨g, k, none⟩)) (W : World) :
    (execOp ev o).run Tryd.prog W = .ok (.value (.pointer (some ⟨g, k, none⟩))) W := by
  simp only [execOp, ho]
  go_simp
set_option maxRecDepth 100000 in
theorem run_rl1 (cap : Array Value) (W : World) : (callFunc 64 cap).run Tryd.prog W = .ok (.enter 64 cap) W := by kernel_rfl
set_option maxRecDepth 100000 in
theorem run_rl2 (cap : Array Value) (W : World) : (callFunc 66 cap).run Tryd.prog W = .ok (.enter 66 cap) W := by kernel_rfl
set_option maxRecDepth 100000 in
theorem run_rl3 (cap : Array Value) (W : World) : (callFunc 68 cap).run Tryd.prog W = .ok (.enter 68 cap) W := by kernel_rfl
set_option maxHeartbeats 1000000 in
set_option maxRecDepth 100000 in
theorem frl1_any (ap ad ac ar ag : Option Addr) (np cp nd cd nc cc nr cr ng cg : Nat) (qu bu : Int) (pr : List Txt) (pd : List (Txt × Int)) (a_s a_p : List UInt8) (a_n : Int) (a_v0 a_v1 a_v2 a_v3 : Bool) (a_l0 a_l1 a_l2 a_l3 : List UInt8) (v : Option Addr) (n c : Nat) (B : List Atm) (g k : Nat) (w : World) (p_B : PBox w g ap ad ac ar ag np cp nd cd nc cc nr cr ng cg qu bu) (a_B : AtAt w k 0 ((a_s, a_p, a_n, (a_v0, a_l0), (a_v1, a_l1), (a_v2, a_l2), (a_v3, a_l3)) : Atm)) (q : w.cell? ⟨k, 11, none⟩ = some (.slice v n c)) (hT : TRow w (.slice ap np cp) pr) (hP : PRow w (.slice ad nd cd) pd) (lr : pr.length ≤ 1000000) (lp : pd.length ≤ 1000000) (hA : ARow w (.slice v n c) B) (hf : FitsA ((a_s, a_p, a_n, (a_v0, a_l0), (a_v1, a_l1), (a_v2, a_l2), (a_v3, a_l3)) : Atm)) (hF : ∀ a ∈ B, FitsA a) (lB : B.length ≤ 100000) (hE : Env w) :
    Calls Tryd.prog 64 #[.pointer (some ⟨g, 0, none⟩), .pointer (some ⟨k, 0, none⟩)] w fun e w' => e = .returned (.int .i64 (clauseE pr pd ((a_s, a_p, a_n, (a_v0, a_l0), (a_v1, a_l1), (a_v2, a_l2), (a_v3, a_l3)) : Atm) B)) ∧ Since w w' := by
  have HC := Lib.hid (fclause_any ap ad ac ar ag np cp nd cd nc cc nr cr ng cg qu bu pr pd a_s a_p a_n a_v0 a_v1 a_v2 a_v3 a_l0 a_l1 a_l2 a_l3 v n c B w hA hT hP lr lp (by omega) hf hF hE)
  clear hT hP hA hf hF hE
  obtain ⟨p_c0, p_c1, p_c2, p_c3, p_c4, p_c5, p_c6⟩ := p_B
  obtain ⟨a_c0, a_c1, a_c2, a_c3, a_c4, a_c5, a_c6, a_c7, a_c8, a_c9, a_c10⟩ := atat_cells a_s a_p a_n a_v0 a_v1 a_v2 a_v3 a_l0 a_l1 a_l2 a_l3 a_B
  simp only [Nat.zero_add] at a_c0 a_c1 a_c2 a_c3 a_c4 a_c5 a_c6 a_c7 a_c8 a_c9 a_c10
  clear a_B
  go_enter Tryd.func64, Tryd.ntmps64
  go_wp2_with fail
  refine HC.out.mono ?_
  rintro e w1 ⟨rfl, hb⟩
  go_wp2_with fail
  go_ret
  exact ⟨rfl, hb⟩
set_option maxHeartbeats 1000000 in
set_option maxRecDepth 100000 in
theorem frl3_any (ap ad ac ar ag : Option Addr) (np cp nd cd nc cc nr cr ng cg : Nat) (qu bu : Int) (pr : List Txt) (pd : List (Txt × Int)) (a_s a_p : List UInt8) (a_n : Int) (a_v0 a_v1 a_v2 a_v3 : Bool) (a_l0 a_l1 a_l2 a_l3 : List UInt8) (v : Option Addr) (n c : Nat) (B : List Atm) (g k : Nat) (w : World) (p_B : PBox w g ap ad ac ar ag np cp nd cd nc cc nr cr ng cg qu bu) (a_B : AtAt w k 1 ((a_s, a_p, a_n, (a_v0, a_l0), (a_v1, a_l1), (a_v2, a_l2), (a_v3, a_l3)) : Atm)) (q : w.cell? ⟨k, 12, none⟩ = some (.slice v n c)) (hT : TRow w (.slice ap np cp) pr) (hP : PRow w (.slice ad nd cd) pd) (lr : pr.length ≤ 1000000) (lp : pd.length ≤ 1000000) (hA : ARow w (.slice v n c) B) (hf : FitsA ((a_s, a_p, a_n, (a_v0, a_l0), (a_v1, a_l1), (a_v2, a_l2), (a_v3, a_l3)) : Atm)) (hF : ∀ a ∈ B, FitsA a) (lB : B.length ≤ 100000) (hE : Env w) :
    Calls Tryd.prog 68 #[.pointer (some ⟨g, 0, none⟩), .pointer (some ⟨k, 0, none⟩)] w fun e w' => e = .returned (.int .i64 (clauseE pr pd ((a_s, a_p, a_n, (a_v0, a_l0), (a_v1, a_l1), (a_v2, a_l2), (a_v3, a_l3)) : Atm) B)) ∧ Since w w' := by
  have HC := Lib.hid (fclause_any ap ad ac ar ag np cp nd cd nc cc nr cr ng cg qu bu pr pd a_s a_p a_n a_v0 a_v1 a_v2 a_v3 a_l0 a_l1 a_l2 a_l3 v n c B w hA hT hP lr lp (by omega) hf hF hE)
  clear hT hP hA hf hF hE
  obtain ⟨p_c0, p_c1, p_c2, p_c3, p_c4, p_c5, p_c6⟩ := p_B
  obtain ⟨a_c0, a_c1, a_c2, a_c3, a_c4, a_c5, a_c6, a_c7, a_c8, a_c9, a_c10⟩ := atat_cells a_s a_p a_n a_v0 a_v1 a_v2 a_v3 a_l0 a_l1 a_l2 a_l3 a_B
  simp only [Nat.reduceAdd] at a_c0 a_c1 a_c2 a_c3 a_c4 a_c5 a_c6 a_c7 a_c8 a_c9 a_c10
  clear a_B
  go_enter Tryd.func68, Tryd.ntmps68
  go_wp2_with fail
  refine HC.out.mono ?_
  rintro e w1 ⟨rfl, hb⟩
  go_wp2_with fail
  go_ret
  exact ⟨rfl, hb⟩
set_option maxHeartbeats 1000000 in
set_option maxRecDepth 100000 in
theorem frl2_any (a_s a_p : List UInt8) (a_n : Int) (a_v0 a_v1 a_v2 a_v3 : Bool) (a_l0 a_l1 a_l2 a_l3 : List UInt8) (v : Option Addr) (n c : Nat) (B : List Atm) (k : Nat) (w : World) (a_B : AtAt w k 0 ((a_s, a_p, a_n, (a_v0, a_l0), (a_v1, a_l1), (a_v2, a_l2), (a_v3, a_l3)) : Atm)) (q : w.cell? ⟨k, 11, none⟩ = some (.slice v n c)) (hA : ARow w (.slice v n c) B) (lB : B.length ≤ 100000) :
    Calls Tryd.prog 66 #[.pointer (some ⟨k, 0, none⟩)] w fun e w' => e = .returned (.int .i64 (rangedE ((a_s, a_p, a_n, (a_v0, a_l0), (a_v1, a_l1), (a_v2, a_l2), (a_v3, a_l3)) : Atm) B)) ∧ Since w w' := by
  have HC := Lib.hid (franged_any a_s a_p a_n a_v0 a_v1 a_v2 a_v3 a_l0 a_l1 a_l2 a_l3 v n c B w hA lB)
  clear hA
  obtain ⟨a_c0, a_c1, a_c2, a_c3, a_c4, a_c5, a_c6, a_c7, a_c8, a_c9, a_c10⟩ := atat_cells a_s a_p a_n a_v0 a_v1 a_v2 a_v3 a_l0 a_l1 a_l2 a_l3 a_B
  simp only [Nat.zero_add] at a_c0 a_c1 a_c2 a_c3 a_c4 a_c5 a_c6 a_c7 a_c8 a_c9 a_c10
  clear a_B
  go_enter Tryd.func66, Tryd.ntmps66
  go_wp2_with fail
  refine HC.out.mono ?_
  rintro e w1 ⟨rfl, hb⟩
  go_wp2_with fail
  go_ret
  exact ⟨rfl, hb⟩
end Go.Proofs.YtpkggopaigledaaDoor
