/- Single operations as equations: policies, atoms, slices, fields of Clear, Rule, Grant. -/
import Derived.Test.YtpkggopaigledaaDoorHeldF
import Derived.Test.YtpkggopaigledaaDoorFoB
namespace Go.Proofs.YtpkggopaigledaaDoor
open Go.RowKit

set_option maxHeartbeats 1000000 in
theorem ld_pol (o : Oper) (x : Operand) (ho : o.op = Op.load 28 x) (ev : Operand → Value) (g : Nat) (hx : ev x = .pointer (some ⟨g, 0, none⟩)) (ap ad ac ar ag : Option Addr) (np cp nd cd nc cc nr cr ng cg : Nat) (qu bu : Int) (W : World) (h : PBox W g ap ad ac ar ag np cp nd cd nc cc nr cr ng cg qu bu) :
    (execOp ev o).run Tryd.prog W = .ok (.value (.agg #[.slice ap np cp, .slice ad nd cd, .slice ac nc cc, .int .i64 qu, .int .i64 bu, .slice ar nr cr, .slice ag ng cg])) W := by
  obtain ⟨p_c0, p_c1, p_c2, p_c3, p_c4, p_c5, p_c6⟩ := h
  simp only [execOp, ho]
  go_simp
set_option maxHeartbeats 1000000 in
theorem ld_atm (o : Oper) (x : Operand) (ho : o.op = Op.load 39 x) (ev : Operand → Value) (g : Nat) (hx : ev x = .pointer (some ⟨g, 0, none⟩)) (a_s a_p : List UInt8) (a_n : Int) (a_v0 a_v1 a_v2 a_v3 : Bool) (a_l0 a_l1 a_l2 a_l3 : List UInt8) (W : World) (h : Box W g ((a_s, a_p, a_n, (a_v0, a_l0), (a_v1, a_l1), (a_v2, a_l2), (a_v3, a_l3)) : Atm)) :
    (execOp ev o).run Tryd.prog W = .ok (.value (.agg #[.string ⟨a_s.toArray⟩, .string ⟨a_p.toArray⟩, .int .i64 a_n, .bool a_v0, .string ⟨a_l0.toArray⟩, .bool a_v1, .string ⟨a_l1.toArray⟩, .bool a_v2, .string ⟨a_l2.toArray⟩, .bool a_v3, .string ⟨a_l3.toArray⟩])) W := by
  obtain ⟨a_c0, a_c1, a_c2, a_c3, a_c4, a_c5, a_c6, a_c7, a_c8, a_c9, a_c10⟩ := h.all
  simp only [execOp, ho]
  go_simp
set_option maxHeartbeats 1000000 in
theorem ld_txts (o : Oper) (x : Operand) (ho : o.op = Op.load 22 x) (ev : Operand → Value) (g k : Nat) (hx : ev x = .pointer (some ⟨g, k, none⟩)) (a : Option Addr) (n c : Nat) (W : World) (h : W.cell? ⟨g, k, none⟩ = some (.slice a n c)) :
    (execOp ev o).run Tryd.prog W = .ok (.value (.slice a n c)) W := by
  simp only [execOp, ho]
  go_simp
set_option maxHeartbeats 1000000 in
theorem eq_txt (o : Oper) (x y : Operand) (ho : o.op = Op.binOp .eql 9 x y 9) (ev : Operand → Value) (s t : List UInt8) (hx : ev x = .string ⟨s.toArray⟩) (hy : ev y = .string ⟨t.toArray⟩) (W : World) :
    (execOp ev o).run Tryd.prog W = .ok (.value (.bool (s == t))) W := by
  simp only [execOp, ho]
  go_simp
set_option maxHeartbeats 1000000 in
theorem sl_txts (o : Oper) (x y : Operand) (ho : o.op = Op.slice 22 x none (some y) none) (ev : Operand → Value) (b p n c k : Nat) (hx : ev x = .slice (some ⟨b, p, none⟩) n c) (hy : ev y = .int .i64 (k : Int)) (hk : k ≤ c) (W : World) :
    (execOp ev o).run Tryd.prog W = .ok (.value (.slice (some ⟨b, p, none⟩) k c)) W := by
  have h1 : (k : Int) ≤ (c : Int) := by omega
  have h0 : (0 : Int) ≤ (k : Int) := by omega
  have hn : (k : Int).toNat = k := by omega
  simp only [execOp, ho]
  go_simp
set_option maxHeartbeats 1000000 in
theorem fa_clr0 (o : Oper) (x : Operand) (ho : o.op = Op.fieldAddr 49 x 0) (ev : Operand → Value) (g : Nat) (hx : ev x = .pointer (some ⟨g, 0, none⟩)) (W : World) :
    (execOp ev o).run Tryd.prog W = .ok (.value (.pointer (some ⟨g, 0, none⟩))) W := by
  simp only [execOp, ho]
  go_simp
set_option maxHeartbeats 1000000 in
theorem fa_clr1 (o : Oper) (x : Operand) (ho : o.op = Op.fieldAddr 49 x 1) (ev : Operand → Value) (g : Nat) (hx : ev x = .pointer (some ⟨g, 0, none⟩)) (W : World) :
    (execOp ev o).run Tryd.prog W = .ok (.value (.pointer (some ⟨g, 1, none⟩))) W := by
  simp only [execOp, ho]
  go_simp
end Go.Proofs.YtpkggopaigledaaDoor
