/- Single operations as equations: atoms, comparisons, a length. -/
import Derived.Test.YtiadjmfdahendaaDoorHeld
import Derived.Test.YtiadjmfdahendaaDoorEq
namespace Go.Proofs.YtiadjmfdahendaaDoor
open Go.RowKit
attribute [local go_sem ↓] run_atomEq run_termEq'
attribute [local go_sem] eqA_self

set_option maxHeartbeats 1000000 in
theorem ldc_atom (o : Oper) (x : Operand) (ho : o.op = Op.load 27 x) (ev : Operand → Value) (g : Nat) (hx : ev x = .pointer (some ⟨g, 0, none⟩)) (a_s a_p : List UInt8) (a_n : Int) (a_v0 a_v1 a_v2 a_v3 : Bool) (a_l0 a_l1 a_l2 a_l3 : List UInt8) (W : World) (h : Box W g ((a_s, a_p, a_n, (a_v0, a_l0), (a_v1, a_l1), (a_v2, a_l2), (a_v3, a_l3)) : Atm)) :
    (execOp ev o).run Tryd.prog W = .ok (.value (.agg #[.string ⟨a_s.toArray⟩, .string ⟨a_p.toArray⟩, .int .i64 a_n, .bool a_v0, .string ⟨a_l0.toArray⟩, .bool a_v1, .string ⟨a_l1.toArray⟩, .bool a_v2, .string ⟨a_l2.toArray⟩, .bool a_v3, .string ⟨a_l3.toArray⟩])) W := by
  obtain ⟨a_c0, a_c1, a_c2, a_c3, a_c4, a_c5, a_c6, a_c7, a_c8, a_c9, a_c10⟩ := h.all
  simp only [execOp, ho, hx]
  go_simp
set_option maxHeartbeats 1000000 in
set_option maxRecDepth 100000 in
theorem eqc_atom (o : Oper) (x y : Operand) (ho : o.op = Op.binOp .eql 27 x y 27) (ev : Operand → Value) (a_s a_p : List UInt8) (a_n : Int) (a_v0 a_v1 a_v2 a_v3 : Bool) (a_l0 a_l1 a_l2 a_l3 : List UInt8) (hx : ev x = .agg #[.string ⟨a_s.toArray⟩, .string ⟨a_p.toArray⟩, .int .i64 a_n, .bool a_v0, .string ⟨a_l0.toArray⟩, .bool a_v1, .string ⟨a_l1.toArray⟩, .bool a_v2, .string ⟨a_l2.toArray⟩, .bool a_v3, .string ⟨a_l3.toArray⟩]) (hy : ev y = .agg #[.string ⟨a_s.toArray⟩, .string ⟨a_p.toArray⟩, .int .i64 a_n, .bool a_v0, .string ⟨a_l0.toArray⟩, .bool a_v1, .string ⟨a_l1.toArray⟩, .bool a_v2, .string ⟨a_l2.toArray⟩, .bool a_v3, .string ⟨a_l3.toArray⟩]) (W : World) :
    (execOp ev o).run Tryd.prog W = .ok (.value (.bool true)) W := by
  simp only [execOp, ho]
  go_simp
set_option maxHeartbeats 1000000 in
theorem eqc_str (o : Oper) (x y : Operand) (ho : o.op = Op.binOp .eql 9 x y 9) (ev : Operand → Value) (s : ByteArray) (hx : ev x = .string s) (hy : ev y = .string s) (W : World) :
    (execOp ev o).run Tryd.prog W = .ok (.value (.bool true)) W := by
  simp only [execOp, ho]
  go_simp
set_option maxHeartbeats 1000000 in
theorem eqc_int (o : Oper) (x y : Operand) (ho : o.op = Op.binOp .eql 3 x y 3) (ev : Operand → Value) (n : Int) (hx : ev x = .int .i64 n) (hy : ev y = .int .i64 n) (W : World) :
    (execOp ev o).run Tryd.prog W = .ok (.value (.bool true)) W := by
  simp only [execOp, ho]
  go_simp
set_option maxHeartbeats 1000000 in
theorem eqc_err (o : Oper) (x y : Operand) (ho : o.op = Op.binOp .eql 31 x y 31) (ev : Operand → Value) (n : Int) (hx : ev x = .int .i64 n) (hy : ev y = .int .i64 n) (W : World) :
    (execOp ev o).run Tryd.prog W = .ok (.value (.bool true)) W := by
  simp only [execOp, ho]
  go_simp
set_option maxHeartbeats 1000000 in
theorem eqc_u32 (o : Oper) (x y : Operand) (ho : o.op = Op.binOp .eql 35 x y 35) (ev : Operand → Value) (n : Int) (hx : ev x = .int .u32 n) (hy : ev y = .int .u32 n) (W : World) :
    (execOp ev o).run Tryd.prog W = .ok (.value (.bool true)) W := by
  simp only [execOp, ho]
  go_simp
set_option maxHeartbeats 1000000 in
theorem len_stp (o : Oper) (x : Operand) (ho : o.op = .call { callee := .builtin .len, args := #[x], argTypes := #[22] }) (ev : Operand → Value) (a : Option Addr) (n c : Nat) (hx : ev x = .slice a n c) (W : World) :
    (execOp ev o).run Tryd.prog W = .ok (.value (.int .i64 (n : Int))) W := by
  simp only [execOp, ho]
  go_simp
end Go.Proofs.YtiadjmfdahendaaDoor
