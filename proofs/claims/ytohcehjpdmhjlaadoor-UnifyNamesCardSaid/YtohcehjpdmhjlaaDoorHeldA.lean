/- The load of an atom by value, as an equation. -/
import Derived.Test.YtohcehjpdmhjlaaDoorHeld
import Derived.Test.YtohcehjpdmhjlaaDoorEq
namespace Go.Proofs.YtohcehjpdmhjlaaDoor
open Go.RowKit
attribute [local go_sem ↓] run_atomEq run_termEq'
attribute [local go_sem] eqA_self

set_option maxHeartbeats 1000000 in
theorem ld_atom (o : Oper) (x : Operand) (ho : o.op = Op.load 26 x) (ev : Operand → Value) (g : Nat) (hx : ev x = .pointer (some ⟨g, 0, none⟩)) (a_s a_p : List UInt8) (a_n : Int) (a_v0 a_v1 a_v2 a_v3 : Bool) (a_l0 a_l1 a_l2 a_l3 : List UInt8) (W : World) (h : Box W g ((a_s, a_p, a_n, (a_v0, a_l0), (a_v1, a_l1), (a_v2, a_l2), (a_v3, a_l3)) : Atm)) :
    (execOp ev o).run Tryd.prog W = .ok (.value (.agg #[.string ⟨a_s.toArray⟩, .string ⟨a_p.toArray⟩, .int .i64 a_n, .bool a_v0, .string ⟨a_l0.toArray⟩, .bool a_v1, .string ⟨a_l1.toArray⟩, .bool a_v2, .string ⟨a_l2.toArray⟩, .bool a_v3, .string ⟨a_l3.toArray⟩])) W := by
  obtain ⟨a_c0, a_c1, a_c2, a_c3, a_c4, a_c5, a_c6, a_c7, a_c8, a_c9, a_c10⟩ := h.all
  simp only [execOp, ho, hx]
  go_simp
set_option maxHeartbeats 1000000 in
theorem mk_str2 (o : Oper) (x y : Operand) (ho : o.op = Op.buildSlice 37 2 #[(0, x), (1, y)]) (ev : Operand → Value) (s t : ByteArray) (hx : ev x = .string s) (hy : ev y = .string t) (W : World) :
    (execOp ev o).run Tryd.prog W = .ok (.value (.slice (some ⟨W.heap.size, 0, none⟩) 2 2)) (W.alloc (.cells #[.string s, .string t] 9)) := by
  simp only [execOp, ho]
  go_simp
set_option maxHeartbeats 1000000 in
theorem mk_str3 (o : Oper) (x y z : Operand) (ho : o.op = Op.buildSlice 37 3 #[(0, x), (1, y), (2, z)]) (ev : Operand → Value) (s t u : ByteArray) (hx : ev x = .string s) (hy : ev y = .string t) (hz : ev z = .string u) (W : World) :
    (execOp ev o).run Tryd.prog W = .ok (.value (.slice (some ⟨W.heap.size, 0, none⟩) 3 3)) (W.alloc (.cells #[.string s, .string t, .string u] 9)) := by
  simp only [execOp, ho]
  go_simp
set_option maxHeartbeats 1000000 in
theorem mk_bnd2 (o : Oper) (x y : Operand) (ho : o.op = Op.buildSlice 41 2 #[(0, x), (1, y)]) (ev : Operand → Value) (s t s' t' : ByteArray) (b b' : Bool) (hx : ev x = .agg #[.string s, .bool b, .string t]) (hy : ev y = .agg #[.string s', .bool b', .string t']) (W : World) :
    (execOp ev o).run Tryd.prog W = .ok (.value (.slice (some ⟨W.heap.size, 0, none⟩) 2 2)) (W.alloc (.cells #[.string s, .bool b, .string t, .string s', .bool b', .string t'] 49)) := by
  simp only [execOp, ho]
  go_simp
set_option maxHeartbeats 1000000 in
set_option maxRecDepth 100000 in
theorem eq_atom (o : Oper) (x y : Operand) (ho : o.op = Op.binOp .eql 26 x y 26) (ev : Operand → Value) (a_s a_p : List UInt8) (a_n : Int) (a_v0 a_v1 a_v2 a_v3 : Bool) (a_l0 a_l1 a_l2 a_l3 : List UInt8) (hx : ev x = .agg #[.string ⟨a_s.toArray⟩, .string ⟨a_p.toArray⟩, .int .i64 a_n, .bool a_v0, .string ⟨a_l0.toArray⟩, .bool a_v1, .string ⟨a_l1.toArray⟩, .bool a_v2, .string ⟨a_l2.toArray⟩, .bool a_v3, .string ⟨a_l3.toArray⟩]) (hy : ev y = .agg #[.string ⟨a_s.toArray⟩, .string ⟨a_p.toArray⟩, .int .i64 a_n, .bool a_v0, .string ⟨a_l0.toArray⟩, .bool a_v1, .string ⟨a_l1.toArray⟩, .bool a_v2, .string ⟨a_l2.toArray⟩, .bool a_v3, .string ⟨a_l3.toArray⟩]) (W : World) :
    (execOp ev o).run Tryd.prog W = .ok (.value (.bool true)) W := by
  simp only [execOp, ho]
  go_simp
set_option maxHeartbeats 1000000 in
theorem eq_str (o : Oper) (x y : Operand) (ho : o.op = Op.binOp .eql 9 x y 9) (ev : Operand → Value) (s : ByteArray) (hx : ev x = .string s) (hy : ev y = .string s) (W : World) :
    (execOp ev o).run Tryd.prog W = .ok (.value (.bool true)) W := by
  simp only [execOp, ho]
  go_simp
set_option maxHeartbeats 1000000 in
theorem eq_int (o : Oper) (x y : Operand) (ho : o.op = Op.binOp .eql 3 x y 3) (ev : Operand → Value) (n : Int) (hx : ev x = .int .i64 n) (hy : ev y = .int .i64 n) (W : World) :
    (execOp ev o).run Tryd.prog W = .ok (.value (.bool true)) W := by
  simp only [execOp, ho]
  go_simp
set_option maxHeartbeats 1000000 in
theorem bd_bnd (o : Oper) (x y : Operand) (ho : o.op = Op.build 49 #[(0, x), (1, y)]) (ev : Operand → Value) (s t : ByteArray) (b : Bool) (hx : ev x = .string s) (hy : ev y = .agg #[.bool b, .string t]) (W : World) :
    (execOp ev o).run Tryd.prog W = .ok (.value (.agg #[.string s, .bool b, .string t])) W := by
  simp only [execOp, ho]
  go_simp
end Go.Proofs.YtohcehjpdmhjlaaDoor
