/- Single operations as equations: fields' addresses, loads, comparisons, slices of rules. -/
import Derived.Test.YtpkggopaigledaaDoorHeld
import Derived.Test.YtpkggopaigledaaDoorFoA
namespace Go.Proofs.YtpkggopaigledaaDoor
open Go.RowKit

set_option maxHeartbeats 1000000 in
theorem fa_prd0 (o : Oper) (x : Operand) (ho : o.op = Op.fieldAddr 47 x 0) (ev : Operand → Value) (g : Nat) (hx : ev x = .pointer (some ⟨g, 0, none⟩)) (W : World) :
    (execOp ev o).run Tryd.prog W = .ok (.value (.pointer (some ⟨g, 0, none⟩))) W := by
  simp only [execOp, ho]
  go_simp
set_option maxHeartbeats 1000000 in
theorem fa_prd1 (o : Oper) (x : Operand) (ho : o.op = Op.fieldAddr 47 x 1) (ev : Operand → Value) (g : Nat) (hx : ev x = .pointer (some ⟨g, 0, none⟩)) (W : World) :
    (execOp ev o).run Tryd.prog W = .ok (.value (.pointer (some ⟨g, 1, none⟩))) W := by
  simp only [execOp, ho]
  go_simp
set_option maxHeartbeats 1000000 in
theorem ld_str (o : Oper) (x : Operand) (ho : o.op = Op.load 9 x) (ev : Operand → Value) (g k : Nat) (hx : ev x = .pointer (some ⟨g, k, none⟩)) (s : ByteArray) (W : World) (h : W.cell? ⟨g, k, none⟩ = some (.string s)) :
    (execOp ev o).run Tryd.prog W = .ok (.value (.string s)) W := by
  simp only [execOp, ho]
  go_simp
set_option maxHeartbeats 1000000 in
theorem ld_int (o : Oper) (x : Operand) (ho : o.op = Op.load 3 x) (ev : Operand → Value) (g k : Nat) (hx : ev x = .pointer (some ⟨g, k, none⟩)) (n : Int) (W : World) (h : W.cell? ⟨g, k, none⟩ = some (.int .i64 n)) :
    (execOp ev o).run Tryd.prog W = .ok (.value (.int .i64 n)) W := by
  simp only [execOp, ho]
  go_simp
set_option maxHeartbeats 1000000 in
theorem lt_int (o : Oper) (x y : Operand) (ho : o.op = Op.binOp .lss 3 x y 3) (ev : Operand → Value) (n m : Int) (hx : ev x = .int .i64 n) (hy : ev y = .int .i64 m) (b : Bool) (hb : decide (n < m) = b) (W : World) :
    (execOp ev o).run Tryd.prog W = .ok (.value (.bool b)) W := by
  subst hb
  simp only [execOp, ho]
  go_simp
set_option maxHeartbeats 1000000 in
theorem gt_int (o : Oper) (x y : Operand) (ho : o.op = Op.binOp .gtr 3 x y 3) (ev : Operand → Value) (n m : Int) (hx : ev x = .int .i64 n) (hy : ev y = .int .i64 m) (b : Bool) (hb : decide (m < n) = b) (W : World) :
    (execOp ev o).run Tryd.prog W = .ok (.value (.bool b)) W := by
  subst hb
  simp only [execOp, ho]
  go_simp
set_option maxHeartbeats 1000000 in
theorem mk_rules3 (o : Oper) (x y z : Operand) (ho : o.op = Op.buildSlice 88 3 #[(0, x), (1, y), (2, z)]) (ev : Operand → Value) (f g h : Fn) (cf cg ch : Array Value) (hx : ev x = .func f #[] cf) (hy : ev y = .func g #[] cg) (hz : ev z = .func h #[] ch) (W : World) :
    (execOp ev o).run Tryd.prog W = .ok (.value (.slice (some ⟨W.heap.size, 0, none⟩) 3 3)) (W.alloc (.cells #[.func f #[] cf, .func g #[] cg, .func h #[] ch] 73)) := by
  simp only [execOp, ho]
  go_simp
end Go.Proofs.YtpkggopaigledaaDoor
