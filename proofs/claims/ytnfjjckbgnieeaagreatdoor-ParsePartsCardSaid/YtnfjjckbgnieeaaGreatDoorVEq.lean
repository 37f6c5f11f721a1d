/- '==' of terms and of atoms by value. -/
import Derived.Test.YtnfjjckbgnieeaaGreatDoorVRow
namespace Go.Proofs.YtnfjjckbgnieeaaGreatDoor
open Go.RowKit

/-- Are two atoms one? -/
def eqA (a b : Atm) : Bool := decide (a.1 = b.1) && (decide (a.2.1 = b.2.1) && (decide (a.2.2.1 = b.2.2.1) && decide (argsL a = argsL b)))
theorem eqA_iff {a b : Atm} : eqA a b = true ↔ a = b := by
  obtain ⟨s, p, n, t0, t1, t2, t3⟩ := a
  obtain ⟨s', p', n', u0, u1, u2, u3⟩ := b
  simp only [eqA, argsL, Bool.and_eq_true, decide_eq_true_eq, Prod.mk.injEq, List.cons.injEq, and_true]
theorem eqA_self (a : Atm) : eqA a a = true := eqA_iff.2 rfl
def eqT (t u : Tm) : Bool := decide (t.1 = u.1) && decide (t.2 = u.2)
theorem eqT_iff {t u : Tm} : eqT t u = true ↔ t = u := by
  obtain ⟨v, l⟩ := t
  obtain ⟨x, m⟩ := u
  simp only [eqT, Bool.and_eq_true, decide_eq_true_eq, Prod.mk.injEq]
theorem eqT_self (t : Tm) : eqT t t = true := eqT_iff.2 rfl
theorem run_termEq (d : Nat) (v u : Bool) (l m : List UInt8) (W : World) : (Op.equalIn (d + 2) 41 (.agg #[.bool v, .string ⟨l.toArray⟩]) (.agg #[.bool u, .string ⟨m.toArray⟩])).run Tryz.prog W = .ok (eqT (v, l) (u, m)) W := by
  go_simp
  by_cases h : v = u <;> by_cases k : l = m <;> simp [h, k, eqT]
theorem run_termEq' (v u : Bool) (l m : List UInt8) (W : World) : (Op.equalIn 10000 41 (.agg #[.bool v, .string ⟨l.toArray⟩]) (.agg #[.bool u, .string ⟨m.toArray⟩])).run Tryz.prog W = .ok (eqT (v, l) (u, m)) W := run_termEq 9998 v u l m W
attribute [local go_sem ↓] run_termEq
set_option maxHeartbeats 1000000 in
theorem run_arrEq (v0 v1 v2 v3 u0 u1 u2 u3 : Bool) (l0 l1 l2 l3 m0 m1 m2 m3 : List UInt8) (W : World) :
    (Op.equalIn 9999 42 (.agg #[.bool v0, .string ⟨l0.toArray⟩, .bool v1, .string ⟨l1.toArray⟩, .bool v2, .string ⟨l2.toArray⟩, .bool v3, .string ⟨l3.toArray⟩]) (.agg #[.bool u0, .string ⟨m0.toArray⟩, .bool u1, .string ⟨m1.toArray⟩, .bool u2, .string ⟨m2.toArray⟩, .bool u3, .string ⟨m3.toArray⟩])).run Tryz.prog W =
      .ok (eqT (v0, l0) (u0, m0) && (eqT (v1, l1) (u1, m1) && (eqT (v2, l2) (u2, m2) && eqT (v3, l3) (u3, m3)))) W := by
  have hs : ∀ W, (sizeOf 41).run Tryz.prog W = .ok 2 W := fun W => by kernel_rfl
  have ht : ∀ (v u : Bool) (l m : List UInt8) (W : World), (Op.equalIn 9998 41 (.agg #[.bool v, .string ⟨l.toArray⟩]) (.agg #[.bool u, .string ⟨m.toArray⟩])).run Tryz.prog W = .ok (eqT (v, l) (u, m)) W := fun v u l m W => run_termEq 9996 v u l m W
  rw [show (9999 : Nat) = 9998 + 1 from rfl, Op.equalIn]
  simp only [Sem.run_bind, run_underlying Tryz.underlying42, Result.andThen_ok, hs]
  simp only [Std.Legacy.Range.forIn_eq_forIn_range', Std.Legacy.Range.size, Nat.sub_zero, Nat.add_sub_cancel, Nat.div_one, List.range'_succ, List.range'_zero, List.forIn_cons, List.forIn_nil]
  generalize hQ : (9998 : Nat) = Q at *
  go_simp
  clear ht
  cases eqT (v0, l0) (u0, m0) <;> cases eqT (v1, l1) (u1, m1) <;> cases eqT (v2, l2) (u2, m2) <;> cases eqT (v3, l3) (u3, m3) <;> simp
attribute [local go_sem ↓] run_arrEq
set_option maxHeartbeats 1000000 in
theorem run_atomEq (a_s a_p : List UInt8) (a_n : Int) (a_v0 a_v1 a_v2 a_v3 : Bool) (a_l0 a_l1 a_l2 a_l3 : List UInt8) (b_s b_p : List UInt8) (b_n : Int) (b_v0 b_v1 b_v2 b_v3 : Bool) (b_l0 b_l1 b_l2 b_l3 : List UInt8) (W : World) : (Op.equalIn 10000 44 (.agg #[.string ⟨a_s.toArray⟩, .string ⟨a_p.toArray⟩, .int .i64 a_n, .bool a_v0, .string ⟨a_l0.toArray⟩, .bool a_v1, .string ⟨a_l1.toArray⟩, .bool a_v2, .string ⟨a_l2.toArray⟩, .bool a_v3, .string ⟨a_l3.toArray⟩]) (.agg #[.string ⟨b_s.toArray⟩, .string ⟨b_p.toArray⟩, .int .i64 b_n, .bool b_v0, .string ⟨b_l0.toArray⟩, .bool b_v1, .string ⟨b_l1.toArray⟩, .bool b_v2, .string ⟨b_l2.toArray⟩, .bool b_v3, .string ⟨b_l3.toArray⟩])).run Tryz.prog W = .ok (eqA ((a_s, a_p, a_n, (a_v0, a_l0), (a_v1, a_l1), (a_v2, a_l2), (a_v3, a_l3)) : Atm) ((b_s, b_p, b_n, (b_v0, b_l0), (b_v1, b_l1), (b_v2, b_l2), (b_v3, b_l3)) : Atm)) W := by
  have ha := fun W => run_arrEq a_v0 a_v1 a_v2 a_v3 b_v0 b_v1 b_v2 b_v3 a_l0 a_l1 a_l2 a_l3 b_l0 b_l1 b_l2 b_l3 W
  go_simp
  have e : decide (argsL ((a_s, a_p, a_n, (a_v0, a_l0), (a_v1, a_l1), (a_v2, a_l2), (a_v3, a_l3)) : Atm) = argsL ((b_s, b_p, b_n, (b_v0, b_l0), (b_v1, b_l1), (b_v2, b_l2), (b_v3, b_l3)) : Atm)) = (eqT (a_v0, a_l0) (b_v0, b_l0) && (eqT (a_v1, a_l1) (b_v1, b_l1) && (eqT (a_v2, a_l2) (b_v2, b_l2) && eqT (a_v3, a_l3) (b_v3, b_l3)))) := by
    rw [Bool.eq_iff_iff, decide_eq_true_eq]
    simp only [Bool.and_eq_true, eqT_iff]
    simp only [argsL, List.cons.injEq, and_true]
  unfold eqA
  rw [e]
  clear e ha
  generalize eqT (a_v0, a_l0) (b_v0, b_l0) = r0
  generalize eqT (a_v1, a_l1) (b_v1, b_l1) = r1
  generalize eqT (a_v2, a_l2) (b_v2, b_l2) = r2
  generalize eqT (a_v3, a_l3) (b_v3, b_l3) = r3
  by_cases h1 : a_s = b_s <;> by_cases h2 : a_p = b_p <;> by_cases h3 : a_n = b_n <;> cases r0 <;> cases r1 <;> cases r2 <;> cases r3 <;> simp [h1, h2, h3]
end Go.Proofs.YtnfjjckbgnieeaaGreatDoor
