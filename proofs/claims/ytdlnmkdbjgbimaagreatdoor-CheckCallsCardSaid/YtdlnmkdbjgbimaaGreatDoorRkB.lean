/- Reference 20: Instance, Right. Reference 22: cites, ok, Sound, in, Cited, Check, Accepts. Reference 22: in, Cited, Check, Accepts. -/
import Derived.Test.YtdlnmkdbjgbimaaGreatDoorRkA
import Derived.Test.YtdlnmkdbjgbimaaGreatDoorCkS
import Derived.Test.YtdlnmkdbjgbimaaGreatDoorOwS
namespace Go.Proofs.YtdlnmkdbjgbimaaGreatDoor
open Go.RowKit

section
attribute [local go_sem ↓] run_atomEq
set_option maxHeartbeats 1000000 in
set_option maxRecDepth 100000 in
theorem eqg_atom {o : Oper} {x y : Operand} {ev : Operand → Value} (a_s a_p : List UInt8) (a_n : Int) (a_v0 a_v1 a_v2 a_v3 : Bool) (a_l0 a_l1 a_l2 a_l3 : List UInt8) (b_s b_p : List UInt8) (b_n : Int) (b_v0 b_v1 b_v2 b_v3 : Bool) (b_l0 b_l1 b_l2 b_l3 : List UInt8) (ho : o.op = Op.binOp .eql 29 x y 29) (hx : ev x = .agg #[.string ⟨a_s.toArray⟩, .string ⟨a_p.toArray⟩, .int .i64 a_n, .bool a_v0, .string ⟨a_l0.toArray⟩, .bool a_v1, .string ⟨a_l1.toArray⟩, .bool a_v2, .string ⟨a_l2.toArray⟩, .bool a_v3, .string ⟨a_l3.toArray⟩]) (hy : ev y = .agg #[.string ⟨b_s.toArray⟩, .string ⟨b_p.toArray⟩, .int .i64 b_n, .bool b_v0, .string ⟨b_l0.toArray⟩, .bool b_v1, .string ⟨b_l1.toArray⟩, .bool b_v2, .string ⟨b_l2.toArray⟩, .bool b_v3, .string ⟨b_l3.toArray⟩]) (W : World) :
    (execOp ev o).run Tryz.prog W = .ok (.value (.bool (eqA ((a_s, a_p, a_n, (a_v0, a_l0), (a_v1, a_l1), (a_v2, a_l2), (a_v3, a_l3)) : Atm) ((b_s, b_p, b_n, (b_v0, b_l0), (b_v1, b_l1), (b_v2, b_l2), (b_v3, b_l3)) : Atm)))) W := by
  simp only [execOp, ho]
  go_simp
end
theorem InstI.of {R : Bool} {P : List (Atm × Atm)} {w w' : World} {e : Ending} {j : Nat} {Z : Option (List Bnd)} (h : MatchP Z w e w') (hb : ∀ m, Z = some m → bndN m ∧ m.length ≤ 4 * (j + 1)) (hR : R = (instF Z (P.drop j)).isSome) : ∃ v r, e = .returned (.tuple #[v, r]) ∧ InstI R P w' v r j ∧ Since w w' := by
  cases Z with
  | none =>
    obtain ⟨h1, h2⟩ := h.no
    exact ⟨_, _, h1, .inr ⟨rfl, rfl, by rw [hR, instF_none]; rfl⟩, h2⟩
  | some m =>
    obtain ⟨v, h1, h2, h3⟩ := h.yes
    exact ⟨_, _, h1, .inl ⟨m, rfl, h2, (hb m rfl).1, (hb m rfl).2, hR⟩, h3⟩
set_option maxHeartbeats 0 in
set_option maxRecDepth 100000 in
theorem rinst_any (x_s x_p : List UInt8) (x_n : Int) (x_v0 x_v1 x_v2 x_v3 : Bool) (x_l0 x_l1 x_l2 x_l3 : List UInt8) (xa : Option Addr) (xc : Nat) (X : List Atm) (a_s a_p : List UInt8) (a_n : Int) (a_v0 a_v1 a_v2 a_v3 : Bool) (a_l0 a_l1 a_l2 a_l3 : List UInt8) (ba : Option Addr) (bc : Nat) (Bd : List Atm) (w : World) (hX : ARow w (.slice xa X.length xc) X) (hB : ARow w (.slice ba Bd.length bc) Bd)
    (kx : checkA ((x_s, x_p, x_n, (x_v0, x_l0), (x_v1, x_l1), (x_v2, x_l2), (x_v3, x_l3)) : Atm) = 0) (kX : ∀ b ∈ X, checkA b = 0) (ka : checkA ((a_s, a_p, a_n, (a_v0, a_l0), (a_v1, a_l1), (a_v2, a_l2), (a_v3, a_l3)) : Atm) = 0) (ga : groundA ((a_s, a_p, a_n, (a_v0, a_l0), (a_v1, a_l1), (a_v2, a_l2), (a_v3, a_l3)) : Atm) = true) (kB : ∀ b ∈ Bd, checkA b = 0 ∧ groundA b = true) (hl : X.length ≤ 100) (hlB : Bd.length ≤ 1000000) :
    Calls Tryz.prog 56 #[.agg #[.string ⟨x_s.toArray⟩, .string ⟨x_p.toArray⟩, .int .i64 x_n, .bool x_v0, .string ⟨x_l0.toArray⟩, .bool x_v1, .string ⟨x_l1.toArray⟩, .bool x_v2, .string ⟨x_l2.toArray⟩, .bool x_v3, .string ⟨x_l3.toArray⟩, .slice xa X.length xc], .agg #[.string ⟨a_s.toArray⟩, .string ⟨a_p.toArray⟩, .int .i64 a_n, .bool a_v0, .string ⟨a_l0.toArray⟩, .bool a_v1, .string ⟨a_l1.toArray⟩, .bool a_v2, .string ⟨a_l2.toArray⟩, .bool a_v3, .string ⟨a_l3.toArray⟩], .slice ba Bd.length bc] w fun e w' => e = .returned (.bool (decide (Bd.length = X.length) && instB (((x_s, x_p, x_n, (x_v0, x_l0), (x_v1, x_l1), (x_v2, x_l2), (x_v3, x_l3)) : Atm), X) ((a_s, a_p, a_n, (a_v0, a_l0), (a_v1, a_l1), (a_v2, a_l2), (a_v3, a_l3)) : Atm) Bd)) ∧ Since w w' := by
  have hS : Since w ((w.alloc (.cells #[.string ⟨x_s.toArray⟩, .string ⟨x_p.toArray⟩, .int .i64 x_n, .bool x_v0, .string ⟨x_l0.toArray⟩, .bool x_v1, .string ⟨x_l1.toArray⟩, .bool x_v2, .string ⟨x_l2.toArray⟩, .bool x_v3, .string ⟨x_l3.toArray⟩, .slice xa X.length xc] 47)).alloc (.cells #[.string ⟨a_s.toArray⟩, .string ⟨a_p.toArray⟩, .int .i64 a_n, .bool a_v0, .string ⟨a_l0.toArray⟩, .bool a_v1, .string ⟨a_l1.toArray⟩, .bool a_v2, .string ⟨a_l2.toArray⟩, .bool a_v3, .string ⟨a_l3.toArray⟩] 29)) := ((Since.refl _).alloc _).alloc _
  have c_C : Cel ((w.alloc (.cells #[.string ⟨x_s.toArray⟩, .string ⟨x_p.toArray⟩, .int .i64 x_n, .bool x_v0, .string ⟨x_l0.toArray⟩, .bool x_v1, .string ⟨x_l1.toArray⟩, .bool x_v2, .string ⟨x_l2.toArray⟩, .bool x_v3, .string ⟨x_l3.toArray⟩, .slice xa X.length xc] 47)).alloc (.cells #[.string ⟨a_s.toArray⟩, .string ⟨a_p.toArray⟩, .int .i64 a_n, .bool a_v0, .string ⟨a_l0.toArray⟩, .bool a_v1, .string ⟨a_l1.toArray⟩, .bool a_v2, .string ⟨a_l2.toArray⟩, .bool a_v3, .string ⟨a_l3.toArray⟩] 29)) w.heap.size #[.string ⟨x_s.toArray⟩, .string ⟨x_p.toArray⟩, .int .i64 x_n, .bool x_v0, .string ⟨x_l0.toArray⟩, .bool x_v1, .string ⟨x_l1.toArray⟩, .bool x_v2, .string ⟨x_l2.toArray⟩, .bool x_v3, .string ⟨x_l3.toArray⟩, .slice xa X.length xc] 47 := Cel.next (heap_alloc_new w _) ((Since.refl _).alloc _)
  have a_C : Cel ((w.alloc (.cells #[.string ⟨x_s.toArray⟩, .string ⟨x_p.toArray⟩, .int .i64 x_n, .bool x_v0, .string ⟨x_l0.toArray⟩, .bool x_v1, .string ⟨x_l1.toArray⟩, .bool x_v2, .string ⟨x_l2.toArray⟩, .bool x_v3, .string ⟨x_l3.toArray⟩, .slice xa X.length xc] 47)).alloc (.cells #[.string ⟨a_s.toArray⟩, .string ⟨a_p.toArray⟩, .int .i64 a_n, .bool a_v0, .string ⟨a_l0.toArray⟩, .bool a_v1, .string ⟨a_l1.toArray⟩, .bool a_v2, .string ⟨a_l2.toArray⟩, .bool a_v3, .string ⟨a_l3.toArray⟩] 29)) (w.heap.size + 1) #[.string ⟨a_s.toArray⟩, .string ⟨a_p.toArray⟩, .int .i64 a_n, .bool a_v0, .string ⟨a_l0.toArray⟩, .bool a_v1, .string ⟨a_l1.toArray⟩, .bool a_v2, .string ⟨a_l2.toArray⟩, .bool a_v3, .string ⟨a_l3.toArray⟩] 29 := by
    have h : Cel ((w.alloc (.cells #[.string ⟨x_s.toArray⟩, .string ⟨x_p.toArray⟩, .int .i64 x_n, .bool x_v0, .string ⟨x_l0.toArray⟩, .bool x_v1, .string ⟨x_l1.toArray⟩, .bool x_v2, .string ⟨x_l2.toArray⟩, .bool x_v3, .string ⟨x_l3.toArray⟩, .slice xa X.length xc] 47)).alloc (.cells #[.string ⟨a_s.toArray⟩, .string ⟨a_p.toArray⟩, .int .i64 a_n, .bool a_v0, .string ⟨a_l0.toArray⟩, .bool a_v1, .string ⟨a_l1.toArray⟩, .bool a_v2, .string ⟨a_l2.toArray⟩, .bool a_v3, .string ⟨a_l3.toArray⟩] 29)) (w.alloc (.cells #[.string ⟨x_s.toArray⟩, .string ⟨x_p.toArray⟩, .int .i64 x_n, .bool x_v0, .string ⟨x_l0.toArray⟩, .bool x_v1, .string ⟨x_l1.toArray⟩, .bool x_v2, .string ⟨x_l2.toArray⟩, .bool x_v3, .string ⟨x_l3.toArray⟩, .slice xa X.length xc] 47)).heap.size #[.string ⟨a_s.toArray⟩, .string ⟨a_p.toArray⟩, .int .i64 a_n, .bool a_v0, .string ⟨a_l0.toArray⟩, .bool a_v1, .string ⟨a_l1.toArray⟩, .bool a_v2, .string ⟨a_l2.toArray⟩, .bool a_v3, .string ⟨a_l3.toArray⟩] 29 := heap_alloc_new _ _
    rwa [World.size_alloc] at h
  have cA := c_C.at
  have aA := a_C.at
  have HX := Lib.hid (anext hX hS)
  have HB := Lib.hid (anext hB hS)
  have HKX := Lib.hid kX
  have HKB := Lib.hid kB
  have HMA := Lib.hid (fun W => rmatch_any x_s x_p x_n x_v0 x_v1 x_v2 x_v3 x_l0 x_l1 x_l2 x_l3 a_s a_p a_n a_v0 a_v1 a_v2 a_v3 a_l0 a_l1 a_l2 a_l3 kx ka ga W)
  have HGR := Lib.hid (fun W => rground_any a_s a_p a_n a_v0 a_v1 a_v2 a_v3 a_l0 a_l1 a_l2 a_l3 W)
  rw [ga] at HGR
  have HB0 := Lib.hid (fun m (h : extA [] ((x_s, x_p, x_n, (x_v0, x_l0), (x_v1, x_l1), (x_v2, x_l2), (x_v3, x_l3)) : Atm) ((a_s, a_p, a_n, (a_v0, a_l0), (a_v1, a_l1), (a_v2, a_l2), (a_v3, a_l3)) : Atm) = some m) => extA_bnd kx ka ga bndN.nil h)
  clear hX hB kX kB kx ka ga c_C a_C
  by_cases hlen : Bd.length = X.length
  case neg =>
    have hz : (((Bd.length : Int) != (X.length : Int))) = true := by simp; omega
    have s11 : (((w.alloc (.cells #[.string ⟨x_s.toArray⟩, .string ⟨x_p.toArray⟩, .int .i64 x_n, .bool x_v0, .string ⟨x_l0.toArray⟩, .bool x_v1, .string ⟨x_l1.toArray⟩, .bool x_v2, .string ⟨x_l2.toArray⟩, .bool x_v3, .string ⟨x_l3.toArray⟩, .slice xa X.length xc] 47)).alloc (.cells #[.string ⟨a_s.toArray⟩, .string ⟨a_p.toArray⟩, .int .i64 a_n, .bool a_v0, .string ⟨a_l0.toArray⟩, .bool a_v1, .string ⟨a_l1.toArray⟩, .bool a_v2, .string ⟨a_l2.toArray⟩, .bool a_v3, .string ⟨a_l3.toArray⟩] 29))).cell? ⟨w.heap.size, 11, none⟩ = some (.slice xa X.length xc) := cA 11 _ rfl
    rw [decide_eq_false hlen, Bool.false_and]
    clear cA aA
    go_enter Tryz.func56, Tryz.ntmps56
    go_wp2_with fail
    go_ret
    exact ⟨rfl, hS⟩
  rw [decide_eq_true hlen, Bool.true_and]
  obtain ⟨R, hR⟩ : ∃ R, Hid (R = instB (((x_s, x_p, x_n, (x_v0, x_l0), (x_v1, x_l1), (x_v2, x_l2), (x_v3, x_l3)) : Atm), X) ((a_s, a_p, a_n, (a_v0, a_l0), (a_v1, a_l1), (a_v2, a_l2), (a_v3, a_l3)) : Atm) Bd) := ⟨_, rfl⟩
  obtain ⟨P, hP⟩ : ∃ P, Hid (P = X.zip Bd) := ⟨_, rfl⟩
  have hPl : P.length = X.length := by rw [hP.out, List.length_zip]; omega
  have hR0 : R = (instF (extA [] ((x_s, x_p, x_n, (x_v0, x_l0), (x_v1, x_l1), (x_v2, x_l2), (x_v3, x_l3)) : Atm) ((a_s, a_p, a_n, (a_v0, a_l0), (a_v1, a_l1), (a_v2, a_l2), (a_v3, a_l3)) : Atm)) (P.drop 0)).isSome := by rw [hR.out, List.drop_zero, hP.out]; rfl
  have HR0 := Lib.hid hR0
  rw [← hR.out]
  have hz : (((Bd.length : Int) != (X.length : Int))) = false := by simp; omega
  have HLEN := Lib.hid hlen
  have HPL := Lib.hid hPl
  clear hR hR0 hlen hPl
  go_enter Tryz.func56, Tryz.ntmps56
  go_upto_region 1 with (fail)
  generalize hw1 : ((w.alloc (.cells #[.string ⟨x_s.toArray⟩, .string ⟨x_p.toArray⟩, .int .i64 x_n, .bool x_v0, .string ⟨x_l0.toArray⟩, .bool x_v1, .string ⟨x_l1.toArray⟩, .bool x_v2, .string ⟨x_l2.toArray⟩, .bool x_v3, .string ⟨x_l3.toArray⟩, .slice xa X.length xc] 47)).alloc (.cells #[.string ⟨a_s.toArray⟩, .string ⟨a_p.toArray⟩, .int .i64 a_n, .bool a_v0, .string ⟨a_l0.toArray⟩, .bool a_v1, .string ⟨a_l1.toArray⟩, .bool a_v2, .string ⟨a_l2.toArray⟩, .bool a_v3, .string ⟨a_l3.toArray⟩] 29)) = w1 at *
  clear hw1
  have s1_0 : w1.cell? ⟨w.heap.size, 0, none⟩ = some (.string ⟨x_s.toArray⟩) := cA 0 _ rfl
  have s1_1 : w1.cell? ⟨w.heap.size, 1, none⟩ = some (.string ⟨x_p.toArray⟩) := cA 1 _ rfl
  have s1_2 : w1.cell? ⟨w.heap.size, 2, none⟩ = some (.int .i64 x_n) := cA 2 _ rfl
  have s1_3 : w1.cell? ⟨w.heap.size, 3, none⟩ = some (.bool x_v0) := cA 3 _ rfl
  have s1_4 : w1.cell? ⟨w.heap.size, 4, none⟩ = some (.string ⟨x_l0.toArray⟩) := cA 4 _ rfl
  have s1_5 : w1.cell? ⟨w.heap.size, 5, none⟩ = some (.bool x_v1) := cA 5 _ rfl
  have s1_6 : w1.cell? ⟨w.heap.size, 6, none⟩ = some (.string ⟨x_l1.toArray⟩) := cA 6 _ rfl
  have s1_7 : w1.cell? ⟨w.heap.size, 7, none⟩ = some (.bool x_v2) := cA 7 _ rfl
  have s1_8 : w1.cell? ⟨w.heap.size, 8, none⟩ = some (.string ⟨x_l2.toArray⟩) := cA 8 _ rfl
  have s1_9 : w1.cell? ⟨w.heap.size, 9, none⟩ = some (.bool x_v3) := cA 9 _ rfl
  have s1_10 : w1.cell? ⟨w.heap.size, 10, none⟩ = some (.string ⟨x_l3.toArray⟩) := cA 10 _ rfl
  have s1_11 : w1.cell? ⟨w.heap.size, 11, none⟩ = some (.slice xa X.length xc) := cA 11 _ rfl
  have t1_0 : w1.cell? ⟨w.heap.size + 1, 0, none⟩ = some (.string ⟨a_s.toArray⟩) := aA 0 _ rfl
  have t1_1 : w1.cell? ⟨w.heap.size + 1, 1, none⟩ = some (.string ⟨a_p.toArray⟩) := aA 1 _ rfl
  have t1_2 : w1.cell? ⟨w.heap.size + 1, 2, none⟩ = some (.int .i64 a_n) := aA 2 _ rfl
  have t1_3 : w1.cell? ⟨w.heap.size + 1, 3, none⟩ = some (.bool a_v0) := aA 3 _ rfl
  have t1_4 : w1.cell? ⟨w.heap.size + 1, 4, none⟩ = some (.string ⟨a_l0.toArray⟩) := aA 4 _ rfl
  have t1_5 : w1.cell? ⟨w.heap.size + 1, 5, none⟩ = some (.bool a_v1) := aA 5 _ rfl
  have t1_6 : w1.cell? ⟨w.heap.size + 1, 6, none⟩ = some (.string ⟨a_l1.toArray⟩) := aA 6 _ rfl
  have t1_7 : w1.cell? ⟨w.heap.size + 1, 7, none⟩ = some (.bool a_v2) := aA 7 _ rfl
  have t1_8 : w1.cell? ⟨w.heap.size + 1, 8, none⟩ = some (.string ⟨a_l2.toArray⟩) := aA 8 _ rfl
  have t1_9 : w1.cell? ⟨w.heap.size + 1, 9, none⟩ = some (.bool a_v3) := aA 9 _ rfl
  have t1_10 : w1.cell? ⟨w.heap.size + 1, 10, none⟩ = some (.string ⟨a_l3.toArray⟩) := aA 10 _ rfl
  go_wp2_with fail
  refine (HGR.out _).mono ?_
  rintro e w2 ⟨rfl, hb2⟩
  have cA2 := cA.next hb2
  have aA2 := aA.next hb2
  have s2_0 : w2.cell? ⟨w.heap.size, 0, none⟩ = some (.string ⟨x_s.toArray⟩) := cA2 0 _ rfl
  have s2_1 : w2.cell? ⟨w.heap.size, 1, none⟩ = some (.string ⟨x_p.toArray⟩) := cA2 1 _ rfl
  have s2_2 : w2.cell? ⟨w.heap.size, 2, none⟩ = some (.int .i64 x_n) := cA2 2 _ rfl
  have s2_3 : w2.cell? ⟨w.heap.size, 3, none⟩ = some (.bool x_v0) := cA2 3 _ rfl
  have s2_4 : w2.cell? ⟨w.heap.size, 4, none⟩ = some (.string ⟨x_l0.toArray⟩) := cA2 4 _ rfl
  have s2_5 : w2.cell? ⟨w.heap.size, 5, none⟩ = some (.bool x_v1) := cA2 5 _ rfl
  have s2_6 : w2.cell? ⟨w.heap.size, 6, none⟩ = some (.string ⟨x_l1.toArray⟩) := cA2 6 _ rfl
  have s2_7 : w2.cell? ⟨w.heap.size, 7, none⟩ = some (.bool x_v2) := cA2 7 _ rfl
  have s2_8 : w2.cell? ⟨w.heap.size, 8, none⟩ = some (.string ⟨x_l2.toArray⟩) := cA2 8 _ rfl
  have s2_9 : w2.cell? ⟨w.heap.size, 9, none⟩ = some (.bool x_v3) := cA2 9 _ rfl
  have s2_10 : w2.cell? ⟨w.heap.size, 10, none⟩ = some (.string ⟨x_l3.toArray⟩) := cA2 10 _ rfl
  have s2_11 : w2.cell? ⟨w.heap.size, 11, none⟩ = some (.slice xa X.length xc) := cA2 11 _ rfl
  have t2_0 : w2.cell? ⟨w.heap.size + 1, 0, none⟩ = some (.string ⟨a_s.toArray⟩) := aA2 0 _ rfl
  have t2_1 : w2.cell? ⟨w.heap.size + 1, 1, none⟩ = some (.string ⟨a_p.toArray⟩) := aA2 1 _ rfl
  have t2_2 : w2.cell? ⟨w.heap.size + 1, 2, none⟩ = some (.int .i64 a_n) := aA2 2 _ rfl
  have t2_3 : w2.cell? ⟨w.heap.size + 1, 3, none⟩ = some (.bool a_v0) := aA2 3 _ rfl
  have t2_4 : w2.cell? ⟨w.heap.size + 1, 4, none⟩ = some (.string ⟨a_l0.toArray⟩) := aA2 4 _ rfl
  have t2_5 : w2.cell? ⟨w.heap.size + 1, 5, none⟩ = some (.bool a_v1) := aA2 5 _ rfl
  have t2_6 : w2.cell? ⟨w.heap.size + 1, 6, none⟩ = some (.string ⟨a_l1.toArray⟩) := aA2 6 _ rfl
  have t2_7 : w2.cell? ⟨w.heap.size + 1, 7, none⟩ = some (.bool a_v2) := aA2 7 _ rfl
  have t2_8 : w2.cell? ⟨w.heap.size + 1, 8, none⟩ = some (.string ⟨a_l2.toArray⟩) := aA2 8 _ rfl
  have t2_9 : w2.cell? ⟨w.heap.size + 1, 9, none⟩ = some (.bool a_v3) := aA2 9 _ rfl
  have t2_10 : w2.cell? ⟨w.heap.size + 1, 10, none⟩ = some (.string ⟨a_l3.toArray⟩) := aA2 10 _ rfl
  clear s1_0 s1_1 s1_2 s1_3 s1_4 s1_5 s1_6 s1_7 s1_8 s1_9 s1_10 s1_11 t1_0 t1_1 t1_2 t1_3 t1_4 t1_5 t1_6 t1_7 t1_8 t1_9 t1_10 HGR
  go_wp2_with fail
  refine (HMA.out _).mono ?_
  rintro e w3 hm
  obtain ⟨v3, r3, rfl, hI, hb3⟩ := InstI.of (R := R) (P := P) (j := 0) hm (fun m h => by obtain ⟨h1, h2⟩ := HB0.out m h; exact ⟨h1, by simpa using h2⟩) HR0.out
  have hS3 := hb2.trans hb3
  clear s2_0 s2_1 s2_2 s2_3 s2_4 s2_5 s2_6 s2_7 s2_8 s2_9 s2_10 s2_11 t2_0 t2_1 t2_2 t2_3 t2_4 t2_5 t2_6 t2_7 t2_8 t2_9 t2_10 HMA hm HB0 HR0 hb2 hb3 cA2 aA2 aA
  go_wp2_with fail
  go_loopw [7, 8, 9] (fun v r m wr => ∃ j : Nat, j ≤ X.length ∧ m = .int .i64 (j : Int) ∧ InstI R P wr v r j ∧ Since w1 wr) (fun _ _ m _ => X.length - (intOf m).toNat)
  case atStart => exact ⟨0, by omega, rfl, hI, hS3⟩
  case round =>
  clear hI hS3
  obtain ⟨j, hj, rfl, hI, hS4⟩ := hrel
  rcases hI with ⟨m, rfl, hV, hN, hml, hR⟩ | ⟨rfl, rfl, hR⟩
  · by_cases hlt : j < X.length
    · have hltB : j < Bd.length := by have := HLEN.out; omega
      have hlt2 : (j : Int) < (Bd.length : Int) := by omega
      have hlt0 : (0 : Int) ≤ (j : Int) := by omega
      obtain ⟨bx, ox, ex, hcx, hax⟩ := HX.out.get (by omega)
      obtain ⟨bb, bo, eb, hcb, hab⟩ := HB.out.get (by omega)
      have d1 := hax j hlt
      have d2 := hab j hltB
      have k1 := HKX.out _ (List.getElem_mem hlt)
      have k2 := HKB.out _ (List.getElem_mem hltB)
      have hpl : j < P.length := by have := HPL.out; omega
      have hdr := List.drop_eq_getElem_cons hpl
      have hPj : P[j] = (X[j], Bd[j]) := by simp only [hP.out, List.getElem_zip]
      rw [hPj] at hdr
      obtain ⟨⟨y_s, y_p, y_n, ⟨y_v0, y_l0⟩, ⟨y_v1, y_l1⟩, ⟨y_v2, y_l2⟩, ⟨y_v3, y_l3⟩⟩, hy⟩ : ∃ x, Hid (x = X[j]) := ⟨X[j], rfl⟩
      obtain ⟨⟨z_s, z_p, z_n, ⟨z_v0, z_l0⟩, ⟨z_v1, z_l1⟩, ⟨z_v2, z_l2⟩, ⟨z_v3, z_l3⟩⟩, hz2⟩ : ∃ x, Hid (x = Bd[j]) := ⟨Bd[j], rfl⟩
      rw [← hy.out] at d1 k1 hdr
      rw [← hz2.out] at d2 k2 hdr
      have yA : At w1 bx (ox + j * 11) #[.string ⟨y_s.toArray⟩, .string ⟨y_p.toArray⟩, .int .i64 y_n, .bool y_v0, .string ⟨y_l0.toArray⟩, .bool y_v1, .string ⟨y_l1.toArray⟩, .bool y_v2, .string ⟨y_l2.toArray⟩, .bool y_v3, .string ⟨y_l3.toArray⟩] := d1
      have zA : At w1 bb (bo + j * 11) #[.string ⟨z_s.toArray⟩, .string ⟨z_p.toArray⟩, .int .i64 z_n, .bool z_v0, .string ⟨z_l0.toArray⟩, .bool z_v1, .string ⟨z_l1.toArray⟩, .bool z_v2, .string ⟨z_l2.toArray⟩, .bool z_v3, .string ⟨z_l3.toArray⟩] := d2
      have hRn : R = (instF (extA m ((y_s, y_p, y_n, (y_v0, y_l0), (y_v1, y_l1), (y_v2, y_l2), (y_v3, y_l3)) : Atm) ((z_s, z_p, z_n, (z_v0, z_l0), (z_v1, z_l1), (z_v2, z_l2), (z_v3, z_l3)) : Atm)) (P.drop (j + 1))).isSome := by rw [hR, hdr]; rfl
      have HRn := Lib.hid hRn
      have HEX := Lib.hid (fun W (h : RowS W u7 m) => (rextend_any y_s y_p y_n y_v0 y_v1 y_v2 y_v3 y_l0 y_l1 y_l2 y_l3 z_s z_p z_n z_v0 z_v1 z_v2 z_v3 z_l0 z_l1 z_l2 z_l3 k1 k2.1 k2.2 u7 m W h hN (by omega)).mono fun e W' hh => InstI.of (R := R) (P := P) (j := j + 1) hh (fun m' h => by obtain ⟨q1, q2⟩ := extA_bnd k1 k2.1 k2.2 hN h; exact ⟨q1, by omega⟩) HRn.out)
      have HGZ := Lib.hid (fun W => rground_any z_s z_p z_n z_v0 z_v1 z_v2 z_v3 z_l0 z_l1 z_l2 z_l3 W)
      rw [k2.2] at HGZ
      subst ex
      subst eb
      have zB := zA.next hS4
      obtain ⟨z_c0, z_c1, z_c2, z_c3, z_c4, z_c5, z_c6, z_c7, z_c8, z_c9, z_c10⟩ := (show AtAt wr bb (bo + j * 11) ((z_s, z_p, z_n, (z_v0, z_l0), (z_v1, z_l1), (z_v2, z_l2), (z_v3, z_l3)) : Atm) from zB).all
      clear hax hab hdr hPj hR hRn hN k1 k2 d1 d2
      go_wp2_with fail
      refine (HGZ.out _).mono ?_
      rintro e w5 ⟨rfl, hb5⟩
      have hS5 := hS4.trans hb5
      have cA5 := cA.next hS5
      have yA5 := yA.next hS5
      have zA5 := zA.next hS5
      have hV5 := hV.next hb5
      clear z_c0 z_c1 z_c2 z_c3 z_c4 z_c5 z_c6 z_c7 z_c8 z_c9 z_c10 hb5 HGZ
      go_wp2_with fail
      replace hS5 := hS5.trans ((Since.refl w5).drew)
      replace cA5 := cA5.next ((Since.refl w5).drew)
      replace yA5 := yA5.next ((Since.refl w5).drew)
      replace zA5 := zA5.next ((Since.refl w5).drew)
      replace hV5 := hV5.next ((Since.refl w5).drew)
      refine hx_begin (S := fun W => (Since w1 W) ∧ (At W w.heap.size 0 #[.string ⟨x_s.toArray⟩, .string ⟨x_p.toArray⟩, .int .i64 x_n, .bool x_v0, .string ⟨x_l0.toArray⟩, .bool x_v1, .string ⟨x_l1.toArray⟩, .bool x_v2, .string ⟨x_l2.toArray⟩, .bool x_v3, .string ⟨x_l3.toArray⟩, .slice (some ⟨bx, ox, none⟩) X.length xc]) ∧ (At W bx (ox + j * 11) #[.string ⟨y_s.toArray⟩, .string ⟨y_p.toArray⟩, .int .i64 y_n, .bool y_v0, .string ⟨y_l0.toArray⟩, .bool y_v1, .string ⟨y_l1.toArray⟩, .bool y_v2, .string ⟨y_l2.toArray⟩, .bool y_v3, .string ⟨y_l3.toArray⟩]) ∧ (At W bb (bo + j * 11) #[.string ⟨z_s.toArray⟩, .string ⟨z_p.toArray⟩, .int .i64 z_n, .bool z_v0, .string ⟨z_l0.toArray⟩, .bool z_v1, .string ⟨z_l1.toArray⟩, .bool z_v2, .string ⟨z_l2.toArray⟩, .bool z_v3, .string ⟨z_l3.toArray⟩]) ∧ (RowS W u7 m)) (by kernel_rfl) ⟨hS5, cA5, yA5, zA5, hV5⟩ (by kernel_rfl) (fun _ _ _ _ _ h => h) (fun hns hQ => ?_)
      refine hx_take (i := 0) (oi := _) (v := u7) rfl rfl hns (by kernel_rfl) (by kernel_rfl) hQ (by kernel_rfl) (fun _ _ => by kernel_rfl) ⟨hS5, cA5, yA5, zA5, hV5⟩ ?_
      refine hx_take (i := 1) (oi := _) (v := .pointer (some ⟨w.heap.size, 11, none⟩)) rfl rfl hns (by kernel_rfl) (by kernel_rfl) hQ (by kernel_rfl) (fun _ _ => by kernel_rfl) ⟨hS5, cA5, yA5, zA5, hV5⟩ ?_
      refine hx_take (i := 2) (oi := _) (v := .slice (some ⟨bx, ox, none⟩) X.length xc) rfl rfl hns (by kernel_rfl) (by kernel_rfl) hQ (by kernel_rfl) (fun W hW => ld_one rfl (by kernel_rfl) (by kernel_rfl) W (hW.2.1 11 _ rfl)) ⟨hS5, cA5, yA5, zA5, hV5⟩ ?_
      refine hx_take (i := 3) (oi := _) (v := .int .i64 (j : Int)) rfl rfl hns (by kernel_rfl) (by kernel_rfl) hQ (by kernel_rfl) (fun _ _ => by kernel_rfl) ⟨hS5, cA5, yA5, zA5, hV5⟩ ?_
      refine hx_take (i := 4) (oi := _) (v := .pointer (some ⟨bx, ox + j * 11, none⟩)) rfl rfl hns (by kernel_rfl) (by kernel_rfl) hQ (by kernel_rfl) (fun W _ => ix_sl (n := X.length) (c := xc) (K := 11) rfl (by kernel_rfl) (by kernel_rfl) (by kernel_rfl) rfl hlt W) ⟨hS5, cA5, yA5, zA5, hV5⟩ ?_
      refine hx_take (i := 5) (oi := _) (v := .agg #[.string ⟨y_s.toArray⟩, .string ⟨y_p.toArray⟩, .int .i64 y_n, .bool y_v0, .string ⟨y_l0.toArray⟩, .bool y_v1, .string ⟨y_l1.toArray⟩, .bool y_v2, .string ⟨y_l2.toArray⟩, .bool y_v3, .string ⟨y_l3.toArray⟩]) rfl rfl hns (by kernel_rfl) (by kernel_rfl) hQ (by kernel_rfl) (fun W hW => ld_at rfl (by kernel_rfl) (by kernel_rfl) (by kernel_rfl) W (hW.2.2.1)) ⟨hS5, cA5, yA5, zA5, hV5⟩ ?_
      refine hx_take (i := 6) (oi := _) (v := .slice (some ⟨bb, bo, none⟩) Bd.length bc) rfl rfl hns (by kernel_rfl) (by kernel_rfl) hQ (by kernel_rfl) (fun _ _ => by kernel_rfl) ⟨hS5, cA5, yA5, zA5, hV5⟩ ?_
      refine hx_take (i := 7) (oi := _) (v := .int .i64 (j : Int)) rfl rfl hns (by kernel_rfl) (by kernel_rfl) hQ (by kernel_rfl) (fun _ _ => by kernel_rfl) ⟨hS5, cA5, yA5, zA5, hV5⟩ ?_
      refine hx_take (i := 8) (oi := _) (v := .pointer (some ⟨bb, bo + j * 11, none⟩)) rfl rfl hns (by kernel_rfl) (by kernel_rfl) hQ (by kernel_rfl) (fun W _ => ix_sl (n := Bd.length) (c := bc) (K := 11) rfl (by kernel_rfl) (by kernel_rfl) (by kernel_rfl) rfl hltB W) ⟨hS5, cA5, yA5, zA5, hV5⟩ ?_
      refine hx_take (i := 9) (oi := _) (v := .agg #[.string ⟨z_s.toArray⟩, .string ⟨z_p.toArray⟩, .int .i64 z_n, .bool z_v0, .string ⟨z_l0.toArray⟩, .bool z_v1, .string ⟨z_l1.toArray⟩, .bool z_v2, .string ⟨z_l2.toArray⟩, .bool z_v3, .string ⟨z_l3.toArray⟩]) rfl rfl hns (by kernel_rfl) (by kernel_rfl) hQ (by kernel_rfl) (fun W hW => ld_at rfl (by kernel_rfl) (by kernel_rfl) (by kernel_rfl) W (hW.2.2.2.1)) ⟨hS5, cA5, yA5, zA5, hV5⟩ ?_
      refine hx_call (i := 10) (oi := _) 76 #[u7, .agg #[.string ⟨y_s.toArray⟩, .string ⟨y_p.toArray⟩, .int .i64 y_n, .bool y_v0, .string ⟨y_l0.toArray⟩, .bool y_v1, .string ⟨y_l1.toArray⟩, .bool y_v2, .string ⟨y_l2.toArray⟩, .bool y_v3, .string ⟨y_l3.toArray⟩], .agg #[.string ⟨z_s.toArray⟩, .string ⟨z_p.toArray⟩, .int .i64 z_n, .bool z_v0, .string ⟨z_l0.toArray⟩, .bool z_v1, .string ⟨z_l1.toArray⟩, .bool z_v2, .string ⟨z_l2.toArray⟩, .bool z_v3, .string ⟨z_l3.toArray⟩]] rfl rfl (by kernel_rfl) (by kernel_rfl) (by kernel_rfl) (HEX.out _ hV5) ?_
      rintro e wx61 ⟨v2, r2, rfl, hI2, hb⟩
      replace hS5 := hS5.trans hb
      replace cA5 := cA5.next hb
      replace yA5 := yA5.next hb
      replace zA5 := zA5.next hb
      replace hV5 := hV5.next hb
      clear hb
      refine ⟨_, rfl, ⟨hS5, cA5, yA5, zA5, hV5⟩, ?_⟩
      refine hx_take (i := 11) (oi := _) (v := .tuple #[v2, r2]) rfl rfl hns (by kernel_rfl) (by kernel_rfl) hQ (by kernel_rfl) (fun _ _ => by kernel_rfl) ⟨hS5, cA5, yA5, zA5, hV5⟩ ?_
      refine hx_take (i := 12) (oi := _) (v := v2) rfl rfl hns (by kernel_rfl) (by kernel_rfl) hQ (by kernel_rfl) (fun _ _ => by kernel_rfl) ⟨hS5, cA5, yA5, zA5, hV5⟩ ?_
      refine hx_take (i := 13) (oi := _) (v := r2) rfl rfl hns (by kernel_rfl) (by kernel_rfl) hQ (by kernel_rfl) (fun _ _ => by kernel_rfl) ⟨hS5, cA5, yA5, zA5, hV5⟩ ?_
      refine hx_take (i := 14) (oi := _) (v := v2) rfl rfl hns (by kernel_rfl) (by kernel_rfl) hQ (by kernel_rfl) (fun _ _ => by kernel_rfl) ⟨hS5, cA5, yA5, zA5, hV5⟩ ?_
      refine hx_take (i := 15) (oi := _) (v := r2) rfl rfl hns (by kernel_rfl) (by kernel_rfl) hQ (by kernel_rfl) (fun _ _ => by kernel_rfl) ⟨hS5, cA5, yA5, zA5, hV5⟩ ?_
      refine wpAnyH_done (by kernel_rfl) ?_ _
      clear hns hQ
      simp only [List.set_cons_zero, List.set_cons_succ]
      clear cA5 yA5 zA5 hV5 HEX
      go_wp2_with fail
      go_roundw
      case rel => exact ⟨j + 1, by omega, by go_num, hI2, hS5⟩
      case measure => simp [intOf]; omega
    · have hlt2 : ¬ (j : Int) < (Bd.length : Int) := by have := HLEN.out; omega
      have hRt : R = true := by rw [hR, List.drop_eq_nil_of_le (by have := HPL.out; omega)]; rfl
      subst hRt
      clear hR
      go_wp2_with fail
      go_ret
      exact ⟨rfl, hS.trans hS4⟩
  · subst hR
    by_cases hlt : j < X.length
    · have hlt2 : (j : Int) < (Bd.length : Int) := by have := HLEN.out; omega
      go_wp2_with fail
      go_ret
      exact ⟨rfl, hS.trans hS4⟩
    · have hlt2 : ¬ (j : Int) < (Bd.length : Int) := by have := HLEN.out; omega
      go_wp2_with fail
      go_ret
      exact ⟨rfl, hS.trans hS4⟩
/-- Is a reason right? -/
def rightB (L : List Cls) (F : List Atm) (a : Atm) (c : Int) (Bd : List Atm) : Bool :=
  if c = -1 then decide (Bd.length = 0) && decide (a ∈ F) else if c < 0 then false else match L[c.toNat]? with | none => false | some cl => decide (Bd.length = cl.2.length) && instB cl a Bd
theorem take_mem {F : List Atm} {k : Nat} {a : Atm} (hk : k < F.length) : decide (a ∈ F.take (k + 1)) = (decide (a ∈ F.take k) || eqA F[k] a) := by
  rw [List.take_succ_eq_append_getElem hk, Bool.eq_iff_iff, Bool.or_eq_true, decide_eq_true_eq, decide_eq_true_eq, List.mem_append, List.mem_singleton, eqA_iff, eq_comm (a := a)]
set_option maxHeartbeats 0 in
set_option maxRecDepth 100000 in
theorem rright_any (va : Option Addr) (lc : Nat) (L : List Cls) (vf : Option Addr) (fc : Nat) (F : List Atm) (a_s a_p : List UInt8) (a_n : Int) (a_v0 a_v1 a_v2 a_v3 : Bool) (a_l0 a_l1 a_l2 a_l3 : List UInt8) (c : Int) (ba : Option Addr) (bc : Nat) (Bd : List Atm) (w : World) (hv : RRow w (.slice va L.length lc) L) (hf : ARow w (.slice vf F.length fc) F) (hB : ARow w (.slice ba Bd.length bc) Bd)
    (kL : ∀ cl ∈ L, clauseB cl = true ∧ cl.2.length ≤ 100) (ka : checkA ((a_s, a_p, a_n, (a_v0, a_l0), (a_v1, a_l1), (a_v2, a_l2), (a_v3, a_l3)) : Atm) = 0) (ga : groundA ((a_s, a_p, a_n, (a_v0, a_l0), (a_v1, a_l1), (a_v2, a_l2), (a_v3, a_l3)) : Atm) = true) (kB : ∀ b ∈ Bd, checkA b = 0 ∧ groundA b = true) (hlB : Bd.length ≤ 1000000) (hlF : F.length ≤ 1000000) :
    Calls Tryz.prog 39 #[.slice va L.length lc, .slice vf F.length fc, .agg #[.string ⟨a_s.toArray⟩, .string ⟨a_p.toArray⟩, .int .i64 a_n, .bool a_v0, .string ⟨a_l0.toArray⟩, .bool a_v1, .string ⟨a_l1.toArray⟩, .bool a_v2, .string ⟨a_l2.toArray⟩, .bool a_v3, .string ⟨a_l3.toArray⟩, .int .i64 c, .slice ba Bd.length bc]] w fun e w' => e = .returned (.bool (rightB L F ((a_s, a_p, a_n, (a_v0, a_l0), (a_v1, a_l1), (a_v2, a_l2), (a_v3, a_l3)) : Atm) c Bd)) ∧ Since w w' := by
  have hS : Since w (w.alloc (.cells #[.string ⟨a_s.toArray⟩, .string ⟨a_p.toArray⟩, .int .i64 a_n, .bool a_v0, .string ⟨a_l0.toArray⟩, .bool a_v1, .string ⟨a_l1.toArray⟩, .bool a_v2, .string ⟨a_l2.toArray⟩, .bool a_v3, .string ⟨a_l3.toArray⟩, .int .i64 c, .slice ba Bd.length bc] 75)) := (Since.refl _).alloc _
  have c_C : Cel (w.alloc (.cells #[.string ⟨a_s.toArray⟩, .string ⟨a_p.toArray⟩, .int .i64 a_n, .bool a_v0, .string ⟨a_l0.toArray⟩, .bool a_v1, .string ⟨a_l1.toArray⟩, .bool a_v2, .string ⟨a_l2.toArray⟩, .bool a_v3, .string ⟨a_l3.toArray⟩, .int .i64 c, .slice ba Bd.length bc] 75)) w.heap.size #[.string ⟨a_s.toArray⟩, .string ⟨a_p.toArray⟩, .int .i64 a_n, .bool a_v0, .string ⟨a_l0.toArray⟩, .bool a_v1, .string ⟨a_l1.toArray⟩, .bool a_v2, .string ⟨a_l2.toArray⟩, .bool a_v3, .string ⟨a_l3.toArray⟩, .int .i64 c, .slice ba Bd.length bc] 75 := heap_alloc_new w _
  have rA := c_C.at
  have HV := Lib.hid (rnext hv hS)
  have HF := Lib.hid (anext hf hS)
  have HB := Lib.hid (anext hB hS)
  have HKL := Lib.hid kL
  have HKB := Lib.hid kB
  have HKA := Lib.hid ka
  have HGA := Lib.hid ga
  have HGR := Lib.hid (fun W => rground_any a_s a_p a_n a_v0 a_v1 a_v2 a_v3 a_l0 a_l1 a_l2 a_l3 W)
  rw [ga] at HGR
  obtain ⟨R, hR⟩ : ∃ R, Hid (R = rightB L F ((a_s, a_p, a_n, (a_v0, a_l0), (a_v1, a_l1), (a_v2, a_l2), (a_v3, a_l3)) : Atm) c Bd) := ⟨_, rfl⟩
  rw [← hR.out]
  clear hv hf hB kL kB ka ga c_C
  go_enter Tryz.func39, Tryz.ntmps39
  go_upto_region 1 with (fail)
  generalize hw1 : w.alloc (.cells #[.string ⟨a_s.toArray⟩, .string ⟨a_p.toArray⟩, .int .i64 a_n, .bool a_v0, .string ⟨a_l0.toArray⟩, .bool a_v1, .string ⟨a_l1.toArray⟩, .bool a_v2, .string ⟨a_l2.toArray⟩, .bool a_v3, .string ⟨a_l3.toArray⟩, .int .i64 c, .slice ba Bd.length bc] 75) = w1 at *
  clear hw1
  have r1_0 : w1.cell? ⟨w.heap.size, 0, none⟩ = some (.string ⟨a_s.toArray⟩) := rA 0 _ rfl
  have r1_1 : w1.cell? ⟨w.heap.size, 1, none⟩ = some (.string ⟨a_p.toArray⟩) := rA 1 _ rfl
  have r1_2 : w1.cell? ⟨w.heap.size, 2, none⟩ = some (.int .i64 a_n) := rA 2 _ rfl
  have r1_3 : w1.cell? ⟨w.heap.size, 3, none⟩ = some (.bool a_v0) := rA 3 _ rfl
  have r1_4 : w1.cell? ⟨w.heap.size, 4, none⟩ = some (.string ⟨a_l0.toArray⟩) := rA 4 _ rfl
  have r1_5 : w1.cell? ⟨w.heap.size, 5, none⟩ = some (.bool a_v1) := rA 5 _ rfl
  have r1_6 : w1.cell? ⟨w.heap.size, 6, none⟩ = some (.string ⟨a_l1.toArray⟩) := rA 6 _ rfl
  have r1_7 : w1.cell? ⟨w.heap.size, 7, none⟩ = some (.bool a_v2) := rA 7 _ rfl
  have r1_8 : w1.cell? ⟨w.heap.size, 8, none⟩ = some (.string ⟨a_l2.toArray⟩) := rA 8 _ rfl
  have r1_9 : w1.cell? ⟨w.heap.size, 9, none⟩ = some (.bool a_v3) := rA 9 _ rfl
  have r1_10 : w1.cell? ⟨w.heap.size, 10, none⟩ = some (.string ⟨a_l3.toArray⟩) := rA 10 _ rfl
  have r1_11 : w1.cell? ⟨w.heap.size, 11, none⟩ = some (.int .i64 c) := rA 11 _ rfl
  have r1_12 : w1.cell? ⟨w.heap.size, 12, none⟩ = some (.slice ba Bd.length bc) := rA 12 _ rfl
  go_wp2_with fail
  refine (HGR.out _).mono ?_
  rintro e w2 ⟨rfl, hb2⟩
  have rA2 := rA.next hb2
  have k11 : w2.cell? ⟨w.heap.size, 11, none⟩ = some (.int .i64 c) := rA2 11 _ rfl
  have k12 : w2.cell? ⟨w.heap.size, 12, none⟩ = some (.slice ba Bd.length bc) := rA2 12 _ rfl
  clear r1_0 r1_1 r1_2 r1_3 r1_4 r1_5 r1_6 r1_7 r1_8 r1_9 r1_10 r1_11 r1_12 HGR
  by_cases hc1 : c = -1
  · subst hc1
    have hR1 : Hid (R = (decide (Bd.length = 0) && decide (((a_s, a_p, a_n, (a_v0, a_l0), (a_v1, a_l1), (a_v2, a_l2), (a_v3, a_l3)) : Atm) ∈ F))) := by show _ = _; rw [hR.out, rightB, if_pos rfl]
    clear hR
    go_wp2_with fail
    clear k11 k12
    go_loopw [8, 9] (fun th m wr => ∃ k : Nat, k ≤ F.length ∧ m = .int .i64 (k : Int) ∧ th = .bool (decide (((a_s, a_p, a_n, (a_v0, a_l0), (a_v1, a_l1), (a_v2, a_l2), (a_v3, a_l3)) : Atm) ∈ F.take k)) ∧ Since w1 wr) (fun _ m _ => F.length - (intOf m).toNat)
    case atStart => exact ⟨0, by omega, rfl, by simp, hb2⟩
    case round =>
    obtain ⟨k, hk, rfl, rfl, hS3⟩ := hrel
    by_cases hlt : k < F.length
    · have hlt2 : (k : Int) < (F.length : Int) := by omega
      have hlt0 : (0 : Int) ≤ (k : Int) := by omega
      obtain ⟨bf, of, ef, hcf, haf⟩ := HF.out.get (by omega)
      have d1 := haf k hlt
      have htm := take_mem (a := ((a_s, a_p, a_n, (a_v0, a_l0), (a_v1, a_l1), (a_v2, a_l2), (a_v3, a_l3)) : Atm)) hlt
      obtain ⟨⟨y_s, y_p, y_n, ⟨y_v0, y_l0⟩, ⟨y_v1, y_l1⟩, ⟨y_v2, y_l2⟩, ⟨y_v3, y_l3⟩⟩, hy⟩ : ∃ x, Hid (x = F[k]) := ⟨F[k], rfl⟩
      rw [← hy.out] at d1 htm
      have yA0 : At w1 bf (of + k * 11) #[.string ⟨y_s.toArray⟩, .string ⟨y_p.toArray⟩, .int .i64 y_n, .bool y_v0, .string ⟨y_l0.toArray⟩, .bool y_v1, .string ⟨y_l1.toArray⟩, .bool y_v2, .string ⟨y_l2.toArray⟩, .bool y_v3, .string ⟨y_l3.toArray⟩] := d1
      have yA := yA0.next hS3
      have rA3 := rA.next hS3
      subst ef
      obtain ⟨th, hth⟩ : ∃ b, Hid (b = decide (((a_s, a_p, a_n, (a_v0, a_l0), (a_v1, a_l1), (a_v2, a_l2), (a_v3, a_l3)) : Atm) ∈ F.take k)) := ⟨_, rfl⟩
      rw [← hth.out] at htm ⊢
      clear haf d1 yA0 hth
      cases th
      case true =>
        go_wp2_with fail
        replace hS3 := hS3.trans ((Since.refl wr).drew)
        replace yA := yA.next ((Since.refl wr).drew)
        replace rA3 := rA3.next ((Since.refl wr).drew)
        refine hx_begin (S := fun W => (Since w1 W) ∧ (At W bf (of + k * 11) #[.string ⟨y_s.toArray⟩, .string ⟨y_p.toArray⟩, .int .i64 y_n, .bool y_v0, .string ⟨y_l0.toArray⟩, .bool y_v1, .string ⟨y_l1.toArray⟩, .bool y_v2, .string ⟨y_l2.toArray⟩, .bool y_v3, .string ⟨y_l3.toArray⟩]) ∧ (At W w.heap.size 0 #[.string ⟨a_s.toArray⟩, .string ⟨a_p.toArray⟩, .int .i64 a_n, .bool a_v0, .string ⟨a_l0.toArray⟩, .bool a_v1, .string ⟨a_l1.toArray⟩, .bool a_v2, .string ⟨a_l2.toArray⟩, .bool a_v3, .string ⟨a_l3.toArray⟩, .int .i64 (-1), .slice ba Bd.length bc])) (by kernel_rfl) ⟨hS3, yA, rA3⟩ (by kernel_rfl) (fun _ _ _ _ _ h => h) (fun hns hQ => ?_)
        refine hx_take (i := 0) (oi := _) (v := .bool true) rfl rfl hns (by kernel_rfl) (by kernel_rfl) hQ (by kernel_rfl) (fun _ _ => by kernel_rfl) ⟨hS3, yA, rA3⟩ ?_
        refine hx_take (i := 1) (oi := _) (v := .bool true) rfl rfl hns (by kernel_rfl) (by kernel_rfl) hQ (by kernel_rfl) (fun _ _ => by kernel_rfl) ⟨hS3, yA, rA3⟩ ?_
        refine hx_off (i := 2) (oi := _) rfl rfl hns (by kernel_rfl) (by kernel_rfl) hQ (by kernel_rfl) ⟨hS3, yA, rA3⟩ ?_
        refine hx_off (i := 3) (oi := _) rfl rfl hns (by kernel_rfl) (by kernel_rfl) hQ (by kernel_rfl) ⟨hS3, yA, rA3⟩ ?_
        refine hx_off (i := 4) (oi := _) rfl rfl hns (by kernel_rfl) (by kernel_rfl) hQ (by kernel_rfl) ⟨hS3, yA, rA3⟩ ?_
        refine hx_off (i := 5) (oi := _) rfl rfl hns (by kernel_rfl) (by kernel_rfl) hQ (by kernel_rfl) ⟨hS3, yA, rA3⟩ ?_
        refine hx_off (i := 6) (oi := _) rfl rfl hns (by kernel_rfl) (by kernel_rfl) hQ (by kernel_rfl) ⟨hS3, yA, rA3⟩ ?_
        refine hx_off (i := 7) (oi := _) rfl rfl hns (by kernel_rfl) (by kernel_rfl) hQ (by kernel_rfl) ⟨hS3, yA, rA3⟩ ?_
        refine hx_off (i := 8) (oi := _) rfl rfl hns (by kernel_rfl) (by kernel_rfl) hQ (by kernel_rfl) ⟨hS3, yA, rA3⟩ ?_
        refine hx_take (i := 9) (oi := _) (v := .bool true) rfl rfl hns (by kernel_rfl) (by kernel_rfl) hQ (by kernel_rfl) (fun _ _ => by kernel_rfl) ⟨hS3, yA, rA3⟩ ?_
        refine hx_take (i := 10) (oi := _) (v := .bool true) rfl rfl hns (by kernel_rfl) (by kernel_rfl) hQ (by kernel_rfl) (fun _ _ => by kernel_rfl) ⟨hS3, yA, rA3⟩ ?_
        refine wpAnyH_done (by kernel_rfl) ?_ _
        clear hns hQ
        simp only [List.set_cons_zero, List.set_cons_succ]
        clear yA rA3
        go_wp2_with fail
        go_roundw
        case rel => exact ⟨k + 1, by omega, by go_num, by rw [htm]; rfl, hS3⟩
        case measure => simp [intOf]; omega
      case false =>
        cases hq : eqA ((y_s, y_p, y_n, (y_v0, y_l0), (y_v1, y_l1), (y_v2, y_l2), (y_v3, y_l3)) : Atm) ((a_s, a_p, a_n, (a_v0, a_l0), (a_v1, a_l1), (a_v2, a_l2), (a_v3, a_l3)) : Atm)
        case true =>
          go_wp2_with fail
          replace hS3 := hS3.trans ((Since.refl wr).drew)
          replace yA := yA.next ((Since.refl wr).drew)
          replace rA3 := rA3.next ((Since.refl wr).drew)
          refine hx_begin (S := fun W => (Since w1 W) ∧ (At W bf (of + k * 11) #[.string ⟨y_s.toArray⟩, .string ⟨y_p.toArray⟩, .int .i64 y_n, .bool y_v0, .string ⟨y_l0.toArray⟩, .bool y_v1, .string ⟨y_l1.toArray⟩, .bool y_v2, .string ⟨y_l2.toArray⟩, .bool y_v3, .string ⟨y_l3.toArray⟩]) ∧ (At W w.heap.size 0 #[.string ⟨a_s.toArray⟩, .string ⟨a_p.toArray⟩, .int .i64 a_n, .bool a_v0, .string ⟨a_l0.toArray⟩, .bool a_v1, .string ⟨a_l1.toArray⟩, .bool a_v2, .string ⟨a_l2.toArray⟩, .bool a_v3, .string ⟨a_l3.toArray⟩, .int .i64 (-1), .slice ba Bd.length bc])) (by kernel_rfl) ⟨hS3, yA, rA3⟩ (by kernel_rfl) (fun _ _ _ _ _ h => h) (fun hns hQ => ?_)
          refine hx_take (i := 0) (oi := _) (v := .bool false) rfl rfl hns (by kernel_rfl) (by kernel_rfl) hQ (by kernel_rfl) (fun _ _ => by kernel_rfl) ⟨hS3, yA, rA3⟩ ?_
          refine hx_take (i := 1) (oi := _) (v := .bool false) rfl rfl hns (by kernel_rfl) (by kernel_rfl) hQ (by kernel_rfl) (fun _ _ => by kernel_rfl) ⟨hS3, yA, rA3⟩ ?_
          refine hx_take (i := 2) (oi := _) (v := .slice (some ⟨bf, of, none⟩) F.length fc) rfl rfl hns (by kernel_rfl) (by kernel_rfl) hQ (by kernel_rfl) (fun _ _ => by kernel_rfl) ⟨hS3, yA, rA3⟩ ?_
          refine hx_take (i := 3) (oi := _) (v := .int .i64 (k : Int)) rfl rfl hns (by kernel_rfl) (by kernel_rfl) hQ (by kernel_rfl) (fun _ _ => by kernel_rfl) ⟨hS3, yA, rA3⟩ ?_
          refine hx_take (i := 4) (oi := _) (v := .pointer (some ⟨bf, of + k * 11, none⟩)) rfl rfl hns (by kernel_rfl) (by kernel_rfl) hQ (by kernel_rfl) (fun W _ => ix_sl (n := F.length) (c := fc) (K := 11) rfl (by kernel_rfl) (by kernel_rfl) (by kernel_rfl) rfl hlt W) ⟨hS3, yA, rA3⟩ ?_
          refine hx_take (i := 5) (oi := _) (v := .agg #[.string ⟨y_s.toArray⟩, .string ⟨y_p.toArray⟩, .int .i64 y_n, .bool y_v0, .string ⟨y_l0.toArray⟩, .bool y_v1, .string ⟨y_l1.toArray⟩, .bool y_v2, .string ⟨y_l2.toArray⟩, .bool y_v3, .string ⟨y_l3.toArray⟩]) rfl rfl hns (by kernel_rfl) (by kernel_rfl) hQ (by kernel_rfl) (fun W hW => ld_at rfl (by kernel_rfl) (by kernel_rfl) (by kernel_rfl) W (hW.2.1)) ⟨hS3, yA, rA3⟩ ?_
          refine hx_take (i := 6) (oi := _) (v := .pointer (some ⟨w.heap.size, 0, none⟩)) rfl rfl hns (by kernel_rfl) (by kernel_rfl) hQ (by kernel_rfl) (fun _ _ => by kernel_rfl) ⟨hS3, yA, rA3⟩ ?_
          refine hx_take (i := 7) (oi := _) (v := .agg #[.string ⟨a_s.toArray⟩, .string ⟨a_p.toArray⟩, .int .i64 a_n, .bool a_v0, .string ⟨a_l0.toArray⟩, .bool a_v1, .string ⟨a_l1.toArray⟩, .bool a_v2, .string ⟨a_l2.toArray⟩, .bool a_v3, .string ⟨a_l3.toArray⟩]) rfl rfl hns (by kernel_rfl) (by kernel_rfl) hQ (by kernel_rfl) (fun W hW => ld_at rfl (by kernel_rfl) (by kernel_rfl) (by kernel_rfl) W (at_sub (hW.2.2) 0 11 rfl)) ⟨hS3, yA, rA3⟩ ?_
          refine hx_take (i := 8) (oi := _) (v := .bool true) rfl rfl hns (by kernel_rfl) (by kernel_rfl) hQ (by kernel_rfl) (fun W _ => bin_val (eqg_atom y_s y_p y_n y_v0 y_v1 y_v2 y_v3 y_l0 y_l1 y_l2 y_l3 a_s a_p a_n a_v0 a_v1 a_v2 a_v3 a_l0 a_l1 a_l2 a_l3 rfl (by kernel_rfl) (by kernel_rfl) W) hq) ⟨hS3, yA, rA3⟩ ?_
          refine hx_take (i := 9) (oi := _) (v := .bool true) rfl rfl hns (by kernel_rfl) (by kernel_rfl) hQ (by kernel_rfl) (fun _ _ => by kernel_rfl) ⟨hS3, yA, rA3⟩ ?_
          refine hx_take (i := 10) (oi := _) (v := .bool true) rfl rfl hns (by kernel_rfl) (by kernel_rfl) hQ (by kernel_rfl) (fun _ _ => by kernel_rfl) ⟨hS3, yA, rA3⟩ ?_
          refine wpAnyH_done (by kernel_rfl) ?_ _
          clear hns hQ
          simp only [List.set_cons_zero, List.set_cons_succ]
          clear yA rA3
          go_wp2_with fail
          go_roundw
          case rel => exact ⟨k + 1, by omega, by go_num, by rw [htm, hq]; rfl, hS3⟩
          case measure => simp [intOf]; omega
        case false =>
          go_wp2_with fail
          replace hS3 := hS3.trans ((Since.refl wr).drew)
          replace yA := yA.next ((Since.refl wr).drew)
          replace rA3 := rA3.next ((Since.refl wr).drew)
          refine hx_begin (S := fun W => (Since w1 W) ∧ (At W bf (of + k * 11) #[.string ⟨y_s.toArray⟩, .string ⟨y_p.toArray⟩, .int .i64 y_n, .bool y_v0, .string ⟨y_l0.toArray⟩, .bool y_v1, .string ⟨y_l1.toArray⟩, .bool y_v2, .string ⟨y_l2.toArray⟩, .bool y_v3, .string ⟨y_l3.toArray⟩]) ∧ (At W w.heap.size 0 #[.string ⟨a_s.toArray⟩, .string ⟨a_p.toArray⟩, .int .i64 a_n, .bool a_v0, .string ⟨a_l0.toArray⟩, .bool a_v1, .string ⟨a_l1.toArray⟩, .bool a_v2, .string ⟨a_l2.toArray⟩, .bool a_v3, .string ⟨a_l3.toArray⟩, .int .i64 (-1), .slice ba Bd.length bc])) (by kernel_rfl) ⟨hS3, yA, rA3⟩ (by kernel_rfl) (fun _ _ _ _ _ h => h) (fun hns hQ => ?_)
          refine hx_take (i := 0) (oi := _) (v := .bool false) rfl rfl hns (by kernel_rfl) (by kernel_rfl) hQ (by kernel_rfl) (fun _ _ => by kernel_rfl) ⟨hS3, yA, rA3⟩ ?_
          refine hx_take (i := 1) (oi := _) (v := .bool false) rfl rfl hns (by kernel_rfl) (by kernel_rfl) hQ (by kernel_rfl) (fun _ _ => by kernel_rfl) ⟨hS3, yA, rA3⟩ ?_
          refine hx_take (i := 2) (oi := _) (v := .slice (some ⟨bf, of, none⟩) F.length fc) rfl rfl hns (by kernel_rfl) (by kernel_rfl) hQ (by kernel_rfl) (fun _ _ => by kernel_rfl) ⟨hS3, yA, rA3⟩ ?_
          refine hx_take (i := 3) (oi := _) (v := .int .i64 (k : Int)) rfl rfl hns (by kernel_rfl) (by kernel_rfl) hQ (by kernel_rfl) (fun _ _ => by kernel_rfl) ⟨hS3, yA, rA3⟩ ?_
          refine hx_take (i := 4) (oi := _) (v := .pointer (some ⟨bf, of + k * 11, none⟩)) rfl rfl hns (by kernel_rfl) (by kernel_rfl) hQ (by kernel_rfl) (fun W _ => ix_sl (n := F.length) (c := fc) (K := 11) rfl (by kernel_rfl) (by kernel_rfl) (by kernel_rfl) rfl hlt W) ⟨hS3, yA, rA3⟩ ?_
          refine hx_take (i := 5) (oi := _) (v := .agg #[.string ⟨y_s.toArray⟩, .string ⟨y_p.toArray⟩, .int .i64 y_n, .bool y_v0, .string ⟨y_l0.toArray⟩, .bool y_v1, .string ⟨y_l1.toArray⟩, .bool y_v2, .string ⟨y_l2.toArray⟩, .bool y_v3, .string ⟨y_l3.toArray⟩]) rfl rfl hns (by kernel_rfl) (by kernel_rfl) hQ (by kernel_rfl) (fun W hW => ld_at rfl (by kernel_rfl) (by kernel_rfl) (by kernel_rfl) W (hW.2.1)) ⟨hS3, yA, rA3⟩ ?_
          refine hx_take (i := 6) (oi := _) (v := .pointer (some ⟨w.heap.size, 0, none⟩)) rfl rfl hns (by kernel_rfl) (by kernel_rfl) hQ (by kernel_rfl) (fun _ _ => by kernel_rfl) ⟨hS3, yA, rA3⟩ ?_
          refine hx_take (i := 7) (oi := _) (v := .agg #[.string ⟨a_s.toArray⟩, .string ⟨a_p.toArray⟩, .int .i64 a_n, .bool a_v0, .string ⟨a_l0.toArray⟩, .bool a_v1, .string ⟨a_l1.toArray⟩, .bool a_v2, .string ⟨a_l2.toArray⟩, .bool a_v3, .string ⟨a_l3.toArray⟩]) rfl rfl hns (by kernel_rfl) (by kernel_rfl) hQ (by kernel_rfl) (fun W hW => ld_at rfl (by kernel_rfl) (by kernel_rfl) (by kernel_rfl) W (at_sub (hW.2.2) 0 11 rfl)) ⟨hS3, yA, rA3⟩ ?_
          refine hx_take (i := 8) (oi := _) (v := .bool false) rfl rfl hns (by kernel_rfl) (by kernel_rfl) hQ (by kernel_rfl) (fun W _ => bin_val (eqg_atom y_s y_p y_n y_v0 y_v1 y_v2 y_v3 y_l0 y_l1 y_l2 y_l3 a_s a_p a_n a_v0 a_v1 a_v2 a_v3 a_l0 a_l1 a_l2 a_l3 rfl (by kernel_rfl) (by kernel_rfl) W) hq) ⟨hS3, yA, rA3⟩ ?_
          refine hx_take (i := 9) (oi := _) (v := .bool false) rfl rfl hns (by kernel_rfl) (by kernel_rfl) hQ (by kernel_rfl) (fun _ _ => by kernel_rfl) ⟨hS3, yA, rA3⟩ ?_
          refine hx_take (i := 10) (oi := _) (v := .bool false) rfl rfl hns (by kernel_rfl) (by kernel_rfl) hQ (by kernel_rfl) (fun _ _ => by kernel_rfl) ⟨hS3, yA, rA3⟩ ?_
          refine wpAnyH_done (by kernel_rfl) ?_ _
          clear hns hQ
          simp only [List.set_cons_zero, List.set_cons_succ]
          clear yA rA3
          go_wp2_with fail
          go_roundw
          case rel => exact ⟨k + 1, by omega, by go_num, by rw [htm, hq]; rfl, hS3⟩
          case measure => simp [intOf]; omega
    · have hlt2 : ¬ (k : Int) < (F.length : Int) := by omega
      rw [List.take_of_length_le (by omega)]
      obtain ⟨D, hD⟩ : ∃ D, Hid (D = decide (((a_s, a_p, a_n, (a_v0, a_l0), (a_v1, a_l1), (a_v2, a_l2), (a_v3, a_l3)) : Atm) ∈ F)) := ⟨_, rfl⟩
      rw [← hD.out] at hR1 ⊢
      by_cases h0 : Bd.length = 0
      · have hz : (((Bd.length : Int) == 0)) = true := by rw [show (Bd.length : Int) = 0 by omega]; rfl
        rw [decide_eq_true h0, Bool.true_and] at hR1
        cases D
        · go_wp2_with fail
          go_ret
          exact ⟨ret_bool hR1.out.symm, hS.trans hS3⟩
        · go_wp2_with fail
          go_ret
          exact ⟨ret_bool hR1.out.symm, hS.trans hS3⟩
      · have hz : (((Bd.length : Int) == 0)) = false := beq_false_of_ne (by omega)
        rw [decide_eq_false h0, Bool.false_and] at hR1
        go_wp2_with fail
        go_ret
        exact ⟨ret_bool hR1.out.symm, hS.trans hS3⟩
  have hz1 : (c == -1) = false := by simpa using hc1
  go_wp2_with fail
  clear k11 k12
  by_cases hc2 : c < 0
  · have hR1 : Hid (R = false) := by show _ = _; rw [hR.out, rightB, if_neg hc1, if_pos hc2]
    clear hR
    have hge : ¬ 0 ≤ c := by omega
    replace hb2 := hb2.trans ((Since.refl w2).drew)
    replace rA2 := rA2.next ((Since.refl w2).drew)
    refine hx_begin (S := fun W => (Since w1 W) ∧ (At W w.heap.size 0 #[.string ⟨a_s.toArray⟩, .string ⟨a_p.toArray⟩, .int .i64 a_n, .bool a_v0, .string ⟨a_l0.toArray⟩, .bool a_v1, .string ⟨a_l1.toArray⟩, .bool a_v2, .string ⟨a_l2.toArray⟩, .bool a_v3, .string ⟨a_l3.toArray⟩, .int .i64 c, .slice ba Bd.length bc])) (by kernel_rfl) ⟨hb2, rA2⟩ (by kernel_rfl) (fun _ _ _ _ _ h => h) (fun hns hQ => ?_)
    refine hx_take (i := 0) (oi := _) (v := .pointer (some ⟨w.heap.size, 11, none⟩)) rfl rfl hns (by kernel_rfl) (by kernel_rfl) hQ (by kernel_rfl) (fun _ _ => by kernel_rfl) ⟨hb2, rA2⟩ ?_
    refine hx_take (i := 1) (oi := _) (v := .int .i64 c) rfl rfl hns (by kernel_rfl) (by kernel_rfl) hQ (by kernel_rfl) (fun W hW => ld_one rfl (by kernel_rfl) (by kernel_rfl) W (hW.2 11 _ rfl)) ⟨hb2, rA2⟩ ?_
    refine hx_take (i := 2) (oi := _) (v := .bool false) rfl rfl hns (by kernel_rfl) (by kernel_rfl) hQ (by kernel_rfl) (fun W _ => bin_val (geq_int rfl (by kernel_rfl) (by kernel_rfl) W) (decide_eq_false hge)) ⟨hb2, rA2⟩ ?_
    refine hx_take (i := 3) (oi := _) (v := .bool false) rfl rfl hns (by kernel_rfl) (by kernel_rfl) hQ (by kernel_rfl) (fun _ _ => by kernel_rfl) ⟨hb2, rA2⟩ ?_
    refine hx_off (i := 4) (oi := _) rfl rfl hns (by kernel_rfl) (by kernel_rfl) hQ (by kernel_rfl) ⟨hb2, rA2⟩ ?_
    refine hx_off (i := 5) (oi := _) rfl rfl hns (by kernel_rfl) (by kernel_rfl) hQ (by kernel_rfl) ⟨hb2, rA2⟩ ?_
    refine hx_off (i := 6) (oi := _) rfl rfl hns (by kernel_rfl) (by kernel_rfl) hQ (by kernel_rfl) ⟨hb2, rA2⟩ ?_
    refine hx_off (i := 7) (oi := _) rfl rfl hns (by kernel_rfl) (by kernel_rfl) hQ (by kernel_rfl) ⟨hb2, rA2⟩ ?_
    refine hx_off (i := 8) (oi := _) rfl rfl hns (by kernel_rfl) (by kernel_rfl) hQ (by kernel_rfl) ⟨hb2, rA2⟩ ?_
    refine hx_take (i := 9) (oi := _) (v := .bool false) rfl rfl hns (by kernel_rfl) (by kernel_rfl) hQ (by kernel_rfl) (fun _ _ => by kernel_rfl) ⟨hb2, rA2⟩ ?_
    refine hx_take (i := 10) (oi := _) (v := .bool false) rfl rfl hns (by kernel_rfl) (by kernel_rfl) hQ (by kernel_rfl) (fun _ _ => by kernel_rfl) ⟨hb2, rA2⟩ ?_
    refine hx_off (i := 11) (oi := _) rfl rfl hns (by kernel_rfl) (by kernel_rfl) hQ (by kernel_rfl) ⟨hb2, rA2⟩ ?_
    refine hx_off (i := 12) (oi := _) rfl rfl hns (by kernel_rfl) (by kernel_rfl) hQ (by kernel_rfl) ⟨hb2, rA2⟩ ?_
    refine hx_off (i := 13) (oi := _) rfl rfl hns (by kernel_rfl) (by kernel_rfl) hQ (by kernel_rfl) ⟨hb2, rA2⟩ ?_
    refine hx_off (i := 14) (oi := _) rfl rfl hns (by kernel_rfl) (by kernel_rfl) hQ (by kernel_rfl) ⟨hb2, rA2⟩ ?_
    refine hx_off (i := 15) (oi := _) rfl rfl hns (by kernel_rfl) (by kernel_rfl) hQ (by kernel_rfl) ⟨hb2, rA2⟩ ?_
    refine hx_off (i := 16) (oi := _) rfl rfl hns (by kernel_rfl) (by kernel_rfl) hQ (by kernel_rfl) ⟨hb2, rA2⟩ ?_
    refine hx_off (i := 17) (oi := _) rfl rfl hns (by kernel_rfl) (by kernel_rfl) hQ (by kernel_rfl) ⟨hb2, rA2⟩ ?_
    refine hx_off (i := 18) (oi := _) rfl rfl hns (by kernel_rfl) (by kernel_rfl) hQ (by kernel_rfl) ⟨hb2, rA2⟩ ?_
    refine hx_off (i := 19) (oi := _) rfl rfl hns (by kernel_rfl) (by kernel_rfl) hQ (by kernel_rfl) ⟨hb2, rA2⟩ ?_
    refine hx_off (i := 20) (oi := _) rfl rfl hns (by kernel_rfl) (by kernel_rfl) hQ (by kernel_rfl) ⟨hb2, rA2⟩ ?_
    refine hx_take (i := 21) (oi := _) (v := .bool false) rfl rfl hns (by kernel_rfl) (by kernel_rfl) hQ (by kernel_rfl) (fun _ _ => by kernel_rfl) ⟨hb2, rA2⟩ ?_
    refine hx_take (i := 22) (oi := _) (v := .bool false) rfl rfl hns (by kernel_rfl) (by kernel_rfl) hQ (by kernel_rfl) (fun _ _ => by kernel_rfl) ⟨hb2, rA2⟩ ?_
    refine wpAnyH_done (by kernel_rfl) ?_ _
    clear hns hQ
    simp only [List.set_cons_zero, List.set_cons_succ]
    go_wp2_with fail
    go_ret
    exact ⟨ret_bool hR1.out.symm, hS.trans hb2⟩
  obtain ⟨k, hk⟩ : ∃ k : Nat, c = (k : Int) := ⟨c.toNat, by omega⟩
  subst hk
  have hge : (0 : Int) ≤ (k : Int) := by omega
  by_cases hlt : k < L.length
  case neg =>
    have hR1 : Hid (R = false) := by
      show _ = _
      rw [hR.out, rightB, if_neg hc1, if_neg hc2, show ((k : Nat) : Int).toNat = k by omega, List.getElem?_eq_none (by omega)]
    clear hR
    have hlt2 : ¬ (k : Int) < (L.length : Int) := by omega
    replace hb2 := hb2.trans ((Since.refl w2).drew)
    replace rA2 := rA2.next ((Since.refl w2).drew)
    refine hx_begin (S := fun W => (Since w1 W) ∧ (At W w.heap.size 0 #[.string ⟨a_s.toArray⟩, .string ⟨a_p.toArray⟩, .int .i64 a_n, .bool a_v0, .string ⟨a_l0.toArray⟩, .bool a_v1, .string ⟨a_l1.toArray⟩, .bool a_v2, .string ⟨a_l2.toArray⟩, .bool a_v3, .string ⟨a_l3.toArray⟩, .int .i64 (k : Int), .slice ba Bd.length bc])) (by kernel_rfl) ⟨hb2, rA2⟩ (by kernel_rfl) (fun _ _ _ _ _ h => h) (fun hns hQ => ?_)
    refine hx_take (i := 0) (oi := _) (v := .pointer (some ⟨w.heap.size, 11, none⟩)) rfl rfl hns (by kernel_rfl) (by kernel_rfl) hQ (by kernel_rfl) (fun _ _ => by kernel_rfl) ⟨hb2, rA2⟩ ?_
    refine hx_take (i := 1) (oi := _) (v := .int .i64 (k : Int)) rfl rfl hns (by kernel_rfl) (by kernel_rfl) hQ (by kernel_rfl) (fun W hW => ld_one rfl (by kernel_rfl) (by kernel_rfl) W (hW.2 11 _ rfl)) ⟨hb2, rA2⟩ ?_
    refine hx_take (i := 2) (oi := _) (v := .bool true) rfl rfl hns (by kernel_rfl) (by kernel_rfl) hQ (by kernel_rfl) (fun W _ => bin_val (geq_int rfl (by kernel_rfl) (by kernel_rfl) W) (decide_eq_true hge)) ⟨hb2, rA2⟩ ?_
    refine hx_take (i := 3) (oi := _) (v := .bool true) rfl rfl hns (by kernel_rfl) (by kernel_rfl) hQ (by kernel_rfl) (fun _ _ => by kernel_rfl) ⟨hb2, rA2⟩ ?_
    refine hx_take (i := 4) (oi := _) (v := .pointer (some ⟨w.heap.size, 11, none⟩)) rfl rfl hns (by kernel_rfl) (by kernel_rfl) hQ (by kernel_rfl) (fun _ _ => by kernel_rfl) ⟨hb2, rA2⟩ ?_
    refine hx_take (i := 5) (oi := _) (v := .int .i64 (k : Int)) rfl rfl hns (by kernel_rfl) (by kernel_rfl) hQ (by kernel_rfl) (fun W hW => ld_one rfl (by kernel_rfl) (by kernel_rfl) W (hW.2 11 _ rfl)) ⟨hb2, rA2⟩ ?_
    refine hx_take (i := 6) (oi := _) (v := .slice va L.length lc) rfl rfl hns (by kernel_rfl) (by kernel_rfl) hQ (by kernel_rfl) (fun _ _ => by kernel_rfl) ⟨hb2, rA2⟩ ?_
    refine hx_take (i := 7) (oi := _) (v := .int .i64 (L.length : Int)) rfl rfl hns (by kernel_rfl) (by kernel_rfl) hQ (by kernel_rfl) (fun _ _ => by kernel_rfl) ⟨hb2, rA2⟩ ?_
    refine hx_take (i := 8) (oi := _) (v := .bool false) rfl rfl hns (by kernel_rfl) (by kernel_rfl) hQ (by kernel_rfl) (fun W _ => bin_val (lss_int rfl (by kernel_rfl) (by kernel_rfl) W) (decide_eq_false hlt2)) ⟨hb2, rA2⟩ ?_
    refine hx_take (i := 9) (oi := _) (v := .bool false) rfl rfl hns (by kernel_rfl) (by kernel_rfl) hQ (by kernel_rfl) (fun _ _ => by kernel_rfl) ⟨hb2, rA2⟩ ?_
    refine hx_take (i := 10) (oi := _) (v := .bool false) rfl rfl hns (by kernel_rfl) (by kernel_rfl) hQ (by kernel_rfl) (fun _ _ => by kernel_rfl) ⟨hb2, rA2⟩ ?_
    refine hx_off (i := 11) (oi := _) rfl rfl hns (by kernel_rfl) (by kernel_rfl) hQ (by kernel_rfl) ⟨hb2, rA2⟩ ?_
    refine hx_off (i := 12) (oi := _) rfl rfl hns (by kernel_rfl) (by kernel_rfl) hQ (by kernel_rfl) ⟨hb2, rA2⟩ ?_
    refine hx_off (i := 13) (oi := _) rfl rfl hns (by kernel_rfl) (by kernel_rfl) hQ (by kernel_rfl) ⟨hb2, rA2⟩ ?_
    refine hx_off (i := 14) (oi := _) rfl rfl hns (by kernel_rfl) (by kernel_rfl) hQ (by kernel_rfl) ⟨hb2, rA2⟩ ?_
    refine hx_off (i := 15) (oi := _) rfl rfl hns (by kernel_rfl) (by kernel_rfl) hQ (by kernel_rfl) ⟨hb2, rA2⟩ ?_
    refine hx_off (i := 16) (oi := _) rfl rfl hns (by kernel_rfl) (by kernel_rfl) hQ (by kernel_rfl) ⟨hb2, rA2⟩ ?_
    refine hx_off (i := 17) (oi := _) rfl rfl hns (by kernel_rfl) (by kernel_rfl) hQ (by kernel_rfl) ⟨hb2, rA2⟩ ?_
    refine hx_off (i := 18) (oi := _) rfl rfl hns (by kernel_rfl) (by kernel_rfl) hQ (by kernel_rfl) ⟨hb2, rA2⟩ ?_
    refine hx_off (i := 19) (oi := _) rfl rfl hns (by kernel_rfl) (by kernel_rfl) hQ (by kernel_rfl) ⟨hb2, rA2⟩ ?_
    refine hx_off (i := 20) (oi := _) rfl rfl hns (by kernel_rfl) (by kernel_rfl) hQ (by kernel_rfl) ⟨hb2, rA2⟩ ?_
    refine hx_take (i := 21) (oi := _) (v := .bool false) rfl rfl hns (by kernel_rfl) (by kernel_rfl) hQ (by kernel_rfl) (fun _ _ => by kernel_rfl) ⟨hb2, rA2⟩ ?_
    refine hx_take (i := 22) (oi := _) (v := .bool false) rfl rfl hns (by kernel_rfl) (by kernel_rfl) hQ (by kernel_rfl) (fun _ _ => by kernel_rfl) ⟨hb2, rA2⟩ ?_
    refine wpAnyH_done (by kernel_rfl) ?_ _
    clear hns hQ
    simp only [List.set_cons_zero, List.set_cons_succ]
    go_wp2_with fail
    go_ret
    exact ⟨ret_bool hR1.out.symm, hS.trans hb2⟩
  have hlt2 : (k : Int) < (L.length : Int) := by omega
  obtain ⟨bl, ol, el, hcl, hal⟩ := HV.out.get (by omega)
  have d1 := hal k hlt
  have kl := HKL.out _ (List.getElem_mem hlt)
  have hR1 : Hid (R = (decide (Bd.length = L[k].2.length) && instB L[k] ((a_s, a_p, a_n, (a_v0, a_l0), (a_v1, a_l1), (a_v2, a_l2), (a_v3, a_l3)) : Atm) Bd)) := by
    show _ = _
    rw [hR.out, rightB, if_neg hc1, if_neg hc2, show ((k : Nat) : Int).toNat = k by omega, List.getElem?_eq_getElem hlt]
  obtain ⟨⟨⟨x_s, x_p, x_n, ⟨x_v0, x_l0⟩, ⟨x_v1, x_l1⟩, ⟨x_v2, x_l2⟩, ⟨x_v3, x_l3⟩⟩, X⟩, hx⟩ : ∃ x, Hid (x = L[k]) := ⟨L[k], rfl⟩
  rw [← hx.out] at d1 kl hR1
  obtain ⟨d1, u, d3, d4⟩ := d1
  obtain ⟨xa, xc, rfl⟩ := d4.slice
  have xA0 : At w1 bl (ol + k * 12) #[.string ⟨x_s.toArray⟩, .string ⟨x_p.toArray⟩, .int .i64 x_n, .bool x_v0, .string ⟨x_l0.toArray⟩, .bool x_v1, .string ⟨x_l1.toArray⟩, .bool x_v2, .string ⟨x_l2.toArray⟩, .bool x_v3, .string ⟨x_l3.toArray⟩, .slice xa X.length xc] := at_push d1 d3
  have xA := xA0.next hb2
  have HX := Lib.hid d4
  obtain ⟨kl1, kl2⟩ := kl
  unfold clauseB at kl1
  simp only [Bool.and_eq_true, List.all_eq_true, beq_iff_eq] at kl1
  have HIN := Lib.hid (fun W (h : Since w1 W) => rinst_any x_s x_p x_n x_v0 x_v1 x_v2 x_v3 x_l0 x_l1 x_l2 x_l3 xa xc X a_s a_p a_n a_v0 a_v1 a_v2 a_v3 a_l0 a_l1 a_l2 a_l3 ba bc Bd W (anext HX.out h) (anext HB.out h) kl1.2.2 (fun b hb => kl1.1 b hb) HKA.out HGA.out HKB.out kl2 hlB)
  rw [← hR1.out] at HIN
  subst el
  clear hR hR1 hal d1 d3 d4 xA0 kl1
  replace hb2 := hb2.trans ((Since.refl w2).drew)
  replace rA2 := rA2.next ((Since.refl w2).drew)
  replace xA := xA.next ((Since.refl w2).drew)
  refine hx_begin (S := fun W => (Since w1 W) ∧ (At W w.heap.size 0 #[.string ⟨a_s.toArray⟩, .string ⟨a_p.toArray⟩, .int .i64 a_n, .bool a_v0, .string ⟨a_l0.toArray⟩, .bool a_v1, .string ⟨a_l1.toArray⟩, .bool a_v2, .string ⟨a_l2.toArray⟩, .bool a_v3, .string ⟨a_l3.toArray⟩, .int .i64 (k : Int), .slice ba Bd.length bc]) ∧ (At W bl (ol + k * 12) #[.string ⟨x_s.toArray⟩, .string ⟨x_p.toArray⟩, .int .i64 x_n, .bool x_v0, .string ⟨x_l0.toArray⟩, .bool x_v1, .string ⟨x_l1.toArray⟩, .bool x_v2, .string ⟨x_l2.toArray⟩, .bool x_v3, .string ⟨x_l3.toArray⟩, .slice xa X.length xc])) (by kernel_rfl) ⟨hb2, rA2, xA⟩ (by kernel_rfl) (fun _ _ _ _ _ h => h) (fun hns hQ => ?_)
  refine hx_take (i := 0) (oi := _) (v := .pointer (some ⟨w.heap.size, 11, none⟩)) rfl rfl hns (by kernel_rfl) (by kernel_rfl) hQ (by kernel_rfl) (fun _ _ => by kernel_rfl) ⟨hb2, rA2, xA⟩ ?_
  refine hx_take (i := 1) (oi := _) (v := .int .i64 (k : Int)) rfl rfl hns (by kernel_rfl) (by kernel_rfl) hQ (by kernel_rfl) (fun W hW => ld_one rfl (by kernel_rfl) (by kernel_rfl) W (hW.2.1 11 _ rfl)) ⟨hb2, rA2, xA⟩ ?_
  refine hx_take (i := 2) (oi := _) (v := .bool true) rfl rfl hns (by kernel_rfl) (by kernel_rfl) hQ (by kernel_rfl) (fun W _ => bin_val (geq_int rfl (by kernel_rfl) (by kernel_rfl) W) (decide_eq_true hge)) ⟨hb2, rA2, xA⟩ ?_
  refine hx_take (i := 3) (oi := _) (v := .bool true) rfl rfl hns (by kernel_rfl) (by kernel_rfl) hQ (by kernel_rfl) (fun _ _ => by kernel_rfl) ⟨hb2, rA2, xA⟩ ?_
  refine hx_take (i := 4) (oi := _) (v := .pointer (some ⟨w.heap.size, 11, none⟩)) rfl rfl hns (by kernel_rfl) (by kernel_rfl) hQ (by kernel_rfl) (fun _ _ => by kernel_rfl) ⟨hb2, rA2, xA⟩ ?_
  refine hx_take (i := 5) (oi := _) (v := .int .i64 (k : Int)) rfl rfl hns (by kernel_rfl) (by kernel_rfl) hQ (by kernel_rfl) (fun W hW => ld_one rfl (by kernel_rfl) (by kernel_rfl) W (hW.2.1 11 _ rfl)) ⟨hb2, rA2, xA⟩ ?_
  refine hx_take (i := 6) (oi := _) (v := .slice (some ⟨bl, ol, none⟩) L.length lc) rfl rfl hns (by kernel_rfl) (by kernel_rfl) hQ (by kernel_rfl) (fun _ _ => by kernel_rfl) ⟨hb2, rA2, xA⟩ ?_
  refine hx_take (i := 7) (oi := _) (v := .int .i64 (L.length : Int)) rfl rfl hns (by kernel_rfl) (by kernel_rfl) hQ (by kernel_rfl) (fun _ _ => by kernel_rfl) ⟨hb2, rA2, xA⟩ ?_
  refine hx_take (i := 8) (oi := _) (v := .bool true) rfl rfl hns (by kernel_rfl) (by kernel_rfl) hQ (by kernel_rfl) (fun W _ => bin_val (lss_int rfl (by kernel_rfl) (by kernel_rfl) W) (decide_eq_true hlt2)) ⟨hb2, rA2, xA⟩ ?_
  refine hx_take (i := 9) (oi := _) (v := .bool true) rfl rfl hns (by kernel_rfl) (by kernel_rfl) hQ (by kernel_rfl) (fun _ _ => by kernel_rfl) ⟨hb2, rA2, xA⟩ ?_
  refine hx_take (i := 10) (oi := _) (v := .bool true) rfl rfl hns (by kernel_rfl) (by kernel_rfl) hQ (by kernel_rfl) (fun _ _ => by kernel_rfl) ⟨hb2, rA2, xA⟩ ?_
  refine hx_take (i := 11) (oi := _) (v := .slice (some ⟨bl, ol, none⟩) L.length lc) rfl rfl hns (by kernel_rfl) (by kernel_rfl) hQ (by kernel_rfl) (fun _ _ => by kernel_rfl) ⟨hb2, rA2, xA⟩ ?_
  refine hx_take (i := 12) (oi := _) (v := .pointer (some ⟨w.heap.size, 11, none⟩)) rfl rfl hns (by kernel_rfl) (by kernel_rfl) hQ (by kernel_rfl) (fun _ _ => by kernel_rfl) ⟨hb2, rA2, xA⟩ ?_
  refine hx_take (i := 13) (oi := _) (v := .int .i64 (k : Int)) rfl rfl hns (by kernel_rfl) (by kernel_rfl) hQ (by kernel_rfl) (fun W hW => ld_one rfl (by kernel_rfl) (by kernel_rfl) W (hW.2.1 11 _ rfl)) ⟨hb2, rA2, xA⟩ ?_
  refine hx_take (i := 14) (oi := _) (v := .pointer (some ⟨bl, ol + k * 12, none⟩)) rfl rfl hns (by kernel_rfl) (by kernel_rfl) hQ (by kernel_rfl) (fun W _ => ix_sl (n := L.length) (c := lc) (K := 12) rfl (by kernel_rfl) (by kernel_rfl) (by kernel_rfl) rfl hlt W) ⟨hb2, rA2, xA⟩ ?_
  refine hx_take (i := 15) (oi := _) (v := .agg #[.string ⟨x_s.toArray⟩, .string ⟨x_p.toArray⟩, .int .i64 x_n, .bool x_v0, .string ⟨x_l0.toArray⟩, .bool x_v1, .string ⟨x_l1.toArray⟩, .bool x_v2, .string ⟨x_l2.toArray⟩, .bool x_v3, .string ⟨x_l3.toArray⟩, .slice xa X.length xc]) rfl rfl hns (by kernel_rfl) (by kernel_rfl) hQ (by kernel_rfl) (fun W hW => ld_at rfl (by kernel_rfl) (by kernel_rfl) (by kernel_rfl) W (hW.2.2)) ⟨hb2, rA2, xA⟩ ?_
  refine hx_take (i := 16) (oi := _) (v := .pointer (some ⟨w.heap.size, 0, none⟩)) rfl rfl hns (by kernel_rfl) (by kernel_rfl) hQ (by kernel_rfl) (fun _ _ => by kernel_rfl) ⟨hb2, rA2, xA⟩ ?_
  refine hx_take (i := 17) (oi := _) (v := .agg #[.string ⟨a_s.toArray⟩, .string ⟨a_p.toArray⟩, .int .i64 a_n, .bool a_v0, .string ⟨a_l0.toArray⟩, .bool a_v1, .string ⟨a_l1.toArray⟩, .bool a_v2, .string ⟨a_l2.toArray⟩, .bool a_v3, .string ⟨a_l3.toArray⟩]) rfl rfl hns (by kernel_rfl) (by kernel_rfl) hQ (by kernel_rfl) (fun W hW => ld_at rfl (by kernel_rfl) (by kernel_rfl) (by kernel_rfl) W (at_sub (hW.2.1) 0 11 rfl)) ⟨hb2, rA2, xA⟩ ?_
  refine hx_take (i := 18) (oi := _) (v := .pointer (some ⟨w.heap.size, 12, none⟩)) rfl rfl hns (by kernel_rfl) (by kernel_rfl) hQ (by kernel_rfl) (fun _ _ => by kernel_rfl) ⟨hb2, rA2, xA⟩ ?_
  refine hx_take (i := 19) (oi := _) (v := .slice ba Bd.length bc) rfl rfl hns (by kernel_rfl) (by kernel_rfl) hQ (by kernel_rfl) (fun W hW => ld_one rfl (by kernel_rfl) (by kernel_rfl) W (hW.2.1 12 _ rfl)) ⟨hb2, rA2, xA⟩ ?_
  refine hx_call (i := 20) (oi := _) 56 #[.agg #[.string ⟨x_s.toArray⟩, .string ⟨x_p.toArray⟩, .int .i64 x_n, .bool x_v0, .string ⟨x_l0.toArray⟩, .bool x_v1, .string ⟨x_l1.toArray⟩, .bool x_v2, .string ⟨x_l2.toArray⟩, .bool x_v3, .string ⟨x_l3.toArray⟩, .slice xa X.length xc], .agg #[.string ⟨a_s.toArray⟩, .string ⟨a_p.toArray⟩, .int .i64 a_n, .bool a_v0, .string ⟨a_l0.toArray⟩, .bool a_v1, .string ⟨a_l1.toArray⟩, .bool a_v2, .string ⟨a_l2.toArray⟩, .bool a_v3, .string ⟨a_l3.toArray⟩], .slice ba Bd.length bc] rfl rfl (by kernel_rfl) (by kernel_rfl) (by kernel_rfl) (HIN.out _ hb2) ?_
  rintro e wx71 ⟨rfl, hb⟩
  replace hb2 := hb2.trans hb
  replace rA2 := rA2.next hb
  replace xA := xA.next hb
  clear hb
  refine ⟨_, rfl, ⟨hb2, rA2, xA⟩, ?_⟩
  refine hx_take (i := 21) (oi := _) (v := .bool R) rfl rfl hns (by kernel_rfl) (by kernel_rfl) hQ (by kernel_rfl) (fun _ _ => by kernel_rfl) ⟨hb2, rA2, xA⟩ ?_
  refine hx_take (i := 22) (oi := _) (v := .bool R) rfl rfl hns (by kernel_rfl) (by kernel_rfl) hQ (by kernel_rfl) (fun _ _ => by kernel_rfl) ⟨hb2, rA2, xA⟩ ?_
  refine wpAnyH_done (by kernel_rfl) ?_ _
  clear hns hQ
  simp only [List.set_cons_zero, List.set_cons_succ]
  go_wp2_with fail
  go_ret
  exact ⟨rfl, hS.trans hb2⟩
end Go.Proofs.YtdlnmkdbjgbimaaGreatDoor

namespace Go.Proofs.YtdlnmkdbjgbimaaGreatDoor
open Go.RowKit

theorem stepB_bad {L : List Cls} {F : List Atm} {T : List Stp} {i : Nat} {a : Atm} {c : Int} {C : List Int} (h : C.any (badC (i : Int)) = true) : stepB L F T i (a, c, C) = false := by
  have hC : ¬ C.length = 0 := by
    intro h0
    rw [List.eq_nil_of_length_eq_zero h0] at h
    cases h
  have hb : bodyB L F T i (a, c, C) = false := by
    unfold bodyB
    simp only
    by_cases hc : c = -1
    · rw [if_pos hc, decide_eq_false hC, Bool.false_and]
    · rw [if_neg hc]
      by_cases hc2 : c < 0
      · rw [if_pos hc2]
      · rw [if_neg hc2]
        unfold fromB
        cases L[(c).toNat]? with
        | none => rfl
        | some cl => simp only [h, Bool.not_true, Bool.false_and, Bool.and_false]
  unfold stepB
  rw [hb, Bool.and_false, Bool.and_false]
theorem stepB_right {L : List Cls} {F : List Atm} {T : List Stp} {i : Nat} {a : Atm} {c : Int} {C : List Int} (h : C.any (badC (i : Int)) = false) (hf : factB a = true) (hm : ¬ a ∈ (T.take i).map fun t => t.1) : stepB L F T i (a, c, C) = rightB L F a c (C.map (citeA T)) := by
  have hb : bodyB L F T i (a, c, C) = rightB L F a c (C.map (citeA T)) := by
    unfold bodyB rightB
    simp only [List.length_map]
    by_cases hc : c = -1
    · rw [if_pos hc, if_pos hc]
    · rw [if_neg hc, if_neg hc]
      by_cases hc2 : c < 0
      · rw [if_pos hc2, if_pos hc2]
      · rw [if_neg hc2, if_neg hc2]
        unfold fromB
        simp only
        cases L[(c).toNat]? with
        | none => rfl
        | some cl => simp only [h, Bool.not_false, Bool.true_and]
  unfold stepB
  simp only [hb, hf, decide_eq_false hm, Bool.not_false, Bool.true_and]
theorem stepB_met {L : List Cls} {F : List Atm} {T : List Stp} {i : Nat} {s : Stp} (hm : s.1 ∈ (T.take i).map fun t => t.1) : stepB L F T i s = false := by
  unfold stepB
  rw [decide_eq_true hm]; rfl
theorem stepB_nof {L : List Cls} {F : List Atm} {T : List Stp} {i : Nat} {s : Stp} (hm : factB s.1 = false) : stepB L F T i s = false := by
  unfold stepB
  rw [hm, Bool.false_and, Bool.and_false]
theorem stepB_fact {L : List Cls} {F : List Atm} {T : List Stp} {i : Nat} {s : Stp} (h : stepB L F T i s = true) : factB s.1 = true := by
  unfold stepB at h
  simp only [Bool.and_eq_true] at h
  exact h.2.1
theorem met_more {T : List Stp} {k : Nat} {a : Atm} (hk : k < T.length) (h : ¬ a ∈ (T.take k).map fun t => t.1) (hne : eqA (T[k]).1 a = false) : ¬ a ∈ (T.take (k + 1)).map fun t => t.1 := by
  rw [List.take_succ_eq_append_getElem hk, List.map_append, List.mem_append]
  rintro (h1 | h1)
  · exact h h1
  · have h4 : a = (T[k]).1 := by simpa using h1
    rw [← h4, eqA_self] at hne; cases hne
theorem met_yes {T : List Stp} {k i : Nat} {a : Atm} (hk : k < T.length) (hki : k < i) (he : eqA (T[k]).1 a = true) : a ∈ (T.take i).map fun t => t.1 := by
  refine List.mem_map.2 ⟨T[k], ?_, eqA_iff.1 he⟩
  rw [List.mem_take_iff_getElem]
  exact ⟨k, by omega, rfl⟩
/-- What cites comes to. -/
def CitesP (T : List Stp) (C : List Int) (i : Nat) (w : World) (e : Ending) (w' : World) : Prop :=
  if C.any (badC (i : Int)) then e = .returned (.tuple #[.slice none 0 0, .bool false]) ∧ Since w w' else ∃ v, e = .returned (.tuple #[v, .bool true]) ∧ ARow w' v (C.map (citeA T)) ∧ Since w w'
theorem any_take {C : List Int} {j : Nat} {f : Int → Bool} (hj : j < C.length) (h : (C.take j).any f = false) (hf : f C[j] = false) : (C.take (j + 1)).any f = false := by
  rw [List.take_succ_eq_append_getElem hj, List.any_append, h, Bool.false_or]
  simpa using hf
theorem any_at {C : List Int} {j : Nat} {f : Int → Bool} (hj : j < C.length) (hf : f C[j] = true) : C.any f = true := List.any_eq_true.2 ⟨_, List.getElem_mem hj, hf⟩
theorem citeA_at {T : List Stp} {q : Nat} (hq : q < T.length) : citeA T ((q : Nat) : Int) = (T[q]).1 := by
  unfold citeA
  rw [Int.toNat_natCast, List.getElem?_eq_getElem hq]; rfl
set_option maxHeartbeats 0 in
set_option maxRecDepth 100000 in
theorem rcites_any (vs : Option Addr) (tc : Nat) (T : List Stp) (i : Nat) (hi : i < T.length) (w : World) (ht : SRow w (.slice vs T.length tc) T) (htb : T.length ≤ 1000000) (hC : (T[i]).2.2.length ≤ 100000) :
    Calls Tryz.prog 38 #[.slice vs T.length tc, .int .i64 (i : Int)] w (CitesP T (T[i]).2.2 i w) := by
  obtain ⟨i5, hi5, hz0, hz1, hz2⟩ := info_parts own_atm_info
  have I5 := Lib.hid (And.intro hi5 (And.intro hz0 (And.intro hz1 hz2)))
  clear hi5 hz0 hz1 hz2
  have HT := Lib.hid ht
  obtain ⟨bs, os, rfl, hcs, hat⟩ := ht.get (by omega)
  have HAT := Lib.hid hat
  obtain ⟨d1, d2, u, d3, d4⟩ := hat i hi
  obtain ⟨C, hCd⟩ : ∃ C, Hid (C = (T[i]).2.2) := ⟨(T[i]).2.2, rfl⟩
  rw [← hCd.out] at d4 hC ⊢
  obtain ⟨ca, cc, rfl⟩ := d4.slice
  have HD := Lib.hid d4
  have HD3 := Lib.hid d3
  have hi2 : (i : Int) < (T.length : Int) := by omega
  have hi0 : (0 : Int) ≤ (i : Int) := by omega
  clear ht hcs hat d1 d2 d4 d3 hCd
  go_enter Tryz.func38, Tryz.ntmps38
  go_wp2_with fail
  go_loopw [6, 7, 8] (fun v m _ wr => ∃ j : Nat, j ≤ C.length ∧ m = .int .i64 (j : Int) ∧ wr.ownsRow w.heap.size 29 11 v j (((C.take j).map (citeA T)).flatMap atmL) ∧ Since w wr ∧ Hid ((C.take j).any (badC (i : Int)) = false)) (fun _ m _ _ => C.length - (intOf m).toNat)
  case atStart => exact ⟨0, by omega, rfl, World.ownsRow_nil _ _ _ _, Since.refl _, rfl⟩
  case round =>
  obtain ⟨j, hj, rfl, hO, hS, hg⟩ := hrel
  have e3 := hS.cell HD3.out
  by_cases hjt : j < C.length
  · have hjt2 : (j : Int) < (C.length : Int) := by omega
    have hjt0 : (0 : Int) ≤ (j : Int) := by omega
    obtain ⟨bc, oc, ec, hcc, hct⟩ := HD.out.get (by omega)
    have z1 := hct j hjt
    have hz : Hid (∀ b, badC (i : Int) C[j] = b → (b = true → C.any (badC (i : Int)) = true) ∧ (b = false → (C.take (j + 1)).any (badC (i : Int)) = false)) := fun b hb => ⟨fun h => any_at hjt (hb.trans h), fun h => any_take hjt hg.out (hb.trans h)⟩
    have hmap : Hid ((C.take (j + 1)).map (citeA T) = (C.take j).map (citeA T) ++ [citeA T C[j]]) := by show _ = _; rw [List.take_succ_eq_append_getElem hjt, List.map_append]; rfl
    obtain ⟨z, hzz⟩ : ∃ z, Hid (z = C[j]) := ⟨C[j], rfl⟩
    rw [← hzz.out] at z1 hz hmap
    have z2 : w.cell? ⟨bc, oc + j, none⟩ = some (.int .i64 z) := by simpa [IntAt] using z1
    have z3 := hS.cell z2
    subst ec
    clear hct z1 z2 hzz
    by_cases hz0 : z < 0
    · have hbad := (hz.out true (by unfold badC; rw [decide_eq_true hz0]; rfl)).1 rfl
      clear hz hmap
      go_wp2_with fail
      go_ret2
      unfold CitesP
      rw [if_pos hbad]
      exact ⟨rfl, hS⟩
    obtain ⟨q, rfl⟩ : ∃ q : Nat, z = (q : Int) := ⟨z.toNat, by omega⟩
    by_cases hqi : q < i
    case neg =>
      have hge : (i : Int) ≤ (q : Int) := by omega
      have hbad := (hz.out true (by unfold badC; rw [decide_eq_true hge, Bool.or_true])).1 rfl
      clear hz hmap
      go_wp2_with fail
      go_ret2
      unfold CitesP
      rw [if_pos hbad]
      exact ⟨rfl, hS⟩
    have hge : ¬ (i : Int) ≤ (q : Int) := by omega
    have hok := (hz.out false (by unfold badC; rw [decide_eq_false hz0, decide_eq_false hge]; rfl)).2 rfl
    have hqT : q < T.length := by omega
    have hq2 : (q : Int) < (T.length : Int) := by omega
    have hq0 : (0 : Int) ≤ (q : Int) := by omega
    have hcq := citeA_at hqT
    have t1 := (HAT.out q hqT).1.next hS
    obtain ⟨⟨y_s, y_p, y_n, ⟨y_v0, y_l0⟩, ⟨y_v1, y_l1⟩, ⟨y_v2, y_l2⟩, ⟨y_v3, y_l3⟩⟩, hy⟩ : ∃ x, Hid (x = (T[q]).1) := ⟨(T[q]).1, rfl⟩
    rw [← hy.out] at t1 hcq
    rw [hcq] at hmap
    obtain ⟨y_c0, y_c1, y_c2, y_c3, y_c4, y_c5, y_c6, y_c7, y_c8, y_c9, y_c10⟩ := t1.all
    have hOa := own_since hO ((Since.refl wr).alloc (.cells #[.string ⟨y_s.toArray⟩, .string ⟨y_p.toArray⟩, .int .i64 y_n, .bool y_v0, .string ⟨y_l0.toArray⟩, .bool y_v1, .string ⟨y_l1.toArray⟩, .bool y_v2, .string ⟨y_l2.toArray⟩, .bool y_v3, .string ⟨y_l3.toArray⟩] 29))
    have hOs := hS.size
    clear hz t1 hcq hy
    go_wp2_with (at_builtin; refine wpList_append_any _ rfl (.tmp 34) (.tmp 40) 23 rfl w.heap.size 29 i5 (.agg #[.string ByteArray.empty, .string ByteArray.empty, .int .i64 0, .bool false, .string ByteArray.empty, .bool false, .string ByteArray.empty, .bool false, .string ByteArray.empty, .bool false, .string ByteArray.empty]) 11 136 Tryz.underlying23 I5.out.1 I5.out.2.1 I5.out.2.2.1 I5.out.2.2.2 rfl (by decide) _ j _ rfl hOa _ _ 1 1 (#[.string ⟨y_s.toArray⟩, .string ⟨y_p.toArray⟩, .int .i64 y_n, .bool y_v0, .string ⟨y_l0.toArray⟩, .bool y_v1, .string ⟨y_l1.toArray⟩, .bool y_v2, .string ⟨y_l2.toArray⟩, .bool y_v3, .string ⟨y_l3.toArray⟩] : Array Value).toList rfl (reads_new wr #[.string ⟨y_s.toArray⟩, .string ⟨y_p.toArray⟩, .int .i64 y_n, .bool y_v0, .string ⟨y_l0.toArray⟩, .bool y_v1, .string ⟨y_l1.toArray⟩, .bool y_v2, .string ⟨y_l2.toArray⟩, .bool y_v3, .string ⟨y_l3.toArray⟩] 29 11 rfl) ?c1 ?c2 ?c3 ?c4 ?_)
    case c1 => simp [Value.oneCell']
    case c2 => unfold maxLen; omega
    case c3 => omega
    case c4 => first | omega | (simp; omega)
    intro v' w' hown hgrow _
    have hSw : Since w w' := Below.grown (hS.alloc _) hgrow (hS.alloc (.cells #[.string ⟨y_s.toArray⟩, .string ⟨y_p.toArray⟩, .int .i64 y_n, .bool y_v0, .string ⟨y_l0.toArray⟩, .bool y_v1, .string ⟨y_l1.toArray⟩, .bool y_v2, .string ⟨y_l2.toArray⟩, .bool y_v3, .string ⟨y_l3.toArray⟩] 29)).size (own_ge hOa)
    have hO2 : w'.ownsRow w.heap.size 29 11 v' (j + 1) (((C.take (j + 1)).map (citeA T)).flatMap atmL) := by
      rw [hmap.out, List.flatMap_append, List.map_take]; exact hown
    clear hown hgrow hOa hO e3 z3 y_c0 y_c1 y_c2 y_c3 y_c4 y_c5 y_c6 y_c7 y_c8 y_c9 y_c10 hmap
    go_wp2_with fail
    go_roundw
    case rel => exact ⟨j + 1, by omega, by go_num, hO2, hSw, hok⟩
    case measure => simp [intOf]; omega
  · have hjt2 : ¬ (j : Int) < (C.length : Int) := by omega
    have hjC : j = C.length := by omega
    subst hjC
    rw [List.take_of_length_le (Nat.le_refl _)] at hO hg
    go_wp2_with fail
    go_ret2
    unfold CitesP
    rw [hg.out]
    refine ⟨_, rfl, ?_, hS⟩
    exact own_arow (L := C.map (citeA T)) (by rw [List.length_map]; exact hO)
/-- How ok is called. -/
structure OkPre (L : List Cls) (F : List Atm) (T : List Stp) : Prop where
  kL : ∀ cl ∈ L, clauseB cl = true ∧ cl.2.length ≤ 100
  fT : ∀ t ∈ T, FitsN t.1 ∧ t.2.2.length ≤ 100000
  lT : T.length ≤ 1000000
  lF : F.length ≤ 1000000
set_option maxHeartbeats 0 in
set_option maxRecDepth 100000 in
theorem rok_any (va : Option Addr) (lc : Nat) (L : List Cls) (vf : Option Addr) (fc : Nat) (F : List Atm) (vs : Option Addr) (tc : Nat) (T : List Stp) (i : Nat) (hi : i < T.length) (w : World) (hv : RRow w (.slice va L.length lc) L) (hf : ARow w (.slice vf F.length fc) F) (ht : SRow w (.slice vs T.length tc) T)
    (hp : OkPre L F T) (hpre : ∀ j (h : j < T.length), j < i → factB (T[j]).1 = true) :
    Calls Tryz.prog 24 #[.slice va L.length lc, .slice vf F.length fc, .slice vs T.length tc, .int .i64 (i : Int)] w fun e w' => e = .returned (.bool (stepB L F T i T[i])) ∧ Since w w' := by
  have HP := Lib.hid hp
  have HPRE := Lib.hid hpre
  have hfx := hp.fT _ (List.getElem_mem hi)
  have HCT := Lib.hid (fun W (h : Since w W) => rcites_any vs tc T i hi W (snext ht h) hp.lT hfx.2)
  have HV := Lib.hid hv
  have HF := Lib.hid hf
  have HT := Lib.hid ht
  have hlT := hp.lT
  obtain ⟨bs, os, rfl, hcs, hat⟩ := ht.get (by omega)
  have HAT := Lib.hid hat
  have d := hat i hi
  obtain ⟨⟨⟨x_s, x_p, x_n, ⟨x_v0, x_l0⟩, ⟨x_v1, x_l1⟩, ⟨x_v2, x_l2⟩, ⟨x_v3, x_l3⟩⟩, c, C⟩, hs⟩ : ∃ s, Hid (s = T[i]) := ⟨T[i], rfl⟩
  rw [← hs.out] at d hfx HCT ⊢
  obtain ⟨ca, cc, kA, kC⟩ := stp_at d
  have sA : At w bs (os + i * 13) #[.string ⟨x_s.toArray⟩, .string ⟨x_p.toArray⟩, .int .i64 x_n, .bool x_v0, .string ⟨x_l0.toArray⟩, .bool x_v1, .string ⟨x_l1.toArray⟩, .bool x_v2, .string ⟨x_l2.toArray⟩, .bool x_v3, .string ⟨x_l3.toArray⟩, .int .i64 c, .slice ca C.length cc] := kA
  have HFX := Lib.hid hfx.1
  have hi2 : (i : Int) < (T.length : Int) := by omega
  have hi0 : (0 : Int) ≤ (i : Int) := by omega
  have hS : Since w (w.alloc (.cells #[.string ⟨x_s.toArray⟩, .string ⟨x_p.toArray⟩, .int .i64 x_n, .bool x_v0, .string ⟨x_l0.toArray⟩, .bool x_v1, .string ⟨x_l1.toArray⟩, .bool x_v2, .string ⟨x_l2.toArray⟩, .bool x_v3, .string ⟨x_l3.toArray⟩, .int .i64 c, .slice ca C.length cc] 49)) := (Since.refl _).alloc _
  have bA : At (w.alloc (.cells #[.string ⟨x_s.toArray⟩, .string ⟨x_p.toArray⟩, .int .i64 x_n, .bool x_v0, .string ⟨x_l0.toArray⟩, .bool x_v1, .string ⟨x_l1.toArray⟩, .bool x_v2, .string ⟨x_l2.toArray⟩, .bool x_v3, .string ⟨x_l3.toArray⟩, .int .i64 c, .slice ca C.length cc] 49)) w.heap.size 0 #[.string ⟨x_s.toArray⟩, .string ⟨x_p.toArray⟩, .int .i64 x_n, .bool x_v0, .string ⟨x_l0.toArray⟩, .bool x_v1, .string ⟨x_l1.toArray⟩, .bool x_v2, .string ⟨x_l2.toArray⟩, .bool x_v3, .string ⟨x_l3.toArray⟩, .int .i64 c, .slice ca C.length cc] := Cel.at (heap_alloc_new w _)
  obtain ⟨R, hR⟩ : ∃ R, Hid (R = stepB L F T i (((x_s, x_p, x_n, (x_v0, x_l0), (x_v1, x_l1), (x_v2, x_l2), (x_v3, x_l3)) : Atm), c, C)) := ⟨_, rfl⟩
  rw [← hR.out]
  have k0 : w.cell? ⟨bs, os + i * 13, none⟩ = some (.string ⟨x_s.toArray⟩) := sA 0 _ rfl
  have k1 : w.cell? ⟨bs, os + i * 13 + 1, none⟩ = some (.string ⟨x_p.toArray⟩) := sA 1 _ rfl
  have k2 : w.cell? ⟨bs, os + i * 13 + 2, none⟩ = some (.int .i64 x_n) := sA 2 _ rfl
  have k3 : w.cell? ⟨bs, os + i * 13 + 3, none⟩ = some (.bool x_v0) := sA 3 _ rfl
  have k4 : w.cell? ⟨bs, os + i * 13 + 4, none⟩ = some (.string ⟨x_l0.toArray⟩) := sA 4 _ rfl
  have k5 : w.cell? ⟨bs, os + i * 13 + 5, none⟩ = some (.bool x_v1) := sA 5 _ rfl
  have k6 : w.cell? ⟨bs, os + i * 13 + 6, none⟩ = some (.string ⟨x_l1.toArray⟩) := sA 6 _ rfl
  have k7 : w.cell? ⟨bs, os + i * 13 + 7, none⟩ = some (.bool x_v2) := sA 7 _ rfl
  have k8 : w.cell? ⟨bs, os + i * 13 + 8, none⟩ = some (.string ⟨x_l2.toArray⟩) := sA 8 _ rfl
  have k9 : w.cell? ⟨bs, os + i * 13 + 9, none⟩ = some (.bool x_v3) := sA 9 _ rfl
  have k10 : w.cell? ⟨bs, os + i * 13 + 10, none⟩ = some (.string ⟨x_l3.toArray⟩) := sA 10 _ rfl
  have k11 : w.cell? ⟨bs, os + i * 13 + 11, none⟩ = some (.int .i64 c) := sA 11 _ rfl
  have k12 : w.cell? ⟨bs, os + i * 13 + 12, none⟩ = some (.slice ca C.length cc) := sA 12 _ rfl
  clear hv hf ht hp hpre hfx hcs hat d kA kC sA
  go_enter Tryz.func24, Tryz.ntmps24
  go_upto_region 2 with (fail)
  clear k0 k1 k2 k3 k4 k5 k6 k7 k8 k9 k10 k11 k12
  generalize hw1 : w.alloc (.cells #[.string ⟨x_s.toArray⟩, .string ⟨x_p.toArray⟩, .int .i64 x_n, .bool x_v0, .string ⟨x_l0.toArray⟩, .bool x_v1, .string ⟨x_l1.toArray⟩, .bool x_v2, .string ⟨x_l2.toArray⟩, .bool x_v3, .string ⟨x_l3.toArray⟩, .int .i64 c, .slice ca C.length cc] 49) = w1 at *
  clear hw1
  go_wp2_with fail
  refine (HCT.out _ hS).mono ?_
  intro e w2 hq
  unfold CitesP at hq
  cases hbad : C.any (badC (i : Int))
  case true =>
    rw [show ((((x_s, x_p, x_n, (x_v0, x_l0), (x_v1, x_l1), (x_v2, x_l2), (x_v3, x_l3)) : Atm), c, C) : Stp).2.2.any (badC (i : Int)) = true from hbad, if_pos rfl] at hq
    obtain ⟨rfl, hb2⟩ := hq
    have hRf : R = false := hR.out.trans (stepB_bad hbad)
    subst hRf
    clear hR
    go_wp2_with fail
    go_ret
    exact ⟨rfl, hS.trans hb2⟩
  case false =>
  rw [show ((((x_s, x_p, x_n, (x_v0, x_l0), (x_v1, x_l1), (x_v2, x_l2), (x_v3, x_l3)) : Atm), c, C) : Stp).2.2.any (badC (i : Int)) = false from hbad, if_neg (by decide)] at hq
  obtain ⟨v2, rfl, hB, hb2⟩ := hq
  obtain ⟨D, hD⟩ : ∃ D, Hid (D = C.map (citeA T)) := ⟨_, rfl⟩
  rw [show ((((x_s, x_p, x_n, (x_v0, x_l0), (x_v1, x_l1), (x_v2, x_l2), (x_v3, x_l3)) : Atm), c, C) : Stp).2.2.map (citeA T) = D from hD.out.symm] at hB
  have hS2 := hS.trans hb2
  have bA2 := bA.next hb2
  have s0 : w2.cell? ⟨w.heap.size, 0, none⟩ = some (.string ⟨x_s.toArray⟩) := bA2 0 _ rfl
  have s1 : w2.cell? ⟨w.heap.size, 1, none⟩ = some (.string ⟨x_p.toArray⟩) := bA2 1 _ rfl
  have s2 : w2.cell? ⟨w.heap.size, 2, none⟩ = some (.int .i64 x_n) := bA2 2 _ rfl
  have s3 : w2.cell? ⟨w.heap.size, 3, none⟩ = some (.bool x_v0) := bA2 3 _ rfl
  have s4 : w2.cell? ⟨w.heap.size, 4, none⟩ = some (.string ⟨x_l0.toArray⟩) := bA2 4 _ rfl
  have s5 : w2.cell? ⟨w.heap.size, 5, none⟩ = some (.bool x_v1) := bA2 5 _ rfl
  have s6 : w2.cell? ⟨w.heap.size, 6, none⟩ = some (.string ⟨x_l1.toArray⟩) := bA2 6 _ rfl
  have s7 : w2.cell? ⟨w.heap.size, 7, none⟩ = some (.bool x_v2) := bA2 7 _ rfl
  have s8 : w2.cell? ⟨w.heap.size, 8, none⟩ = some (.string ⟨x_l2.toArray⟩) := bA2 8 _ rfl
  have s9 : w2.cell? ⟨w.heap.size, 9, none⟩ = some (.bool x_v3) := bA2 9 _ rfl
  have s10 : w2.cell? ⟨w.heap.size, 10, none⟩ = some (.string ⟨x_l3.toArray⟩) := bA2 10 _ rfl
  have s11 : w2.cell? ⟨w.heap.size, 11, none⟩ = some (.int .i64 c) := bA2 11 _ rfl
  have s12 : w2.cell? ⟨w.heap.size, 12, none⟩ = some (.slice ca C.length cc) := bA2 12 _ rfl
  have HFA := Lib.hid (fun W => rfact_any x_s x_p x_n x_v0 x_v1 x_v2 x_v3 x_l0 x_l1 x_l2 x_l3 W HFX.out.1)
  obtain ⟨FB, hFB⟩ : ∃ b, Hid (b = (checkA ((x_s, x_p, x_n, (x_v0, x_l0), (x_v1, x_l1), (x_v2, x_l2), (x_v3, x_l3)) : Atm) == 0 && groundA ((x_s, x_p, x_n, (x_v0, x_l0), (x_v1, x_l1), (x_v2, x_l2), (x_v3, x_l3)) : Atm))) := ⟨_, rfl⟩
  rw [← hFB.out] at HFA
  go_wp2_with fail
  refine (HFA.out _).mono ?_
  rintro e w3 ⟨rfl, hb3⟩
  have hS3 := hS2.trans hb3
  clear s0 s1 s2 s3 s4 s5 s6 s7 s8 s9 s10 s11 s12 HFA
  cases FB
  case false =>
    have hRf : R = false := hR.out.trans (stepB_nof hFB.out.symm)
    subst hRf
    clear hR
    go_wp2_with fail
    go_ret
    exact ⟨rfl, hS3⟩
  have hfact : factB ((x_s, x_p, x_n, (x_v0, x_l0), (x_v1, x_l1), (x_v2, x_l2), (x_v3, x_l3)) : Atm) = true := hFB.out.symm
  have hB3 := anext hB hb3
  have bA3 := bA2.next hb3
  clear hb2 hb3 hB bA2 hFB bA hS2
  go_wp2_with fail
  go_loopw [12] (fun m wr => ∃ k : Nat, k ≤ i ∧ m = .int .i64 (k : Int) ∧ Since w3 wr ∧ Hid (¬ ((x_s, x_p, x_n, (x_v0, x_l0), (x_v1, x_l1), (x_v2, x_l2), (x_v3, x_l3)) : Atm) ∈ (T.take k).map fun t => t.1)) (fun m _ => i - (intOf m).toNat)
  case atStart => exact ⟨0, by omega, rfl, Since.refl _, by show ¬ _; simp⟩
  case round =>
  obtain ⟨k, hk, rfl, hS4, hm⟩ := hrel
  by_cases hlt : k < i
  · have hlt2 : (k : Int) < (i : Int) := by omega
    have hkT : k < T.length := by omega
    have hkT2 : (k : Int) < (T.length : Int) := by omega
    have hlt0 : (0 : Int) ≤ (k : Int) := by omega
    have d1 := (HAT.out k hkT).1
    have hmm := fun h => met_more hkT hm.out h
    have hmy := fun h => met_yes (a := ((x_s, x_p, x_n, (x_v0, x_l0), (x_v1, x_l1), (x_v2, x_l2), (x_v3, x_l3)) : Atm)) hkT hlt h
    obtain ⟨⟨y_s, y_p, y_n, ⟨y_v0, y_l0⟩, ⟨y_v1, y_l1⟩, ⟨y_v2, y_l2⟩, ⟨y_v3, y_l3⟩⟩, hy⟩ : ∃ x, Hid (x = (T[k]).1) := ⟨(T[k]).1, rfl⟩
    rw [← hy.out] at d1 hmm hmy
    have HMM := Lib.hid hmm
    have HMY := Lib.hid hmy
    have yA0 : At w bs (os + k * 13) #[.string ⟨y_s.toArray⟩, .string ⟨y_p.toArray⟩, .int .i64 y_n, .bool y_v0, .string ⟨y_l0.toArray⟩, .bool y_v1, .string ⟨y_l1.toArray⟩, .bool y_v2, .string ⟨y_l2.toArray⟩, .bool y_v3, .string ⟨y_l3.toArray⟩] := d1
    have yA := yA0.next (hS3.trans hS4)
    have bA4 := bA3.next hS4
    clear d1 yA0 hmm hmy
    cases hq : eqA ((y_s, y_p, y_n, (y_v0, y_l0), (y_v1, y_l1), (y_v2, y_l2), (y_v3, y_l3)) : Atm) ((x_s, x_p, x_n, (x_v0, x_l0), (x_v1, x_l1), (x_v2, x_l2), (x_v3, x_l3)) : Atm)
    case false =>
      have hm2 := HMM.out hq
      clear HMM HMY
      go_wp2_with fail
      replace hS4 := hS4.trans ((Since.refl wr).drew)
      replace yA := yA.next ((Since.refl wr).drew)
      replace bA4 := bA4.next ((Since.refl wr).drew)
      refine hx_begin (S := fun W => (Since w3 W) ∧ (At W bs (os + k * 13) #[.string ⟨y_s.toArray⟩, .string ⟨y_p.toArray⟩, .int .i64 y_n, .bool y_v0, .string ⟨y_l0.toArray⟩, .bool y_v1, .string ⟨y_l1.toArray⟩, .bool y_v2, .string ⟨y_l2.toArray⟩, .bool y_v3, .string ⟨y_l3.toArray⟩]) ∧ (At W w.heap.size 0 #[.string ⟨x_s.toArray⟩, .string ⟨x_p.toArray⟩, .int .i64 x_n, .bool x_v0, .string ⟨x_l0.toArray⟩, .bool x_v1, .string ⟨x_l1.toArray⟩, .bool x_v2, .string ⟨x_l2.toArray⟩, .bool x_v3, .string ⟨x_l3.toArray⟩, .int .i64 c, .slice ca C.length cc])) (by kernel_rfl) ⟨hS4, yA, bA4⟩ (by kernel_rfl) (fun _ _ _ _ _ h => h) (fun hns hQ => ?_)
      refine hx_take (i := 0) (oi := _) (v := .slice (some ⟨bs, os, none⟩) T.length tc) rfl rfl hns (by kernel_rfl) (by kernel_rfl) hQ (by kernel_rfl) (fun _ _ => by kernel_rfl) ⟨hS4, yA, bA4⟩ ?_
      refine hx_take (i := 1) (oi := _) (v := .int .i64 (k : Int)) rfl rfl hns (by kernel_rfl) (by kernel_rfl) hQ (by kernel_rfl) (fun _ _ => by kernel_rfl) ⟨hS4, yA, bA4⟩ ?_
      refine hx_take (i := 2) (oi := _) (v := .pointer (some ⟨bs, os + k * 13, none⟩)) rfl rfl hns (by kernel_rfl) (by kernel_rfl) hQ (by kernel_rfl) (fun W _ => ix_sl (n := T.length) (c := tc) (K := 13) rfl (by kernel_rfl) (by kernel_rfl) (by kernel_rfl) rfl hkT W) ⟨hS4, yA, bA4⟩ ?_
      refine hx_take (i := 3) (oi := _) (v := .pointer (some ⟨bs, os + k * 13, none⟩)) rfl rfl hns (by kernel_rfl) (by kernel_rfl) hQ (by kernel_rfl) (fun _ _ => by kernel_rfl) ⟨hS4, yA, bA4⟩ ?_
      refine hx_take (i := 4) (oi := _) (v := .agg #[.string ⟨y_s.toArray⟩, .string ⟨y_p.toArray⟩, .int .i64 y_n, .bool y_v0, .string ⟨y_l0.toArray⟩, .bool y_v1, .string ⟨y_l1.toArray⟩, .bool y_v2, .string ⟨y_l2.toArray⟩, .bool y_v3, .string ⟨y_l3.toArray⟩]) rfl rfl hns (by kernel_rfl) (by kernel_rfl) hQ (by kernel_rfl) (fun W hW => ld_at rfl (by kernel_rfl) (by kernel_rfl) (by kernel_rfl) W (hW.2.1)) ⟨hS4, yA, bA4⟩ ?_
      refine hx_take (i := 5) (oi := _) (v := .pointer (some ⟨w.heap.size, 0, none⟩)) rfl rfl hns (by kernel_rfl) (by kernel_rfl) hQ (by kernel_rfl) (fun _ _ => by kernel_rfl) ⟨hS4, yA, bA4⟩ ?_
      refine hx_take (i := 6) (oi := _) (v := .agg #[.string ⟨x_s.toArray⟩, .string ⟨x_p.toArray⟩, .int .i64 x_n, .bool x_v0, .string ⟨x_l0.toArray⟩, .bool x_v1, .string ⟨x_l1.toArray⟩, .bool x_v2, .string ⟨x_l2.toArray⟩, .bool x_v3, .string ⟨x_l3.toArray⟩]) rfl rfl hns (by kernel_rfl) (by kernel_rfl) hQ (by kernel_rfl) (fun W hW => ld_at rfl (by kernel_rfl) (by kernel_rfl) (by kernel_rfl) W (at_sub (hW.2.2) 0 11 rfl)) ⟨hS4, yA, bA4⟩ ?_
      refine hx_take (i := 7) (oi := _) (v := .bool false) rfl rfl hns (by kernel_rfl) (by kernel_rfl) hQ (by kernel_rfl) (fun W _ => bin_val (eqg_atom y_s y_p y_n y_v0 y_v1 y_v2 y_v3 y_l0 y_l1 y_l2 y_l3 x_s x_p x_n x_v0 x_v1 x_v2 x_v3 x_l0 x_l1 x_l2 x_l3 rfl (by kernel_rfl) (by kernel_rfl) W) hq) ⟨hS4, yA, bA4⟩ ?_
      refine wpAnyH_done (by kernel_rfl) ?_ _
      clear hns hQ
      simp only [List.set_cons_zero, List.set_cons_succ]
      clear yA bA4
      go_wp2_with fail
      go_roundw
      case rel => exact ⟨k + 1, by omega, by go_num, hS4, hm2⟩
      case measure => simp [intOf]; omega
    case true =>
      have hRf : R = false := hR.out.trans (stepB_met (HMY.out hq))
      subst hRf
      clear hR HMM HMY
      go_wp2_with fail
      replace hS4 := hS4.trans ((Since.refl wr).drew)
      replace yA := yA.next ((Since.refl wr).drew)
      replace bA4 := bA4.next ((Since.refl wr).drew)
      refine hx_begin (S := fun W => (Since w3 W) ∧ (At W bs (os + k * 13) #[.string ⟨y_s.toArray⟩, .string ⟨y_p.toArray⟩, .int .i64 y_n, .bool y_v0, .string ⟨y_l0.toArray⟩, .bool y_v1, .string ⟨y_l1.toArray⟩, .bool y_v2, .string ⟨y_l2.toArray⟩, .bool y_v3, .string ⟨y_l3.toArray⟩]) ∧ (At W w.heap.size 0 #[.string ⟨x_s.toArray⟩, .string ⟨x_p.toArray⟩, .int .i64 x_n, .bool x_v0, .string ⟨x_l0.toArray⟩, .bool x_v1, .string ⟨x_l1.toArray⟩, .bool x_v2, .string ⟨x_l2.toArray⟩, .bool x_v3, .string ⟨x_l3.toArray⟩, .int .i64 c, .slice ca C.length cc])) (by kernel_rfl) ⟨hS4, yA, bA4⟩ (by kernel_rfl) (fun _ _ _ _ _ h => h) (fun hns hQ => ?_)
      refine hx_take (i := 0) (oi := _) (v := .slice (some ⟨bs, os, none⟩) T.length tc) rfl rfl hns (by kernel_rfl) (by kernel_rfl) hQ (by kernel_rfl) (fun _ _ => by kernel_rfl) ⟨hS4, yA, bA4⟩ ?_
      refine hx_take (i := 1) (oi := _) (v := .int .i64 (k : Int)) rfl rfl hns (by kernel_rfl) (by kernel_rfl) hQ (by kernel_rfl) (fun _ _ => by kernel_rfl) ⟨hS4, yA, bA4⟩ ?_
      refine hx_take (i := 2) (oi := _) (v := .pointer (some ⟨bs, os + k * 13, none⟩)) rfl rfl hns (by kernel_rfl) (by kernel_rfl) hQ (by kernel_rfl) (fun W _ => ix_sl (n := T.length) (c := tc) (K := 13) rfl (by kernel_rfl) (by kernel_rfl) (by kernel_rfl) rfl hkT W) ⟨hS4, yA, bA4⟩ ?_
      refine hx_take (i := 3) (oi := _) (v := .pointer (some ⟨bs, os + k * 13, none⟩)) rfl rfl hns (by kernel_rfl) (by kernel_rfl) hQ (by kernel_rfl) (fun _ _ => by kernel_rfl) ⟨hS4, yA, bA4⟩ ?_
      refine hx_take (i := 4) (oi := _) (v := .agg #[.string ⟨y_s.toArray⟩, .string ⟨y_p.toArray⟩, .int .i64 y_n, .bool y_v0, .string ⟨y_l0.toArray⟩, .bool y_v1, .string ⟨y_l1.toArray⟩, .bool y_v2, .string ⟨y_l2.toArray⟩, .bool y_v3, .string ⟨y_l3.toArray⟩]) rfl rfl hns (by kernel_rfl) (by kernel_rfl) hQ (by kernel_rfl) (fun W hW => ld_at rfl (by kernel_rfl) (by kernel_rfl) (by kernel_rfl) W (hW.2.1)) ⟨hS4, yA, bA4⟩ ?_
      refine hx_take (i := 5) (oi := _) (v := .pointer (some ⟨w.heap.size, 0, none⟩)) rfl rfl hns (by kernel_rfl) (by kernel_rfl) hQ (by kernel_rfl) (fun _ _ => by kernel_rfl) ⟨hS4, yA, bA4⟩ ?_
      refine hx_take (i := 6) (oi := _) (v := .agg #[.string ⟨x_s.toArray⟩, .string ⟨x_p.toArray⟩, .int .i64 x_n, .bool x_v0, .string ⟨x_l0.toArray⟩, .bool x_v1, .string ⟨x_l1.toArray⟩, .bool x_v2, .string ⟨x_l2.toArray⟩, .bool x_v3, .string ⟨x_l3.toArray⟩]) rfl rfl hns (by kernel_rfl) (by kernel_rfl) hQ (by kernel_rfl) (fun W hW => ld_at rfl (by kernel_rfl) (by kernel_rfl) (by kernel_rfl) W (at_sub (hW.2.2) 0 11 rfl)) ⟨hS4, yA, bA4⟩ ?_
      refine hx_take (i := 7) (oi := _) (v := .bool true) rfl rfl hns (by kernel_rfl) (by kernel_rfl) hQ (by kernel_rfl) (fun W _ => bin_val (eqg_atom y_s y_p y_n y_v0 y_v1 y_v2 y_v3 y_l0 y_l1 y_l2 y_l3 x_s x_p x_n x_v0 x_v1 x_v2 x_v3 x_l0 x_l1 x_l2 x_l3 rfl (by kernel_rfl) (by kernel_rfl) W) hq) ⟨hS4, yA, bA4⟩ ?_
      refine wpAnyH_done (by kernel_rfl) ?_ _
      clear hns hQ
      simp only [List.set_cons_zero, List.set_cons_succ]
      clear yA bA4
      go_wp2_with fail
      go_ret
      exact ⟨rfl, hS3.trans hS4⟩
  · have hlt2 : ¬ (k : Int) < (i : Int) := by omega
    have hki : k = i := by omega
    subst hki
    have hRr : R = rightB L F ((x_s, x_p, x_n, (x_v0, x_l0), (x_v1, x_l1), (x_v2, x_l2), (x_v3, x_l3)) : Atm) c D := by rw [hD.out]; exact hR.out.trans (stepB_right hbad hfact hm.out)
    have bA4 := bA3.next hS4
    have hB4 := anext hB3 hS4
    obtain ⟨ba, bc, rfl⟩ := hB4.slice
    have hSx := hS3.trans hS4
    unfold factB at hfact
    simp only [Bool.and_eq_true, beq_iff_eq] at hfact
    have hlC : D.length ≤ 1000000 := by
      rw [hD.out]
      have h := (HP.out.fT _ (List.getElem_mem hi)).2
      rw [← hs.out] at h
      rw [List.length_map]
      exact Nat.le_trans h (by decide)
    have hKB : ∀ b ∈ D, checkA b = 0 ∧ groundA b = true := by
      intro b hb
      rw [hD.out] at hb
      obtain ⟨z, hz, rfl⟩ := List.mem_map.1 hb
      have hzb : badC (k : Int) z = false := by
        cases h : badC (k : Int) z
        · rfl
        · have := List.any_eq_true.2 ⟨z, hz, h⟩
          rw [hbad] at this; cases this
      unfold badC at hzb
      rw [Bool.or_eq_false_iff, decide_eq_false_iff_not, decide_eq_false_iff_not] at hzb
      obtain ⟨q, rfl⟩ : ∃ q : Nat, z = (q : Int) := ⟨z.toNat, by omega⟩
      have hqT : q < T.length := by omega
      rw [citeA_at hqT]
      have h := HPRE.out q hqT (by omega)
      unfold factB at h
      simpa using h
    have HRT := Lib.hid (rright_any va lc L vf fc F x_s x_p x_n x_v0 x_v1 x_v2 x_v3 x_l0 x_l1 x_l2 x_l3 c ba bc D wr (rnext HV.out hSx) (anext HF.out hSx) hB4 HP.out.kL hfact.1 hfact.2 hKB hlC HP.out.lF)
    rw [← hRr] at HRT
    have s0 : wr.cell? ⟨w.heap.size, 0, none⟩ = some (.string ⟨x_s.toArray⟩) := bA4 0 _ rfl
    have s1 : wr.cell? ⟨w.heap.size, 1, none⟩ = some (.string ⟨x_p.toArray⟩) := bA4 1 _ rfl
    have s2 : wr.cell? ⟨w.heap.size, 2, none⟩ = some (.int .i64 x_n) := bA4 2 _ rfl
    have s3 : wr.cell? ⟨w.heap.size, 3, none⟩ = some (.bool x_v0) := bA4 3 _ rfl
    have s4 : wr.cell? ⟨w.heap.size, 4, none⟩ = some (.string ⟨x_l0.toArray⟩) := bA4 4 _ rfl
    have s5 : wr.cell? ⟨w.heap.size, 5, none⟩ = some (.bool x_v1) := bA4 5 _ rfl
    have s6 : wr.cell? ⟨w.heap.size, 6, none⟩ = some (.string ⟨x_l1.toArray⟩) := bA4 6 _ rfl
    have s7 : wr.cell? ⟨w.heap.size, 7, none⟩ = some (.bool x_v2) := bA4 7 _ rfl
    have s8 : wr.cell? ⟨w.heap.size, 8, none⟩ = some (.string ⟨x_l2.toArray⟩) := bA4 8 _ rfl
    have s9 : wr.cell? ⟨w.heap.size, 9, none⟩ = some (.bool x_v3) := bA4 9 _ rfl
    have s10 : wr.cell? ⟨w.heap.size, 10, none⟩ = some (.string ⟨x_l3.toArray⟩) := bA4 10 _ rfl
    have s11 : wr.cell? ⟨w.heap.size, 11, none⟩ = some (.int .i64 c) := bA4 11 _ rfl
    have s12 : wr.cell? ⟨w.heap.size, 12, none⟩ = some (.slice ca C.length cc) := bA4 12 _ rfl
    clear hR hRr hKB hlC hbad hB3 bA3
    go_wp2_with fail
    refine HRT.out.mono ?_
    rintro e w5 ⟨rfl, hb5⟩
    clear s0 s1 s2 s3 s4 s5 s6 s7 s8 s9 s10 s11 s12 bA4 HRT
    go_wp2_with fail
    go_ret
    exact ⟨rfl, hSx.trans hb5⟩
set_option maxHeartbeats 0 in
set_option maxRecDepth 100000 in
theorem rsound_any (va : Option Addr) (lc : Nat) (L : List Cls) (vf : Option Addr) (fc : Nat) (F : List Atm) (vs : Option Addr) (tc : Nat) (T : List Stp) (w : World) (hv : RRow w (.slice va L.length lc) L) (hf : ARow w (.slice vf F.length fc) F) (ht : SRow w (.slice vs T.length tc) T) (hkb : L.length ≤ 100000) (hmf : F.length ≤ 100000)
    (hb9 : ∀ c ∈ L, c.2.length ≤ 100) (hFL : ∀ c ∈ L, FitsC c) (hFF : ∀ a ∈ F, FitsN a) (hfT : ∀ t ∈ T, FitsN t.1 ∧ t.2.2.length ≤ 100000) (htb : T.length ≤ 1000000) (hE : Env w) :
    Calls Tryz.prog 12 #[.slice va L.length lc, .slice vf F.length fc, .slice vs T.length tc] w fun e w' => e = .returned (.tuple #[.int .i64 (soundS L F T).1, .int .i64 (soundS L F T).2]) ∧ Since w w' := by
  have HMAY := Lib.hid (r16may_any _ _ L F w hv hf hkb hmf (fun c h => by have := hb9 c h; omega) hFL hFF hE)
  have HV := Lib.hid hv
  have HF := Lib.hid hf
  have HT := Lib.hid ht
  have HB9 := Lib.hid hb9
  have HFT := Lib.hid hfT
  obtain ⟨MB, hMB⟩ : ∃ B, Hid (B = mayC L F) := ⟨_, rfl⟩
  obtain ⟨z1, z2, hz⟩ : ∃ x y, Hid ((x, y) = soundS L F T) := ⟨_, _, rfl⟩
  rw [← hMB.out] at HMAY
  rw [← hz.out]
  clear hv hf ht hb9 hFL hFF hfT hE
  go_enter Tryz.func12, Tryz.ntmps12
  go_wp2_with fail
  refine HMAY.out.mono ?_
  rintro e w1 ⟨rfl, hb1⟩
  cases MB
  case false =>
    have h := hz.out
    unfold soundS at h
    rw [← hMB.out] at h
    have h1 : z1 = 0 := congrArg Prod.fst h
    have h2 : z2 = 2 := congrArg Prod.snd h
    subst h1 h2
    clear hz h
    go_wp2_with fail
    go_ret2
    exact ⟨rfl, hb1⟩
  have hlong : ¬ (1048576 : Int) < (T.length : Int) := by omega
  have hz0 : Hid ((z1, z2) = scanS L F T (T.drop 0) 0) := by
    have h := hz.out
    unfold soundS at h
    rw [← hMB.out, if_pos rfl] at h
    exact h
  have HOK : Hid (OkPre L F T) := ⟨fun cl hcl => ⟨by
    have h := hMB.out.symm
    unfold mayC at h
    rw [Bool.and_eq_true] at h
    exact List.all_eq_true.1 h.1 cl hcl, HB9.out cl hcl⟩, HFT.out, htb, by omega⟩
  clear hz HMAY
  go_wp2_with fail
  go_loopw [8] (fun m wr => ∃ k : Nat, k ≤ T.length ∧ m = .int .i64 (k : Int) ∧ Since w wr ∧ Hid ((z1, z2) = scanS L F T (T.drop k) k) ∧ Hid (∀ j (h : j < T.length), j < k → factB (T[j]).1 = true)) (fun m _ => T.length - (intOf m).toNat)
  case atStart => exact ⟨0, by omega, rfl, hb1, hz0, fun j h h2 => by omega⟩
  case round =>
  clear hz0
  obtain ⟨k, hk, rfl, hS, hz, hpre⟩ := hrel
  by_cases hlt : k < T.length
  · have hlt2 : (k : Int) < (T.length : Int) := by omega
    have HC := Lib.hid (rok_any va lc L vf fc F vs tc T k hlt wr (rnext HV.out hS) (anext HF.out hS) (snext HT.out hS) HOK.out hpre.out)
    have hz2 := hz.out
    rw [List.drop_eq_getElem_cons hlt, scanS] at hz2
    have HZ := Lib.hid hz2
    have hfk := fun (h : stepB L F T k T[k] = true) => stepB_fact h
    obtain ⟨b, hb⟩ : ∃ b, Hid (b = stepB L F T k T[k]) := ⟨stepB L F T k T[k], rfl⟩
    rw [← hb.out] at HC HZ hfk
    have HFK := Lib.hid hfk
    clear hz hz2 hfk hb
    go_wp2_with fail
    refine HC.out.mono ?_
    rintro e w4 ⟨rfl, hb4⟩
    have hS4 := hS.trans hb4
    cases b
    case false =>
      have h := HZ.out
      rw [if_neg (by decide)] at h
      have h1 : z1 = (k : Int) := congrArg Prod.fst h
      have h2 : z2 = 15 := congrArg Prod.snd h
      subst h1 h2
      clear HZ h HC
      go_wp2_with fail
      go_ret2
      exact ⟨rfl, hS4⟩
    case true =>
      have h : Hid ((z1, z2) = scanS L F T (T.drop (k + 1)) (k + 1)) := by
        have h := HZ.out
        rw [if_pos rfl] at h
        exact h
      have hp2 : Hid (∀ j (h : j < T.length), j < k + 1 → factB (T[j]).1 = true) := by
        intro j h1 h2
        rcases Nat.lt_or_ge j k with h3 | h3
        · exact hpre.out j h1 h3
        · obtain rfl : j = k := by omega
          exact HFK.out rfl
      clear HZ HC HFK
      go_wp2_with fail
      go_roundw
      case rel => exact ⟨k + 1, by omega, by go_num, hS4, h, hp2⟩
      case measure => simp [intOf]; omega
  · have hlt2 : ¬ (k : Int) < (T.length : Int) := by omega
    have h := hz.out
    rw [List.drop_eq_nil_of_le (by omega), scanS] at h
    have h1 : z1 = 0 := congrArg Prod.fst h
    have h2 : z2 = 0 := congrArg Prod.snd h
    subst h1 h2
    clear hz h
    go_wp2_with fail
    go_ret2
    exact ⟨rfl, hS⟩
end Go.Proofs.YtdlnmkdbjgbimaaGreatDoor

namespace Go.Proofs.YtdlnmkdbjgbimaaGreatDoor
open Go.RowKit

theorem any_mem (T : List Stp) (g : Atm) : (T.any fun s => eqA s.1 g) = decide (g ∈ T.map fun t => t.1) := by
  rw [Bool.eq_iff_iff, List.any_eq_true, decide_eq_true_eq, List.mem_map]
  constructor
  · rintro ⟨s, h1, h2⟩; exact ⟨s, h1, eqA_iff.1 h2⟩
  · rintro ⟨s, h1, h2⟩; exact ⟨s, h1, eqA_iff.2 h2⟩
set_option maxHeartbeats 4000000 in
set_option maxRecDepth 100000 in
theorem rin_any (vs : Option Addr) (tc : Nat) (T : List Stp) (a_s a_p : List UInt8) (a_n : Int) (a_v0 a_v1 a_v2 a_v3 : Bool) (a_l0 a_l1 a_l2 a_l3 : List UInt8) (w : World) (ht : SRow w (.slice vs T.length tc) T) (htb : T.length ≤ 1000000) :
    Calls Tryz.prog 19 #[.slice vs T.length tc, .agg #[.string ⟨a_s.toArray⟩, .string ⟨a_p.toArray⟩, .int .i64 a_n, .bool a_v0, .string ⟨a_l0.toArray⟩, .bool a_v1, .string ⟨a_l1.toArray⟩, .bool a_v2, .string ⟨a_l2.toArray⟩, .bool a_v3, .string ⟨a_l3.toArray⟩]] w fun e w' => e = .returned (.bool (T.any fun s => eqA s.1 ((a_s, a_p, a_n, (a_v0, a_l0), (a_v1, a_l1), (a_v2, a_l2), (a_v3, a_l3)) : Atm))) ∧ Since w w' := by
  have HT := Lib.hid ht
  have hS : Since w (w.alloc (.cells #[.string ⟨a_s.toArray⟩, .string ⟨a_p.toArray⟩, .int .i64 a_n, .bool a_v0, .string ⟨a_l0.toArray⟩, .bool a_v1, .string ⟨a_l1.toArray⟩, .bool a_v2, .string ⟨a_l2.toArray⟩, .bool a_v3, .string ⟨a_l3.toArray⟩] 29)) := (Since.refl _).alloc _
  have aA : At (w.alloc (.cells #[.string ⟨a_s.toArray⟩, .string ⟨a_p.toArray⟩, .int .i64 a_n, .bool a_v0, .string ⟨a_l0.toArray⟩, .bool a_v1, .string ⟨a_l1.toArray⟩, .bool a_v2, .string ⟨a_l2.toArray⟩, .bool a_v3, .string ⟨a_l3.toArray⟩] 29)) w.heap.size 0 #[.string ⟨a_s.toArray⟩, .string ⟨a_p.toArray⟩, .int .i64 a_n, .bool a_v0, .string ⟨a_l0.toArray⟩, .bool a_v1, .string ⟨a_l1.toArray⟩, .bool a_v2, .string ⟨a_l2.toArray⟩, .bool a_v3, .string ⟨a_l3.toArray⟩] := Cel.at (heap_alloc_new w _)
  obtain ⟨R, hR⟩ : ∃ R, Hid (R = T.any fun s => eqA s.1 ((a_s, a_p, a_n, (a_v0, a_l0), (a_v1, a_l1), (a_v2, a_l2), (a_v3, a_l3)) : Atm)) := ⟨_, rfl⟩
  rw [← hR.out]
  have hR0 : Hid (R = (T.drop 0).any fun s => eqA s.1 ((a_s, a_p, a_n, (a_v0, a_l0), (a_v1, a_l1), (a_v2, a_l2), (a_v3, a_l3)) : Atm)) := by show _ = _; rw [List.drop_zero]; exact hR.out
  clear ht hR
  go_enter Tryz.func19, Tryz.ntmps19
  go_wp2_with fail
  generalize hw1 : w.alloc (.cells #[.string ⟨a_s.toArray⟩, .string ⟨a_p.toArray⟩, .int .i64 a_n, .bool a_v0, .string ⟨a_l0.toArray⟩, .bool a_v1, .string ⟨a_l1.toArray⟩, .bool a_v2, .string ⟨a_l2.toArray⟩, .bool a_v3, .string ⟨a_l3.toArray⟩] 29) = w1 at *
  clear hw1
  go_loopw [5] (fun m wr => ∃ k : Nat, k ≤ T.length ∧ m = .int .i64 (k : Int) ∧ Since w1 wr ∧ Hid (R = (T.drop k).any fun s => eqA s.1 ((a_s, a_p, a_n, (a_v0, a_l0), (a_v1, a_l1), (a_v2, a_l2), (a_v3, a_l3)) : Atm))) (fun m _ => T.length - (intOf m).toNat)
  case atStart => exact ⟨0, by omega, rfl, Since.refl _, hR0⟩
  case round =>
  clear hR0
  obtain ⟨k, hk, rfl, hS1, hres⟩ := hrel
  by_cases hlt : k < T.length
  · have hlt2 : (k : Int) < (T.length : Int) := by omega
    have hlt0 : (0 : Int) ≤ (k : Int) := by omega
    obtain ⟨bs, os, es, hcs, hat⟩ := HT.out.get (by omega)
    have d1 := (hat k hlt).1
    have hst := hres.out
    rw [List.drop_eq_getElem_cons hlt, List.any_cons] at hst
    obtain ⟨⟨y_s, y_p, y_n, ⟨y_v0, y_l0⟩, ⟨y_v1, y_l1⟩, ⟨y_v2, y_l2⟩, ⟨y_v3, y_l3⟩⟩, hy⟩ : ∃ x, Hid (x = (T[k]).1) := ⟨(T[k]).1, rfl⟩
    rw [← hy.out] at d1 hst
    have HST := Lib.hid hst
    have yA : At w bs (os + k * 13) #[.string ⟨y_s.toArray⟩, .string ⟨y_p.toArray⟩, .int .i64 y_n, .bool y_v0, .string ⟨y_l0.toArray⟩, .bool y_v1, .string ⟨y_l1.toArray⟩, .bool y_v2, .string ⟨y_l2.toArray⟩, .bool y_v3, .string ⟨y_l3.toArray⟩] := d1
    have yB := yA.next (hS.trans hS1)
    have aB := aA.next hS1
    subst es
    clear hat d1 hst hres yA
    cases hq : eqA ((y_s, y_p, y_n, (y_v0, y_l0), (y_v1, y_l1), (y_v2, y_l2), (y_v3, y_l3)) : Atm) ((a_s, a_p, a_n, (a_v0, a_l0), (a_v1, a_l1), (a_v2, a_l2), (a_v3, a_l3)) : Atm)
    case true =>
      have hRt : R = true := by rw [HST.out, hq]; rfl
      subst hRt
      clear HST
      go_wp2_with fail
      replace hS1 := hS1.trans ((Since.refl wr).drew)
      replace yB := yB.next ((Since.refl wr).drew)
      replace aB := aB.next ((Since.refl wr).drew)
      refine hx_begin (S := fun W => (Since w1 W) ∧ (At W bs (os + k * 13) #[.string ⟨y_s.toArray⟩, .string ⟨y_p.toArray⟩, .int .i64 y_n, .bool y_v0, .string ⟨y_l0.toArray⟩, .bool y_v1, .string ⟨y_l1.toArray⟩, .bool y_v2, .string ⟨y_l2.toArray⟩, .bool y_v3, .string ⟨y_l3.toArray⟩]) ∧ (At W w.heap.size 0 #[.string ⟨a_s.toArray⟩, .string ⟨a_p.toArray⟩, .int .i64 a_n, .bool a_v0, .string ⟨a_l0.toArray⟩, .bool a_v1, .string ⟨a_l1.toArray⟩, .bool a_v2, .string ⟨a_l2.toArray⟩, .bool a_v3, .string ⟨a_l3.toArray⟩])) (by kernel_rfl) ⟨hS1, yB, aB⟩ (by kernel_rfl) (fun _ _ _ _ _ h => h) (fun hns hQ => ?_)
      refine hx_take (i := 0) (oi := _) (v := .slice (some ⟨bs, os, none⟩) T.length tc) rfl rfl hns (by kernel_rfl) (by kernel_rfl) hQ (by kernel_rfl) (fun _ _ => by kernel_rfl) ⟨hS1, yB, aB⟩ ?_
      refine hx_take (i := 1) (oi := _) (v := .int .i64 (k : Int)) rfl rfl hns (by kernel_rfl) (by kernel_rfl) hQ (by kernel_rfl) (fun _ _ => by kernel_rfl) ⟨hS1, yB, aB⟩ ?_
      refine hx_take (i := 2) (oi := _) (v := .pointer (some ⟨bs, os + k * 13, none⟩)) rfl rfl hns (by kernel_rfl) (by kernel_rfl) hQ (by kernel_rfl) (fun W _ => ix_sl (n := T.length) (c := tc) (K := 13) rfl (by kernel_rfl) (by kernel_rfl) (by kernel_rfl) rfl hlt W) ⟨hS1, yB, aB⟩ ?_
      refine hx_take (i := 3) (oi := _) (v := .pointer (some ⟨bs, os + k * 13, none⟩)) rfl rfl hns (by kernel_rfl) (by kernel_rfl) hQ (by kernel_rfl) (fun _ _ => by kernel_rfl) ⟨hS1, yB, aB⟩ ?_
      refine hx_take (i := 4) (oi := _) (v := .agg #[.string ⟨y_s.toArray⟩, .string ⟨y_p.toArray⟩, .int .i64 y_n, .bool y_v0, .string ⟨y_l0.toArray⟩, .bool y_v1, .string ⟨y_l1.toArray⟩, .bool y_v2, .string ⟨y_l2.toArray⟩, .bool y_v3, .string ⟨y_l3.toArray⟩]) rfl rfl hns (by kernel_rfl) (by kernel_rfl) hQ (by kernel_rfl) (fun W hW => ld_at rfl (by kernel_rfl) (by kernel_rfl) (by kernel_rfl) W (hW.2.1)) ⟨hS1, yB, aB⟩ ?_
      refine hx_take (i := 5) (oi := _) (v := .agg #[.string ⟨a_s.toArray⟩, .string ⟨a_p.toArray⟩, .int .i64 a_n, .bool a_v0, .string ⟨a_l0.toArray⟩, .bool a_v1, .string ⟨a_l1.toArray⟩, .bool a_v2, .string ⟨a_l2.toArray⟩, .bool a_v3, .string ⟨a_l3.toArray⟩]) rfl rfl hns (by kernel_rfl) (by kernel_rfl) hQ (by kernel_rfl) (fun W hW => ld_at rfl (by kernel_rfl) (by kernel_rfl) (by kernel_rfl) W (hW.2.2)) ⟨hS1, yB, aB⟩ ?_
      refine hx_take (i := 6) (oi := _) (v := .bool true) rfl rfl hns (by kernel_rfl) (by kernel_rfl) hQ (by kernel_rfl) (fun W _ => bin_val (eqg_atom y_s y_p y_n y_v0 y_v1 y_v2 y_v3 y_l0 y_l1 y_l2 y_l3 a_s a_p a_n a_v0 a_v1 a_v2 a_v3 a_l0 a_l1 a_l2 a_l3 rfl (by kernel_rfl) (by kernel_rfl) W) hq) ⟨hS1, yB, aB⟩ ?_
      refine wpAnyH_done (by kernel_rfl) ?_ _
      clear hns hQ
      simp only [List.set_cons_zero, List.set_cons_succ]
      clear yB aB
      go_wp2_with fail
      go_ret
      exact ⟨rfl, hS.trans hS1⟩
    case false =>
      have hRn : Hid (R = (T.drop (k + 1)).any fun s => eqA s.1 ((a_s, a_p, a_n, (a_v0, a_l0), (a_v1, a_l1), (a_v2, a_l2), (a_v3, a_l3)) : Atm)) := by show _ = _; rw [HST.out, hq, Bool.false_or]
      clear HST
      go_wp2_with fail
      replace hS1 := hS1.trans ((Since.refl wr).drew)
      replace yB := yB.next ((Since.refl wr).drew)
      replace aB := aB.next ((Since.refl wr).drew)
      refine hx_begin (S := fun W => (Since w1 W) ∧ (At W bs (os + k * 13) #[.string ⟨y_s.toArray⟩, .string ⟨y_p.toArray⟩, .int .i64 y_n, .bool y_v0, .string ⟨y_l0.toArray⟩, .bool y_v1, .string ⟨y_l1.toArray⟩, .bool y_v2, .string ⟨y_l2.toArray⟩, .bool y_v3, .string ⟨y_l3.toArray⟩]) ∧ (At W w.heap.size 0 #[.string ⟨a_s.toArray⟩, .string ⟨a_p.toArray⟩, .int .i64 a_n, .bool a_v0, .string ⟨a_l0.toArray⟩, .bool a_v1, .string ⟨a_l1.toArray⟩, .bool a_v2, .string ⟨a_l2.toArray⟩, .bool a_v3, .string ⟨a_l3.toArray⟩])) (by kernel_rfl) ⟨hS1, yB, aB⟩ (by kernel_rfl) (fun _ _ _ _ _ h => h) (fun hns hQ => ?_)
      refine hx_take (i := 0) (oi := _) (v := .slice (some ⟨bs, os, none⟩) T.length tc) rfl rfl hns (by kernel_rfl) (by kernel_rfl) hQ (by kernel_rfl) (fun _ _ => by kernel_rfl) ⟨hS1, yB, aB⟩ ?_
      refine hx_take (i := 1) (oi := _) (v := .int .i64 (k : Int)) rfl rfl hns (by kernel_rfl) (by kernel_rfl) hQ (by kernel_rfl) (fun _ _ => by kernel_rfl) ⟨hS1, yB, aB⟩ ?_
      refine hx_take (i := 2) (oi := _) (v := .pointer (some ⟨bs, os + k * 13, none⟩)) rfl rfl hns (by kernel_rfl) (by kernel_rfl) hQ (by kernel_rfl) (fun W _ => ix_sl (n := T.length) (c := tc) (K := 13) rfl (by kernel_rfl) (by kernel_rfl) (by kernel_rfl) rfl hlt W) ⟨hS1, yB, aB⟩ ?_
      refine hx_take (i := 3) (oi := _) (v := .pointer (some ⟨bs, os + k * 13, none⟩)) rfl rfl hns (by kernel_rfl) (by kernel_rfl) hQ (by kernel_rfl) (fun _ _ => by kernel_rfl) ⟨hS1, yB, aB⟩ ?_
      refine hx_take (i := 4) (oi := _) (v := .agg #[.string ⟨y_s.toArray⟩, .string ⟨y_p.toArray⟩, .int .i64 y_n, .bool y_v0, .string ⟨y_l0.toArray⟩, .bool y_v1, .string ⟨y_l1.toArray⟩, .bool y_v2, .string ⟨y_l2.toArray⟩, .bool y_v3, .string ⟨y_l3.toArray⟩]) rfl rfl hns (by kernel_rfl) (by kernel_rfl) hQ (by kernel_rfl) (fun W hW => ld_at rfl (by kernel_rfl) (by kernel_rfl) (by kernel_rfl) W (hW.2.1)) ⟨hS1, yB, aB⟩ ?_
      refine hx_take (i := 5) (oi := _) (v := .agg #[.string ⟨a_s.toArray⟩, .string ⟨a_p.toArray⟩, .int .i64 a_n, .bool a_v0, .string ⟨a_l0.toArray⟩, .bool a_v1, .string ⟨a_l1.toArray⟩, .bool a_v2, .string ⟨a_l2.toArray⟩, .bool a_v3, .string ⟨a_l3.toArray⟩]) rfl rfl hns (by kernel_rfl) (by kernel_rfl) hQ (by kernel_rfl) (fun W hW => ld_at rfl (by kernel_rfl) (by kernel_rfl) (by kernel_rfl) W (hW.2.2)) ⟨hS1, yB, aB⟩ ?_
      refine hx_take (i := 6) (oi := _) (v := .bool false) rfl rfl hns (by kernel_rfl) (by kernel_rfl) hQ (by kernel_rfl) (fun W _ => bin_val (eqg_atom y_s y_p y_n y_v0 y_v1 y_v2 y_v3 y_l0 y_l1 y_l2 y_l3 a_s a_p a_n a_v0 a_v1 a_v2 a_v3 a_l0 a_l1 a_l2 a_l3 rfl (by kernel_rfl) (by kernel_rfl) W) hq) ⟨hS1, yB, aB⟩ ?_
      refine wpAnyH_done (by kernel_rfl) ?_ _
      clear hns hQ
      simp only [List.set_cons_zero, List.set_cons_succ]
      clear yB aB
      go_wp2_with fail
      go_roundw
      case rel => exact ⟨k + 1, by omega, by go_num, hS1, hRn⟩
      case measure => simp [intOf]; omega
  · have hlt2 : ¬ (k : Int) < (T.length : Int) := by omega
    have hRf : R = false := by rw [hres.out, List.drop_eq_nil_of_le (by omega)]; rfl
    subst hRf
    clear hres
    go_wp2_with fail
    go_ret
    exact ⟨rfl, hS.trans hS1⟩
set_option maxHeartbeats 8000000 in
set_option maxRecDepth 100000 in
theorem rcited_any (vs : Option Addr) (tc : Nat) (T : List Stp) (w : World) (ht : SRow w (.slice vs T.length tc) T) (htb : T.length ≤ 1000000) (hfT : ∀ t ∈ T, t.2.2.length ≤ 100000) :
    Calls Tryz.prog 17 #[.slice vs T.length tc] w fun e w' => ∃ q, e = .returned (.slice (some ⟨q, 0, none⟩) T.length T.length) ∧ Cel w' q (intsC (citedS T)) 3 ∧ w.heap.size ≤ q ∧ Since w w' := by
  have HT := Lib.hid ht
  have HFT := Lib.hid hfT
  have hms := run_mkInts T.length htb w
  have hq0 : Cel (w.alloc (.cells (intsC (List.replicate T.length 0)) 3)) w.heap.size (intsC (List.replicate T.length 0)) 3 := heap_alloc_new w _
  have hS0 : Since w (w.alloc (.cells (intsC (List.replicate T.length 0)) 3)) := (Since.refl w).alloc _
  have hSz : w.heap.size < (w.alloc (.cells (intsC (List.replicate T.length 0)) 3)).heap.size := hq0.lt
  obtain ⟨R, hR⟩ : ∃ R, Hid (R = citedS T) := ⟨_, rfl⟩
  rw [← hR.out]
  have hR0 : Hid (R = ((T.drop 0).flatMap fun t => t.2.2).foldl bump (List.replicate T.length 0)) := by show _ = _; rw [List.drop_zero]; exact hR.out
  clear ht hfT hR
  go_enter Tryz.func17, Tryz.ntmps17
  go_upto_region 2 with (fail)
  clear hms
  generalize hw1 : w.alloc (.cells (intsC (List.replicate T.length 0)) 3) = w1 at *
  clear hw1
  go_wp2_with fail
  go_loopw [4] (fun i wr => ∃ (k : Nat) (C : List Int), k ≤ T.length ∧ i = .int .i64 (k : Int) ∧ Since w wr ∧ Cel wr w.heap.size (intsC C) 3 ∧ C.length = T.length ∧ Hid (∀ x ∈ C, 0 ≤ x ∧ x ≤ 100000 * (k : Int)) ∧ Hid (R = ((T.drop k).flatMap fun t => t.2.2).foldl bump C)) (fun i _ => T.length - (intOf i).toNat)
  case atStart => exact ⟨0, _, by omega, rfl, hS0, hq0, by simp, (fun x hx => by rw [List.mem_replicate] at hx; rw [hx.2]; omega), hR0⟩
  case round =>
    clear hq0 hS0 hR0
    obtain ⟨k, C, hk, rfl, hS, hq, hCl, hbnd, hres⟩ := hrel
    by_cases hlt : k < T.length
    · have hki : (k : Int) < (T.length : Int) := by omega
      have hvl := HFT.out _ (List.getElem_mem hlt)
      obtain ⟨bs, os, rfl, hcs, hats⟩ := HT.out.get (by omega)
      obtain ⟨e1, e2, u, e3, e4⟩ := hats k hlt
      rw [List.drop_eq_getElem_cons hlt, List.flatMap_cons, List.foldl_append] at hres
      obtain ⟨s, hs⟩ : ∃ s, Hid (s = T[k]) := ⟨T[k], rfl⟩
      rw [← hs.out] at e1 e2 e4 hres hvl
      obtain ⟨⟨x_s, x_p, x_n, ⟨x_v0, x_l0⟩, ⟨x_v1, x_l1⟩, ⟨x_v2, x_l2⟩, ⟨x_v3, x_l3⟩⟩, c, V⟩ := s
      obtain ⟨sa, sc, rfl⟩ := e4.slice
      simp only at e1 e2 e3 e4 hvl hres
      have E3 := Lib.hid e3
      have HRES := Lib.hid hres
      have HV := Lib.hid e4
      have e3r := hS.cell E3.out
      clear hres hats hcs e1 e2 e3 e4 hs
      go_wp2_with fail
      clear e3r
      go_loopw [5] (fun i wr => ∃ (j : Nat) (D : List Int), j ≤ V.length ∧ i = .int .i64 (j : Int) ∧ Since w wr ∧ Cel wr w.heap.size (intsC D) 3 ∧ D.length = T.length ∧ Hid (∀ x ∈ D, 0 ≤ x ∧ x ≤ 100000 * (k : Int) + (j : Int)) ∧ Hid ((V.drop j).foldl bump D = V.foldl bump C)) (fun i _ => V.length - (intOf i).toNat)
      case atStart => exact ⟨0, C, by omega, rfl, hS, hq, hCl, (fun x hx => by have := hbnd.out x hx; omega), rfl⟩
      case round =>
        clear hq hS
        obtain ⟨j, D, hj, rfl, hS, hq, hDl, hbd2, hres⟩ := hrel
        have e3r := hS.cell E3.out
        have hki0 : (0 : Int) ≤ (k : Int) := by omega
        have hk6 : (k : Int) < 1000000 := by omega
        by_cases hjl : j < V.length
        · have hji : (j : Int) < (V.length : Int) := by omega
          obtain ⟨bv, ov, esa, hcv, hatv⟩ := (inext HV.out hS).get (by omega)
          rw [esa] at e3r
          have hv0 := hatv j hjl
          unfold IntAt at hv0
          rw [Nat.mul_one] at hv0
          have hmem := List.getElem_mem hjl
          rw [List.drop_eq_getElem_cons hjl, List.foldl_cons] at hres
          obtain ⟨y, hy⟩ : ∃ y, Hid (y = V[j]) := ⟨V[j], rfl⟩
          rw [← hy.out] at hv0 hres
          clear hatv hcv hmem hy
          by_cases hy0 : y < 0
          · have hb : bump D y = D := by unfold bump; rw [if_neg (by omega)]
            rw [hb] at hres
            have HR2 := Lib.hid hres
            have hy1 : ¬ 0 ≤ y := by omega
            clear hres hb hy0
            go_wp2_with fail
            go_roundw
            case rel => exact ⟨j + 1, D, by omega, by go_num, hS, hq, hDl, (fun x hx => by have := hbd2.out x hx; omega), HR2.out⟩
            case measure => simp [intOf]; omega
          · obtain ⟨m, rfl⟩ : ∃ m : Nat, y = (m : Int) := ⟨y.toNat, by omega⟩
            by_cases hm : m < T.length
            · have hmi : (m : Int) < (T.length : Int) := by omega
              have hg := intsC_get D (m := m) (by omega)
              obtain ⟨z, hz⟩ : ∃ z, Hid (z = (D[m]?).getD 0) := ⟨_, rfl⟩
              rw [← hz.out] at hg
              have hzb : 0 ≤ z ∧ z ≤ 100000 * (k : Int) + (j : Int) := by
                rw [hz.out, List.getElem?_eq_getElem (by omega)]
                exact hbd2.out _ (List.getElem_mem _)
              have hcm : wr.cell? ⟨w.heap.size, m, none⟩ = some (.int .i64 z) := (hq.cell m).trans hg
              have hfm : wr.frozen? ⟨w.heap.size, m, none⟩ = false := hq.free m
              have hwz : IntKind.i64.wrap (z + 1) = z + 1 := by rw [IntKind.wrap_i64]; omega
              have hb : bump D (m : Int) = D.set m (z + 1) := by
                unfold bump
                rw [if_pos ⟨by omega, by omega⟩, Int.toNat_natCast, ← hz.out]
              rw [hb] at hres
              have HR2 := Lib.hid hres
              have hq3 : Cel (wr.setCell ⟨w.heap.size, m, none⟩ (.int .i64 (z + 1))) w.heap.size (intsC (D.set m (z + 1))) 3 := hq.set (intsC_set D m (z + 1))
              have hS3 : Since w (wr.setCell ⟨w.heap.size, m, none⟩ (.int .i64 (z + 1))) := hS.setCell (Nat.le_refl _) _
              have hbd3 : Hid (∀ x ∈ D.set m (z + 1), 0 ≤ x ∧ x ≤ 100000 * (k : Int) + ((j + 1 : Nat) : Int)) := by
                intro x hx
                rcases List.mem_or_eq_of_mem_set hx with h | rfl
                · have := hbd2.out x h; omega
                · omega
              clear hres hb hg hz
              go_wp2_with fail
              go_roundw
              case rel => exact ⟨j + 1, D.set m (z + 1), by omega, by go_num, hS3, hq3, by rw [List.length_set]; exact hDl, hbd3, HR2.out⟩
              case measure => simp [intOf]; omega
            · have hmi : ¬ (m : Int) < (T.length : Int) := by omega
              have hb : bump D (m : Int) = D := by unfold bump; rw [if_neg (by omega)]
              rw [hb] at hres
              have HR2 := Lib.hid hres
              clear hres hb
              go_wp2_with fail
              go_roundw
              case rel => exact ⟨j + 1, D, by omega, by go_num, hS, hq, hDl, (fun x hx => by have := hbd2.out x hx; omega), HR2.out⟩
              case measure => simp [intOf]; omega
        · have hji : ¬ (j : Int) < (V.length : Int) := by omega
          have hDe : D = V.foldl bump C := by rw [← hres.out, List.drop_eq_nil_of_le (by omega)]; rfl
          have HR2 : Hid (R = ((T.drop (k + 1)).flatMap fun t => t.2.2).foldl bump D) := by show _ = _; rw [hDe]; exact HRES.out
          clear hres hDe
          go_wp2_with fail
          go_roundw
          case rel => exact ⟨k + 1, D, by omega, by go_num, hS, hq, hDl, (fun x hx => by have := hbd2.out x hx; omega), HR2⟩
          case measure => simp [intOf]; omega
    · have hki : ¬ (k : Int) < (T.length : Int) := by omega
      have hRf : R = C := by rw [hres.out, List.drop_eq_nil_of_le (by omega)]; rfl
      subst hRf
      clear hres hbnd
      go_wp2_with fail
      go_ret
      exact ⟨_, rfl, hq, Nat.le_refl _, hS⟩
set_option maxHeartbeats 8000000 in
set_option maxRecDepth 100000 in
theorem rcheck_any22 (va : Option Addr) (lc : Nat) (L : List Cls) (vf : Option Addr) (fc : Nat) (F : List Atm) (vs : Option Addr) (tc : Nat) (T : List Stp) (vg : Option Addr) (gc : Nat) (G : List Atm) (w : World)
    (hv : RRow w (.slice va L.length lc) L) (hf : ARow w (.slice vf F.length fc) F) (ht : SRow w (.slice vs T.length tc) T) (hg : ARow w (.slice vg G.length gc) G) (hkb : L.length ≤ 100000) (hmf : F.length ≤ 100000) (htb : T.length ≤ 1000000) (hmg : G.length ≤ 1000000)
    (hb9 : ∀ c ∈ L, c.2.length ≤ 100) (hFL : ∀ c ∈ L, FitsC c) (hFF : ∀ a ∈ F, FitsN a) (hfT : ∀ t ∈ T, FitsN t.1 ∧ t.2.2.length ≤ 100000) (hE : Env w) :
    Calls Tryz.prog 10 #[.slice va L.length lc, .slice vf F.length fc, .slice vs T.length tc, .slice vg G.length gc] w fun e w' => e = .returned (.tuple #[.int .i64 (checkS L F T G).1, .int .i64 (checkS L F T G).2]) ∧ Since w w' := by
  have HS := Lib.hid (rsound_any va lc L vf fc F vs tc T w hv hf ht hkb hmf hb9 hFL hFF hfT htb hE)
  have HC := Lib.hid (fun W (hW : Since w W) => rcited_any vs tc T W (snext ht hW) htb (fun t h => (hfT t h).2))
  have HIN := Lib.hid (fun W (hW : Since w W) (g : Atm) => rin_any vs tc T g.1 g.2.1 g.2.2.1 g.2.2.2.1.1 g.2.2.2.2.1.1 g.2.2.2.2.2.1.1 g.2.2.2.2.2.2.1 g.2.2.2.1.2 g.2.2.2.2.1.2 g.2.2.2.2.2.1.2 g.2.2.2.2.2.2.2 W (snext ht hW) htb)
  have HT := Lib.hid ht
  have HG := Lib.hid hg
  obtain ⟨z1, z2, hz⟩ : ∃ x y, Hid ((x, y) = soundS L F T) := ⟨_, _, rfl⟩
  obtain ⟨r1, r2, hr⟩ : ∃ x y, Hid ((x, y) = checkS L F T G) := ⟨_, _, rfl⟩
  have hr1 : Hid ((r1, r2) = if z2 = 0 then afterS (goalsS (T.map fun t => t.1) (G.drop 0) 0) 13 (afterS (looseS G (citedS T) (T.drop 0) 0) 15 (0, 0)) else (z1, z2)) := by
    show _ = _
    rw [hr.out, checkS_eq, ← hz.out]; rfl
  rw [← hz.out] at HS
  rw [← hr.out]
  clear hv hf ht hg hb9 hFL hFF hfT hE hr hz
  go_enter Tryz.func10, Tryz.ntmps10
  go_wp2_with fail
  refine HS.out.mono ?_
  rintro e w1 ⟨rfl, hb1⟩
  clear HS
  by_cases hz2 : z2 = 0
  case neg =>
    have hz3 : (z2 != 0) = true := by simpa using hz2
    have h := hr1.out
    rw [if_neg hz2] at h
    have h1 : r1 = z1 := congrArg Prod.fst h
    have h2 : r2 = z2 := congrArg Prod.snd h
    subst h1 h2
    clear h hr1
    go_wp2_with fail
    go_ret2
    exact ⟨rfl, hb1⟩
  subst hz2
  have hr2 : Hid ((r1, r2) = afterS (goalsS (T.map fun t => t.1) (G.drop 0) 0) 13 (afterS (looseS G (citedS T) (T.drop 0) 0) 15 (0, 0))) := by
    have h := hr1.out
    rw [if_pos rfl] at h
    exact h
  clear hr1
  go_wp2_with fail
  go_loopw [12] (fun m wr => ∃ k : Nat, k ≤ G.length ∧ m = .int .i64 (k : Int) ∧ Since w wr ∧ Hid ((r1, r2) = afterS (goalsS (T.map fun t => t.1) (G.drop k) k) 13 (afterS (looseS G (citedS T) (T.drop 0) 0) 15 (0, 0)))) (fun m _ => G.length - (intOf m).toNat)
  case atStart => exact ⟨0, by omega, rfl, hb1, hr2⟩
  case round =>
  clear hr2 hb1
  obtain ⟨k, hk, rfl, hS, hres⟩ := hrel
  by_cases hlt : k < G.length
  · have hlt2 : (k : Int) < (G.length : Int) := by omega
    have hlt0 : (0 : Int) ≤ (k : Int) := by omega
    obtain ⟨bg, og, eg, hcg, hat⟩ := HG.out.get (by omega)
    have d1 := hat k hlt
    have hst := hres.out
    rw [List.drop_eq_getElem_cons hlt, goalsS] at hst
    have HI := Lib.hid (HIN.out wr hS G[k])
    have ham := any_mem T G[k]
    obtain ⟨⟨y_s, y_p, y_n, ⟨y_v0, y_l0⟩, ⟨y_v1, y_l1⟩, ⟨y_v2, y_l2⟩, ⟨y_v3, y_l3⟩⟩, hy⟩ : ∃ x, Hid (x = G[k]) := ⟨G[k], rfl⟩
    rw [← hy.out] at d1 hst HI ham
    obtain ⟨B, hB⟩ : ∃ B, Hid (B = decide (((y_s, y_p, y_n, (y_v0, y_l0), (y_v1, y_l1), (y_v2, y_l2), (y_v3, y_l3)) : Atm) ∈ T.map fun t => t.1)) := ⟨_, rfl⟩
    rw [← hB.out] at hst ham
    have HST := Lib.hid hst
    have HI2 : Hid (Calls Tryz.prog 19 #[.slice vs T.length tc, .agg #[.string ⟨y_s.toArray⟩, .string ⟨y_p.toArray⟩, .int .i64 y_n, .bool y_v0, .string ⟨y_l0.toArray⟩, .bool y_v1, .string ⟨y_l1.toArray⟩, .bool y_v2, .string ⟨y_l2.toArray⟩, .bool y_v3, .string ⟨y_l3.toArray⟩]] wr fun e w' => e = .returned (.bool B) ∧ Since wr w') := by
      have h := HI.out
      simp only at h
      rw [ham] at h
      exact h
    have yA := (AtAt.next d1 hS).all
    obtain ⟨y_c0, y_c1, y_c2, y_c3, y_c4, y_c5, y_c6, y_c7, y_c8, y_c9, y_c10⟩ := yA
    subst eg
    clear hat d1 hst hres HI ham hB
    go_wp2_with fail
    refine HI2.out.mono ?_
    rintro e w3 ⟨rfl, hb3⟩
    have hS3 := hS.trans hb3
    clear y_c0 y_c1 y_c2 y_c3 y_c4 y_c5 y_c6 y_c7 y_c8 y_c9 y_c10 HI2
    cases B
    case false =>
      have h := HST.out
      rw [if_neg (by decide)] at h
      have h1 : r1 = (k : Int) := congrArg Prod.fst h
      have h2 : r2 = 13 := congrArg Prod.snd h
      subst h1 h2
      clear h HST
      go_wp2_with fail
      go_ret2
      exact ⟨rfl, hS3⟩
    case true =>
      have h : Hid ((r1, r2) = afterS (goalsS (T.map fun t => t.1) (G.drop (k + 1)) (k + 1)) 13 (afterS (looseS G (citedS T) (T.drop 0) 0) 15 (0, 0))) := by
        have h := HST.out
        rw [if_pos rfl] at h
        exact h
      clear HST
      go_wp2_with fail
      go_roundw
      case rel => exact ⟨k + 1, by omega, by go_num, hS3, h⟩
      case measure => simp [intOf]; omega
  have hlt2 : ¬ (k : Int) < (G.length : Int) := by omega
  have hr3 : Hid ((r1, r2) = afterS (looseS G (citedS T) (T.drop 0) 0) 15 (0, 0)) := by
    have h := hres.out
    rw [List.drop_eq_nil_of_le (by omega)] at h
    exact h
  clear hres
  go_wp2_with fail
  refine (HC.out _ hS).mono ?_
  rintro e w4 ⟨q, rfl, hq, -, hb4⟩
  have hS4 := hS.trans hb4
  obtain ⟨CT, hCT⟩ : ∃ C, Hid (C = citedS T) := ⟨_, rfl⟩
  have hCl : CT.length = T.length := by rw [hCT.out, citedS, bumps_len, List.length_replicate]
  have HCL := Lib.hid hCl
  rw [← hCT.out] at hq hr3
  clear HC hCT hb4 hCl
  go_wp2_with fail
  go_loopw [14, 15, 16] (fun m _ _ wr => ∃ k : Nat, k ≤ T.length ∧ m = .int .i64 (k : Int) ∧ Since w4 wr ∧ Hid ((r1, r2) = afterS (looseS G CT (T.drop k) k) 15 (0, 0))) (fun m _ _ _ => T.length - (intOf m).toNat)
  case atStart => exact ⟨0, by omega, rfl, Since.refl _, hr3⟩
  case round =>
  rename World => wo
  clear hr3
  obtain ⟨i, hi, rfl, hSo, hres⟩ := hrel
  by_cases hit : i < T.length
  · have hit2 : (i : Int) < (T.length : Int) := by omega
    have hit0 : (0 : Int) ≤ (i : Int) := by omega
    obtain ⟨bs, os, es, hcs, hats⟩ := HT.out.get (by omega)
    have d2 := (hats i hit).1
    have hst := hres.out
    rw [List.drop_eq_getElem_cons hit, looseS] at hst
    obtain ⟨⟨x_s, x_p, x_n, ⟨x_v0, x_l0⟩, ⟨x_v1, x_l1⟩, ⟨x_v2, x_l2⟩, ⟨x_v3, x_l3⟩⟩, hx⟩ : ∃ x, Hid (x = (T[i]).1) := ⟨(T[i]).1, rfl⟩
    rw [← hx.out] at d2 hst
    have HST := Lib.hid hst
    have xA0 : At w bs (os + i * 13) #[.string ⟨x_s.toArray⟩, .string ⟨x_p.toArray⟩, .int .i64 x_n, .bool x_v0, .string ⟨x_l0.toArray⟩, .bool x_v1, .string ⟨x_l1.toArray⟩, .bool x_v2, .string ⟨x_l2.toArray⟩, .bool x_v3, .string ⟨x_l3.toArray⟩] := d2
    subst es
    clear hats d2 hst hres
    go_wp2_with fail
    go_loopw [15, 16] (fun g m wr => ∃ k : Nat, k ≤ G.length ∧ m = .int .i64 (k : Int) ∧ g = .bool (decide (((x_s, x_p, x_n, (x_v0, x_l0), (x_v1, x_l1), (x_v2, x_l2), (x_v3, x_l3)) : Atm) ∈ G.take k)) ∧ Since wo wr) (fun _ m _ => G.length - (intOf m).toNat)
    case atStart => exact ⟨0, by omega, rfl, by simp, Since.refl _⟩
    case round =>
    rename World => wi
    obtain ⟨k, hk, rfl, rfl, hSi⟩ := hrel
    have hS5 := hSo.trans hSi
    by_cases hlt : k < G.length
    · have hlt2 : (k : Int) < (G.length : Int) := by omega
      have hlt0 : (0 : Int) ≤ (k : Int) := by omega
      obtain ⟨bg, og, eg, hcg, hat⟩ := HG.out.get (by omega)
      have d1 := hat k hlt
      have htm := take_mem (a := ((x_s, x_p, x_n, (x_v0, x_l0), (x_v1, x_l1), (x_v2, x_l2), (x_v3, x_l3)) : Atm)) hlt
      obtain ⟨⟨y_s, y_p, y_n, ⟨y_v0, y_l0⟩, ⟨y_v1, y_l1⟩, ⟨y_v2, y_l2⟩, ⟨y_v3, y_l3⟩⟩, hy⟩ : ∃ x, Hid (x = G[k]) := ⟨G[k], rfl⟩
      rw [← hy.out] at d1 htm
      have yA0 : At w bg (og + k * 11) #[.string ⟨y_s.toArray⟩, .string ⟨y_p.toArray⟩, .int .i64 y_n, .bool y_v0, .string ⟨y_l0.toArray⟩, .bool y_v1, .string ⟨y_l1.toArray⟩, .bool y_v2, .string ⟨y_l2.toArray⟩, .bool y_v3, .string ⟨y_l3.toArray⟩] := d1
      have yA := yA0.next (hS4.trans hS5)
      have xA := xA0.next (hS4.trans hS5)
      subst eg
      obtain ⟨th, hth⟩ : ∃ b, Hid (b = decide (((x_s, x_p, x_n, (x_v0, x_l0), (x_v1, x_l1), (x_v2, x_l2), (x_v3, x_l3)) : Atm) ∈ G.take k)) := ⟨_, rfl⟩
      rw [← hth.out] at htm ⊢
      clear hat d1 yA0 hth
      cases th
      case true =>
        go_wp2_with fail
        replace hS5 := hS5.trans ((Since.refl wi).drew)
        replace hSi := hSi.trans ((Since.refl wi).drew)
        replace yA := yA.next ((Since.refl wi).drew)
        replace xA := xA.next ((Since.refl wi).drew)
        refine hx_begin (S := fun W => (Since w4 W) ∧ (Since wo W) ∧ (At W bg (og + k * 11) #[.string ⟨y_s.toArray⟩, .string ⟨y_p.toArray⟩, .int .i64 y_n, .bool y_v0, .string ⟨y_l0.toArray⟩, .bool y_v1, .string ⟨y_l1.toArray⟩, .bool y_v2, .string ⟨y_l2.toArray⟩, .bool y_v3, .string ⟨y_l3.toArray⟩]) ∧ (At W bs (os + i * 13) #[.string ⟨x_s.toArray⟩, .string ⟨x_p.toArray⟩, .int .i64 x_n, .bool x_v0, .string ⟨x_l0.toArray⟩, .bool x_v1, .string ⟨x_l1.toArray⟩, .bool x_v2, .string ⟨x_l2.toArray⟩, .bool x_v3, .string ⟨x_l3.toArray⟩])) (by kernel_rfl) ⟨hS5, hSi, yA, xA⟩ (by kernel_rfl) (fun _ _ _ _ _ h => h) (fun hns hQ => ?_)
        refine hx_take (i := 0) (oi := _) (v := .bool true) rfl rfl hns (by kernel_rfl) (by kernel_rfl) hQ (by kernel_rfl) (fun _ _ => by kernel_rfl) ⟨hS5, hSi, yA, xA⟩ ?_
        refine hx_take (i := 1) (oi := _) (v := .bool true) rfl rfl hns (by kernel_rfl) (by kernel_rfl) hQ (by kernel_rfl) (fun _ _ => by kernel_rfl) ⟨hS5, hSi, yA, xA⟩ ?_
        refine hx_off (i := 2) (oi := _) rfl rfl hns (by kernel_rfl) (by kernel_rfl) hQ (by kernel_rfl) ⟨hS5, hSi, yA, xA⟩ ?_
        refine hx_off (i := 3) (oi := _) rfl rfl hns (by kernel_rfl) (by kernel_rfl) hQ (by kernel_rfl) ⟨hS5, hSi, yA, xA⟩ ?_
        refine hx_off (i := 4) (oi := _) rfl rfl hns (by kernel_rfl) (by kernel_rfl) hQ (by kernel_rfl) ⟨hS5, hSi, yA, xA⟩ ?_
        refine hx_off (i := 5) (oi := _) rfl rfl hns (by kernel_rfl) (by kernel_rfl) hQ (by kernel_rfl) ⟨hS5, hSi, yA, xA⟩ ?_
        refine hx_off (i := 6) (oi := _) rfl rfl hns (by kernel_rfl) (by kernel_rfl) hQ (by kernel_rfl) ⟨hS5, hSi, yA, xA⟩ ?_
        refine hx_off (i := 7) (oi := _) rfl rfl hns (by kernel_rfl) (by kernel_rfl) hQ (by kernel_rfl) ⟨hS5, hSi, yA, xA⟩ ?_
        refine hx_off (i := 8) (oi := _) rfl rfl hns (by kernel_rfl) (by kernel_rfl) hQ (by kernel_rfl) ⟨hS5, hSi, yA, xA⟩ ?_
        refine hx_off (i := 9) (oi := _) rfl rfl hns (by kernel_rfl) (by kernel_rfl) hQ (by kernel_rfl) ⟨hS5, hSi, yA, xA⟩ ?_
        refine hx_off (i := 10) (oi := _) rfl rfl hns (by kernel_rfl) (by kernel_rfl) hQ (by kernel_rfl) ⟨hS5, hSi, yA, xA⟩ ?_
        refine hx_off (i := 11) (oi := _) rfl rfl hns (by kernel_rfl) (by kernel_rfl) hQ (by kernel_rfl) ⟨hS5, hSi, yA, xA⟩ ?_
        refine hx_take (i := 12) (oi := _) (v := .bool true) rfl rfl hns (by kernel_rfl) (by kernel_rfl) hQ (by kernel_rfl) (fun _ _ => by kernel_rfl) ⟨hS5, hSi, yA, xA⟩ ?_
        refine hx_take (i := 13) (oi := _) (v := .bool true) rfl rfl hns (by kernel_rfl) (by kernel_rfl) hQ (by kernel_rfl) (fun _ _ => by kernel_rfl) ⟨hS5, hSi, yA, xA⟩ ?_
        refine wpAnyH_done (by kernel_rfl) ?_ _
        clear hns hQ
        simp only [List.set_cons_zero, List.set_cons_succ]
        clear yA xA
        go_wp2_with fail
        go_roundw
        case rel => exact ⟨k + 1, by omega, by go_num, by rw [htm]; rfl, hSi⟩
        case measure => simp [intOf]; omega
      case false =>
        cases hq2 : eqA ((y_s, y_p, y_n, (y_v0, y_l0), (y_v1, y_l1), (y_v2, y_l2), (y_v3, y_l3)) : Atm) ((x_s, x_p, x_n, (x_v0, x_l0), (x_v1, x_l1), (x_v2, x_l2), (x_v3, x_l3)) : Atm)
        case true =>
          go_wp2_with fail
          replace hS5 := hS5.trans ((Since.refl wi).drew)
          replace hSi := hSi.trans ((Since.refl wi).drew)
          replace yA := yA.next ((Since.refl wi).drew)
          replace xA := xA.next ((Since.refl wi).drew)
          refine hx_begin (S := fun W => (Since w4 W) ∧ (Since wo W) ∧ (At W bg (og + k * 11) #[.string ⟨y_s.toArray⟩, .string ⟨y_p.toArray⟩, .int .i64 y_n, .bool y_v0, .string ⟨y_l0.toArray⟩, .bool y_v1, .string ⟨y_l1.toArray⟩, .bool y_v2, .string ⟨y_l2.toArray⟩, .bool y_v3, .string ⟨y_l3.toArray⟩]) ∧ (At W bs (os + i * 13) #[.string ⟨x_s.toArray⟩, .string ⟨x_p.toArray⟩, .int .i64 x_n, .bool x_v0, .string ⟨x_l0.toArray⟩, .bool x_v1, .string ⟨x_l1.toArray⟩, .bool x_v2, .string ⟨x_l2.toArray⟩, .bool x_v3, .string ⟨x_l3.toArray⟩])) (by kernel_rfl) ⟨hS5, hSi, yA, xA⟩ (by kernel_rfl) (fun _ _ _ _ _ h => h) (fun hns hQ => ?_)
          refine hx_take (i := 0) (oi := _) (v := .bool false) rfl rfl hns (by kernel_rfl) (by kernel_rfl) hQ (by kernel_rfl) (fun _ _ => by kernel_rfl) ⟨hS5, hSi, yA, xA⟩ ?_
          refine hx_take (i := 1) (oi := _) (v := .bool false) rfl rfl hns (by kernel_rfl) (by kernel_rfl) hQ (by kernel_rfl) (fun _ _ => by kernel_rfl) ⟨hS5, hSi, yA, xA⟩ ?_
          refine hx_take (i := 2) (oi := _) (v := .slice (some ⟨bg, og, none⟩) G.length gc) rfl rfl hns (by kernel_rfl) (by kernel_rfl) hQ (by kernel_rfl) (fun _ _ => by kernel_rfl) ⟨hS5, hSi, yA, xA⟩ ?_
          refine hx_take (i := 3) (oi := _) (v := .int .i64 (k : Int)) rfl rfl hns (by kernel_rfl) (by kernel_rfl) hQ (by kernel_rfl) (fun _ _ => by kernel_rfl) ⟨hS5, hSi, yA, xA⟩ ?_
          refine hx_take (i := 4) (oi := _) (v := .pointer (some ⟨bg, og + k * 11, none⟩)) rfl rfl hns (by kernel_rfl) (by kernel_rfl) hQ (by kernel_rfl) (fun W _ => ix_sl (n := G.length) (c := gc) (K := 11) rfl (by kernel_rfl) (by kernel_rfl) (by kernel_rfl) rfl hlt W) ⟨hS5, hSi, yA, xA⟩ ?_
          refine hx_take (i := 5) (oi := _) (v := .agg #[.string ⟨y_s.toArray⟩, .string ⟨y_p.toArray⟩, .int .i64 y_n, .bool y_v0, .string ⟨y_l0.toArray⟩, .bool y_v1, .string ⟨y_l1.toArray⟩, .bool y_v2, .string ⟨y_l2.toArray⟩, .bool y_v3, .string ⟨y_l3.toArray⟩]) rfl rfl hns (by kernel_rfl) (by kernel_rfl) hQ (by kernel_rfl) (fun W hW => ld_at rfl (by kernel_rfl) (by kernel_rfl) (by kernel_rfl) W (hW.2.2.1)) ⟨hS5, hSi, yA, xA⟩ ?_
          refine hx_take (i := 6) (oi := _) (v := .slice (some ⟨bs, os, none⟩) T.length tc) rfl rfl hns (by kernel_rfl) (by kernel_rfl) hQ (by kernel_rfl) (fun _ _ => by kernel_rfl) ⟨hS5, hSi, yA, xA⟩ ?_
          refine hx_take (i := 7) (oi := _) (v := .int .i64 (i : Int)) rfl rfl hns (by kernel_rfl) (by kernel_rfl) hQ (by kernel_rfl) (fun _ _ => by kernel_rfl) ⟨hS5, hSi, yA, xA⟩ ?_
          refine hx_take (i := 8) (oi := _) (v := .pointer (some ⟨bs, os + i * 13, none⟩)) rfl rfl hns (by kernel_rfl) (by kernel_rfl) hQ (by kernel_rfl) (fun W _ => ix_sl (n := T.length) (c := tc) (K := 13) rfl (by kernel_rfl) (by kernel_rfl) (by kernel_rfl) rfl hit W) ⟨hS5, hSi, yA, xA⟩ ?_
          refine hx_take (i := 9) (oi := _) (v := .pointer (some ⟨bs, os + i * 13, none⟩)) rfl rfl hns (by kernel_rfl) (by kernel_rfl) hQ (by kernel_rfl) (fun _ _ => by kernel_rfl) ⟨hS5, hSi, yA, xA⟩ ?_
          refine hx_take (i := 10) (oi := _) (v := .agg #[.string ⟨x_s.toArray⟩, .string ⟨x_p.toArray⟩, .int .i64 x_n, .bool x_v0, .string ⟨x_l0.toArray⟩, .bool x_v1, .string ⟨x_l1.toArray⟩, .bool x_v2, .string ⟨x_l2.toArray⟩, .bool x_v3, .string ⟨x_l3.toArray⟩]) rfl rfl hns (by kernel_rfl) (by kernel_rfl) hQ (by kernel_rfl) (fun W hW => ld_at rfl (by kernel_rfl) (by kernel_rfl) (by kernel_rfl) W (hW.2.2.2)) ⟨hS5, hSi, yA, xA⟩ ?_
          refine hx_take (i := 11) (oi := _) (v := .bool true) rfl rfl hns (by kernel_rfl) (by kernel_rfl) hQ (by kernel_rfl) (fun W _ => bin_val (eqg_atom y_s y_p y_n y_v0 y_v1 y_v2 y_v3 y_l0 y_l1 y_l2 y_l3 x_s x_p x_n x_v0 x_v1 x_v2 x_v3 x_l0 x_l1 x_l2 x_l3 rfl (by kernel_rfl) (by kernel_rfl) W) hq2) ⟨hS5, hSi, yA, xA⟩ ?_
          refine hx_take (i := 12) (oi := _) (v := .bool true) rfl rfl hns (by kernel_rfl) (by kernel_rfl) hQ (by kernel_rfl) (fun _ _ => by kernel_rfl) ⟨hS5, hSi, yA, xA⟩ ?_
          refine hx_take (i := 13) (oi := _) (v := .bool true) rfl rfl hns (by kernel_rfl) (by kernel_rfl) hQ (by kernel_rfl) (fun _ _ => by kernel_rfl) ⟨hS5, hSi, yA, xA⟩ ?_
          refine wpAnyH_done (by kernel_rfl) ?_ _
          clear hns hQ
          simp only [List.set_cons_zero, List.set_cons_succ]
          clear yA xA
          go_wp2_with fail
          go_roundw
          case rel => exact ⟨k + 1, by omega, by go_num, by rw [htm, hq2]; rfl, hSi⟩
          case measure => simp [intOf]; omega
        case false =>
          go_wp2_with fail
          replace hS5 := hS5.trans ((Since.refl wi).drew)
          replace hSi := hSi.trans ((Since.refl wi).drew)
          replace yA := yA.next ((Since.refl wi).drew)
          replace xA := xA.next ((Since.refl wi).drew)
          refine hx_begin (S := fun W => (Since w4 W) ∧ (Since wo W) ∧ (At W bg (og + k * 11) #[.string ⟨y_s.toArray⟩, .string ⟨y_p.toArray⟩, .int .i64 y_n, .bool y_v0, .string ⟨y_l0.toArray⟩, .bool y_v1, .string ⟨y_l1.toArray⟩, .bool y_v2, .string ⟨y_l2.toArray⟩, .bool y_v3, .string ⟨y_l3.toArray⟩]) ∧ (At W bs (os + i * 13) #[.string ⟨x_s.toArray⟩, .string ⟨x_p.toArray⟩, .int .i64 x_n, .bool x_v0, .string ⟨x_l0.toArray⟩, .bool x_v1, .string ⟨x_l1.toArray⟩, .bool x_v2, .string ⟨x_l2.toArray⟩, .bool x_v3, .string ⟨x_l3.toArray⟩])) (by kernel_rfl) ⟨hS5, hSi, yA, xA⟩ (by kernel_rfl) (fun _ _ _ _ _ h => h) (fun hns hQ => ?_)
          refine hx_take (i := 0) (oi := _) (v := .bool false) rfl rfl hns (by kernel_rfl) (by kernel_rfl) hQ (by kernel_rfl) (fun _ _ => by kernel_rfl) ⟨hS5, hSi, yA, xA⟩ ?_
          refine hx_take (i := 1) (oi := _) (v := .bool false) rfl rfl hns (by kernel_rfl) (by kernel_rfl) hQ (by kernel_rfl) (fun _ _ => by kernel_rfl) ⟨hS5, hSi, yA, xA⟩ ?_
          refine hx_take (i := 2) (oi := _) (v := .slice (some ⟨bg, og, none⟩) G.length gc) rfl rfl hns (by kernel_rfl) (by kernel_rfl) hQ (by kernel_rfl) (fun _ _ => by kernel_rfl) ⟨hS5, hSi, yA, xA⟩ ?_
          refine hx_take (i := 3) (oi := _) (v := .int .i64 (k : Int)) rfl rfl hns (by kernel_rfl) (by kernel_rfl) hQ (by kernel_rfl) (fun _ _ => by kernel_rfl) ⟨hS5, hSi, yA, xA⟩ ?_
          refine hx_take (i := 4) (oi := _) (v := .pointer (some ⟨bg, og + k * 11, none⟩)) rfl rfl hns (by kernel_rfl) (by kernel_rfl) hQ (by kernel_rfl) (fun W _ => ix_sl (n := G.length) (c := gc) (K := 11) rfl (by kernel_rfl) (by kernel_rfl) (by kernel_rfl) rfl hlt W) ⟨hS5, hSi, yA, xA⟩ ?_
          refine hx_take (i := 5) (oi := _) (v := .agg #[.string ⟨y_s.toArray⟩, .string ⟨y_p.toArray⟩, .int .i64 y_n, .bool y_v0, .string ⟨y_l0.toArray⟩, .bool y_v1, .string ⟨y_l1.toArray⟩, .bool y_v2, .string ⟨y_l2.toArray⟩, .bool y_v3, .string ⟨y_l3.toArray⟩]) rfl rfl hns (by kernel_rfl) (by kernel_rfl) hQ (by kernel_rfl) (fun W hW => ld_at rfl (by kernel_rfl) (by kernel_rfl) (by kernel_rfl) W (hW.2.2.1)) ⟨hS5, hSi, yA, xA⟩ ?_
          refine hx_take (i := 6) (oi := _) (v := .slice (some ⟨bs, os, none⟩) T.length tc) rfl rfl hns (by kernel_rfl) (by kernel_rfl) hQ (by kernel_rfl) (fun _ _ => by kernel_rfl) ⟨hS5, hSi, yA, xA⟩ ?_
          refine hx_take (i := 7) (oi := _) (v := .int .i64 (i : Int)) rfl rfl hns (by kernel_rfl) (by kernel_rfl) hQ (by kernel_rfl) (fun _ _ => by kernel_rfl) ⟨hS5, hSi, yA, xA⟩ ?_
          refine hx_take (i := 8) (oi := _) (v := .pointer (some ⟨bs, os + i * 13, none⟩)) rfl rfl hns (by kernel_rfl) (by kernel_rfl) hQ (by kernel_rfl) (fun W _ => ix_sl (n := T.length) (c := tc) (K := 13) rfl (by kernel_rfl) (by kernel_rfl) (by kernel_rfl) rfl hit W) ⟨hS5, hSi, yA, xA⟩ ?_
          refine hx_take (i := 9) (oi := _) (v := .pointer (some ⟨bs, os + i * 13, none⟩)) rfl rfl hns (by kernel_rfl) (by kernel_rfl) hQ (by kernel_rfl) (fun _ _ => by kernel_rfl) ⟨hS5, hSi, yA, xA⟩ ?_
          refine hx_take (i := 10) (oi := _) (v := .agg #[.string ⟨x_s.toArray⟩, .string ⟨x_p.toArray⟩, .int .i64 x_n, .bool x_v0, .string ⟨x_l0.toArray⟩, .bool x_v1, .string ⟨x_l1.toArray⟩, .bool x_v2, .string ⟨x_l2.toArray⟩, .bool x_v3, .string ⟨x_l3.toArray⟩]) rfl rfl hns (by kernel_rfl) (by kernel_rfl) hQ (by kernel_rfl) (fun W hW => ld_at rfl (by kernel_rfl) (by kernel_rfl) (by kernel_rfl) W (hW.2.2.2)) ⟨hS5, hSi, yA, xA⟩ ?_
          refine hx_take (i := 11) (oi := _) (v := .bool false) rfl rfl hns (by kernel_rfl) (by kernel_rfl) hQ (by kernel_rfl) (fun W _ => bin_val (eqg_atom y_s y_p y_n y_v0 y_v1 y_v2 y_v3 y_l0 y_l1 y_l2 y_l3 x_s x_p x_n x_v0 x_v1 x_v2 x_v3 x_l0 x_l1 x_l2 x_l3 rfl (by kernel_rfl) (by kernel_rfl) W) hq2) ⟨hS5, hSi, yA, xA⟩ ?_
          refine hx_take (i := 12) (oi := _) (v := .bool false) rfl rfl hns (by kernel_rfl) (by kernel_rfl) hQ (by kernel_rfl) (fun _ _ => by kernel_rfl) ⟨hS5, hSi, yA, xA⟩ ?_
          refine hx_take (i := 13) (oi := _) (v := .bool false) rfl rfl hns (by kernel_rfl) (by kernel_rfl) hQ (by kernel_rfl) (fun _ _ => by kernel_rfl) ⟨hS5, hSi, yA, xA⟩ ?_
          refine wpAnyH_done (by kernel_rfl) ?_ _
          clear hns hQ
          simp only [List.set_cons_zero, List.set_cons_succ]
          clear yA xA
          go_wp2_with fail
          go_roundw
          case rel => exact ⟨k + 1, by omega, by go_num, by rw [htm, hq2]; rfl, hSi⟩
          case measure => simp [intOf]; omega
    · have hlt2 : ¬ (k : Int) < (G.length : Int) := by omega
      rw [List.take_of_length_le (by omega)]
      obtain ⟨D, hD⟩ : ∃ D, Hid (D = decide (((x_s, x_p, x_n, (x_v0, x_l0), (x_v1, x_l1), (x_v2, x_l2), (x_v3, x_l3)) : Atm) ∈ G)) := ⟨_, rfl⟩
      rw [← hD.out]
      have hst := HST.out
      rw [← hD.out] at hst
      have hiC : i < CT.length := by have := HCL.out; omega
      have hgc := intsC_get CT (m := i) hiC
      obtain ⟨z, hzz⟩ : ∃ z, Hid (z = (CT[i]?).getD 0) := ⟨_, rfl⟩
      rw [← hzz.out] at hgc hst
      have hcm : wi.cell? ⟨q, i, none⟩ = some (.int .i64 z) := ((hq.next hS5).cell i).trans hgc
      have HS2 := Lib.hid hst
      clear hD hst hgc hzz
      cases D
      case true =>
        have h : Hid ((r1, r2) = afterS (looseS G CT (T.drop (i + 1)) (i + 1)) 15 (0, 0)) := by
          have h := HS2.out
          rw [Bool.true_or, if_pos rfl] at h
          exact h
        clear HS2
        go_wp2_with fail
        go_roundw
        case rel => exact ⟨i + 1, by omega, by go_num, hS5, h⟩
        case measure => simp [intOf]; omega
      case false =>
        by_cases hz0 : z = 0
        · subst hz0
          have h := HS2.out
          have h1 : r1 = (i : Int) := congrArg Prod.fst h
          have h2 : r2 = 15 := congrArg Prod.snd h
          subst h1 h2
          clear h HS2
          go_wp2_with fail
          go_ret2
          exact ⟨rfl, hS4.trans hS5⟩
        · have hz1 : (z == 0) = false := by simpa using hz0
          have h : Hid ((r1, r2) = afterS (looseS G CT (T.drop (i + 1)) (i + 1)) 15 (0, 0)) := by
            have h := HS2.out
            rw [decide_eq_false hz0, if_pos (by rfl)] at h
            exact h
          clear HS2
          go_wp2_with fail
          go_roundw
          case rel => exact ⟨i + 1, by omega, by go_num, hS5, h⟩
          case measure => simp [intOf]; omega
  · have hit2 : ¬ (i : Int) < (T.length : Int) := by omega
    have h := hres.out
    rw [List.drop_eq_nil_of_le (by omega)] at h
    have h1 : r1 = 0 := congrArg Prod.fst h
    have h2 : r2 = 0 := congrArg Prod.snd h
    subst h1 h2
    clear hres h
    go_wp2_with fail
    go_ret2
    exact ⟨rfl, hS4.trans hSo⟩
set_option maxHeartbeats 8000000 in
set_option maxRecDepth 100000 in
theorem raccepts_any (va : Option Addr) (lc : Nat) (L : List Cls) (vf : Option Addr) (fc : Nat) (G : List Atm) (vs : Option Addr) (tc : Nat) (T : List Stp) (a_s a_p : List UInt8) (a_n : Int) (a_v0 a_v1 a_v2 a_v3 : Bool) (a_l0 a_l1 a_l2 a_l3 : List UInt8) (w : World)
    (hv : RRow w (.slice va L.length lc) L) (hg : ARow w (.slice vf G.length fc) G) (ht : SRow w (.slice vs T.length tc) T) (hkb : L.length ≤ 100000) (hmg : G.length ≤ 100000) (htb : T.length ≤ 1000000)
    (hb9 : ∀ c ∈ L, c.2.length ≤ 100) (hF : ∀ c ∈ L, FitsC c) (hG : ∀ a ∈ G, FitsN a) (hfT : ∀ t ∈ T, FitsN t.1 ∧ t.2.2.length ≤ 100000) (hE : Env w) :
    Calls Tryz.prog 14 #[.slice va L.length lc, .slice vf G.length fc, .slice vs T.length tc, .agg #[.string ⟨a_s.toArray⟩, .string ⟨a_p.toArray⟩, .int .i64 a_n, .bool a_v0, .string ⟨a_l0.toArray⟩, .bool a_v1, .string ⟨a_l1.toArray⟩, .bool a_v2, .string ⟨a_l2.toArray⟩, .bool a_v3, .string ⟨a_l3.toArray⟩]] w fun e w' => e = .returned (.bool (accB L G T ((a_s, a_p, a_n, (a_v0, a_l0), (a_v1, a_l1), (a_v2, a_l2), (a_v3, a_l3)) : Atm))) ∧ Since w w' := by
  have hS : Since w (w.alloc (.cells #[.string ⟨a_s.toArray⟩, .string ⟨a_p.toArray⟩, .int .i64 a_n, .bool a_v0, .string ⟨a_l0.toArray⟩, .bool a_v1, .string ⟨a_l1.toArray⟩, .bool a_v2, .string ⟨a_l2.toArray⟩, .bool a_v3, .string ⟨a_l3.toArray⟩] 29)) := (Since.refl w).alloc _
  have a_B : Box (w.alloc (.cells #[.string ⟨a_s.toArray⟩, .string ⟨a_p.toArray⟩, .int .i64 a_n, .bool a_v0, .string ⟨a_l0.toArray⟩, .bool a_v1, .string ⟨a_l1.toArray⟩, .bool a_v2, .string ⟨a_l2.toArray⟩, .bool a_v3, .string ⟨a_l3.toArray⟩] 29)) w.heap.size ((a_s, a_p, a_n, (a_v0, a_l0), (a_v1, a_l1), (a_v2, a_l2), (a_v3, a_l3)) : Atm) := box_new w _ _
  have HS := Lib.hid (rsound_any va lc L vf fc G vs tc T _ (rnext hv hS) (anext hg hS) (snext ht hS) hkb hmg hb9 hF hG hfT htb (hE.next hS))
  have HI := Lib.hid (fun W (h : Since w W) => rin_any vs tc T a_s a_p a_n a_v0 a_v1 a_v2 a_v3 a_l0 a_l1 a_l2 a_l3 W (snext ht h) htb)
  obtain ⟨z1, z2, hz⟩ : ∃ x y, Hid ((x, y) = soundS L G T) := ⟨_, _, rfl⟩
  obtain ⟨B, hB⟩ : ∃ B, Hid (B = T.any fun s => eqA s.1 ((a_s, a_p, a_n, (a_v0, a_l0), (a_v1, a_l1), (a_v2, a_l2), (a_v3, a_l3)) : Atm)) := ⟨_, rfl⟩
  obtain ⟨R, hR0⟩ : ∃ R, Hid (R = accB L G T ((a_s, a_p, a_n, (a_v0, a_l0), (a_v1, a_l1), (a_v2, a_l2), (a_v3, a_l3)) : Atm)) := ⟨_, rfl⟩
  have HR : Hid (R = (decide (z2 = 0) && B)) := by show _ = _; rw [hR0.out, accB, ← hz.out, hB.out]
  rw [← hR0.out]
  rw [← hz.out] at HS
  rw [← hB.out] at HI
  clear hv hg ht hb9 hF hG hfT hE hR0 hz hB
  go_enter Tryz.func14, Tryz.ntmps14
  go_wp2_with fail
  refine HS.out.mono ?_
  rintro e w1 ⟨rfl, hb⟩
  have hS1 := hS.trans hb
  replace a_B := a_B.next hb
  obtain ⟨a_c0, a_c1, a_c2, a_c3, a_c4, a_c5, a_c6, a_c7, a_c8, a_c9, a_c10⟩ := a_B.all
  clear HS
  by_cases h0 : z2 = 0
  · subst h0
    go_wp2_with fail
    refine (HI.out _ hS1).mono ?_
    rintro e w2 ⟨rfl, hb2⟩
    clear a_c0 a_c1 a_c2 a_c3 a_c4 a_c5 a_c6 a_c7 a_c8 a_c9 a_c10 a_B HI
    go_wp2_with fail
    go_ret
    exact ⟨ret_bool (by rw [HR.out]; simp), hS1.trans hb2⟩
  · have h1 : (z2 == 0) = false := by simpa using h0
    clear a_c0 a_c1 a_c2 a_c3 a_c4 a_c5 a_c6 a_c7 a_c8 a_c9 a_c10 a_B HI
    go_wp2_with fail
    go_ret
    exact ⟨ret_bool (by rw [HR.out, decide_eq_false h0]; rfl), hS1⟩
end Go.Proofs.YtdlnmkdbjgbimaaGreatDoor
