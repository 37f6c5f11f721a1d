/- Package frame: one, Join, mayRequest, Request. -/
import Derived.Test.YtkdeokgkjmboeaaDoorFrB
import Derived.Test.YtkdeokgkjmboeaaDoorFrP
import Derived.Test.YtkdeokgkjmboeaaDoorTermT2
namespace Go.Proofs.YtkdeokgkjmboeaaDoor
open Go.RowKit

theorem one_any (n : Nat) (w : World) (hn : n < 256) :
    Calls Tryd.prog 26 #[.int .i64 (n : Int)] w fun e w' => e = .returned (.string ⟨#[UInt8.ofNat n]⟩) ∧ Since w w' := by
  have ew : IntKind.u8.wrap (n : Int) = (n : Int) := IntWalk.u8_in _ (by omega)
  have hrow : Row (w.alloc (.cells #[.int .u8 (n : Int)] 5)) (.slice (some ⟨w.heap.size, 0, none⟩) 1 1) 1 ([UInt8.ofNat n].map u8V) := by
    refine .inr ⟨w.heap.size, 0, 1, rfl, Nat.le_refl _, fun j hj => ?_⟩
    have hj1 : j < 1 := hj
    obtain rfl : j = 0 := by omega
    rw [World.cell?_alloc_new, u8_of hn]; rfl
  have hconv := conv_row hrow rfl
  go_enter Tryd.func26, Tryd.ntmps26
  go_wp2_with fail
  go_ret
  exact ⟨rfl, (Since.refl _).alloc _⟩
theorem join_nil : ∀ L : List (List UInt8), Lib.join L [] = L.flatten
  | [] => rfl
  | [x] => by simp [Lib.join, List.intercalate]
  | x :: y :: r => by
    have h := join_nil (y :: r)
    have e : Lib.join (x :: y :: r) [] = x ++ Lib.join (y :: r) [] := by simp [Lib.join, List.intercalate]
    rw [e, h]; rfl
theorem fjoin_any (v : Value) (L : List (List UInt8)) (w : World) (h : Row w v L.length (L.map strV)) (hm : L.length ≤ 100000) (hl : L.flatten.length ≤ 1000000) :
    Calls Tryd.prog 21 #[v] w fun e w' => e = .returned (.string ⟨L.flatten.toArray⟩) ∧ Since w w' := by
  have hj := join_any v L [] w h hm (by rw [join_nil]; exact hl)
  rw [join_nil] at hj
  have HJ := Lib.hid hj
  generalize L.flatten = T at *
  clear hj
  go_enter Tryd.func21, Tryd.ntmps21
  go_wp2_with fail
  refine HJ.out.mono ?_
  rintro e w1 ⟨rfl, hb⟩
  go_wp2_with fail
  go_ret
  exact ⟨rfl, hb⟩
set_option maxHeartbeats 1000000 in
theorem mayRq_any (k : Int) (a_s a_p : List UInt8) (a_n : Int) (a_v0 a_v1 a_v2 a_v3 : Bool) (a_l0 a_l1 a_l2 a_l3 : List UInt8) (w : World) (hF : FitsA ((a_s, a_p, a_n, (a_v0, a_l0), (a_v1, a_l1), (a_v2, a_l2), (a_v3, a_l3)) : Atm)) (hE : Env w) :
    Calls Tryd.prog 24 #[.agg #[.int .i64 k, .string ⟨a_s.toArray⟩, .string ⟨a_p.toArray⟩, .int .i64 a_n, .bool a_v0, .string ⟨a_l0.toArray⟩, .bool a_v1, .string ⟨a_l1.toArray⟩, .bool a_v2, .string ⟨a_l2.toArray⟩, .bool a_v3, .string ⟨a_l3.toArray⟩]] w fun e w' => e = .returned (.bool (mayRq k ((a_s, a_p, a_n, (a_v0, a_l0), (a_v1, a_l1), (a_v2, a_l2), (a_v3, a_l3)) : Atm))) ∧ Since w w' := by
  have hA : Since w (w.alloc (.cells #[.int .i64 k, .string ⟨a_s.toArray⟩, .string ⟨a_p.toArray⟩, .int .i64 a_n, .bool a_v0, .string ⟨a_l0.toArray⟩, .bool a_v1, .string ⟨a_l1.toArray⟩, .bool a_v2, .string ⟨a_l2.toArray⟩, .bool a_v3, .string ⟨a_l3.toArray⟩] 28)) := (Since.refl _).alloc _
  have HC := Lib.hid (fun W hE => check_any a_s a_p a_n a_v0 a_v1 a_v2 a_v3 a_l0 a_l1 a_l2 a_l3 W hF hE)
  have hm : Hid (mayRq k ((a_s, a_p, a_n, (a_v0, a_l0), (a_v1, a_l1), (a_v2, a_l2), (a_v3, a_l3)) : Atm) = (decide (1 ≤ k) && (decide (k ≤ 3) && (checkA ((a_s, a_p, a_n, (a_v0, a_l0), (a_v1, a_l1), (a_v2, a_l2), (a_v3, a_l3)) : Atm) == 0)))) := rfl
  generalize mayRq k ((a_s, a_p, a_n, (a_v0, a_l0), (a_v1, a_l1), (a_v2, a_l2), (a_v3, a_l3)) : Atm) = M at *
  cases h1 : decide (1 ≤ k)
  · have hM : Hid (M = false) := by show _ = _; rw [hm.out, h1]; rfl
    go_enter Tryd.func24, Tryd.ntmps24
    go_wp2_with fail
    go_ret
    exact ⟨ret_bool hM.out.symm, hA⟩
  · cases h3 : decide (k ≤ 3)
    · have hM : Hid (M = false) := by show _ = _; rw [hm.out, h1, h3]; rfl
      go_enter Tryd.func24, Tryd.ntmps24
      go_wp2_with fail
      go_ret
      exact ⟨ret_bool hM.out.symm, hA⟩
    · have hM : Hid (M = (checkA ((a_s, a_p, a_n, (a_v0, a_l0), (a_v1, a_l1), (a_v2, a_l2), (a_v3, a_l3)) : Atm) == 0)) := by show _ = _; rw [hm.out, h1, h3]; rfl
      generalize checkA ((a_s, a_p, a_n, (a_v0, a_l0), (a_v1, a_l1), (a_v2, a_l2), (a_v3, a_l3)) : Atm) = C at *
      have hE1 := hE.next hA
      go_enter Tryd.func24, Tryd.ntmps24
      go_wp2_with fail
      refine (HC.out _ hE1).mono ?_
      rintro e w1 ⟨rfl, hb⟩
      go_wp2_with fail
      go_ret
      exact ⟨ret_bool hM.out.symm, hA.trans hb⟩
/-- What Request comes to: the bytes, or the error. -/
theorem rqB_le {k : Int} {a : Atm} (h : checkA a = 0) : (rqB k a).length ≤ 2001 := by
  have := atomB_le (valid_light h)
  unfold rqB
  rw [List.length_cons]; omega
theorem atomB_short {a : Atm} (h : checkA a = 0) : (atomB a).length ≤ 4000 := by
  have := atomB_le (valid_light h); omega
set_option maxHeartbeats 2000000 in
set_option maxRecDepth 100000 in
theorem request_no (k : Int) (a_s a_p : List UInt8) (a_n : Int) (a_v0 a_v1 a_v2 a_v3 : Bool) (a_l0 a_l1 a_l2 a_l3 : List UInt8) (w : World) (hF : FitsA ((a_s, a_p, a_n, (a_v0, a_l0), (a_v1, a_l1), (a_v2, a_l2), (a_v3, a_l3)) : Atm)) (hE : Env w) (hm : mayRq k ((a_s, a_p, a_n, (a_v0, a_l0), (a_v1, a_l1), (a_v2, a_l2), (a_v3, a_l3)) : Atm) = false) :
    Calls Tryd.prog 11 #[.agg #[.int .i64 k, .string ⟨a_s.toArray⟩, .string ⟨a_p.toArray⟩, .int .i64 a_n, .bool a_v0, .string ⟨a_l0.toArray⟩, .bool a_v1, .string ⟨a_l1.toArray⟩, .bool a_v2, .string ⟨a_l2.toArray⟩, .bool a_v3, .string ⟨a_l3.toArray⟩]] w fun e w' => e = .returned (.tuple #[.string ⟨#[]⟩, .int .i64 2]) ∧ Since w w' := by
  have hA : Since w (w.alloc (.cells #[.int .i64 k, .string ⟨a_s.toArray⟩, .string ⟨a_p.toArray⟩, .int .i64 a_n, .bool a_v0, .string ⟨a_l0.toArray⟩, .bool a_v1, .string ⟨a_l1.toArray⟩, .bool a_v2, .string ⟨a_l2.toArray⟩, .bool a_v3, .string ⟨a_l3.toArray⟩] 28)) := (Since.refl _).alloc _
  have HM := Lib.hid (fun W hE => mayRq_any k a_s a_p a_n a_v0 a_v1 a_v2 a_v3 a_l0 a_l1 a_l2 a_l3 W hF hE)
  rw [hm] at HM
  have r0 : (w.alloc (.cells #[.int .i64 k, .string ⟨a_s.toArray⟩, .string ⟨a_p.toArray⟩, .int .i64 a_n, .bool a_v0, .string ⟨a_l0.toArray⟩, .bool a_v1, .string ⟨a_l1.toArray⟩, .bool a_v2, .string ⟨a_l2.toArray⟩, .bool a_v3, .string ⟨a_l3.toArray⟩] 28)).cell? ⟨w.heap.size, 0, none⟩ = some (.int .i64 k) := by rw [World.cell?_alloc_new]; rfl
  have r1 : (w.alloc (.cells #[.int .i64 k, .string ⟨a_s.toArray⟩, .string ⟨a_p.toArray⟩, .int .i64 a_n, .bool a_v0, .string ⟨a_l0.toArray⟩, .bool a_v1, .string ⟨a_l1.toArray⟩, .bool a_v2, .string ⟨a_l2.toArray⟩, .bool a_v3, .string ⟨a_l3.toArray⟩] 28)).cell? ⟨w.heap.size, 1, none⟩ = some (.string ⟨a_s.toArray⟩) := by rw [World.cell?_alloc_new]; rfl
  have r2 : (w.alloc (.cells #[.int .i64 k, .string ⟨a_s.toArray⟩, .string ⟨a_p.toArray⟩, .int .i64 a_n, .bool a_v0, .string ⟨a_l0.toArray⟩, .bool a_v1, .string ⟨a_l1.toArray⟩, .bool a_v2, .string ⟨a_l2.toArray⟩, .bool a_v3, .string ⟨a_l3.toArray⟩] 28)).cell? ⟨w.heap.size, 2, none⟩ = some (.string ⟨a_p.toArray⟩) := by rw [World.cell?_alloc_new]; rfl
  have r3 : (w.alloc (.cells #[.int .i64 k, .string ⟨a_s.toArray⟩, .string ⟨a_p.toArray⟩, .int .i64 a_n, .bool a_v0, .string ⟨a_l0.toArray⟩, .bool a_v1, .string ⟨a_l1.toArray⟩, .bool a_v2, .string ⟨a_l2.toArray⟩, .bool a_v3, .string ⟨a_l3.toArray⟩] 28)).cell? ⟨w.heap.size, 3, none⟩ = some (.int .i64 a_n) := by rw [World.cell?_alloc_new]; rfl
  have r4 : (w.alloc (.cells #[.int .i64 k, .string ⟨a_s.toArray⟩, .string ⟨a_p.toArray⟩, .int .i64 a_n, .bool a_v0, .string ⟨a_l0.toArray⟩, .bool a_v1, .string ⟨a_l1.toArray⟩, .bool a_v2, .string ⟨a_l2.toArray⟩, .bool a_v3, .string ⟨a_l3.toArray⟩] 28)).cell? ⟨w.heap.size, 4, none⟩ = some (.bool a_v0) := by rw [World.cell?_alloc_new]; rfl
  have r5 : (w.alloc (.cells #[.int .i64 k, .string ⟨a_s.toArray⟩, .string ⟨a_p.toArray⟩, .int .i64 a_n, .bool a_v0, .string ⟨a_l0.toArray⟩, .bool a_v1, .string ⟨a_l1.toArray⟩, .bool a_v2, .string ⟨a_l2.toArray⟩, .bool a_v3, .string ⟨a_l3.toArray⟩] 28)).cell? ⟨w.heap.size, 5, none⟩ = some (.string ⟨a_l0.toArray⟩) := by rw [World.cell?_alloc_new]; rfl
  have r6 : (w.alloc (.cells #[.int .i64 k, .string ⟨a_s.toArray⟩, .string ⟨a_p.toArray⟩, .int .i64 a_n, .bool a_v0, .string ⟨a_l0.toArray⟩, .bool a_v1, .string ⟨a_l1.toArray⟩, .bool a_v2, .string ⟨a_l2.toArray⟩, .bool a_v3, .string ⟨a_l3.toArray⟩] 28)).cell? ⟨w.heap.size, 6, none⟩ = some (.bool a_v1) := by rw [World.cell?_alloc_new]; rfl
  have r7 : (w.alloc (.cells #[.int .i64 k, .string ⟨a_s.toArray⟩, .string ⟨a_p.toArray⟩, .int .i64 a_n, .bool a_v0, .string ⟨a_l0.toArray⟩, .bool a_v1, .string ⟨a_l1.toArray⟩, .bool a_v2, .string ⟨a_l2.toArray⟩, .bool a_v3, .string ⟨a_l3.toArray⟩] 28)).cell? ⟨w.heap.size, 7, none⟩ = some (.string ⟨a_l1.toArray⟩) := by rw [World.cell?_alloc_new]; rfl
  have r8 : (w.alloc (.cells #[.int .i64 k, .string ⟨a_s.toArray⟩, .string ⟨a_p.toArray⟩, .int .i64 a_n, .bool a_v0, .string ⟨a_l0.toArray⟩, .bool a_v1, .string ⟨a_l1.toArray⟩, .bool a_v2, .string ⟨a_l2.toArray⟩, .bool a_v3, .string ⟨a_l3.toArray⟩] 28)).cell? ⟨w.heap.size, 8, none⟩ = some (.bool a_v2) := by rw [World.cell?_alloc_new]; rfl
  have r9 : (w.alloc (.cells #[.int .i64 k, .string ⟨a_s.toArray⟩, .string ⟨a_p.toArray⟩, .int .i64 a_n, .bool a_v0, .string ⟨a_l0.toArray⟩, .bool a_v1, .string ⟨a_l1.toArray⟩, .bool a_v2, .string ⟨a_l2.toArray⟩, .bool a_v3, .string ⟨a_l3.toArray⟩] 28)).cell? ⟨w.heap.size, 9, none⟩ = some (.string ⟨a_l2.toArray⟩) := by rw [World.cell?_alloc_new]; rfl
  have r10 : (w.alloc (.cells #[.int .i64 k, .string ⟨a_s.toArray⟩, .string ⟨a_p.toArray⟩, .int .i64 a_n, .bool a_v0, .string ⟨a_l0.toArray⟩, .bool a_v1, .string ⟨a_l1.toArray⟩, .bool a_v2, .string ⟨a_l2.toArray⟩, .bool a_v3, .string ⟨a_l3.toArray⟩] 28)).cell? ⟨w.heap.size, 10, none⟩ = some (.bool a_v3) := by rw [World.cell?_alloc_new]; rfl
  have r11 : (w.alloc (.cells #[.int .i64 k, .string ⟨a_s.toArray⟩, .string ⟨a_p.toArray⟩, .int .i64 a_n, .bool a_v0, .string ⟨a_l0.toArray⟩, .bool a_v1, .string ⟨a_l1.toArray⟩, .bool a_v2, .string ⟨a_l2.toArray⟩, .bool a_v3, .string ⟨a_l3.toArray⟩] 28)).cell? ⟨w.heap.size, 11, none⟩ = some (.string ⟨a_l3.toArray⟩) := by rw [World.cell?_alloc_new]; rfl
  have hE1 := hE.next hA
  clear hm
  go_enter Tryd.func11, Tryd.ntmps11
  go_wp2_with fail
  refine (HM.out _ hE1).mono ?_
  rintro e w1 ⟨rfl, hb⟩
  clear r0 r1 r2 r3 r4 r5 r6 r7 r8 r9 r10 r11
  go_wp2_with fail
  go_ret2
  exact ⟨rfl, hA.trans hb⟩
set_option maxHeartbeats 2000000 in
set_option maxRecDepth 100000 in
theorem request_yes (k : Nat) (a_s a_p : List UInt8) (a_n : Int) (a_v0 a_v1 a_v2 a_v3 : Bool) (a_l0 a_l1 a_l2 a_l3 : List UInt8) (w : World) (hF : FitsA ((a_s, a_p, a_n, (a_v0, a_l0), (a_v1, a_l1), (a_v2, a_l2), (a_v3, a_l3)) : Atm)) (hE : Env w) (hm : mayRq (k : Int) ((a_s, a_p, a_n, (a_v0, a_l0), (a_v1, a_l1), (a_v2, a_l2), (a_v3, a_l3)) : Atm) = true) :
    Calls Tryd.prog 11 #[.agg #[.int .i64 (k : Int), .string ⟨a_s.toArray⟩, .string ⟨a_p.toArray⟩, .int .i64 a_n, .bool a_v0, .string ⟨a_l0.toArray⟩, .bool a_v1, .string ⟨a_l1.toArray⟩, .bool a_v2, .string ⟨a_l2.toArray⟩, .bool a_v3, .string ⟨a_l3.toArray⟩]] w fun e w' => e = .returned (.tuple #[.string ⟨(rqB (k : Int) ((a_s, a_p, a_n, (a_v0, a_l0), (a_v1, a_l1), (a_v2, a_l2), (a_v3, a_l3)) : Atm)).toArray⟩, .int .i64 0]) ∧ Since w w' := by
  have hA : Since w (w.alloc (.cells #[.int .i64 (k : Int), .string ⟨a_s.toArray⟩, .string ⟨a_p.toArray⟩, .int .i64 a_n, .bool a_v0, .string ⟨a_l0.toArray⟩, .bool a_v1, .string ⟨a_l1.toArray⟩, .bool a_v2, .string ⟨a_l2.toArray⟩, .bool a_v3, .string ⟨a_l3.toArray⟩] 28)) := (Since.refl _).alloc _
  have HM := Lib.hid (fun W hE => mayRq_any (k : Int) a_s a_p a_n a_v0 a_v1 a_v2 a_v3 a_l0 a_l1 a_l2 a_l3 W hF hE)
  have hm2 := hm
  simp only [mayRq, Bool.and_eq_true, decide_eq_true_eq, beq_iff_eq] at hm2
  obtain ⟨k1, k3, hck⟩ := hm2
  rw [hm] at HM
  have r0 : (w.alloc (.cells #[.int .i64 (k : Int), .string ⟨a_s.toArray⟩, .string ⟨a_p.toArray⟩, .int .i64 a_n, .bool a_v0, .string ⟨a_l0.toArray⟩, .bool a_v1, .string ⟨a_l1.toArray⟩, .bool a_v2, .string ⟨a_l2.toArray⟩, .bool a_v3, .string ⟨a_l3.toArray⟩] 28)).cell? ⟨w.heap.size, 0, none⟩ = some (.int .i64 (k : Int)) := by rw [World.cell?_alloc_new]; rfl
  have r1 : (w.alloc (.cells #[.int .i64 (k : Int), .string ⟨a_s.toArray⟩, .string ⟨a_p.toArray⟩, .int .i64 a_n, .bool a_v0, .string ⟨a_l0.toArray⟩, .bool a_v1, .string ⟨a_l1.toArray⟩, .bool a_v2, .string ⟨a_l2.toArray⟩, .bool a_v3, .string ⟨a_l3.toArray⟩] 28)).cell? ⟨w.heap.size, 1, none⟩ = some (.string ⟨a_s.toArray⟩) := by rw [World.cell?_alloc_new]; rfl
  have r2 : (w.alloc (.cells #[.int .i64 (k : Int), .string ⟨a_s.toArray⟩, .string ⟨a_p.toArray⟩, .int .i64 a_n, .bool a_v0, .string ⟨a_l0.toArray⟩, .bool a_v1, .string ⟨a_l1.toArray⟩, .bool a_v2, .string ⟨a_l2.toArray⟩, .bool a_v3, .string ⟨a_l3.toArray⟩] 28)).cell? ⟨w.heap.size, 2, none⟩ = some (.string ⟨a_p.toArray⟩) := by rw [World.cell?_alloc_new]; rfl
  have r3 : (w.alloc (.cells #[.int .i64 (k : Int), .string ⟨a_s.toArray⟩, .string ⟨a_p.toArray⟩, .int .i64 a_n, .bool a_v0, .string ⟨a_l0.toArray⟩, .bool a_v1, .string ⟨a_l1.toArray⟩, .bool a_v2, .string ⟨a_l2.toArray⟩, .bool a_v3, .string ⟨a_l3.toArray⟩] 28)).cell? ⟨w.heap.size, 3, none⟩ = some (.int .i64 a_n) := by rw [World.cell?_alloc_new]; rfl
  have r4 : (w.alloc (.cells #[.int .i64 (k : Int), .string ⟨a_s.toArray⟩, .string ⟨a_p.toArray⟩, .int .i64 a_n, .bool a_v0, .string ⟨a_l0.toArray⟩, .bool a_v1, .string ⟨a_l1.toArray⟩, .bool a_v2, .string ⟨a_l2.toArray⟩, .bool a_v3, .string ⟨a_l3.toArray⟩] 28)).cell? ⟨w.heap.size, 4, none⟩ = some (.bool a_v0) := by rw [World.cell?_alloc_new]; rfl
  have r5 : (w.alloc (.cells #[.int .i64 (k : Int), .string ⟨a_s.toArray⟩, .string ⟨a_p.toArray⟩, .int .i64 a_n, .bool a_v0, .string ⟨a_l0.toArray⟩, .bool a_v1, .string ⟨a_l1.toArray⟩, .bool a_v2, .string ⟨a_l2.toArray⟩, .bool a_v3, .string ⟨a_l3.toArray⟩] 28)).cell? ⟨w.heap.size, 5, none⟩ = some (.string ⟨a_l0.toArray⟩) := by rw [World.cell?_alloc_new]; rfl
  have r6 : (w.alloc (.cells #[.int .i64 (k : Int), .string ⟨a_s.toArray⟩, .string ⟨a_p.toArray⟩, .int .i64 a_n, .bool a_v0, .string ⟨a_l0.toArray⟩, .bool a_v1, .string ⟨a_l1.toArray⟩, .bool a_v2, .string ⟨a_l2.toArray⟩, .bool a_v3, .string ⟨a_l3.toArray⟩] 28)).cell? ⟨w.heap.size, 6, none⟩ = some (.bool a_v1) := by rw [World.cell?_alloc_new]; rfl
  have r7 : (w.alloc (.cells #[.int .i64 (k : Int), .string ⟨a_s.toArray⟩, .string ⟨a_p.toArray⟩, .int .i64 a_n, .bool a_v0, .string ⟨a_l0.toArray⟩, .bool a_v1, .string ⟨a_l1.toArray⟩, .bool a_v2, .string ⟨a_l2.toArray⟩, .bool a_v3, .string ⟨a_l3.toArray⟩] 28)).cell? ⟨w.heap.size, 7, none⟩ = some (.string ⟨a_l1.toArray⟩) := by rw [World.cell?_alloc_new]; rfl
  have r8 : (w.alloc (.cells #[.int .i64 (k : Int), .string ⟨a_s.toArray⟩, .string ⟨a_p.toArray⟩, .int .i64 a_n, .bool a_v0, .string ⟨a_l0.toArray⟩, .bool a_v1, .string ⟨a_l1.toArray⟩, .bool a_v2, .string ⟨a_l2.toArray⟩, .bool a_v3, .string ⟨a_l3.toArray⟩] 28)).cell? ⟨w.heap.size, 8, none⟩ = some (.bool a_v2) := by rw [World.cell?_alloc_new]; rfl
  have r9 : (w.alloc (.cells #[.int .i64 (k : Int), .string ⟨a_s.toArray⟩, .string ⟨a_p.toArray⟩, .int .i64 a_n, .bool a_v0, .string ⟨a_l0.toArray⟩, .bool a_v1, .string ⟨a_l1.toArray⟩, .bool a_v2, .string ⟨a_l2.toArray⟩, .bool a_v3, .string ⟨a_l3.toArray⟩] 28)).cell? ⟨w.heap.size, 9, none⟩ = some (.string ⟨a_l2.toArray⟩) := by rw [World.cell?_alloc_new]; rfl
  have r10 : (w.alloc (.cells #[.int .i64 (k : Int), .string ⟨a_s.toArray⟩, .string ⟨a_p.toArray⟩, .int .i64 a_n, .bool a_v0, .string ⟨a_l0.toArray⟩, .bool a_v1, .string ⟨a_l1.toArray⟩, .bool a_v2, .string ⟨a_l2.toArray⟩, .bool a_v3, .string ⟨a_l3.toArray⟩] 28)).cell? ⟨w.heap.size, 10, none⟩ = some (.bool a_v3) := by rw [World.cell?_alloc_new]; rfl
  have r11 : (w.alloc (.cells #[.int .i64 (k : Int), .string ⟨a_s.toArray⟩, .string ⟨a_p.toArray⟩, .int .i64 a_n, .bool a_v0, .string ⟨a_l0.toArray⟩, .bool a_v1, .string ⟨a_l1.toArray⟩, .bool a_v2, .string ⟨a_l2.toArray⟩, .bool a_v3, .string ⟨a_l3.toArray⟩] 28)).cell? ⟨w.heap.size, 11, none⟩ = some (.string ⟨a_l3.toArray⟩) := by rw [World.cell?_alloc_new]; rfl
  have hE1 := hE.next hA
  have HAT := Lib.hid (fun W hE => catom_yes a_s a_p a_n a_v0 a_v1 a_v2 a_v3 a_l0 a_l1 a_l2 a_l3 W hF hE (valid_light hck) hck)
  have HON := Lib.hid (fun W => one_any k W (by omega))
  have hrl := rqB_le (k := (k : Int)) hck
  have hB : Hid (rqB (k : Int) ((a_s, a_p, a_n, (a_v0, a_l0), (a_v1, a_l1), (a_v2, a_l2), (a_v3, a_l3)) : Atm) = UInt8.ofNat k :: atomB ((a_s, a_p, a_n, (a_v0, a_l0), (a_v1, a_l1), (a_v2, a_l2), (a_v3, a_l3)) : Atm)) := by show _ = _; unfold rqB; rw [Int.toNat_natCast]
  have hk1 := hB.out
  generalize rqB (k : Int) ((a_s, a_p, a_n, (a_v0, a_l0), (a_v1, a_l1), (a_v2, a_l2), (a_v3, a_l3)) : Atm) = B at *
  generalize atomB ((a_s, a_p, a_n, (a_v0, a_l0), (a_v1, a_l1), (a_v2, a_l2), (a_v3, a_l3)) : Atm) = X at *
  subst hk1
  have HJ : Hid (∀ W g, Row W (.slice (some ⟨g, 0, none⟩) 2 2) 2 ([[UInt8.ofNat k], X].map strV) → Calls Tryd.prog 21 #[.slice (some ⟨g, 0, none⟩) 2 2] W fun e w' => e = .returned (.string ⟨(UInt8.ofNat k :: X).toArray⟩) ∧ Since W w') := by
    intro W g hr
    have e : ([[UInt8.ofNat k], X] : List (List UInt8)).flatten = UInt8.ofNat k :: X := by simp
    have := fjoin_any _ [[UInt8.ofNat k], X] W hr (by simp) (by rw [e]; omega)
    rwa [e] at this
  have hXl : X.length ≤ 2000 := by rw [List.length_cons] at hrl; omega
  have hXd : decide ((4096 : Int) < (X.length : Int) + 1) = false := by simp; omega
  clear hB hm hck
  go_enter Tryd.func11, Tryd.ntmps11
  go_wp2_with fail
  refine (HM.out _ hE1).mono ?_
  rintro e w1 ⟨rfl, hb⟩
  replace r0 := hb.cell r0
  replace r1 := hb.cell r1
  replace r2 := hb.cell r2
  replace r3 := hb.cell r3
  replace r4 := hb.cell r4
  replace r5 := hb.cell r5
  replace r6 := hb.cell r6
  replace r7 := hb.cell r7
  replace r8 := hb.cell r8
  replace r9 := hb.cell r9
  replace r10 := hb.cell r10
  replace r11 := hb.cell r11
  replace hA := hA.trans hb
  replace hE1 := hE1.next hb
  clear hb
  go_wp2_with fail
  refine (HAT.out _ hE1).mono ?_
  rintro e w2 ⟨rfl, hb⟩
  replace r0 := hb.cell r0
  replace r1 := hb.cell r1
  replace r2 := hb.cell r2
  replace r3 := hb.cell r3
  replace r4 := hb.cell r4
  replace r5 := hb.cell r5
  replace r6 := hb.cell r6
  replace r7 := hb.cell r7
  replace r8 := hb.cell r8
  replace r9 := hb.cell r9
  replace r10 := hb.cell r10
  replace r11 := hb.cell r11
  replace hA := hA.trans hb
  clear hb hE1
  go_wp2_with fail
  refine (HON.out _).mono ?_
  rintro e w3 ⟨rfl, hb⟩
  replace hA := hA.trans hb
  have hrow := row2_new w3 [UInt8.ofNat k] X 9
  clear hb r0 r1 r2 r3 r4 r5 r6 r7 r8 r9 r10 r11
  go_wp2_with fail
  refine (HJ.out _ _ hrow).mono ?_
  rintro e w4 ⟨rfl, hb⟩
  go_wp2_with fail
  go_ret2
  exact ⟨rfl, (hA.alloc _).trans hb⟩
end Go.Proofs.YtkdeokgkjmboeaaDoor
