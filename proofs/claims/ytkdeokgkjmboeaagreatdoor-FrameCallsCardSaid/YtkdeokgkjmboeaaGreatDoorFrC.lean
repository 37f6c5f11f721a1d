/- Package frame: one, Join, mayRequest, Request. Package frame: ReadRequest. -/
import Derived.Test.YtkdeokgkjmboeaaGreatDoorFrA
import Derived.Test.YtkdeokgkjmboeaaGreatDoorFrP
import Derived.Test.YtkdeokgkjmboeaaGreatDoorTermT2
namespace Go.Proofs.YtkdeokgkjmboeaaGreatDoor
open Go.RowKit

theorem one_any (n : Nat) (w : World) (hn : n < 256) :
    Calls Tryz.prog 22 #[.int .i64 (n : Int)] w fun e w' => e = .returned (.string ⟨#[UInt8.ofNat n]⟩) ∧ Since w w' := by
  have ew : IntKind.u8.wrap (n : Int) = (n : Int) := IntWalk.u8_in _ (by omega)
  have hrow : Row (w.alloc (.cells #[.int .u8 (n : Int)] 5)) (.slice (some ⟨w.heap.size, 0, none⟩) 1 1) 1 ([UInt8.ofNat n].map u8V) := by
    refine .inr ⟨w.heap.size, 0, 1, rfl, Nat.le_refl _, fun j hj => ?_⟩
    have hj1 : j < 1 := hj
    obtain rfl : j = 0 := by omega
    rw [World.cell?_alloc_new, u8_of hn]; rfl
  have hconv := conv_row hrow rfl
  go_enter Tryz.func22, Tryz.ntmps22
  go_wp2_with fail
  go_ret
  exact ⟨rfl, (Since.refl _).alloc _⟩
theorem join_nil : ∀ L : List (List UInt8), Lib.join L [] = L.flatten
  | [] => rfl
  | [x] => by simp [Lib.join, List.intercalate]
  | x :: y :: r => by
    have h := join_nil (y :: r)
    have e : Lib.join (x :: y :: r) [] = x ++ Lib.join (y :: r) [] := by simp [Lib.join, List.intercalate]
    rw [e, h]; rfl
theorem fjoin_any (v : Value) (L : List (List UInt8)) (w : World) (h : Row w v L.length (L.map strV)) (hm : L.length ≤ 100000) (hl : L.flatten.length ≤ 1000000) :
    Calls Tryz.prog 19 #[v] w fun e w' => e = .returned (.string ⟨L.flatten.toArray⟩) ∧ Since w w' := by
  have hj := join_any v L [] w h hm (by rw [join_nil]; exact hl)
  rw [join_nil] at hj
  have HJ := Lib.hid hj
  generalize L.flatten = T at *
  clear hj
  go_enter Tryz.func19, Tryz.ntmps19
  go_wp2_with fail
  refine HJ.out.mono ?_
  rintro e w1 ⟨rfl, hb⟩
  go_wp2_with fail
  go_ret
  exact ⟨rfl, hb⟩
set_option maxHeartbeats 1000000 in
theorem mayRq_any (k : Int) (a_s a_p : List UInt8) (a_n : Int) (a_v0 a_v1 a_v2 a_v3 : Bool) (a_l0 a_l1 a_l2 a_l3 : List UInt8) (w : World) (hF : FitsA ((a_s, a_p, a_n, (a_v0, a_l0), (a_v1, a_l1), (a_v2, a_l2), (a_v3, a_l3)) : Atm)) (hE : Env w) :
    Calls Tryz.prog 20 #[.agg #[.int .i64 k, .string ⟨a_s.toArray⟩, .string ⟨a_p.toArray⟩, .int .i64 a_n, .bool a_v0, .string ⟨a_l0.toArray⟩, .bool a_v1, .string ⟨a_l1.toArray⟩, .bool a_v2, .string ⟨a_l2.toArray⟩, .bool a_v3, .string ⟨a_l3.toArray⟩]] w fun e w' => e = .returned (.bool (mayRq k ((a_s, a_p, a_n, (a_v0, a_l0), (a_v1, a_l1), (a_v2, a_l2), (a_v3, a_l3)) : Atm))) ∧ Since w w' := by
  have hA : Since w (w.alloc (.cells #[.int .i64 k, .string ⟨a_s.toArray⟩, .string ⟨a_p.toArray⟩, .int .i64 a_n, .bool a_v0, .string ⟨a_l0.toArray⟩, .bool a_v1, .string ⟨a_l1.toArray⟩, .bool a_v2, .string ⟨a_l2.toArray⟩, .bool a_v3, .string ⟨a_l3.toArray⟩] 28)) := (Since.refl _).alloc _
  have HC := Lib.hid (fun W hE => check_any a_s a_p a_n a_v0 a_v1 a_v2 a_v3 a_l0 a_l1 a_l2 a_l3 W hF hE)
  have hm : Hid (mayRq k ((a_s, a_p, a_n, (a_v0, a_l0), (a_v1, a_l1), (a_v2, a_l2), (a_v3, a_l3)) : Atm) = (decide (1 ≤ k) && (decide (k ≤ 3) && (checkA ((a_s, a_p, a_n, (a_v0, a_l0), (a_v1, a_l1), (a_v2, a_l2), (a_v3, a_l3)) : Atm) == 0)))) := rfl
  generalize mayRq k ((a_s, a_p, a_n, (a_v0, a_l0), (a_v1, a_l1), (a_v2, a_l2), (a_v3, a_l3)) : Atm) = M at *
  cases h1 : decide (1 ≤ k)
  · have hM : Hid (M = false) := by show _ = _; rw [hm.out, h1]; rfl
    go_enter Tryz.func20, Tryz.ntmps20
    go_wp2_with fail
    go_ret
    exact ⟨ret_bool hM.out.symm, hA⟩
  · cases h3 : decide (k ≤ 3)
    · have hM : Hid (M = false) := by show _ = _; rw [hm.out, h1, h3]; rfl
      go_enter Tryz.func20, Tryz.ntmps20
      go_wp2_with fail
      go_ret
      exact ⟨ret_bool hM.out.symm, hA⟩
    · have hM : Hid (M = (checkA ((a_s, a_p, a_n, (a_v0, a_l0), (a_v1, a_l1), (a_v2, a_l2), (a_v3, a_l3)) : Atm) == 0)) := by show _ = _; rw [hm.out, h1, h3]; rfl
      generalize checkA ((a_s, a_p, a_n, (a_v0, a_l0), (a_v1, a_l1), (a_v2, a_l2), (a_v3, a_l3)) : Atm) = C at *
      have hE1 := hE.next hA
      go_enter Tryz.func20, Tryz.ntmps20
      go_wp2_with fail
      refine (HC.out _ hE1).mono ?_
      rintro e w1 ⟨rfl, hb⟩
      go_wp2_with fail
      go_ret
      exact ⟨ret_bool hM.out.symm, hA.trans hb⟩
/-- What Request comes to: the bytes, or the error. -/
theorem rqB_le {k : Int} {a : Atm} (h : checkA a = 0) : (rqB k a).length ≤ 2001 := by
  have := atomB_le (valid_light h)
  unfold rqB
  rw [List.length_cons]; omega
theorem atomB_short {a : Atm} (h : checkA a = 0) : (atomB a).length ≤ 4000 := by
  have := atomB_le (valid_light h); omega
set_option maxHeartbeats 2000000 in
set_option maxRecDepth 100000 in
theorem request_no (k : Int) (a_s a_p : List UInt8) (a_n : Int) (a_v0 a_v1 a_v2 a_v3 : Bool) (a_l0 a_l1 a_l2 a_l3 : List UInt8) (w : World) (hF : FitsA ((a_s, a_p, a_n, (a_v0, a_l0), (a_v1, a_l1), (a_v2, a_l2), (a_v3, a_l3)) : Atm)) (hE : Env w) (hm : mayRq k ((a_s, a_p, a_n, (a_v0, a_l0), (a_v1, a_l1), (a_v2, a_l2), (a_v3, a_l3)) : Atm) = false) :
    Calls Tryz.prog 7 #[.agg #[.int .i64 k, .string ⟨a_s.toArray⟩, .string ⟨a_p.toArray⟩, .int .i64 a_n, .bool a_v0, .string ⟨a_l0.toArray⟩, .bool a_v1, .string ⟨a_l1.toArray⟩, .bool a_v2, .string ⟨a_l2.toArray⟩, .bool a_v3, .string ⟨a_l3.toArray⟩]] w fun e w' => e = .returned (.tuple #[.string ⟨#[]⟩, .int .i64 2]) ∧ Since w w' := by
  have hA : Since w (w.alloc (.cells #[.int .i64 k, .string ⟨a_s.toArray⟩, .string ⟨a_p.toArray⟩, .int .i64 a_n, .bool a_v0, .string ⟨a_l0.toArray⟩, .bool a_v1, .string ⟨a_l1.toArray⟩, .bool a_v2, .string ⟨a_l2.toArray⟩, .bool a_v3, .string ⟨a_l3.toArray⟩] 28)) := (Since.refl _).alloc _
  have HM := Lib.hid (fun W hE => mayRq_any k a_s a_p a_n a_v0 a_v1 a_v2 a_v3 a_l0 a_l1 a_l2 a_l3 W hF hE)
  rw [hm] at HM
  have r0 : (w.alloc (.cells #[.int .i64 k, .string ⟨a_s.toArray⟩, .string ⟨a_p.toArray⟩, .int .i64 a_n, .bool a_v0, .string ⟨a_l0.toArray⟩, .bool a_v1, .string ⟨a_l1.toArray⟩, .bool a_v2, .string ⟨a_l2.toArray⟩, .bool a_v3, .string ⟨a_l3.toArray⟩] 28)).cell? ⟨w.heap.size, 0, none⟩ = some (.int .i64 k) := by rw [World.cell?_alloc_new]; rfl
  have r1 : (w.alloc (.cells #[.int .i64 k, .string ⟨a_s.toArray⟩, .string ⟨a_p.toArray⟩, .int .i64 a_n, .bool a_v0, .string ⟨a_l0.toArray⟩, .bool a_v1, .string ⟨a_l1.toArray⟩, .bool a_v2, .string ⟨a_l2.toArray⟩, .bool a_v3, .string ⟨a_l3.toArray⟩] 28)).cell? ⟨w.heap.size, 1, none⟩ = some (.string ⟨a_s.toArray⟩) := by rw [World.cell?_alloc_new]; rfl
  have r2 : (w.alloc (.cells #[.int .i64 k, .string ⟨a_s.toArray⟩, .string ⟨a_p.toArray⟩, .int .i64 a_n, .bool a_v0, .string ⟨a_l0.toArray⟩, .bool a_v1, .string ⟨a_l1.toArray⟩, .bool a_v2, .string ⟨a_l2.toArray⟩, .bool a_v3, .string ⟨a_l3.toArray⟩] 28)).cell? ⟨w.heap.size, 2, none⟩ = some (.string ⟨a_p.toArray⟩) := by rw [World.cell?_alloc_new]; rfl
  have r3 : (w.alloc (.cells #[.int .i64 k, .string ⟨a_s.toArray⟩, .string ⟨a_p.toArray⟩, .int .i64 a_n, .bool a_v0, .string ⟨a_l0.toArray⟩, .bool a_v1, .string ⟨a_l1.toArray⟩, .bool a_v2, .string ⟨a_l2.toArray⟩, .bool a_v3, .string ⟨a_l3.toArray⟩] 28)).cell? ⟨w.heap.size, 3, none⟩ = some (.int .i64 a_n) := by rw [World.cell?_alloc_new]; rfl
  have r4 : (w.alloc (.cells #[.int .i64 k, .string ⟨a_s.toArray⟩, .string ⟨a_p.toArray⟩, .int .i64 a_n, .bool a_v0, .string ⟨a_l0.toArray⟩, .bool a_v1, .string ⟨a_l1.toArray⟩, .bool a_v2, .string ⟨a_l2.toArray⟩, .bool a_v3, .string ⟨a_l3.toArray⟩] 28)).cell? ⟨w.heap.size, 4, none⟩ = some (.bool a_v0) := by rw [World.cell?_alloc_new]; rfl
  have r5 : (w.alloc (.cells #[.int .i64 k, .string ⟨a_s.toArray⟩, .string ⟨a_p.toArray⟩, .int .i64 a_n, .bool a_v0, .string ⟨a_l0.toArray⟩, .bool a_v1, .string ⟨a_l1.toArray⟩, .bool a_v2, .string ⟨a_l2.toArray⟩, .bool a_v3, .string ⟨a_l3.toArray⟩] 28)).cell? ⟨w.heap.size, 5, none⟩ = some (.string ⟨a_l0.toArray⟩) := by rw [World.cell?_alloc_new]; rfl
  have r6 : (w.alloc (.cells #[.int .i64 k, .string ⟨a_s.toArray⟩, .string ⟨a_p.toArray⟩, .int .i64 a_n, .bool a_v0, .string ⟨a_l0.toArray⟩, .bool a_v1, .string ⟨a_l1.toArray⟩, .bool a_v2, .string ⟨a_l2.toArray⟩, .bool a_v3, .string ⟨a_l3.toArray⟩] 28)).cell? ⟨w.heap.size, 6, none⟩ = some (.bool a_v1) := by rw [World.cell?_alloc_new]; rfl
  have r7 : (w.alloc (.cells #[.int .i64 k, .string ⟨a_s.toArray⟩, .string ⟨a_p.toArray⟩, .int .i64 a_n, .bool a_v0, .string ⟨a_l0.toArray⟩, .bool a_v1, .string ⟨a_l1.toArray⟩, .bool a_v2, .string ⟨a_l2.toArray⟩, .bool a_v3, .string ⟨a_l3.toArray⟩] 28)).cell? ⟨w.heap.size, 7, none⟩ = some (.string ⟨a_l1.toArray⟩) := by rw [World.cell?_alloc_new]; rfl
  have r8 : (w.alloc (.cells #[.int .i64 k, .string ⟨a_s.toArray⟩, .string ⟨a_p.toArray⟩, .int .i64 a_n, .bool a_v0, .string ⟨a_l0.toArray⟩, .bool a_v1, .string ⟨a_l1.toArray⟩, .bool a_v2, .string ⟨a_l2.toArray⟩, .bool a_v3, .string ⟨a_l3.toArray⟩] 28)).cell? ⟨w.heap.size, 8, none⟩ = some (.bool a_v2) := by rw [World.cell?_alloc_new]; rfl
  have r9 : (w.alloc (.cells #[.int .i64 k, .string ⟨a_s.toArray⟩, .string ⟨a_p.toArray⟩, .int .i64 a_n, .bool a_v0, .string ⟨a_l0.toArray⟩, .bool a_v1, .string ⟨a_l1.toArray⟩, .bool a_v2, .string ⟨a_l2.toArray⟩, .bool a_v3, .string ⟨a_l3.toArray⟩] 28)).cell? ⟨w.heap.size, 9, none⟩ = some (.string ⟨a_l2.toArray⟩) := by rw [World.cell?_alloc_new]; rfl
  have r10 : (w.alloc (.cells #[.int .i64 k, .string ⟨a_s.toArray⟩, .string ⟨a_p.toArray⟩, .int .i64 a_n, .bool a_v0, .string ⟨a_l0.toArray⟩, .bool a_v1, .string ⟨a_l1.toArray⟩, .bool a_v2, .string ⟨a_l2.toArray⟩, .bool a_v3, .string ⟨a_l3.toArray⟩] 28)).cell? ⟨w.heap.size, 10, none⟩ = some (.bool a_v3) := by rw [World.cell?_alloc_new]; rfl
  have r11 : (w.alloc (.cells #[.int .i64 k, .string ⟨a_s.toArray⟩, .string ⟨a_p.toArray⟩, .int .i64 a_n, .bool a_v0, .string ⟨a_l0.toArray⟩, .bool a_v1, .string ⟨a_l1.toArray⟩, .bool a_v2, .string ⟨a_l2.toArray⟩, .bool a_v3, .string ⟨a_l3.toArray⟩] 28)).cell? ⟨w.heap.size, 11, none⟩ = some (.string ⟨a_l3.toArray⟩) := by rw [World.cell?_alloc_new]; rfl
  have hE1 := hE.next hA
  clear hm
  go_enter Tryz.func7, Tryz.ntmps7
  go_wp2_with fail
  refine (HM.out _ hE1).mono ?_
  rintro e w1 ⟨rfl, hb⟩
  clear r0 r1 r2 r3 r4 r5 r6 r7 r8 r9 r10 r11
  go_wp2_with fail
  go_ret2
  exact ⟨rfl, hA.trans hb⟩
set_option maxHeartbeats 2000000 in
set_option maxRecDepth 100000 in
theorem request_yes (k : Nat) (a_s a_p : List UInt8) (a_n : Int) (a_v0 a_v1 a_v2 a_v3 : Bool) (a_l0 a_l1 a_l2 a_l3 : List UInt8) (w : World) (hF : FitsA ((a_s, a_p, a_n, (a_v0, a_l0), (a_v1, a_l1), (a_v2, a_l2), (a_v3, a_l3)) : Atm)) (hE : Env w) (hm : mayRq (k : Int) ((a_s, a_p, a_n, (a_v0, a_l0), (a_v1, a_l1), (a_v2, a_l2), (a_v3, a_l3)) : Atm) = true) :
    Calls Tryz.prog 7 #[.agg #[.int .i64 (k : Int), .string ⟨a_s.toArray⟩, .string ⟨a_p.toArray⟩, .int .i64 a_n, .bool a_v0, .string ⟨a_l0.toArray⟩, .bool a_v1, .string ⟨a_l1.toArray⟩, .bool a_v2, .string ⟨a_l2.toArray⟩, .bool a_v3, .string ⟨a_l3.toArray⟩]] w fun e w' => e = .returned (.tuple #[.string ⟨(rqB (k : Int) ((a_s, a_p, a_n, (a_v0, a_l0), (a_v1, a_l1), (a_v2, a_l2), (a_v3, a_l3)) : Atm)).toArray⟩, .int .i64 0]) ∧ Since w w' := by
  have hA : Since w (w.alloc (.cells #[.int .i64 (k : Int), .string ⟨a_s.toArray⟩, .string ⟨a_p.toArray⟩, .int .i64 a_n, .bool a_v0, .string ⟨a_l0.toArray⟩, .bool a_v1, .string ⟨a_l1.toArray⟩, .bool a_v2, .string ⟨a_l2.toArray⟩, .bool a_v3, .string ⟨a_l3.toArray⟩] 28)) := (Since.refl _).alloc _
  have HM := Lib.hid (fun W hE => mayRq_any (k : Int) a_s a_p a_n a_v0 a_v1 a_v2 a_v3 a_l0 a_l1 a_l2 a_l3 W hF hE)
  have hm2 := hm
  simp only [mayRq, Bool.and_eq_true, decide_eq_true_eq, beq_iff_eq] at hm2
  obtain ⟨k1, k3, hck⟩ := hm2
  rw [hm] at HM
  have r0 : (w.alloc (.cells #[.int .i64 (k : Int), .string ⟨a_s.toArray⟩, .string ⟨a_p.toArray⟩, .int .i64 a_n, .bool a_v0, .string ⟨a_l0.toArray⟩, .bool a_v1, .string ⟨a_l1.toArray⟩, .bool a_v2, .string ⟨a_l2.toArray⟩, .bool a_v3, .string ⟨a_l3.toArray⟩] 28)).cell? ⟨w.heap.size, 0, none⟩ = some (.int .i64 (k : Int)) := by rw [World.cell?_alloc_new]; rfl
  have r1 : (w.alloc (.cells #[.int .i64 (k : Int), .string ⟨a_s.toArray⟩, .string ⟨a_p.toArray⟩, .int .i64 a_n, .bool a_v0, .string ⟨a_l0.toArray⟩, .bool a_v1, .string ⟨a_l1.toArray⟩, .bool a_v2, .string ⟨a_l2.toArray⟩, .bool a_v3, .string ⟨a_l3.toArray⟩] 28)).cell? ⟨w.heap.size, 1, none⟩ = some (.string ⟨a_s.toArray⟩) := by rw [World.cell?_alloc_new]; rfl
  have r2 : (w.alloc (.cells #[.int .i64 (k : Int), .string ⟨a_s.toArray⟩, .string ⟨a_p.toArray⟩, .int .i64 a_n, .bool a_v0, .string ⟨a_l0.toArray⟩, .bool a_v1, .string ⟨a_l1.toArray⟩, .bool a_v2, .string ⟨a_l2.toArray⟩, .bool a_v3, .string ⟨a_l3.toArray⟩] 28)).cell? ⟨w.heap.size, 2, none⟩ = some (.string ⟨a_p.toArray⟩) := by rw [World.cell?_alloc_new]; rfl
  have r3 : (w.alloc (.cells #[.int .i64 (k : Int), .string ⟨a_s.toArray⟩, .string ⟨a_p.toArray⟩, .int .i64 a_n, .bool a_v0, .string ⟨a_l0.toArray⟩, .bool a_v1, .string ⟨a_l1.toArray⟩, .bool a_v2, .string ⟨a_l2.toArray⟩, .bool a_v3, .string ⟨a_l3.toArray⟩] 28)).cell? ⟨w.heap.size, 3, none⟩ = some (.int .i64 a_n) := by rw [World.cell?_alloc_new]; rfl
  have r4 : (w.alloc (.cells #[.int .i64 (k : Int), .string ⟨a_s.toArray⟩, .string ⟨a_p.toArray⟩, .int .i64 a_n, .bool a_v0, .string ⟨a_l0.toArray⟩, .bool a_v1, .string ⟨a_l1.toArray⟩, .bool a_v2, .string ⟨a_l2.toArray⟩, .bool a_v3, .string ⟨a_l3.toArray⟩] 28)).cell? ⟨w.heap.size, 4, none⟩ = some (.bool a_v0) := by rw [World.cell?_alloc_new]; rfl
  have r5 : (w.alloc (.cells #[.int .i64 (k : Int), .string ⟨a_s.toArray⟩, .string ⟨a_p.toArray⟩, .int .i64 a_n, .bool a_v0, .string ⟨a_l0.toArray⟩, .bool a_v1, .string ⟨a_l1.toArray⟩, .bool a_v2, .string ⟨a_l2.toArray⟩, .bool a_v3, .string ⟨a_l3.toArray⟩] 28)).cell? ⟨w.heap.size, 5, none⟩ = some (.string ⟨a_l0.toArray⟩) := by rw [World.cell?_alloc_new]; rfl
  have r6 : (w.alloc (.cells #[.int .i64 (k : Int), .string ⟨a_s.toArray⟩, .string ⟨a_p.toArray⟩, .int .i64 a_n, .bool a_v0, .string ⟨a_l0.toArray⟩, .bool a_v1, .string ⟨a_l1.toArray⟩, .bool a_v2, .string ⟨a_l2.toArray⟩, .bool a_v3, .string ⟨a_l3.toArray⟩] 28)).cell? ⟨w.heap.size, 6, none⟩ = some (.bool a_v1) := by rw [World.cell?_alloc_new]; rfl
  have r7 : (w.alloc (.cells #[.int .i64 (k : Int), .string ⟨a_s.toArray⟩, .string ⟨a_p.toArray⟩, .int .i64 a_n, .bool a_v0, .string ⟨a_l0.toArray⟩, .bool a_v1, .string ⟨a_l1.toArray⟩, .bool a_v2, .string ⟨a_l2.toArray⟩, .bool a_v3, .string ⟨a_l3.toArray⟩] 28)).cell? ⟨w.heap.size, 7, none⟩ = some (.string ⟨a_l1.toArray⟩) := by rw [World.cell?_alloc_new]; rfl
  have r8 : (w.alloc (.cells #[.int .i64 (k : Int), .string ⟨a_s.toArray⟩, .string ⟨a_p.toArray⟩, .int .i64 a_n, .bool a_v0, .string ⟨a_l0.toArray⟩, .bool a_v1, .string ⟨a_l1.toArray⟩, .bool a_v2, .string ⟨a_l2.toArray⟩, .bool a_v3, .string ⟨a_l3.toArray⟩] 28)).cell? ⟨w.heap.size, 8, none⟩ = some (.bool a_v2) := by rw [World.cell?_alloc_new]; rfl
  have r9 : (w.alloc (.cells #[.int .i64 (k : Int), .string ⟨a_s.toArray⟩, .string ⟨a_p.toArray⟩, .int .i64 a_n, .bool a_v0, .string ⟨a_l0.toArray⟩, .bool a_v1, .string ⟨a_l1.toArray⟩, .bool a_v2, .string ⟨a_l2.toArray⟩, .bool a_v3, .string ⟨a_l3.toArray⟩] 28)).cell? ⟨w.heap.size, 9, none⟩ = some (.string ⟨a_l2.toArray⟩) := by rw [World.cell?_alloc_new]; rfl
  have r10 : (w.alloc (.cells #[.int .i64 (k : Int), .string ⟨a_s.toArray⟩, .string ⟨a_p.toArray⟩, .int .i64 a_n, .bool a_v0, .string ⟨a_l0.toArray⟩, .bool a_v1, .string ⟨a_l1.toArray⟩, .bool a_v2, .string ⟨a_l2.toArray⟩, .bool a_v3, .string ⟨a_l3.toArray⟩] 28)).cell? ⟨w.heap.size, 10, none⟩ = some (.bool a_v3) := by rw [World.cell?_alloc_new]; rfl
  have r11 : (w.alloc (.cells #[.int .i64 (k : Int), .string ⟨a_s.toArray⟩, .string ⟨a_p.toArray⟩, .int .i64 a_n, .bool a_v0, .string ⟨a_l0.toArray⟩, .bool a_v1, .string ⟨a_l1.toArray⟩, .bool a_v2, .string ⟨a_l2.toArray⟩, .bool a_v3, .string ⟨a_l3.toArray⟩] 28)).cell? ⟨w.heap.size, 11, none⟩ = some (.string ⟨a_l3.toArray⟩) := by rw [World.cell?_alloc_new]; rfl
  have hE1 := hE.next hA
  have HAT := Lib.hid (fun W hE => catom_yes a_s a_p a_n a_v0 a_v1 a_v2 a_v3 a_l0 a_l1 a_l2 a_l3 W hF hE (valid_light hck) hck)
  have HON := Lib.hid (fun W => one_any k W (by omega))
  have hrl := rqB_le (k := (k : Int)) hck
  have hB : Hid (rqB (k : Int) ((a_s, a_p, a_n, (a_v0, a_l0), (a_v1, a_l1), (a_v2, a_l2), (a_v3, a_l3)) : Atm) = UInt8.ofNat k :: atomB ((a_s, a_p, a_n, (a_v0, a_l0), (a_v1, a_l1), (a_v2, a_l2), (a_v3, a_l3)) : Atm)) := by show _ = _; unfold rqB; rw [Int.toNat_natCast]
  have hk1 := hB.out
  generalize rqB (k : Int) ((a_s, a_p, a_n, (a_v0, a_l0), (a_v1, a_l1), (a_v2, a_l2), (a_v3, a_l3)) : Atm) = B at *
  generalize atomB ((a_s, a_p, a_n, (a_v0, a_l0), (a_v1, a_l1), (a_v2, a_l2), (a_v3, a_l3)) : Atm) = X at *
  subst hk1
  have HJ : Hid (∀ W g, Row W (.slice (some ⟨g, 0, none⟩) 2 2) 2 ([[UInt8.ofNat k], X].map strV) → Calls Tryz.prog 19 #[.slice (some ⟨g, 0, none⟩) 2 2] W fun e w' => e = .returned (.string ⟨(UInt8.ofNat k :: X).toArray⟩) ∧ Since W w') := by
    intro W g hr
    have e : ([[UInt8.ofNat k], X] : List (List UInt8)).flatten = UInt8.ofNat k :: X := by simp
    have := fjoin_any _ [[UInt8.ofNat k], X] W hr (by simp) (by rw [e]; omega)
    rwa [e] at this
  have hXl : X.length ≤ 2000 := by rw [List.length_cons] at hrl; omega
  have hXd : decide ((4096 : Int) < (X.length : Int) + 1) = false := by simp; omega
  clear hB hm hck
  go_enter Tryz.func7, Tryz.ntmps7
  go_wp2_with fail
  refine (HM.out _ hE1).mono ?_
  rintro e w1 ⟨rfl, hb⟩
  replace r0 := hb.cell r0
  replace r1 := hb.cell r1
  replace r2 := hb.cell r2
  replace r3 := hb.cell r3
  replace r4 := hb.cell r4
  replace r5 := hb.cell r5
  replace r6 := hb.cell r6
  replace r7 := hb.cell r7
  replace r8 := hb.cell r8
  replace r9 := hb.cell r9
  replace r10 := hb.cell r10
  replace r11 := hb.cell r11
  replace hA := hA.trans hb
  replace hE1 := hE1.next hb
  clear hb
  go_wp2_with fail
  refine (HAT.out _ hE1).mono ?_
  rintro e w2 ⟨rfl, hb⟩
  replace r0 := hb.cell r0
  replace r1 := hb.cell r1
  replace r2 := hb.cell r2
  replace r3 := hb.cell r3
  replace r4 := hb.cell r4
  replace r5 := hb.cell r5
  replace r6 := hb.cell r6
  replace r7 := hb.cell r7
  replace r8 := hb.cell r8
  replace r9 := hb.cell r9
  replace r10 := hb.cell r10
  replace r11 := hb.cell r11
  replace hA := hA.trans hb
  clear hb hE1
  go_wp2_with fail
  refine (HON.out _).mono ?_
  rintro e w3 ⟨rfl, hb⟩
  replace hA := hA.trans hb
  have hrow := row2_new w3 [UInt8.ofNat k] X 9
  clear hb r0 r1 r2 r3 r4 r5 r6 r7 r8 r9 r10 r11
  go_wp2_with fail
  refine (HJ.out _ _ hrow).mono ?_
  rintro e w4 ⟨rfl, hb⟩
  go_wp2_with fail
  go_ret2
  exact ⟨rfl, (hA.alloc _).trans hb⟩
end Go.Proofs.YtkdeokgkjmboeaaGreatDoor

namespace Go.Proofs.YtkdeokgkjmboeaaGreatDoor
open Go.RowKit

/-- A block's cells. -/
def Cel (W : World) (B : Nat) (cs : Array Value) (T : TypeId) : Prop := W.heap[B]? = some (.cells cs T (0, 0))
section
variable {W W' : World} {B : Nat} {cs : Array Value} {T : TypeId}
theorem Cel.cell (h : Cel W B cs T) (j : Nat) : W.cell? ⟨B, j, none⟩ = cs[j]? := by
  unfold Cel at h
  simp [World.cell?, h]
theorem Cel.free (h : Cel W B cs T) (j : Nat) : W.frozen? ⟨B, j, none⟩ = false := by
  unfold Cel at h; simp [World.frozen?, h]
theorem Cel.lt (h : Cel W B cs T) : B < W.heap.size := (Array.getElem?_eq_some_iff.1 h).1
theorem Cel.grown {row : Option Nat} (h : Cel W B cs T) (hg : W.grownBy W' row) (hr : some B ≠ row) : Cel W' B cs T := (hg.block B h.lt hr).trans h
theorem Cel.next (h : Cel W B cs T) (hs : Since W W') : Cel W' B cs T := (Below.block hs B h.lt).trans h
theorem Cel.far (h : Cel W B cs T) {p : Addr} (hp : B ≠ p.block) (u : Value) : Cel (W.setCell p u) B cs T := (Below.heap_setCell W p u B hp).trans h
theorem Cel.row (h : Cel W B cs T) (ds : Array Value) : Cel (W.setRow B ds) B ds T := setRow_heap W B _ _ T (0, 0) h
theorem Cel.set (h : Cel W B cs T) {j : Nat} {u : Value} {ds : Array Value} (he : cs.setIfInBounds j u = ds) : Cel (W.setCell ⟨B, j, none⟩ u) B ds T := by
  unfold Cel at h ⊢
  rw [setCell_eq_setRow W B j _ T (0, 0) _ h, setRow_heap W B _ _ T (0, 0) h, he]
end
theorem reqInfo : (Tryz.prog.info? 28).map (·.size) = some 12 := by kernel_rfl
theorem zero_fits : FitsA zeroAtm := by
  unfold FitsA maxLen
  refine ⟨by simp [zeroAtm], by simp [zeroAtm], fun t ht => ?_⟩
  have ht' : t ∈ [(false, ([] : List UInt8)), (false, []), (false, []), (false, [])] := ht
  simp only [List.mem_cons, List.not_mem_nil, or_false] at ht'
  rcases ht' with rfl | rfl | rfl | rfl <;> simp
theorem atomF_fits (s : List UInt8) (bad : Bool) : FitsA (atomF s bad).1 := by
  unfold atomF
  split
  · exact zero_fits
  · split
    · exact zero_fits
    · rename_i h
      exact valid_fits (atomS_valid (by simpa using h))
theorem oneF_len (s : List UInt8) (bad : Bool) : (oneF s bad).2.1.length ≤ s.length ∧ (oneF s bad).1 < 256 := by
  cases s with
  | nil => exact ⟨Nat.le_refl _, by show 0 < 256; omega⟩
  | cons c r =>
    cases bad
    · exact ⟨by show r.length ≤ _; simp, c.toNat_lt⟩
    · exact ⟨Nat.le_refl _, by show 0 < 256; omega⟩
set_option maxHeartbeats 2000000 in
set_option maxRecDepth 100000 in
theorem readreq_long (s : List UInt8) (w : World) (hs : 4096 < s.length) (hs2 : s.length ≤ 1000000) :
    Calls Tryz.prog 9 #[.string ⟨s.toArray⟩] w fun e w' => e = .returned (.tuple #[.agg #[.int .i64 0, .string ⟨#[]⟩, .string ⟨#[]⟩, .int .i64 0, .bool false, .string ⟨#[]⟩, .bool false, .string ⟨#[]⟩, .bool false, .string ⟨#[]⟩, .bool false, .string ⟨#[]⟩], .int .i64 4]) ∧ Since w w' := by
  have hA : Since w (w.alloc (.cells #[.int .i64 0, .string ⟨#[]⟩, .string ⟨#[]⟩, .int .i64 0, .bool false, .string ⟨#[]⟩, .bool false, .string ⟨#[]⟩, .bool false, .string ⟨#[]⟩, .bool false, .string ⟨#[]⟩] 28)) := (Since.refl _).alloc _
  have hZ : Cel (w.alloc (.cells #[.int .i64 0, .string ⟨#[]⟩, .string ⟨#[]⟩, .int .i64 0, .bool false, .string ⟨#[]⟩, .bool false, .string ⟨#[]⟩, .bool false, .string ⟨#[]⟩, .bool false, .string ⟨#[]⟩] 28)) w.heap.size #[.int .i64 0, .string ⟨#[]⟩, .string ⟨#[]⟩, .int .i64 0, .bool false, .string ⟨#[]⟩, .bool false, .string ⟨#[]⟩, .bool false, .string ⟨#[]⟩, .bool false, .string ⟨#[]⟩] 28 := heap_alloc_new w _
  have HZ : Hid ((w.alloc (.cells #[.int .i64 0, .string ⟨#[]⟩, .string ⟨#[]⟩, .int .i64 0, .bool false, .string ⟨#[]⟩, .bool false, .string ⟨#[]⟩, .bool false, .string ⟨#[]⟩, .bool false, .string ⟨#[]⟩] 28)).heap[w.heap.size]? = some (.cells #[.int .i64 0, .string ⟨#[]⟩, .string ⟨#[]⟩, .int .i64 0, .bool false, .string ⟨#[]⟩, .bool false, .string ⟨#[]⟩, .bool false, .string ⟨#[]⟩, .bool false, .string ⟨#[]⟩] 28 (0, 0))) := hZ
  have hself : Hid ((w.alloc (.cells #[.int .i64 0, .string ⟨#[]⟩, .string ⟨#[]⟩, .int .i64 0, .bool false, .string ⟨#[]⟩, .bool false, .string ⟨#[]⟩, .bool false, .string ⟨#[]⟩, .bool false, .string ⟨#[]⟩] 28)).setRow w.heap.size #[.int .i64 0, .string ⟨#[]⟩, .string ⟨#[]⟩, .int .i64 0, .bool false, .string ⟨#[]⟩, .bool false, .string ⟨#[]⟩, .bool false, .string ⟨#[]⟩, .bool false, .string ⟨#[]⟩] = w.alloc (.cells #[.int .i64 0, .string ⟨#[]⟩, .string ⟨#[]⟩, .int .i64 0, .bool false, .string ⟨#[]⟩, .bool false, .string ⟨#[]⟩, .bool false, .string ⟨#[]⟩, .bool false, .string ⟨#[]⟩] 28)) := setRow_self _ w.heap.size _ _ _ HZ.out
  have hone : Hid ((#[.int .i64 0, .string ⟨#[]⟩, .string ⟨#[]⟩, .int .i64 0, .bool false, .string ⟨#[]⟩, .bool false, .string ⟨#[]⟩, .bool false, .string ⟨#[]⟩, .bool false, .string ⟨#[]⟩] : Array Value).all (·.oneCell') = true) := by show _ = _; simp [Value.oneCell']
  have hd : decide ((4096 : Int) < (s.length : Int)) = true := by simp; omega
  have e0 := fun j => hZ.cell j
  go_enter Tryz.func9, Tryz.ntmps9
  clear e0 hZ
  go_wp2_with ((refine wpList_store_row rfl 28 (.tmp 2) (.tmp 9) rfl w.heap.size #[.int .i64 0, .string ⟨#[]⟩, .string ⟨#[]⟩, .int .i64 0, .bool false, .string ⟨#[]⟩, .bool false, .string ⟨#[]⟩, .bool false, .string ⟨#[]⟩, .bool false, .string ⟨#[]⟩] rfl rfl 28 _ HZ.out reqInfo rfl hone.out ?_); rw [hself.out])
  obtain HZ2 : Cel (w.alloc (.cells #[.int .i64 0, .string ⟨#[]⟩, .string ⟨#[]⟩, .int .i64 0, .bool false, .string ⟨#[]⟩, .bool false, .string ⟨#[]⟩, .bool false, .string ⟨#[]⟩, .bool false, .string ⟨#[]⟩] 28)) w.heap.size #[.int .i64 0, .string ⟨#[]⟩, .string ⟨#[]⟩, .int .i64 0, .bool false, .string ⟨#[]⟩, .bool false, .string ⟨#[]⟩, .bool false, .string ⟨#[]⟩, .bool false, .string ⟨#[]⟩] 28 := HZ.out
  refine bodyPost_ret (v := .tuple #[.agg #[.int .i64 0, .string ⟨#[]⟩, .string ⟨#[]⟩, .int .i64 0, .bool false, .string ⟨#[]⟩, .bool false, .string ⟨#[]⟩, .bool false, .string ⟨#[]⟩, .bool false, .string ⟨#[]⟩], .int .i64 4]) (by simp [results, Tryz.results9, go_sem]) rfl ?_
  exact ⟨rfl, hA⟩
set_option maxHeartbeats 4000000 in
set_option maxRecDepth 100000 in
theorem readreq_any (s : List UInt8) (w : World) (hs : s.length ≤ 4096) (hE : Env w) (k : Nat) (a_s a_p : List UInt8) (a_n : Int) (a_v0 a_v1 a_v2 a_v3 : Bool) (a_l0 a_l1 a_l2 a_l3 : List UInt8) (s1 s2 : List UInt8) (b1 b2 : Bool) (h1 : oneF s false = (k, s1, b1)) (h2 : atomF s1 b1 = (((a_s, a_p, a_n, (a_v0, a_l0), (a_v1, a_l1), (a_v2, a_l2), (a_v3, a_l3)) : Atm), s2, b2)) :
    Calls Tryz.prog 9 #[.string ⟨s.toArray⟩] w fun e w' => e = .returned (if b2 || (!s2.isEmpty || !mayRq (k : Int) ((a_s, a_p, a_n, (a_v0, a_l0), (a_v1, a_l1), (a_v2, a_l2), (a_v3, a_l3)) : Atm)) then .tuple #[.agg #[.int .i64 0, .string ⟨#[]⟩, .string ⟨#[]⟩, .int .i64 0, .bool false, .string ⟨#[]⟩, .bool false, .string ⟨#[]⟩, .bool false, .string ⟨#[]⟩, .bool false, .string ⟨#[]⟩], .int .i64 15] else .tuple #[.agg #[.int .i64 (k : Int), .string ⟨a_s.toArray⟩, .string ⟨a_p.toArray⟩, .int .i64 a_n, .bool a_v0, .string ⟨a_l0.toArray⟩, .bool a_v1, .string ⟨a_l1.toArray⟩, .bool a_v2, .string ⟨a_l2.toArray⟩, .bool a_v3, .string ⟨a_l3.toArray⟩], .int .i64 0]) ∧ Since w w' := by
  obtain ⟨l1, k256⟩ := oneF_len s false
  have hfit := atomF_fits s1 b1
  rw [h1] at l1 k256
  rw [h2] at hfit
  simp only at l1 k256 hfit
  have hA : Since w ((w.alloc (.cells #[.int .i64 0, .string ⟨#[]⟩, .string ⟨#[]⟩, .int .i64 0, .bool false, .string ⟨#[]⟩, .bool false, .string ⟨#[]⟩, .bool false, .string ⟨#[]⟩, .bool false, .string ⟨#[]⟩] 28)).alloc (.cells #[.string ⟨s.toArray⟩, .int .i64 0] 53)) := ((Since.refl _).alloc _).alloc _
  have hZ : Cel ((w.alloc (.cells #[.int .i64 0, .string ⟨#[]⟩, .string ⟨#[]⟩, .int .i64 0, .bool false, .string ⟨#[]⟩, .bool false, .string ⟨#[]⟩, .bool false, .string ⟨#[]⟩, .bool false, .string ⟨#[]⟩] 28)).alloc (.cells #[.string ⟨s.toArray⟩, .int .i64 0] 53)) w.heap.size #[.int .i64 0, .string ⟨#[]⟩, .string ⟨#[]⟩, .int .i64 0, .bool false, .string ⟨#[]⟩, .bool false, .string ⟨#[]⟩, .bool false, .string ⟨#[]⟩, .bool false, .string ⟨#[]⟩] 28 := Cel.next (W := w.alloc (.cells #[.int .i64 0, .string ⟨#[]⟩, .string ⟨#[]⟩, .int .i64 0, .bool false, .string ⟨#[]⟩, .bool false, .string ⟨#[]⟩, .bool false, .string ⟨#[]⟩, .bool false, .string ⟨#[]⟩] 28)) (heap_alloc_new w _) ((Since.refl _).alloc _)
  have hR : RdF ((w.alloc (.cells #[.int .i64 0, .string ⟨#[]⟩, .string ⟨#[]⟩, .int .i64 0, .bool false, .string ⟨#[]⟩, .bool false, .string ⟨#[]⟩, .bool false, .string ⟨#[]⟩, .bool false, .string ⟨#[]⟩] 28)).alloc (.cells #[.string ⟨s.toArray⟩, .int .i64 0] 53)) (w.heap.size + 1) s false := by
    have h := heap_alloc_new (w.alloc (.cells #[.int .i64 0, .string ⟨#[]⟩, .string ⟨#[]⟩, .int .i64 0, .bool false, .string ⟨#[]⟩, .bool false, .string ⟨#[]⟩, .bool false, .string ⟨#[]⟩, .bool false, .string ⟨#[]⟩] 28)) (.cells #[.string ⟨s.toArray⟩, .int .i64 0] 53)
    rw [World.size_alloc] at h
    exact h
  have HO := Lib.hid (fun W hR => fone_any s false (w.heap.size + 1) W hR)
  have HAT := Lib.hid (fun W hR hE => fatom_any s1 b1 (w.heap.size + 1) W (by omega) hR hE)
  have HEN := Lib.hid (fun W hR => fend_any s2 b2 (w.heap.size + 1) W hR)
  have HM := Lib.hid (fun W hE => mayRq_any (k : Int) a_s a_p a_n a_v0 a_v1 a_v2 a_v3 a_l0 a_l1 a_l2 a_l3 W hfit hE)
  unfold OnePost at HO
  rw [h1] at HO
  unfold AtPost at HAT
  rw [h2] at HAT
  unfold EndPost at HEN
  simp only [atmC] at HO HAT HEN
  have HE := Lib.hid hE
  have hd : decide ((4096 : Int) < (s.length : Int)) = false := by simp; omega
  clear h1 h2 hfit hE
  generalize mayRq (k : Int) ((a_s, a_p, a_n, (a_v0, a_l0), (a_v1, a_l1), (a_v2, a_l2), (a_v3, a_l3)) : Atm) = M at *
  obtain ⟨b3, hb3⟩ : ∃ b, Hid (b = (b2 || !s2.isEmpty)) := ⟨_, rfl⟩
  have hfin : (b2 || (!s2.isEmpty || !M)) = (b3 || !M) := by rw [hb3.out, Bool.or_assoc]
  rw [hfin]
  obtain ⟨V, hV⟩ : ∃ V : Value, Hid (V = if b3 || !M then .tuple #[.agg #[.int .i64 0, .string ⟨#[]⟩, .string ⟨#[]⟩, .int .i64 0, .bool false, .string ⟨#[]⟩, .bool false, .string ⟨#[]⟩, .bool false, .string ⟨#[]⟩, .bool false, .string ⟨#[]⟩], .int .i64 15] else .tuple #[.agg #[.int .i64 (k : Int), .string ⟨a_s.toArray⟩, .string ⟨a_p.toArray⟩, .int .i64 a_n, .bool a_v0, .string ⟨a_l0.toArray⟩, .bool a_v1, .string ⟨a_l1.toArray⟩, .bool a_v2, .string ⟨a_l2.toArray⟩, .bool a_v3, .string ⟨a_l3.toArray⟩], .int .i64 0]) := ⟨_, rfl⟩
  rw [← hV.out]
  have HPN : Hid ((b3 || !M) = true → Value.tuple #[.agg #[.int .i64 0, .string ⟨#[]⟩, .string ⟨#[]⟩, .int .i64 0, .bool false, .string ⟨#[]⟩, .bool false, .string ⟨#[]⟩, .bool false, .string ⟨#[]⟩, .bool false, .string ⟨#[]⟩], .int .i64 15] = V) := by
    intro h
    rw [hV.out, h]; rfl
  have HPY : Hid ((b3 || !M) = false → Value.tuple #[.agg #[.int .i64 (k : Int), .string ⟨a_s.toArray⟩, .string ⟨a_p.toArray⟩, .int .i64 a_n, .bool a_v0, .string ⟨a_l0.toArray⟩, .bool a_v1, .string ⟨a_l1.toArray⟩, .bool a_v2, .string ⟨a_l2.toArray⟩, .bool a_v3, .string ⟨a_l3.toArray⟩], .int .i64 0] = V) := by
    intro h
    rw [hV.out, h]; rfl
  clear hfin hV
  go_enter Tryz.func9, Tryz.ntmps9
  go_wp2_with fail
  refine (HO.out _ hR).mono ?_
  rintro e w1 ⟨rfl, hR1, hg1⟩
  have hS1 : Since w w1 := since_far hA hg1 (Nat.le_succ _)
  have hZ1 := hZ.grown hg1 (by simp)
  clear hA hZ hR hg1 hd
  go_wp2_with fail
  refine (HAT.out _ hR1 (HE.out.next hS1)).mono ?_
  rintro e w2 ⟨rfl, hR2, hg2⟩
  have hS2 : Since w w2 := since_far hS1 hg2 (Nat.le_succ _)
  have hZ2 := hZ1.grown hg2 (by simp)
  have hA2 : Since w2 (w2.alloc (.cells #[.int .i64 (k : Int), .string ⟨a_s.toArray⟩, .string ⟨a_p.toArray⟩, .int .i64 a_n, .bool a_v0, .string ⟨a_l0.toArray⟩, .bool a_v1, .string ⟨a_l1.toArray⟩, .bool a_v2, .string ⟨a_l2.toArray⟩, .bool a_v3, .string ⟨a_l3.toArray⟩] 28)) := (Since.refl _).alloc _
  have hB2 : Cel (w2.alloc (.cells #[.int .i64 (k : Int), .string ⟨a_s.toArray⟩, .string ⟨a_p.toArray⟩, .int .i64 a_n, .bool a_v0, .string ⟨a_l0.toArray⟩, .bool a_v1, .string ⟨a_l1.toArray⟩, .bool a_v2, .string ⟨a_l2.toArray⟩, .bool a_v3, .string ⟨a_l3.toArray⟩] 28)) w2.heap.size #[.int .i64 (k : Int), .string ⟨a_s.toArray⟩, .string ⟨a_p.toArray⟩, .int .i64 a_n, .bool a_v0, .string ⟨a_l0.toArray⟩, .bool a_v1, .string ⟨a_l1.toArray⟩, .bool a_v2, .string ⟨a_l2.toArray⟩, .bool a_v3, .string ⟨a_l3.toArray⟩] 28 := heap_alloc_new w2 _
  have hl2 := hR2.lt
  clear hS1 hZ1 hR1 hg2
  go_wp2_with fail
  refine (HEN.out _ (hR2.next hA2)).mono ?_
  rintro e w3 ⟨rfl, hR3, hg3⟩
  have hS3 : Since w w3 := since_far (hS2.trans hA2) hg3 (Nat.le_succ _)
  have hZ3 := (hZ2.next hA2).grown hg3 (by simp)
  have hB3 := hB2.grown hg3 (fun e => by injection e with e; omega)
  rw [← hb3.out] at hR3
  have hl3 := hR3.lt
  have hf3 := hR3.free
  have c1 := hR3.c1
  clear hb3 hS2 hZ2 hR2 hA2 hB2 hg3
  have HZ3 : Hid (w3.heap[w.heap.size]? = some (.cells #[.int .i64 0, .string ⟨#[]⟩, .string ⟨#[]⟩, .int .i64 0, .bool false, .string ⟨#[]⟩, .bool false, .string ⟨#[]⟩, .bool false, .string ⟨#[]⟩, .bool false, .string ⟨#[]⟩] 28 (0, 0))) := hZ3
  have hself : Hid (w3.setRow w.heap.size #[.int .i64 0, .string ⟨#[]⟩, .string ⟨#[]⟩, .int .i64 0, .bool false, .string ⟨#[]⟩, .bool false, .string ⟨#[]⟩, .bool false, .string ⟨#[]⟩, .bool false, .string ⟨#[]⟩] = w3) := setRow_self _ w.heap.size _ _ _ HZ3.out
  have honeZ : Hid ((#[.int .i64 0, .string ⟨#[]⟩, .string ⟨#[]⟩, .int .i64 0, .bool false, .string ⟨#[]⟩, .bool false, .string ⟨#[]⟩, .bool false, .string ⟨#[]⟩, .bool false, .string ⟨#[]⟩] : Array Value).all (·.oneCell') = true) := by show _ = _; simp [Value.oneCell']
  have honeK : Hid ((#[.int .i64 (k : Int), .string ⟨a_s.toArray⟩, .string ⟨a_p.toArray⟩, .int .i64 a_n, .bool a_v0, .string ⟨a_l0.toArray⟩, .bool a_v1, .string ⟨a_l1.toArray⟩, .bool a_v2, .string ⟨a_l2.toArray⟩, .bool a_v3, .string ⟨a_l3.toArray⟩] : Array Value).all (·.oneCell') = true) := by show _ = _; simp [Value.oneCell']
  cases b3
  case true =>
    simp only [if_true] at c1
    clear hB3 hZ3
    go_wp2_with ((refine wpList_store_row rfl 28 (.tmp 2) (.tmp 30) rfl w.heap.size #[.int .i64 0, .string ⟨#[]⟩, .string ⟨#[]⟩, .int .i64 0, .bool false, .string ⟨#[]⟩, .bool false, .string ⟨#[]⟩, .bool false, .string ⟨#[]⟩, .bool false, .string ⟨#[]⟩] rfl rfl 28 _ HZ3.out reqInfo rfl honeZ.out ?_); rw [hself.out])
    have hZZ : Cel w3 w.heap.size #[.int .i64 0, .string ⟨#[]⟩, .string ⟨#[]⟩, .int .i64 0, .bool false, .string ⟨#[]⟩, .bool false, .string ⟨#[]⟩, .bool false, .string ⟨#[]⟩, .bool false, .string ⟨#[]⟩] 28 := HZ3.out
    have e0 : w3.cell? ⟨w.heap.size, 0, none⟩ = some (.int .i64 0) := hZZ.cell 0
    have e1 : w3.cell? ⟨w.heap.size, 1, none⟩ = some (.string ⟨#[]⟩) := hZZ.cell 1
    have e2 : w3.cell? ⟨w.heap.size, 2, none⟩ = some (.string ⟨#[]⟩) := hZZ.cell 2
    have e3 : w3.cell? ⟨w.heap.size, 3, none⟩ = some (.int .i64 0) := hZZ.cell 3
    have e4 : w3.cell? ⟨w.heap.size, 4, none⟩ = some (.bool false) := hZZ.cell 4
    have e5 : w3.cell? ⟨w.heap.size, 5, none⟩ = some (.string ⟨#[]⟩) := hZZ.cell 5
    have e6 : w3.cell? ⟨w.heap.size, 6, none⟩ = some (.bool false) := hZZ.cell 6
    have e7 : w3.cell? ⟨w.heap.size, 7, none⟩ = some (.string ⟨#[]⟩) := hZZ.cell 7
    have e8 : w3.cell? ⟨w.heap.size, 8, none⟩ = some (.bool false) := hZZ.cell 8
    have e9 : w3.cell? ⟨w.heap.size, 9, none⟩ = some (.string ⟨#[]⟩) := hZZ.cell 9
    have e10 : w3.cell? ⟨w.heap.size, 10, none⟩ = some (.bool false) := hZZ.cell 10
    have e11 : w3.cell? ⟨w.heap.size, 11, none⟩ = some (.string ⟨#[]⟩) := hZZ.cell 11
    refine bodyPost_ret (v := .tuple #[.agg #[.int .i64 0, .string ⟨#[]⟩, .string ⟨#[]⟩, .int .i64 0, .bool false, .string ⟨#[]⟩, .bool false, .string ⟨#[]⟩, .bool false, .string ⟨#[]⟩, .bool false, .string ⟨#[]⟩], .int .i64 15]) (by simp [results, Tryz.results9, go_sem, e0, e1, e2, e3, e4, e5, e6, e7, e8, e9, e10, e11]) rfl ?_
    exact ⟨congrArg Ending.returned (HPN.out rfl), hS3⟩
  case false =>
    simp only [Bool.false_eq_true, if_false] at c1
    have HMW := Lib.hid (HM.out w3 (HE.out.next hS3))
    have d0 : w3.cell? ⟨w2.heap.size, 0, none⟩ = some (.int .i64 (k : Int)) := hB3.cell 0
    have d1 : w3.cell? ⟨w2.heap.size, 1, none⟩ = some (.string ⟨a_s.toArray⟩) := hB3.cell 1
    have d2 : w3.cell? ⟨w2.heap.size, 2, none⟩ = some (.string ⟨a_p.toArray⟩) := hB3.cell 2
    have d3 : w3.cell? ⟨w2.heap.size, 3, none⟩ = some (.int .i64 a_n) := hB3.cell 3
    have d4 : w3.cell? ⟨w2.heap.size, 4, none⟩ = some (.bool a_v0) := hB3.cell 4
    have d5 : w3.cell? ⟨w2.heap.size, 5, none⟩ = some (.string ⟨a_l0.toArray⟩) := hB3.cell 5
    have d6 : w3.cell? ⟨w2.heap.size, 6, none⟩ = some (.bool a_v1) := hB3.cell 6
    have d7 : w3.cell? ⟨w2.heap.size, 7, none⟩ = some (.string ⟨a_l1.toArray⟩) := hB3.cell 7
    have d8 : w3.cell? ⟨w2.heap.size, 8, none⟩ = some (.bool a_v2) := hB3.cell 8
    have d9 : w3.cell? ⟨w2.heap.size, 9, none⟩ = some (.string ⟨a_l2.toArray⟩) := hB3.cell 9
    have d10 : w3.cell? ⟨w2.heap.size, 10, none⟩ = some (.bool a_v3) := hB3.cell 10
    have d11 : w3.cell? ⟨w2.heap.size, 11, none⟩ = some (.string ⟨a_l3.toArray⟩) := hB3.cell 11
    cases M
    · have hZh := Lib.hid hZ3
      clear hZ3 hB3
      go_wp2_with fail
      refine HMW.out.mono ?_
      rintro e w4 ⟨rfl, hb⟩
      have hZ4 : Cel w4 w.heap.size #[.int .i64 0, .string ⟨#[]⟩, .string ⟨#[]⟩, .int .i64 0, .bool false, .string ⟨#[]⟩, .bool false, .string ⟨#[]⟩, .bool false, .string ⟨#[]⟩, .bool false, .string ⟨#[]⟩] 28 := hZh.out.next hb
      have HZ4 : Hid (w4.heap[w.heap.size]? = some (.cells #[.int .i64 0, .string ⟨#[]⟩, .string ⟨#[]⟩, .int .i64 0, .bool false, .string ⟨#[]⟩, .bool false, .string ⟨#[]⟩, .bool false, .string ⟨#[]⟩, .bool false, .string ⟨#[]⟩] 28 (0, 0))) := hZ4
      have hself4 : Hid (w4.setRow w.heap.size #[.int .i64 0, .string ⟨#[]⟩, .string ⟨#[]⟩, .int .i64 0, .bool false, .string ⟨#[]⟩, .bool false, .string ⟨#[]⟩, .bool false, .string ⟨#[]⟩, .bool false, .string ⟨#[]⟩] = w4) := setRow_self _ w.heap.size _ _ _ HZ4.out
      clear d0 d1 d2 d3 d4 d5 d6 d7 d8 d9 d10 d11 hZ4 hself
      go_wp2_with ((refine wpList_store_row rfl 28 (.tmp 2) (.tmp 30) rfl w.heap.size #[.int .i64 0, .string ⟨#[]⟩, .string ⟨#[]⟩, .int .i64 0, .bool false, .string ⟨#[]⟩, .bool false, .string ⟨#[]⟩, .bool false, .string ⟨#[]⟩, .bool false, .string ⟨#[]⟩] rfl rfl 28 _ HZ4.out reqInfo rfl honeZ.out ?_); rw [hself4.out])
      have hZZ : Cel w4 w.heap.size #[.int .i64 0, .string ⟨#[]⟩, .string ⟨#[]⟩, .int .i64 0, .bool false, .string ⟨#[]⟩, .bool false, .string ⟨#[]⟩, .bool false, .string ⟨#[]⟩, .bool false, .string ⟨#[]⟩] 28 := HZ4.out
      have e0 : w4.cell? ⟨w.heap.size, 0, none⟩ = some (.int .i64 0) := hZZ.cell 0
      have e1 : w4.cell? ⟨w.heap.size, 1, none⟩ = some (.string ⟨#[]⟩) := hZZ.cell 1
      have e2 : w4.cell? ⟨w.heap.size, 2, none⟩ = some (.string ⟨#[]⟩) := hZZ.cell 2
      have e3 : w4.cell? ⟨w.heap.size, 3, none⟩ = some (.int .i64 0) := hZZ.cell 3
      have e4 : w4.cell? ⟨w.heap.size, 4, none⟩ = some (.bool false) := hZZ.cell 4
      have e5 : w4.cell? ⟨w.heap.size, 5, none⟩ = some (.string ⟨#[]⟩) := hZZ.cell 5
      have e6 : w4.cell? ⟨w.heap.size, 6, none⟩ = some (.bool false) := hZZ.cell 6
      have e7 : w4.cell? ⟨w.heap.size, 7, none⟩ = some (.string ⟨#[]⟩) := hZZ.cell 7
      have e8 : w4.cell? ⟨w.heap.size, 8, none⟩ = some (.bool false) := hZZ.cell 8
      have e9 : w4.cell? ⟨w.heap.size, 9, none⟩ = some (.string ⟨#[]⟩) := hZZ.cell 9
      have e10 : w4.cell? ⟨w.heap.size, 10, none⟩ = some (.bool false) := hZZ.cell 10
      have e11 : w4.cell? ⟨w.heap.size, 11, none⟩ = some (.string ⟨#[]⟩) := hZZ.cell 11
      refine bodyPost_ret (v := .tuple #[.agg #[.int .i64 0, .string ⟨#[]⟩, .string ⟨#[]⟩, .int .i64 0, .bool false, .string ⟨#[]⟩, .bool false, .string ⟨#[]⟩, .bool false, .string ⟨#[]⟩, .bool false, .string ⟨#[]⟩], .int .i64 15]) (by simp [results, Tryz.results9, go_sem, e0, e1, e2, e3, e4, e5, e6, e7, e8, e9, e10, e11]) rfl ?_
      exact ⟨congrArg Ending.returned (HPN.out rfl), hS3.trans hb⟩
    · have hZh := Lib.hid hZ3
      have hBh := Lib.hid hB3
      clear hZ3 hB3
      go_wp2_with fail
      refine HMW.out.mono ?_
      rintro e w4 ⟨rfl, hb⟩
      have hZ4 : Cel w4 w.heap.size #[.int .i64 0, .string ⟨#[]⟩, .string ⟨#[]⟩, .int .i64 0, .bool false, .string ⟨#[]⟩, .bool false, .string ⟨#[]⟩, .bool false, .string ⟨#[]⟩, .bool false, .string ⟨#[]⟩] 28 := hZh.out.next hb
      have HZ4 : Hid (w4.heap[w.heap.size]? = some (.cells #[.int .i64 0, .string ⟨#[]⟩, .string ⟨#[]⟩, .int .i64 0, .bool false, .string ⟨#[]⟩, .bool false, .string ⟨#[]⟩, .bool false, .string ⟨#[]⟩, .bool false, .string ⟨#[]⟩] 28 (0, 0))) := hZ4
      have HB4 : Hid (w4.heap[w2.heap.size]? = some (.cells #[.int .i64 (k : Int), .string ⟨a_s.toArray⟩, .string ⟨a_p.toArray⟩, .int .i64 a_n, .bool a_v0, .string ⟨a_l0.toArray⟩, .bool a_v1, .string ⟨a_l1.toArray⟩, .bool a_v2, .string ⟨a_l2.toArray⟩, .bool a_v3, .string ⟨a_l3.toArray⟩] 28 (0, 0))) := hBh.out.next hb
      have hF4 := hZ4.row #[.int .i64 (k : Int), .string ⟨a_s.toArray⟩, .string ⟨a_p.toArray⟩, .int .i64 a_n, .bool a_v0, .string ⟨a_l0.toArray⟩, .bool a_v1, .string ⟨a_l1.toArray⟩, .bool a_v2, .string ⟨a_l2.toArray⟩, .bool a_v3, .string ⟨a_l3.toArray⟩]
      have HF4 := Lib.hid hF4
      have hS4 := since_row (hS3.trans hb) (Nat.le_refl _) #[.int .i64 (k : Int), .string ⟨a_s.toArray⟩, .string ⟨a_p.toArray⟩, .int .i64 a_n, .bool a_v0, .string ⟨a_l0.toArray⟩, .bool a_v1, .string ⟨a_l1.toArray⟩, .bool a_v2, .string ⟨a_l2.toArray⟩, .bool a_v3, .string ⟨a_l3.toArray⟩]
      clear d0 d1 d2 d3 d4 d5 d6 d7 d8 d9 d10 d11 hZ4 hF4
      go_wp2_with (first
        | (refine wpList_load_row rfl 28 (.tmp 5) rfl w2.heap.size rfl 28 #[.int .i64 (k : Int), .string ⟨a_s.toArray⟩, .string ⟨a_p.toArray⟩, .int .i64 a_n, .bool a_v0, .string ⟨a_l0.toArray⟩, .bool a_v1, .string ⟨a_l1.toArray⟩, .bool a_v2, .string ⟨a_l2.toArray⟩, .bool a_v3, .string ⟨a_l3.toArray⟩] (0, 0) _ HB4.out Tryz.underlying28 rfl reqInfo ?_)
        | (refine wpList_store_row rfl 28 (.tmp 2) (.tmp 31) rfl w.heap.size #[.int .i64 (k : Int), .string ⟨a_s.toArray⟩, .string ⟨a_p.toArray⟩, .int .i64 a_n, .bool a_v0, .string ⟨a_l0.toArray⟩, .bool a_v1, .string ⟨a_l1.toArray⟩, .bool a_v2, .string ⟨a_l2.toArray⟩, .bool a_v3, .string ⟨a_l3.toArray⟩] rfl rfl 28 _ HZ4.out reqInfo rfl honeK.out ?_))
      have e0 : (w4.setRow w.heap.size #[.int .i64 (k : Int), .string ⟨a_s.toArray⟩, .string ⟨a_p.toArray⟩, .int .i64 a_n, .bool a_v0, .string ⟨a_l0.toArray⟩, .bool a_v1, .string ⟨a_l1.toArray⟩, .bool a_v2, .string ⟨a_l2.toArray⟩, .bool a_v3, .string ⟨a_l3.toArray⟩]).cell? ⟨w.heap.size, 0, none⟩ = some (.int .i64 (k : Int)) := (HF4.out).cell 0
      have e1 : (w4.setRow w.heap.size #[.int .i64 (k : Int), .string ⟨a_s.toArray⟩, .string ⟨a_p.toArray⟩, .int .i64 a_n, .bool a_v0, .string ⟨a_l0.toArray⟩, .bool a_v1, .string ⟨a_l1.toArray⟩, .bool a_v2, .string ⟨a_l2.toArray⟩, .bool a_v3, .string ⟨a_l3.toArray⟩]).cell? ⟨w.heap.size, 1, none⟩ = some (.string ⟨a_s.toArray⟩) := (HF4.out).cell 1
      have e2 : (w4.setRow w.heap.size #[.int .i64 (k : Int), .string ⟨a_s.toArray⟩, .string ⟨a_p.toArray⟩, .int .i64 a_n, .bool a_v0, .string ⟨a_l0.toArray⟩, .bool a_v1, .string ⟨a_l1.toArray⟩, .bool a_v2, .string ⟨a_l2.toArray⟩, .bool a_v3, .string ⟨a_l3.toArray⟩]).cell? ⟨w.heap.size, 2, none⟩ = some (.string ⟨a_p.toArray⟩) := (HF4.out).cell 2
      have e3 : (w4.setRow w.heap.size #[.int .i64 (k : Int), .string ⟨a_s.toArray⟩, .string ⟨a_p.toArray⟩, .int .i64 a_n, .bool a_v0, .string ⟨a_l0.toArray⟩, .bool a_v1, .string ⟨a_l1.toArray⟩, .bool a_v2, .string ⟨a_l2.toArray⟩, .bool a_v3, .string ⟨a_l3.toArray⟩]).cell? ⟨w.heap.size, 3, none⟩ = some (.int .i64 a_n) := (HF4.out).cell 3
      have e4 : (w4.setRow w.heap.size #[.int .i64 (k : Int), .string ⟨a_s.toArray⟩, .string ⟨a_p.toArray⟩, .int .i64 a_n, .bool a_v0, .string ⟨a_l0.toArray⟩, .bool a_v1, .string ⟨a_l1.toArray⟩, .bool a_v2, .string ⟨a_l2.toArray⟩, .bool a_v3, .string ⟨a_l3.toArray⟩]).cell? ⟨w.heap.size, 4, none⟩ = some (.bool a_v0) := (HF4.out).cell 4
      have e5 : (w4.setRow w.heap.size #[.int .i64 (k : Int), .string ⟨a_s.toArray⟩, .string ⟨a_p.toArray⟩, .int .i64 a_n, .bool a_v0, .string ⟨a_l0.toArray⟩, .bool a_v1, .string ⟨a_l1.toArray⟩, .bool a_v2, .string ⟨a_l2.toArray⟩, .bool a_v3, .string ⟨a_l3.toArray⟩]).cell? ⟨w.heap.size, 5, none⟩ = some (.string ⟨a_l0.toArray⟩) := (HF4.out).cell 5
      have e6 : (w4.setRow w.heap.size #[.int .i64 (k : Int), .string ⟨a_s.toArray⟩, .string ⟨a_p.toArray⟩, .int .i64 a_n, .bool a_v0, .string ⟨a_l0.toArray⟩, .bool a_v1, .string ⟨a_l1.toArray⟩, .bool a_v2, .string ⟨a_l2.toArray⟩, .bool a_v3, .string ⟨a_l3.toArray⟩]).cell? ⟨w.heap.size, 6, none⟩ = some (.bool a_v1) := (HF4.out).cell 6
      have e7 : (w4.setRow w.heap.size #[.int .i64 (k : Int), .string ⟨a_s.toArray⟩, .string ⟨a_p.toArray⟩, .int .i64 a_n, .bool a_v0, .string ⟨a_l0.toArray⟩, .bool a_v1, .string ⟨a_l1.toArray⟩, .bool a_v2, .string ⟨a_l2.toArray⟩, .bool a_v3, .string ⟨a_l3.toArray⟩]).cell? ⟨w.heap.size, 7, none⟩ = some (.string ⟨a_l1.toArray⟩) := (HF4.out).cell 7
      have e8 : (w4.setRow w.heap.size #[.int .i64 (k : Int), .string ⟨a_s.toArray⟩, .string ⟨a_p.toArray⟩, .int .i64 a_n, .bool a_v0, .string ⟨a_l0.toArray⟩, .bool a_v1, .string ⟨a_l1.toArray⟩, .bool a_v2, .string ⟨a_l2.toArray⟩, .bool a_v3, .string ⟨a_l3.toArray⟩]).cell? ⟨w.heap.size, 8, none⟩ = some (.bool a_v2) := (HF4.out).cell 8
      have e9 : (w4.setRow w.heap.size #[.int .i64 (k : Int), .string ⟨a_s.toArray⟩, .string ⟨a_p.toArray⟩, .int .i64 a_n, .bool a_v0, .string ⟨a_l0.toArray⟩, .bool a_v1, .string ⟨a_l1.toArray⟩, .bool a_v2, .string ⟨a_l2.toArray⟩, .bool a_v3, .string ⟨a_l3.toArray⟩]).cell? ⟨w.heap.size, 9, none⟩ = some (.string ⟨a_l2.toArray⟩) := (HF4.out).cell 9
      have e10 : (w4.setRow w.heap.size #[.int .i64 (k : Int), .string ⟨a_s.toArray⟩, .string ⟨a_p.toArray⟩, .int .i64 a_n, .bool a_v0, .string ⟨a_l0.toArray⟩, .bool a_v1, .string ⟨a_l1.toArray⟩, .bool a_v2, .string ⟨a_l2.toArray⟩, .bool a_v3, .string ⟨a_l3.toArray⟩]).cell? ⟨w.heap.size, 10, none⟩ = some (.bool a_v3) := (HF4.out).cell 10
      have e11 : (w4.setRow w.heap.size #[.int .i64 (k : Int), .string ⟨a_s.toArray⟩, .string ⟨a_p.toArray⟩, .int .i64 a_n, .bool a_v0, .string ⟨a_l0.toArray⟩, .bool a_v1, .string ⟨a_l1.toArray⟩, .bool a_v2, .string ⟨a_l2.toArray⟩, .bool a_v3, .string ⟨a_l3.toArray⟩]).cell? ⟨w.heap.size, 11, none⟩ = some (.string ⟨a_l3.toArray⟩) := (HF4.out).cell 11
      refine bodyPost_ret (v := .tuple #[.agg #[.int .i64 (k : Int), .string ⟨a_s.toArray⟩, .string ⟨a_p.toArray⟩, .int .i64 a_n, .bool a_v0, .string ⟨a_l0.toArray⟩, .bool a_v1, .string ⟨a_l1.toArray⟩, .bool a_v2, .string ⟨a_l2.toArray⟩, .bool a_v3, .string ⟨a_l3.toArray⟩], .int .i64 0]) (by simp [results, Tryz.results9, go_sem, e0, e1, e2, e3, e4, e5, e6, e7, e8, e9, e10, e11]) rfl ?_
      exact ⟨congrArg Ending.returned (HPY.out rfl), hS4⟩
end Go.Proofs.YtkdeokgkjmboeaaGreatDoor
