/- FrameCut returns true at every two requests, two responses, cut and bytes, in every world in which the library's table strings.asciiSpace stands. -/
import Derived.Test.YtkdeokgkjmboeaaDoorFrBack
import Derived.Test.YtkdeokgkjmboeaaDoorFrN
namespace Go.Proofs.YtkdeokgkjmboeaaDoor
open Go.RowKit
attribute [local go_sem ↓] run_reqEq

set_option maxHeartbeats 16000000 in
set_option maxRecDepth 100000 in
theorem fcut_any (k l : Int) (a_s a_p : List UInt8) (a_n : Int) (a_v0 a_v1 a_v2 a_v3 : Bool) (a_l0 a_l1 a_l2 a_l3 : List UInt8) (b_s b_p : List UInt8) (b_n : Int) (b_v0 b_v1 b_v2 b_v3 : Bool) (b_l0 b_l1 b_l2 b_l3 : List UInt8) (code : Int) (ch : Bool) (v : Value) (L : List Atm) (ct : List UInt8) (code2 : Int) (ch2 : Bool) (v2 : Value) (M : List Atm) (ct2 : List UInt8) (cut : Int) (r : List UInt8) (w : World) (hE : Env w) (hv : AtmRow w v L) (hu : AtmRow w v2 M) (hFA : FitsA ((a_s, a_p, a_n, (a_v0, a_l0), (a_v1, a_l1), (a_v2, a_l2), (a_v3, a_l3)) : Atm)) (hFB : FitsA ((b_s, b_p, b_n, (b_v0, b_l0), (b_v1, b_l1), (b_v2, b_l2), (b_v3, b_l3)) : Atm)) (hFL : ∀ x ∈ L, FitsA x) (hFM : ∀ x ∈ M, FitsA x) (k1 : -9223372036854775808 ≤ cut) (k2 : cut ≤ 9223372036854775807) :
    Calls Tryd.prog 5 #[.agg #[.int .i64 k, .string ⟨a_s.toArray⟩, .string ⟨a_p.toArray⟩, .int .i64 a_n, .bool a_v0, .string ⟨a_l0.toArray⟩, .bool a_v1, .string ⟨a_l1.toArray⟩, .bool a_v2, .string ⟨a_l2.toArray⟩, .bool a_v3, .string ⟨a_l3.toArray⟩], .agg #[.int .i64 l, .string ⟨b_s.toArray⟩, .string ⟨b_p.toArray⟩, .int .i64 b_n, .bool b_v0, .string ⟨b_l0.toArray⟩, .bool b_v1, .string ⟨b_l1.toArray⟩, .bool b_v2, .string ⟨b_l2.toArray⟩, .bool b_v3, .string ⟨b_l3.toArray⟩], .agg #[.int .i64 code, .bool ch, v, .string ⟨ct.toArray⟩], .agg #[.int .i64 code2, .bool ch2, v2, .string ⟨ct2.toArray⟩], .int .i64 cut, .string ⟨r.toArray⟩] w fun e w' => e = .returned (.bool true) ∧ Since w w' := by
  obtain ⟨a1, c1, rfl⟩ := hv.form
  obtain ⟨a2, c2, rfl⟩ := hu.form
  have hA : Since w ((((w.alloc (.cells #[.int .i64 k, .string ⟨a_s.toArray⟩, .string ⟨a_p.toArray⟩, .int .i64 a_n, .bool a_v0, .string ⟨a_l0.toArray⟩, .bool a_v1, .string ⟨a_l1.toArray⟩, .bool a_v2, .string ⟨a_l2.toArray⟩, .bool a_v3, .string ⟨a_l3.toArray⟩] 28)).alloc (.cells #[.int .i64 l, .string ⟨b_s.toArray⟩, .string ⟨b_p.toArray⟩, .int .i64 b_n, .bool b_v0, .string ⟨b_l0.toArray⟩, .bool b_v1, .string ⟨b_l1.toArray⟩, .bool b_v2, .string ⟨b_l2.toArray⟩, .bool b_v3, .string ⟨b_l3.toArray⟩] 28)).alloc (.cells #[.int .i64 code, .bool ch, .slice a1 L.length c1, .string ⟨ct.toArray⟩] 32)).alloc (.cells #[.int .i64 code2, .bool ch2, .slice a2 M.length c2, .string ⟨ct2.toArray⟩] 32)) := ((((Since.refl _).alloc _).alloc _).alloc _).alloc _
  have S1 : Since (w.alloc (.cells #[.int .i64 k, .string ⟨a_s.toArray⟩, .string ⟨a_p.toArray⟩, .int .i64 a_n, .bool a_v0, .string ⟨a_l0.toArray⟩, .bool a_v1, .string ⟨a_l1.toArray⟩, .bool a_v2, .string ⟨a_l2.toArray⟩, .bool a_v3, .string ⟨a_l3.toArray⟩] 28)) ((((w.alloc (.cells #[.int .i64 k, .string ⟨a_s.toArray⟩, .string ⟨a_p.toArray⟩, .int .i64 a_n, .bool a_v0, .string ⟨a_l0.toArray⟩, .bool a_v1, .string ⟨a_l1.toArray⟩, .bool a_v2, .string ⟨a_l2.toArray⟩, .bool a_v3, .string ⟨a_l3.toArray⟩] 28)).alloc (.cells #[.int .i64 l, .string ⟨b_s.toArray⟩, .string ⟨b_p.toArray⟩, .int .i64 b_n, .bool b_v0, .string ⟨b_l0.toArray⟩, .bool b_v1, .string ⟨b_l1.toArray⟩, .bool b_v2, .string ⟨b_l2.toArray⟩, .bool b_v3, .string ⟨b_l3.toArray⟩] 28)).alloc (.cells #[.int .i64 code, .bool ch, .slice a1 L.length c1, .string ⟨ct.toArray⟩] 32)).alloc (.cells #[.int .i64 code2, .bool ch2, .slice a2 M.length c2, .string ⟨ct2.toArray⟩] 32)) := (((Since.refl _).alloc _).alloc _).alloc _
  have S2 : Since ((w.alloc (.cells #[.int .i64 k, .string ⟨a_s.toArray⟩, .string ⟨a_p.toArray⟩, .int .i64 a_n, .bool a_v0, .string ⟨a_l0.toArray⟩, .bool a_v1, .string ⟨a_l1.toArray⟩, .bool a_v2, .string ⟨a_l2.toArray⟩, .bool a_v3, .string ⟨a_l3.toArray⟩] 28)).alloc (.cells #[.int .i64 l, .string ⟨b_s.toArray⟩, .string ⟨b_p.toArray⟩, .int .i64 b_n, .bool b_v0, .string ⟨b_l0.toArray⟩, .bool b_v1, .string ⟨b_l1.toArray⟩, .bool b_v2, .string ⟨b_l2.toArray⟩, .bool b_v3, .string ⟨b_l3.toArray⟩] 28)) ((((w.alloc (.cells #[.int .i64 k, .string ⟨a_s.toArray⟩, .string ⟨a_p.toArray⟩, .int .i64 a_n, .bool a_v0, .string ⟨a_l0.toArray⟩, .bool a_v1, .string ⟨a_l1.toArray⟩, .bool a_v2, .string ⟨a_l2.toArray⟩, .bool a_v3, .string ⟨a_l3.toArray⟩] 28)).alloc (.cells #[.int .i64 l, .string ⟨b_s.toArray⟩, .string ⟨b_p.toArray⟩, .int .i64 b_n, .bool b_v0, .string ⟨b_l0.toArray⟩, .bool b_v1, .string ⟨b_l1.toArray⟩, .bool b_v2, .string ⟨b_l2.toArray⟩, .bool b_v3, .string ⟨b_l3.toArray⟩] 28)).alloc (.cells #[.int .i64 code, .bool ch, .slice a1 L.length c1, .string ⟨ct.toArray⟩] 32)).alloc (.cells #[.int .i64 code2, .bool ch2, .slice a2 M.length c2, .string ⟨ct2.toArray⟩] 32)) := ((Since.refl _).alloc _).alloc _
  have S3 : Since (((w.alloc (.cells #[.int .i64 k, .string ⟨a_s.toArray⟩, .string ⟨a_p.toArray⟩, .int .i64 a_n, .bool a_v0, .string ⟨a_l0.toArray⟩, .bool a_v1, .string ⟨a_l1.toArray⟩, .bool a_v2, .string ⟨a_l2.toArray⟩, .bool a_v3, .string ⟨a_l3.toArray⟩] 28)).alloc (.cells #[.int .i64 l, .string ⟨b_s.toArray⟩, .string ⟨b_p.toArray⟩, .int .i64 b_n, .bool b_v0, .string ⟨b_l0.toArray⟩, .bool b_v1, .string ⟨b_l1.toArray⟩, .bool b_v2, .string ⟨b_l2.toArray⟩, .bool b_v3, .string ⟨b_l3.toArray⟩] 28)).alloc (.cells #[.int .i64 code, .bool ch, .slice a1 L.length c1, .string ⟨ct.toArray⟩] 32)) ((((w.alloc (.cells #[.int .i64 k, .string ⟨a_s.toArray⟩, .string ⟨a_p.toArray⟩, .int .i64 a_n, .bool a_v0, .string ⟨a_l0.toArray⟩, .bool a_v1, .string ⟨a_l1.toArray⟩, .bool a_v2, .string ⟨a_l2.toArray⟩, .bool a_v3, .string ⟨a_l3.toArray⟩] 28)).alloc (.cells #[.int .i64 l, .string ⟨b_s.toArray⟩, .string ⟨b_p.toArray⟩, .int .i64 b_n, .bool b_v0, .string ⟨b_l0.toArray⟩, .bool b_v1, .string ⟨b_l1.toArray⟩, .bool b_v2, .string ⟨b_l2.toArray⟩, .bool b_v3, .string ⟨b_l3.toArray⟩] 28)).alloc (.cells #[.int .i64 code, .bool ch, .slice a1 L.length c1, .string ⟨ct.toArray⟩] 32)).alloc (.cells #[.int .i64 code2, .bool ch2, .slice a2 M.length c2, .string ⟨ct2.toArray⟩] 32)) := (Since.refl _).alloc _
  have HP : Hid (Cel ((((w.alloc (.cells #[.int .i64 k, .string ⟨a_s.toArray⟩, .string ⟨a_p.toArray⟩, .int .i64 a_n, .bool a_v0, .string ⟨a_l0.toArray⟩, .bool a_v1, .string ⟨a_l1.toArray⟩, .bool a_v2, .string ⟨a_l2.toArray⟩, .bool a_v3, .string ⟨a_l3.toArray⟩] 28)).alloc (.cells #[.int .i64 l, .string ⟨b_s.toArray⟩, .string ⟨b_p.toArray⟩, .int .i64 b_n, .bool b_v0, .string ⟨b_l0.toArray⟩, .bool b_v1, .string ⟨b_l1.toArray⟩, .bool b_v2, .string ⟨b_l2.toArray⟩, .bool b_v3, .string ⟨b_l3.toArray⟩] 28)).alloc (.cells #[.int .i64 code, .bool ch, .slice a1 L.length c1, .string ⟨ct.toArray⟩] 32)).alloc (.cells #[.int .i64 code2, .bool ch2, .slice a2 M.length c2, .string ⟨ct2.toArray⟩] 32)) w.heap.size #[.int .i64 k, .string ⟨a_s.toArray⟩, .string ⟨a_p.toArray⟩, .int .i64 a_n, .bool a_v0, .string ⟨a_l0.toArray⟩, .bool a_v1, .string ⟨a_l1.toArray⟩, .bool a_v2, .string ⟨a_l2.toArray⟩, .bool a_v3, .string ⟨a_l3.toArray⟩] 28) := Cel.next (W := (w.alloc (.cells #[.int .i64 k, .string ⟨a_s.toArray⟩, .string ⟨a_p.toArray⟩, .int .i64 a_n, .bool a_v0, .string ⟨a_l0.toArray⟩, .bool a_v1, .string ⟨a_l1.toArray⟩, .bool a_v2, .string ⟨a_l2.toArray⟩, .bool a_v3, .string ⟨a_l3.toArray⟩] 28))) (heap_alloc_new w _) S1
  have HQ : Hid (Cel ((((w.alloc (.cells #[.int .i64 k, .string ⟨a_s.toArray⟩, .string ⟨a_p.toArray⟩, .int .i64 a_n, .bool a_v0, .string ⟨a_l0.toArray⟩, .bool a_v1, .string ⟨a_l1.toArray⟩, .bool a_v2, .string ⟨a_l2.toArray⟩, .bool a_v3, .string ⟨a_l3.toArray⟩] 28)).alloc (.cells #[.int .i64 l, .string ⟨b_s.toArray⟩, .string ⟨b_p.toArray⟩, .int .i64 b_n, .bool b_v0, .string ⟨b_l0.toArray⟩, .bool b_v1, .string ⟨b_l1.toArray⟩, .bool b_v2, .string ⟨b_l2.toArray⟩, .bool b_v3, .string ⟨b_l3.toArray⟩] 28)).alloc (.cells #[.int .i64 code, .bool ch, .slice a1 L.length c1, .string ⟨ct.toArray⟩] 32)).alloc (.cells #[.int .i64 code2, .bool ch2, .slice a2 M.length c2, .string ⟨ct2.toArray⟩] 32)) (w.heap.size + 1) #[.int .i64 l, .string ⟨b_s.toArray⟩, .string ⟨b_p.toArray⟩, .int .i64 b_n, .bool b_v0, .string ⟨b_l0.toArray⟩, .bool b_v1, .string ⟨b_l1.toArray⟩, .bool b_v2, .string ⟨b_l2.toArray⟩, .bool b_v3, .string ⟨b_l3.toArray⟩] 28) := by
    have h := heap_alloc_new (w.alloc (.cells #[.int .i64 k, .string ⟨a_s.toArray⟩, .string ⟨a_p.toArray⟩, .int .i64 a_n, .bool a_v0, .string ⟨a_l0.toArray⟩, .bool a_v1, .string ⟨a_l1.toArray⟩, .bool a_v2, .string ⟨a_l2.toArray⟩, .bool a_v3, .string ⟨a_l3.toArray⟩] 28)) (.cells #[.int .i64 l, .string ⟨b_s.toArray⟩, .string ⟨b_p.toArray⟩, .int .i64 b_n, .bool b_v0, .string ⟨b_l0.toArray⟩, .bool b_v1, .string ⟨b_l1.toArray⟩, .bool b_v2, .string ⟨b_l2.toArray⟩, .bool b_v3, .string ⟨b_l3.toArray⟩] 28)
    simp only [World.size_alloc] at h
    exact Cel.next (W := ((w.alloc (.cells #[.int .i64 k, .string ⟨a_s.toArray⟩, .string ⟨a_p.toArray⟩, .int .i64 a_n, .bool a_v0, .string ⟨a_l0.toArray⟩, .bool a_v1, .string ⟨a_l1.toArray⟩, .bool a_v2, .string ⟨a_l2.toArray⟩, .bool a_v3, .string ⟨a_l3.toArray⟩] 28)).alloc (.cells #[.int .i64 l, .string ⟨b_s.toArray⟩, .string ⟨b_p.toArray⟩, .int .i64 b_n, .bool b_v0, .string ⟨b_l0.toArray⟩, .bool b_v1, .string ⟨b_l1.toArray⟩, .bool b_v2, .string ⟨b_l2.toArray⟩, .bool b_v3, .string ⟨b_l3.toArray⟩] 28))) h S2
  have HX : Hid (Cel ((((w.alloc (.cells #[.int .i64 k, .string ⟨a_s.toArray⟩, .string ⟨a_p.toArray⟩, .int .i64 a_n, .bool a_v0, .string ⟨a_l0.toArray⟩, .bool a_v1, .string ⟨a_l1.toArray⟩, .bool a_v2, .string ⟨a_l2.toArray⟩, .bool a_v3, .string ⟨a_l3.toArray⟩] 28)).alloc (.cells #[.int .i64 l, .string ⟨b_s.toArray⟩, .string ⟨b_p.toArray⟩, .int .i64 b_n, .bool b_v0, .string ⟨b_l0.toArray⟩, .bool b_v1, .string ⟨b_l1.toArray⟩, .bool b_v2, .string ⟨b_l2.toArray⟩, .bool b_v3, .string ⟨b_l3.toArray⟩] 28)).alloc (.cells #[.int .i64 code, .bool ch, .slice a1 L.length c1, .string ⟨ct.toArray⟩] 32)).alloc (.cells #[.int .i64 code2, .bool ch2, .slice a2 M.length c2, .string ⟨ct2.toArray⟩] 32)) (w.heap.size + 1 + 1) #[.int .i64 code, .bool ch, .slice a1 L.length c1, .string ⟨ct.toArray⟩] 32) := by
    have h := heap_alloc_new ((w.alloc (.cells #[.int .i64 k, .string ⟨a_s.toArray⟩, .string ⟨a_p.toArray⟩, .int .i64 a_n, .bool a_v0, .string ⟨a_l0.toArray⟩, .bool a_v1, .string ⟨a_l1.toArray⟩, .bool a_v2, .string ⟨a_l2.toArray⟩, .bool a_v3, .string ⟨a_l3.toArray⟩] 28)).alloc (.cells #[.int .i64 l, .string ⟨b_s.toArray⟩, .string ⟨b_p.toArray⟩, .int .i64 b_n, .bool b_v0, .string ⟨b_l0.toArray⟩, .bool b_v1, .string ⟨b_l1.toArray⟩, .bool b_v2, .string ⟨b_l2.toArray⟩, .bool b_v3, .string ⟨b_l3.toArray⟩] 28)) (.cells #[.int .i64 code, .bool ch, .slice a1 L.length c1, .string ⟨ct.toArray⟩] 32)
    simp only [World.size_alloc] at h
    exact Cel.next (W := (((w.alloc (.cells #[.int .i64 k, .string ⟨a_s.toArray⟩, .string ⟨a_p.toArray⟩, .int .i64 a_n, .bool a_v0, .string ⟨a_l0.toArray⟩, .bool a_v1, .string ⟨a_l1.toArray⟩, .bool a_v2, .string ⟨a_l2.toArray⟩, .bool a_v3, .string ⟨a_l3.toArray⟩] 28)).alloc (.cells #[.int .i64 l, .string ⟨b_s.toArray⟩, .string ⟨b_p.toArray⟩, .int .i64 b_n, .bool b_v0, .string ⟨b_l0.toArray⟩, .bool b_v1, .string ⟨b_l1.toArray⟩, .bool b_v2, .string ⟨b_l2.toArray⟩, .bool b_v3, .string ⟨b_l3.toArray⟩] 28)).alloc (.cells #[.int .i64 code, .bool ch, .slice a1 L.length c1, .string ⟨ct.toArray⟩] 32))) h S3
  have HY : Hid (Cel ((((w.alloc (.cells #[.int .i64 k, .string ⟨a_s.toArray⟩, .string ⟨a_p.toArray⟩, .int .i64 a_n, .bool a_v0, .string ⟨a_l0.toArray⟩, .bool a_v1, .string ⟨a_l1.toArray⟩, .bool a_v2, .string ⟨a_l2.toArray⟩, .bool a_v3, .string ⟨a_l3.toArray⟩] 28)).alloc (.cells #[.int .i64 l, .string ⟨b_s.toArray⟩, .string ⟨b_p.toArray⟩, .int .i64 b_n, .bool b_v0, .string ⟨b_l0.toArray⟩, .bool b_v1, .string ⟨b_l1.toArray⟩, .bool b_v2, .string ⟨b_l2.toArray⟩, .bool b_v3, .string ⟨b_l3.toArray⟩] 28)).alloc (.cells #[.int .i64 code, .bool ch, .slice a1 L.length c1, .string ⟨ct.toArray⟩] 32)).alloc (.cells #[.int .i64 code2, .bool ch2, .slice a2 M.length c2, .string ⟨ct2.toArray⟩] 32)) (w.heap.size + 1 + 1 + 1) #[.int .i64 code2, .bool ch2, .slice a2 M.length c2, .string ⟨ct2.toArray⟩] 32) := by
    have h := heap_alloc_new (((w.alloc (.cells #[.int .i64 k, .string ⟨a_s.toArray⟩, .string ⟨a_p.toArray⟩, .int .i64 a_n, .bool a_v0, .string ⟨a_l0.toArray⟩, .bool a_v1, .string ⟨a_l1.toArray⟩, .bool a_v2, .string ⟨a_l2.toArray⟩, .bool a_v3, .string ⟨a_l3.toArray⟩] 28)).alloc (.cells #[.int .i64 l, .string ⟨b_s.toArray⟩, .string ⟨b_p.toArray⟩, .int .i64 b_n, .bool b_v0, .string ⟨b_l0.toArray⟩, .bool b_v1, .string ⟨b_l1.toArray⟩, .bool b_v2, .string ⟨b_l2.toArray⟩, .bool b_v3, .string ⟨b_l3.toArray⟩] 28)).alloc (.cells #[.int .i64 code, .bool ch, .slice a1 L.length c1, .string ⟨ct.toArray⟩] 32)) (.cells #[.int .i64 code2, .bool ch2, .slice a2 M.length c2, .string ⟨ct2.toArray⟩] 32)
    simp only [World.size_alloc] at h
    exact h
  have hS := Since.refl ((((w.alloc (.cells #[.int .i64 k, .string ⟨a_s.toArray⟩, .string ⟨a_p.toArray⟩, .int .i64 a_n, .bool a_v0, .string ⟨a_l0.toArray⟩, .bool a_v1, .string ⟨a_l1.toArray⟩, .bool a_v2, .string ⟨a_l2.toArray⟩, .bool a_v3, .string ⟨a_l3.toArray⟩] 28)).alloc (.cells #[.int .i64 l, .string ⟨b_s.toArray⟩, .string ⟨b_p.toArray⟩, .int .i64 b_n, .bool b_v0, .string ⟨b_l0.toArray⟩, .bool b_v1, .string ⟨b_l1.toArray⟩, .bool b_v2, .string ⟨b_l2.toArray⟩, .bool b_v3, .string ⟨b_l3.toArray⟩] 28)).alloc (.cells #[.int .i64 code, .bool ch, .slice a1 L.length c1, .string ⟨ct.toArray⟩] 32)).alloc (.cells #[.int .i64 code2, .bool ch2, .slice a2 M.length c2, .string ⟨ct2.toArray⟩] 32))
  have HE := Lib.hid (hE.next hA)
  have HV := Lib.hid (hv.next hA)
  have HU := Lib.hid (hu.next hA)
  have HLA := Lib.hid (fun W => light_any a_s a_p a_n a_v0 a_v1 a_v2 a_v3 a_l0 a_l1 a_l2 a_l3 W)
  have HLB := Lib.hid (fun W => light_any b_s b_p b_n b_v0 b_v1 b_v2 b_v3 b_l0 b_l1 b_l2 b_l3 W)
  have HLX := Lib.hid (fun W hv => lightAs_any (.slice a1 L.length c1) L W hv)
  have HLY := Lib.hid (fun W hv => lightAs_any (.slice a2 M.length c2) M W hv)
  obtain ⟨p0, p1, p2, p3, p4, p5, p6, p7, p8, p9, p10, p11⟩ := (HP.out.next hS).rq
  obtain ⟨q0, q1, q2, q3, q4, q5, q6, q7, q8, q9, q10, q11⟩ := (HQ.out.next hS).rq
  obtain ⟨x0, x1, x2, x3⟩ := (HX.out.next hS).rs
  obtain ⟨y0, y1, y2, y3⟩ := (HY.out.next hS).rs
  clear hE hv hu S1 S2 S3
  cases hla : lightB ((a_s, a_p, a_n, (a_v0, a_l0), (a_v1, a_l1), (a_v2, a_l2), (a_v3, a_l3)) : Atm)
  · rw [hla] at HLA
    go_enter Tryd.func5, Tryd.ntmps5
    go_wp2_with fail
    refine (lives24_any _ (HE.out.next hS)).mono ?_
    rintro e w1 ⟨rfl, hb⟩
    replace hS := hS.trans hb
    try clear hb
    try clear p0 p1 p2 p3 p4 p5 p6 p7 p8 p9 p10 p11
    try clear q0 q1 q2 q3 q4 q5 q6 q7 q8 q9 q10 q11
    try clear x0 x1 x2 x3
    try clear y0 y1 y2 y3
    obtain ⟨p0, p1, p2, p3, p4, p5, p6, p7, p8, p9, p10, p11⟩ := (HP.out.next hS).rq
    obtain ⟨q0, q1, q2, q3, q4, q5, q6, q7, q8, q9, q10, q11⟩ := (HQ.out.next hS).rq
    obtain ⟨x0, x1, x2, x3⟩ := (HX.out.next hS).rs
    obtain ⟨y0, y1, y2, y3⟩ := (HY.out.next hS).rs
    go_wp2_with fail
    refine (HLA.out _).mono ?_
    rintro e w2 ⟨rfl, hb⟩
    replace hS := hS.trans hb
    try clear hb
    try clear p0 p1 p2 p3 p4 p5 p6 p7 p8 p9 p10 p11
    try clear q0 q1 q2 q3 q4 q5 q6 q7 q8 q9 q10 q11
    try clear x0 x1 x2 x3
    try clear y0 y1 y2 y3
    obtain ⟨p0, p1, p2, p3, p4, p5, p6, p7, p8, p9, p10, p11⟩ := (HP.out.next hS).rq
    obtain ⟨q0, q1, q2, q3, q4, q5, q6, q7, q8, q9, q10, q11⟩ := (HQ.out.next hS).rq
    obtain ⟨x0, x1, x2, x3⟩ := (HX.out.next hS).rs
    obtain ⟨y0, y1, y2, y3⟩ := (HY.out.next hS).rs
    go_wp2_with fail
    go_ret
    exact ⟨rfl, hA.trans hS⟩
  rw [hla] at HLA
  cases hlb : lightB ((b_s, b_p, b_n, (b_v0, b_l0), (b_v1, b_l1), (b_v2, b_l2), (b_v3, b_l3)) : Atm)
  · rw [hlb] at HLB
    go_enter Tryd.func5, Tryd.ntmps5
    go_wp2_with fail
    refine (lives24_any _ (HE.out.next hS)).mono ?_
    rintro e w1 ⟨rfl, hb⟩
    replace hS := hS.trans hb
    try clear hb
    try clear p0 p1 p2 p3 p4 p5 p6 p7 p8 p9 p10 p11
    try clear q0 q1 q2 q3 q4 q5 q6 q7 q8 q9 q10 q11
    try clear x0 x1 x2 x3
    try clear y0 y1 y2 y3
    obtain ⟨p0, p1, p2, p3, p4, p5, p6, p7, p8, p9, p10, p11⟩ := (HP.out.next hS).rq
    obtain ⟨q0, q1, q2, q3, q4, q5, q6, q7, q8, q9, q10, q11⟩ := (HQ.out.next hS).rq
    obtain ⟨x0, x1, x2, x3⟩ := (HX.out.next hS).rs
    obtain ⟨y0, y1, y2, y3⟩ := (HY.out.next hS).rs
    go_wp2_with fail
    refine (HLA.out _).mono ?_
    rintro e w2 ⟨rfl, hb⟩
    replace hS := hS.trans hb
    try clear hb
    try clear p0 p1 p2 p3 p4 p5 p6 p7 p8 p9 p10 p11
    try clear q0 q1 q2 q3 q4 q5 q6 q7 q8 q9 q10 q11
    try clear x0 x1 x2 x3
    try clear y0 y1 y2 y3
    obtain ⟨p0, p1, p2, p3, p4, p5, p6, p7, p8, p9, p10, p11⟩ := (HP.out.next hS).rq
    obtain ⟨q0, q1, q2, q3, q4, q5, q6, q7, q8, q9, q10, q11⟩ := (HQ.out.next hS).rq
    obtain ⟨x0, x1, x2, x3⟩ := (HX.out.next hS).rs
    obtain ⟨y0, y1, y2, y3⟩ := (HY.out.next hS).rs
    go_wp2_with fail
    refine (HLB.out _).mono ?_
    rintro e w3 ⟨rfl, hb⟩
    replace hS := hS.trans hb
    try clear hb
    try clear p0 p1 p2 p3 p4 p5 p6 p7 p8 p9 p10 p11
    try clear q0 q1 q2 q3 q4 q5 q6 q7 q8 q9 q10 q11
    try clear x0 x1 x2 x3
    try clear y0 y1 y2 y3
    obtain ⟨p0, p1, p2, p3, p4, p5, p6, p7, p8, p9, p10, p11⟩ := (HP.out.next hS).rq
    obtain ⟨q0, q1, q2, q3, q4, q5, q6, q7, q8, q9, q10, q11⟩ := (HQ.out.next hS).rq
    obtain ⟨x0, x1, x2, x3⟩ := (HX.out.next hS).rs
    obtain ⟨y0, y1, y2, y3⟩ := (HY.out.next hS).rs
    go_wp2_with fail
    go_ret
    exact ⟨rfl, hA.trans hS⟩
  rw [hlb] at HLB
  cases hlx : lightAs 20 L
  · rw [hlx] at HLX
    go_enter Tryd.func5, Tryd.ntmps5
    go_wp2_with fail
    refine (lives24_any _ (HE.out.next hS)).mono ?_
    rintro e w1 ⟨rfl, hb⟩
    replace hS := hS.trans hb
    try clear hb
    try clear p0 p1 p2 p3 p4 p5 p6 p7 p8 p9 p10 p11
    try clear q0 q1 q2 q3 q4 q5 q6 q7 q8 q9 q10 q11
    try clear x0 x1 x2 x3
    try clear y0 y1 y2 y3
    obtain ⟨p0, p1, p2, p3, p4, p5, p6, p7, p8, p9, p10, p11⟩ := (HP.out.next hS).rq
    obtain ⟨q0, q1, q2, q3, q4, q5, q6, q7, q8, q9, q10, q11⟩ := (HQ.out.next hS).rq
    obtain ⟨x0, x1, x2, x3⟩ := (HX.out.next hS).rs
    obtain ⟨y0, y1, y2, y3⟩ := (HY.out.next hS).rs
    go_wp2_with fail
    refine (HLA.out _).mono ?_
    rintro e w2 ⟨rfl, hb⟩
    replace hS := hS.trans hb
    try clear hb
    try clear p0 p1 p2 p3 p4 p5 p6 p7 p8 p9 p10 p11
    try clear q0 q1 q2 q3 q4 q5 q6 q7 q8 q9 q10 q11
    try clear x0 x1 x2 x3
    try clear y0 y1 y2 y3
    obtain ⟨p0, p1, p2, p3, p4, p5, p6, p7, p8, p9, p10, p11⟩ := (HP.out.next hS).rq
    obtain ⟨q0, q1, q2, q3, q4, q5, q6, q7, q8, q9, q10, q11⟩ := (HQ.out.next hS).rq
    obtain ⟨x0, x1, x2, x3⟩ := (HX.out.next hS).rs
    obtain ⟨y0, y1, y2, y3⟩ := (HY.out.next hS).rs
    go_wp2_with fail
    refine (HLB.out _).mono ?_
    rintro e w3 ⟨rfl, hb⟩
    replace hS := hS.trans hb
    try clear hb
    try clear p0 p1 p2 p3 p4 p5 p6 p7 p8 p9 p10 p11
    try clear q0 q1 q2 q3 q4 q5 q6 q7 q8 q9 q10 q11
    try clear x0 x1 x2 x3
    try clear y0 y1 y2 y3
    obtain ⟨p0, p1, p2, p3, p4, p5, p6, p7, p8, p9, p10, p11⟩ := (HP.out.next hS).rq
    obtain ⟨q0, q1, q2, q3, q4, q5, q6, q7, q8, q9, q10, q11⟩ := (HQ.out.next hS).rq
    obtain ⟨x0, x1, x2, x3⟩ := (HX.out.next hS).rs
    obtain ⟨y0, y1, y2, y3⟩ := (HY.out.next hS).rs
    go_wp2_with fail
    refine (HLX.out _ (HV.out.next hS)).mono ?_
    rintro e w4 ⟨rfl, hb⟩
    replace hS := hS.trans hb
    try clear hb
    try clear p0 p1 p2 p3 p4 p5 p6 p7 p8 p9 p10 p11
    try clear q0 q1 q2 q3 q4 q5 q6 q7 q8 q9 q10 q11
    try clear x0 x1 x2 x3
    try clear y0 y1 y2 y3
    obtain ⟨p0, p1, p2, p3, p4, p5, p6, p7, p8, p9, p10, p11⟩ := (HP.out.next hS).rq
    obtain ⟨q0, q1, q2, q3, q4, q5, q6, q7, q8, q9, q10, q11⟩ := (HQ.out.next hS).rq
    obtain ⟨x0, x1, x2, x3⟩ := (HX.out.next hS).rs
    obtain ⟨y0, y1, y2, y3⟩ := (HY.out.next hS).rs
    go_wp2_with fail
    go_ret
    exact ⟨rfl, hA.trans hS⟩
  rw [hlx] at HLX
  cases hly : lightAs 20 M
  · rw [hly] at HLY
    go_enter Tryd.func5, Tryd.ntmps5
    go_wp2_with fail
    refine (lives24_any _ (HE.out.next hS)).mono ?_
    rintro e w1 ⟨rfl, hb⟩
    replace hS := hS.trans hb
    try clear hb
    try clear p0 p1 p2 p3 p4 p5 p6 p7 p8 p9 p10 p11
    try clear q0 q1 q2 q3 q4 q5 q6 q7 q8 q9 q10 q11
    try clear x0 x1 x2 x3
    try clear y0 y1 y2 y3
    obtain ⟨p0, p1, p2, p3, p4, p5, p6, p7, p8, p9, p10, p11⟩ := (HP.out.next hS).rq
    obtain ⟨q0, q1, q2, q3, q4, q5, q6, q7, q8, q9, q10, q11⟩ := (HQ.out.next hS).rq
    obtain ⟨x0, x1, x2, x3⟩ := (HX.out.next hS).rs
    obtain ⟨y0, y1, y2, y3⟩ := (HY.out.next hS).rs
    go_wp2_with fail
    refine (HLA.out _).mono ?_
    rintro e w2 ⟨rfl, hb⟩
    replace hS := hS.trans hb
    try clear hb
    try clear p0 p1 p2 p3 p4 p5 p6 p7 p8 p9 p10 p11
    try clear q0 q1 q2 q3 q4 q5 q6 q7 q8 q9 q10 q11
    try clear x0 x1 x2 x3
    try clear y0 y1 y2 y3
    obtain ⟨p0, p1, p2, p3, p4, p5, p6, p7, p8, p9, p10, p11⟩ := (HP.out.next hS).rq
    obtain ⟨q0, q1, q2, q3, q4, q5, q6, q7, q8, q9, q10, q11⟩ := (HQ.out.next hS).rq
    obtain ⟨x0, x1, x2, x3⟩ := (HX.out.next hS).rs
    obtain ⟨y0, y1, y2, y3⟩ := (HY.out.next hS).rs
    go_wp2_with fail
    refine (HLB.out _).mono ?_
    rintro e w3 ⟨rfl, hb⟩
    replace hS := hS.trans hb
    try clear hb
    try clear p0 p1 p2 p3 p4 p5 p6 p7 p8 p9 p10 p11
    try clear q0 q1 q2 q3 q4 q5 q6 q7 q8 q9 q10 q11
    try clear x0 x1 x2 x3
    try clear y0 y1 y2 y3
    obtain ⟨p0, p1, p2, p3, p4, p5, p6, p7, p8, p9, p10, p11⟩ := (HP.out.next hS).rq
    obtain ⟨q0, q1, q2, q3, q4, q5, q6, q7, q8, q9, q10, q11⟩ := (HQ.out.next hS).rq
    obtain ⟨x0, x1, x2, x3⟩ := (HX.out.next hS).rs
    obtain ⟨y0, y1, y2, y3⟩ := (HY.out.next hS).rs
    go_wp2_with fail
    refine (HLX.out _ (HV.out.next hS)).mono ?_
    rintro e w4 ⟨rfl, hb⟩
    replace hS := hS.trans hb
    try clear hb
    try clear p0 p1 p2 p3 p4 p5 p6 p7 p8 p9 p10 p11
    try clear q0 q1 q2 q3 q4 q5 q6 q7 q8 q9 q10 q11
    try clear x0 x1 x2 x3
    try clear y0 y1 y2 y3
    obtain ⟨p0, p1, p2, p3, p4, p5, p6, p7, p8, p9, p10, p11⟩ := (HP.out.next hS).rq
    obtain ⟨q0, q1, q2, q3, q4, q5, q6, q7, q8, q9, q10, q11⟩ := (HQ.out.next hS).rq
    obtain ⟨x0, x1, x2, x3⟩ := (HX.out.next hS).rs
    obtain ⟨y0, y1, y2, y3⟩ := (HY.out.next hS).rs
    go_wp2_with fail
    refine (HLY.out _ (HU.out.next hS)).mono ?_
    rintro e w5 ⟨rfl, hb⟩
    replace hS := hS.trans hb
    try clear hb
    try clear p0 p1 p2 p3 p4 p5 p6 p7 p8 p9 p10 p11
    try clear q0 q1 q2 q3 q4 q5 q6 q7 q8 q9 q10 q11
    try clear x0 x1 x2 x3
    try clear y0 y1 y2 y3
    obtain ⟨p0, p1, p2, p3, p4, p5, p6, p7, p8, p9, p10, p11⟩ := (HP.out.next hS).rq
    obtain ⟨q0, q1, q2, q3, q4, q5, q6, q7, q8, q9, q10, q11⟩ := (HQ.out.next hS).rq
    obtain ⟨x0, x1, x2, x3⟩ := (HX.out.next hS).rs
    obtain ⟨y0, y1, y2, y3⟩ := (HY.out.next hS).rs
    go_wp2_with fail
    go_ret
    exact ⟨rfl, hA.trans hS⟩
  rw [hly] at HLY
  cases hct : decide ((2000 : Int) < (ct.length : Int))
  case true =>
    go_enter Tryd.func5, Tryd.ntmps5
    go_wp2_with fail
    refine (lives24_any _ (HE.out.next hS)).mono ?_
    rintro e w1 ⟨rfl, hb⟩
    replace hS := hS.trans hb
    try clear hb
    try clear p0 p1 p2 p3 p4 p5 p6 p7 p8 p9 p10 p11
    try clear q0 q1 q2 q3 q4 q5 q6 q7 q8 q9 q10 q11
    try clear x0 x1 x2 x3
    try clear y0 y1 y2 y3
    obtain ⟨p0, p1, p2, p3, p4, p5, p6, p7, p8, p9, p10, p11⟩ := (HP.out.next hS).rq
    obtain ⟨q0, q1, q2, q3, q4, q5, q6, q7, q8, q9, q10, q11⟩ := (HQ.out.next hS).rq
    obtain ⟨x0, x1, x2, x3⟩ := (HX.out.next hS).rs
    obtain ⟨y0, y1, y2, y3⟩ := (HY.out.next hS).rs
    go_wp2_with fail
    refine (HLA.out _).mono ?_
    rintro e w2 ⟨rfl, hb⟩
    replace hS := hS.trans hb
    try clear hb
    try clear p0 p1 p2 p3 p4 p5 p6 p7 p8 p9 p10 p11
    try clear q0 q1 q2 q3 q4 q5 q6 q7 q8 q9 q10 q11
    try clear x0 x1 x2 x3
    try clear y0 y1 y2 y3
    obtain ⟨p0, p1, p2, p3, p4, p5, p6, p7, p8, p9, p10, p11⟩ := (HP.out.next hS).rq
    obtain ⟨q0, q1, q2, q3, q4, q5, q6, q7, q8, q9, q10, q11⟩ := (HQ.out.next hS).rq
    obtain ⟨x0, x1, x2, x3⟩ := (HX.out.next hS).rs
    obtain ⟨y0, y1, y2, y3⟩ := (HY.out.next hS).rs
    go_wp2_with fail
    refine (HLB.out _).mono ?_
    rintro e w3 ⟨rfl, hb⟩
    replace hS := hS.trans hb
    try clear hb
    try clear p0 p1 p2 p3 p4 p5 p6 p7 p8 p9 p10 p11
    try clear q0 q1 q2 q3 q4 q5 q6 q7 q8 q9 q10 q11
    try clear x0 x1 x2 x3
    try clear y0 y1 y2 y3
    obtain ⟨p0, p1, p2, p3, p4, p5, p6, p7, p8, p9, p10, p11⟩ := (HP.out.next hS).rq
    obtain ⟨q0, q1, q2, q3, q4, q5, q6, q7, q8, q9, q10, q11⟩ := (HQ.out.next hS).rq
    obtain ⟨x0, x1, x2, x3⟩ := (HX.out.next hS).rs
    obtain ⟨y0, y1, y2, y3⟩ := (HY.out.next hS).rs
    go_wp2_with fail
    refine (HLX.out _ (HV.out.next hS)).mono ?_
    rintro e w4 ⟨rfl, hb⟩
    replace hS := hS.trans hb
    try clear hb
    try clear p0 p1 p2 p3 p4 p5 p6 p7 p8 p9 p10 p11
    try clear q0 q1 q2 q3 q4 q5 q6 q7 q8 q9 q10 q11
    try clear x0 x1 x2 x3
    try clear y0 y1 y2 y3
    obtain ⟨p0, p1, p2, p3, p4, p5, p6, p7, p8, p9, p10, p11⟩ := (HP.out.next hS).rq
    obtain ⟨q0, q1, q2, q3, q4, q5, q6, q7, q8, q9, q10, q11⟩ := (HQ.out.next hS).rq
    obtain ⟨x0, x1, x2, x3⟩ := (HX.out.next hS).rs
    obtain ⟨y0, y1, y2, y3⟩ := (HY.out.next hS).rs
    go_wp2_with fail
    refine (HLY.out _ (HU.out.next hS)).mono ?_
    rintro e w5 ⟨rfl, hb⟩
    replace hS := hS.trans hb
    try clear hb
    try clear p0 p1 p2 p3 p4 p5 p6 p7 p8 p9 p10 p11
    try clear q0 q1 q2 q3 q4 q5 q6 q7 q8 q9 q10 q11
    try clear x0 x1 x2 x3
    try clear y0 y1 y2 y3
    obtain ⟨p0, p1, p2, p3, p4, p5, p6, p7, p8, p9, p10, p11⟩ := (HP.out.next hS).rq
    obtain ⟨q0, q1, q2, q3, q4, q5, q6, q7, q8, q9, q10, q11⟩ := (HQ.out.next hS).rq
    obtain ⟨x0, x1, x2, x3⟩ := (HX.out.next hS).rs
    obtain ⟨y0, y1, y2, y3⟩ := (HY.out.next hS).rs
    go_wp2_with fail
    go_ret
    exact ⟨rfl, hA.trans hS⟩
  cases hct2 : decide ((2000 : Int) < (ct2.length : Int))
  case true =>
    go_enter Tryd.func5, Tryd.ntmps5
    go_wp2_with fail
    refine (lives24_any _ (HE.out.next hS)).mono ?_
    rintro e w1 ⟨rfl, hb⟩
    replace hS := hS.trans hb
    try clear hb
    try clear p0 p1 p2 p3 p4 p5 p6 p7 p8 p9 p10 p11
    try clear q0 q1 q2 q3 q4 q5 q6 q7 q8 q9 q10 q11
    try clear x0 x1 x2 x3
    try clear y0 y1 y2 y3
    obtain ⟨p0, p1, p2, p3, p4, p5, p6, p7, p8, p9, p10, p11⟩ := (HP.out.next hS).rq
    obtain ⟨q0, q1, q2, q3, q4, q5, q6, q7, q8, q9, q10, q11⟩ := (HQ.out.next hS).rq
    obtain ⟨x0, x1, x2, x3⟩ := (HX.out.next hS).rs
    obtain ⟨y0, y1, y2, y3⟩ := (HY.out.next hS).rs
    go_wp2_with fail
    refine (HLA.out _).mono ?_
    rintro e w2 ⟨rfl, hb⟩
    replace hS := hS.trans hb
    try clear hb
    try clear p0 p1 p2 p3 p4 p5 p6 p7 p8 p9 p10 p11
    try clear q0 q1 q2 q3 q4 q5 q6 q7 q8 q9 q10 q11
    try clear x0 x1 x2 x3
    try clear y0 y1 y2 y3
    obtain ⟨p0, p1, p2, p3, p4, p5, p6, p7, p8, p9, p10, p11⟩ := (HP.out.next hS).rq
    obtain ⟨q0, q1, q2, q3, q4, q5, q6, q7, q8, q9, q10, q11⟩ := (HQ.out.next hS).rq
    obtain ⟨x0, x1, x2, x3⟩ := (HX.out.next hS).rs
    obtain ⟨y0, y1, y2, y3⟩ := (HY.out.next hS).rs
    go_wp2_with fail
    refine (HLB.out _).mono ?_
    rintro e w3 ⟨rfl, hb⟩
    replace hS := hS.trans hb
    try clear hb
    try clear p0 p1 p2 p3 p4 p5 p6 p7 p8 p9 p10 p11
    try clear q0 q1 q2 q3 q4 q5 q6 q7 q8 q9 q10 q11
    try clear x0 x1 x2 x3
    try clear y0 y1 y2 y3
    obtain ⟨p0, p1, p2, p3, p4, p5, p6, p7, p8, p9, p10, p11⟩ := (HP.out.next hS).rq
    obtain ⟨q0, q1, q2, q3, q4, q5, q6, q7, q8, q9, q10, q11⟩ := (HQ.out.next hS).rq
    obtain ⟨x0, x1, x2, x3⟩ := (HX.out.next hS).rs
    obtain ⟨y0, y1, y2, y3⟩ := (HY.out.next hS).rs
    go_wp2_with fail
    refine (HLX.out _ (HV.out.next hS)).mono ?_
    rintro e w4 ⟨rfl, hb⟩
    replace hS := hS.trans hb
    try clear hb
    try clear p0 p1 p2 p3 p4 p5 p6 p7 p8 p9 p10 p11
    try clear q0 q1 q2 q3 q4 q5 q6 q7 q8 q9 q10 q11
    try clear x0 x1 x2 x3
    try clear y0 y1 y2 y3
    obtain ⟨p0, p1, p2, p3, p4, p5, p6, p7, p8, p9, p10, p11⟩ := (HP.out.next hS).rq
    obtain ⟨q0, q1, q2, q3, q4, q5, q6, q7, q8, q9, q10, q11⟩ := (HQ.out.next hS).rq
    obtain ⟨x0, x1, x2, x3⟩ := (HX.out.next hS).rs
    obtain ⟨y0, y1, y2, y3⟩ := (HY.out.next hS).rs
    go_wp2_with fail
    refine (HLY.out _ (HU.out.next hS)).mono ?_
    rintro e w5 ⟨rfl, hb⟩
    replace hS := hS.trans hb
    try clear hb
    try clear p0 p1 p2 p3 p4 p5 p6 p7 p8 p9 p10 p11
    try clear q0 q1 q2 q3 q4 q5 q6 q7 q8 q9 q10 q11
    try clear x0 x1 x2 x3
    try clear y0 y1 y2 y3
    obtain ⟨p0, p1, p2, p3, p4, p5, p6, p7, p8, p9, p10, p11⟩ := (HP.out.next hS).rq
    obtain ⟨q0, q1, q2, q3, q4, q5, q6, q7, q8, q9, q10, q11⟩ := (HQ.out.next hS).rq
    obtain ⟨x0, x1, x2, x3⟩ := (HX.out.next hS).rs
    obtain ⟨y0, y1, y2, y3⟩ := (HY.out.next hS).rs
    go_wp2_with fail
    go_ret
    exact ⟨rfl, hA.trans hS⟩
  cases hr : decide ((50 : Int) < (r.length : Int))
  case true =>
    go_enter Tryd.func5, Tryd.ntmps5
    go_wp2_with fail
    refine (lives24_any _ (HE.out.next hS)).mono ?_
    rintro e w1 ⟨rfl, hb⟩
    replace hS := hS.trans hb
    try clear hb
    try clear p0 p1 p2 p3 p4 p5 p6 p7 p8 p9 p10 p11
    try clear q0 q1 q2 q3 q4 q5 q6 q7 q8 q9 q10 q11
    try clear x0 x1 x2 x3
    try clear y0 y1 y2 y3
    obtain ⟨p0, p1, p2, p3, p4, p5, p6, p7, p8, p9, p10, p11⟩ := (HP.out.next hS).rq
    obtain ⟨q0, q1, q2, q3, q4, q5, q6, q7, q8, q9, q10, q11⟩ := (HQ.out.next hS).rq
    obtain ⟨x0, x1, x2, x3⟩ := (HX.out.next hS).rs
    obtain ⟨y0, y1, y2, y3⟩ := (HY.out.next hS).rs
    go_wp2_with fail
    refine (HLA.out _).mono ?_
    rintro e w2 ⟨rfl, hb⟩
    replace hS := hS.trans hb
    try clear hb
    try clear p0 p1 p2 p3 p4 p5 p6 p7 p8 p9 p10 p11
    try clear q0 q1 q2 q3 q4 q5 q6 q7 q8 q9 q10 q11
    try clear x0 x1 x2 x3
    try clear y0 y1 y2 y3
    obtain ⟨p0, p1, p2, p3, p4, p5, p6, p7, p8, p9, p10, p11⟩ := (HP.out.next hS).rq
    obtain ⟨q0, q1, q2, q3, q4, q5, q6, q7, q8, q9, q10, q11⟩ := (HQ.out.next hS).rq
    obtain ⟨x0, x1, x2, x3⟩ := (HX.out.next hS).rs
    obtain ⟨y0, y1, y2, y3⟩ := (HY.out.next hS).rs
    go_wp2_with fail
    refine (HLB.out _).mono ?_
    rintro e w3 ⟨rfl, hb⟩
    replace hS := hS.trans hb
    try clear hb
    try clear p0 p1 p2 p3 p4 p5 p6 p7 p8 p9 p10 p11
    try clear q0 q1 q2 q3 q4 q5 q6 q7 q8 q9 q10 q11
    try clear x0 x1 x2 x3
    try clear y0 y1 y2 y3
    obtain ⟨p0, p1, p2, p3, p4, p5, p6, p7, p8, p9, p10, p11⟩ := (HP.out.next hS).rq
    obtain ⟨q0, q1, q2, q3, q4, q5, q6, q7, q8, q9, q10, q11⟩ := (HQ.out.next hS).rq
    obtain ⟨x0, x1, x2, x3⟩ := (HX.out.next hS).rs
    obtain ⟨y0, y1, y2, y3⟩ := (HY.out.next hS).rs
    go_wp2_with fail
    refine (HLX.out _ (HV.out.next hS)).mono ?_
    rintro e w4 ⟨rfl, hb⟩
    replace hS := hS.trans hb
    try clear hb
    try clear p0 p1 p2 p3 p4 p5 p6 p7 p8 p9 p10 p11
    try clear q0 q1 q2 q3 q4 q5 q6 q7 q8 q9 q10 q11
    try clear x0 x1 x2 x3
    try clear y0 y1 y2 y3
    obtain ⟨p0, p1, p2, p3, p4, p5, p6, p7, p8, p9, p10, p11⟩ := (HP.out.next hS).rq
    obtain ⟨q0, q1, q2, q3, q4, q5, q6, q7, q8, q9, q10, q11⟩ := (HQ.out.next hS).rq
    obtain ⟨x0, x1, x2, x3⟩ := (HX.out.next hS).rs
    obtain ⟨y0, y1, y2, y3⟩ := (HY.out.next hS).rs
    go_wp2_with fail
    refine (HLY.out _ (HU.out.next hS)).mono ?_
    rintro e w5 ⟨rfl, hb⟩
    replace hS := hS.trans hb
    try clear hb
    try clear p0 p1 p2 p3 p4 p5 p6 p7 p8 p9 p10 p11
    try clear q0 q1 q2 q3 q4 q5 q6 q7 q8 q9 q10 q11
    try clear x0 x1 x2 x3
    try clear y0 y1 y2 y3
    obtain ⟨p0, p1, p2, p3, p4, p5, p6, p7, p8, p9, p10, p11⟩ := (HP.out.next hS).rq
    obtain ⟨q0, q1, q2, q3, q4, q5, q6, q7, q8, q9, q10, q11⟩ := (HQ.out.next hS).rq
    obtain ⟨x0, x1, x2, x3⟩ := (HX.out.next hS).rs
    obtain ⟨y0, y1, y2, y3⟩ := (HY.out.next hS).rs
    go_wp2_with fail
    go_ret
    exact ⟨rfl, hA.trans hS⟩
  have hc1 : ct.length ≤ 2000 := by rw [decide_eq_false_iff_not] at hct; omega
  have hc2 : ct2.length ≤ 2000 := by rw [decide_eq_false_iff_not] at hct2; omega
  have hr50 : r.length ≤ 50 := by rw [decide_eq_false_iff_not] at hr; omega
  have HL20 : Hid (L.length ≤ 20 ∧ ∀ x ∈ L, lightB x = true) := by
    simp only [lightAs, Bool.and_eq_true, Bool.not_eq_true', decide_eq_false_iff_not, List.all_eq_true] at hlx
    exact ⟨by omega, hlx.2⟩
  have HM20 : Hid (M.length ≤ 20 ∧ ∀ x ∈ M, lightB x = true) := by
    simp only [lightAs, Bool.and_eq_true, Bool.not_eq_true', decide_eq_false_iff_not, List.all_eq_true] at hly
    exact ⟨by omega, hly.2⟩
  have HFA := Lib.hid hFA
  have HFB := Lib.hid hFB
  have HFL := Lib.hid hFL
  have HFM := Lib.hid hFM
  clear hla hlb hlx hly hFA hFB hFL hFM
  go_enter Tryd.func5, Tryd.ntmps5
  go_wp2_with fail
  refine (lives24_any _ (HE.out.next hS)).mono ?_
  rintro e w1 ⟨rfl, hb⟩
  replace hS := hS.trans hb
  try clear hb
  try clear p0 p1 p2 p3 p4 p5 p6 p7 p8 p9 p10 p11
  try clear q0 q1 q2 q3 q4 q5 q6 q7 q8 q9 q10 q11
  try clear x0 x1 x2 x3
  try clear y0 y1 y2 y3
  obtain ⟨p0, p1, p2, p3, p4, p5, p6, p7, p8, p9, p10, p11⟩ := (HP.out.next hS).rq
  obtain ⟨q0, q1, q2, q3, q4, q5, q6, q7, q8, q9, q10, q11⟩ := (HQ.out.next hS).rq
  obtain ⟨x0, x1, x2, x3⟩ := (HX.out.next hS).rs
  obtain ⟨y0, y1, y2, y3⟩ := (HY.out.next hS).rs
  go_wp2_with fail
  refine (HLA.out _).mono ?_
  rintro e w2 ⟨rfl, hb⟩
  replace hS := hS.trans hb
  try clear hb
  try clear p0 p1 p2 p3 p4 p5 p6 p7 p8 p9 p10 p11
  try clear q0 q1 q2 q3 q4 q5 q6 q7 q8 q9 q10 q11
  try clear x0 x1 x2 x3
  try clear y0 y1 y2 y3
  obtain ⟨p0, p1, p2, p3, p4, p5, p6, p7, p8, p9, p10, p11⟩ := (HP.out.next hS).rq
  obtain ⟨q0, q1, q2, q3, q4, q5, q6, q7, q8, q9, q10, q11⟩ := (HQ.out.next hS).rq
  obtain ⟨x0, x1, x2, x3⟩ := (HX.out.next hS).rs
  obtain ⟨y0, y1, y2, y3⟩ := (HY.out.next hS).rs
  go_wp2_with fail
  refine (HLB.out _).mono ?_
  rintro e w3 ⟨rfl, hb⟩
  replace hS := hS.trans hb
  try clear hb
  try clear p0 p1 p2 p3 p4 p5 p6 p7 p8 p9 p10 p11
  try clear q0 q1 q2 q3 q4 q5 q6 q7 q8 q9 q10 q11
  try clear x0 x1 x2 x3
  try clear y0 y1 y2 y3
  obtain ⟨p0, p1, p2, p3, p4, p5, p6, p7, p8, p9, p10, p11⟩ := (HP.out.next hS).rq
  obtain ⟨q0, q1, q2, q3, q4, q5, q6, q7, q8, q9, q10, q11⟩ := (HQ.out.next hS).rq
  obtain ⟨x0, x1, x2, x3⟩ := (HX.out.next hS).rs
  obtain ⟨y0, y1, y2, y3⟩ := (HY.out.next hS).rs
  go_wp2_with fail
  refine (HLX.out _ (HV.out.next hS)).mono ?_
  rintro e w4 ⟨rfl, hb⟩
  replace hS := hS.trans hb
  try clear hb
  try clear p0 p1 p2 p3 p4 p5 p6 p7 p8 p9 p10 p11
  try clear q0 q1 q2 q3 q4 q5 q6 q7 q8 q9 q10 q11
  try clear x0 x1 x2 x3
  try clear y0 y1 y2 y3
  obtain ⟨p0, p1, p2, p3, p4, p5, p6, p7, p8, p9, p10, p11⟩ := (HP.out.next hS).rq
  obtain ⟨q0, q1, q2, q3, q4, q5, q6, q7, q8, q9, q10, q11⟩ := (HQ.out.next hS).rq
  obtain ⟨x0, x1, x2, x3⟩ := (HX.out.next hS).rs
  obtain ⟨y0, y1, y2, y3⟩ := (HY.out.next hS).rs
  go_wp2_with fail
  refine (HLY.out _ (HU.out.next hS)).mono ?_
  rintro e w5 ⟨rfl, hb⟩
  replace hS := hS.trans hb
  try clear hb
  try clear p0 p1 p2 p3 p4 p5 p6 p7 p8 p9 p10 p11
  try clear q0 q1 q2 q3 q4 q5 q6 q7 q8 q9 q10 q11
  try clear x0 x1 x2 x3
  try clear y0 y1 y2 y3
  obtain ⟨p0, p1, p2, p3, p4, p5, p6, p7, p8, p9, p10, p11⟩ := (HP.out.next hS).rq
  obtain ⟨q0, q1, q2, q3, q4, q5, q6, q7, q8, q9, q10, q11⟩ := (HQ.out.next hS).rq
  obtain ⟨x0, x1, x2, x3⟩ := (HX.out.next hS).rs
  obtain ⟨y0, y1, y2, y3⟩ := (HY.out.next hS).rs
  go_wp2_with fail
  clear hct hct2 hr
  obtain ⟨X, E, hXE⟩ : ∃ (X : List UInt8) (E : Int), Hid ((mayRq k ((a_s, a_p, a_n, (a_v0, a_l0), (a_v1, a_l1), (a_v2, a_l2), (a_v3, a_l3)) : Atm) = true ∧ X = rqB k ((a_s, a_p, a_n, (a_v0, a_l0), (a_v1, a_l1), (a_v2, a_l2), (a_v3, a_l3)) : Atm) ∧ E = 0) ∨ (mayRq k ((a_s, a_p, a_n, (a_v0, a_l0), (a_v1, a_l1), (a_v2, a_l2), (a_v3, a_l3)) : Atm) = false ∧ X = [] ∧ E = 2)) := by
    cases h : mayRq k ((a_s, a_p, a_n, (a_v0, a_l0), (a_v1, a_l1), (a_v2, a_l2), (a_v3, a_l3)) : Atm)
    · exact ⟨[], 2, .inr ⟨rfl, rfl, rfl⟩⟩
    · exact ⟨rqB k ((a_s, a_p, a_n, (a_v0, a_l0), (a_v1, a_l1), (a_v2, a_l2), (a_v3, a_l3)) : Atm), 0, .inl ⟨rfl, rfl, rfl⟩⟩
  have HRA : Hid (∀ W, Env W → Calls Tryd.prog 11 #[.agg #[.int .i64 k, .string ⟨a_s.toArray⟩, .string ⟨a_p.toArray⟩, .int .i64 a_n, .bool a_v0, .string ⟨a_l0.toArray⟩, .bool a_v1, .string ⟨a_l1.toArray⟩, .bool a_v2, .string ⟨a_l2.toArray⟩, .bool a_v3, .string ⟨a_l3.toArray⟩]] W fun e w' => e = .returned (.tuple #[.string ⟨X.toArray⟩, .int .i64 E]) ∧ Since W w') := by
    intro W hEW
    rcases hXE.out with ⟨h, rfl, rfl⟩ | ⟨h, rfl, rfl⟩
    · exact request_yes' k a_s a_p a_n a_v0 a_v1 a_v2 a_v3 a_l0 a_l1 a_l2 a_l3 W HFA.out hEW h
    · exact request_no k a_s a_p a_n a_v0 a_v1 a_v2 a_v3 a_l0 a_l1 a_l2 a_l3 W HFA.out hEW h
  obtain ⟨Y, E2, hYE⟩ : ∃ (Y : List UInt8) (E2 : Int), Hid ((mayRq l ((b_s, b_p, b_n, (b_v0, b_l0), (b_v1, b_l1), (b_v2, b_l2), (b_v3, b_l3)) : Atm) = true ∧ Y = rqB l ((b_s, b_p, b_n, (b_v0, b_l0), (b_v1, b_l1), (b_v2, b_l2), (b_v3, b_l3)) : Atm) ∧ E2 = 0) ∨ (mayRq l ((b_s, b_p, b_n, (b_v0, b_l0), (b_v1, b_l1), (b_v2, b_l2), (b_v3, b_l3)) : Atm) = false ∧ Y = [] ∧ E2 = 2)) := by
    cases h : mayRq l ((b_s, b_p, b_n, (b_v0, b_l0), (b_v1, b_l1), (b_v2, b_l2), (b_v3, b_l3)) : Atm)
    · exact ⟨[], 2, .inr ⟨rfl, rfl, rfl⟩⟩
    · exact ⟨rqB l ((b_s, b_p, b_n, (b_v0, b_l0), (b_v1, b_l1), (b_v2, b_l2), (b_v3, b_l3)) : Atm), 0, .inl ⟨rfl, rfl, rfl⟩⟩
  have HRB : Hid (∀ W, Env W → Calls Tryd.prog 11 #[.agg #[.int .i64 l, .string ⟨b_s.toArray⟩, .string ⟨b_p.toArray⟩, .int .i64 b_n, .bool b_v0, .string ⟨b_l0.toArray⟩, .bool b_v1, .string ⟨b_l1.toArray⟩, .bool b_v2, .string ⟨b_l2.toArray⟩, .bool b_v3, .string ⟨b_l3.toArray⟩]] W fun e w' => e = .returned (.tuple #[.string ⟨Y.toArray⟩, .int .i64 E2]) ∧ Since W w') := by
    intro W hEW
    rcases hYE.out with ⟨h, rfl, rfl⟩ | ⟨h, rfl, rfl⟩
    · exact request_yes' l b_s b_p b_n b_v0 b_v1 b_v2 b_v3 b_l0 b_l1 b_l2 b_l3 W HFB.out hEW h
    · exact request_no l b_s b_p b_n b_v0 b_v1 b_v2 b_v3 b_l0 b_l1 b_l2 b_l3 W HFB.out hEW h
  refine (HRA.out _ (HE.out.next hS)).mono ?_
  rintro e w6 ⟨rfl, hb⟩
  replace hS := hS.trans hb
  try clear hb
  try clear p0 p1 p2 p3 p4 p5 p6 p7 p8 p9 p10 p11
  try clear q0 q1 q2 q3 q4 q5 q6 q7 q8 q9 q10 q11
  try clear x0 x1 x2 x3
  try clear y0 y1 y2 y3
  obtain ⟨q0, q1, q2, q3, q4, q5, q6, q7, q8, q9, q10, q11⟩ := (HQ.out.next hS).rq
  go_wp2_with fail
  refine (HRB.out _ (HE.out.next hS)).mono ?_
  rintro e w7 ⟨rfl, hb⟩
  replace hS := hS.trans hb
  try clear hb
  try clear p0 p1 p2 p3 p4 p5 p6 p7 p8 p9 p10 p11
  try clear q0 q1 q2 q3 q4 q5 q6 q7 q8 q9 q10 q11
  try clear x0 x1 x2 x3
  try clear y0 y1 y2 y3
  clear HRA HRB
  go_upto_region 7 with (fail)
  go_cut [92] (fun s92 wx => s92 = .bool false ∧ Since ((((w.alloc (.cells #[.int .i64 k, .string ⟨a_s.toArray⟩, .string ⟨a_p.toArray⟩, .int .i64 a_n, .bool a_v0, .string ⟨a_l0.toArray⟩, .bool a_v1, .string ⟨a_l1.toArray⟩, .bool a_v2, .string ⟨a_l2.toArray⟩, .bool a_v3, .string ⟨a_l3.toArray⟩] 28)).alloc (.cells #[.int .i64 l, .string ⟨b_s.toArray⟩, .string ⟨b_p.toArray⟩, .int .i64 b_n, .bool b_v0, .string ⟨b_l0.toArray⟩, .bool b_v1, .string ⟨b_l1.toArray⟩, .bool b_v2, .string ⟨b_l2.toArray⟩, .bool b_v3, .string ⟨b_l3.toArray⟩] 28)).alloc (.cells #[.int .i64 code, .bool ch, .slice a1 L.length c1, .string ⟨ct.toArray⟩] 32)).alloc (.cells #[.int .i64 code2, .bool ch2, .slice a2 M.length c2, .string ⟨ct2.toArray⟩] 32)) wx)
  case first =>
    obtain ⟨p0, p1, p2, p3, p4, p5, p6, p7, p8, p9, p10, p11⟩ := (HP.out.next hS).rq
    obtain ⟨q0, q1, q2, q3, q4, q5, q6, q7, q8, q9, q10, q11⟩ := (HQ.out.next hS).rq
    rcases hXE.out with ⟨hm, hX, rfl⟩ | ⟨hm, hX, rfl⟩
    · rcases hYE.out with ⟨hm2, hY, rfl⟩ | ⟨hm2, hY, rfl⟩
      · have hXY := rq_same hm hm2
        rw [← hX, ← hY] at hXY
        clear hX hY hm hm2 hXE hYE
        go_wp2_with fail
        go_meet
        exact ⟨by first | rfl | simp [hXY], hS⟩
      · clear hX hY hm hm2 hXE hYE
        go_wp2_with fail
        go_meet
        exact ⟨rfl, hS⟩
    · clear hX hm hXE hYE
      go_wp2_with fail
      go_meet
      exact ⟨rfl, hS⟩
  case rest =>
    obtain ⟨rfl, hS⟩ := hcut
    go_upto_if 94 with (fail)
    go_cut [17] (fun s17 wx => Since ((((w.alloc (.cells #[.int .i64 k, .string ⟨a_s.toArray⟩, .string ⟨a_p.toArray⟩, .int .i64 a_n, .bool a_v0, .string ⟨a_l0.toArray⟩, .bool a_v1, .string ⟨a_l1.toArray⟩, .bool a_v2, .string ⟨a_l2.toArray⟩, .bool a_v3, .string ⟨a_l3.toArray⟩] 28)).alloc (.cells #[.int .i64 l, .string ⟨b_s.toArray⟩, .string ⟨b_p.toArray⟩, .int .i64 b_n, .bool b_v0, .string ⟨b_l0.toArray⟩, .bool b_v1, .string ⟨b_l1.toArray⟩, .bool b_v2, .string ⟨b_l2.toArray⟩, .bool b_v3, .string ⟨b_l3.toArray⟩] 28)).alloc (.cells #[.int .i64 code, .bool ch, .slice a1 L.length c1, .string ⟨ct.toArray⟩] 32)).alloc (.cells #[.int .i64 code2, .bool ch2, .slice a2 M.length c2, .string ⟨ct2.toArray⟩] 32)) wx)
    case first =>
      rcases hXE.out with ⟨hm, hX, rfl⟩ | ⟨hm, hX, rfl⟩
      · obtain ⟨n, hn, hn1, hn3, hck⟩ := mayRq_nat hm
        subst hn
        have hlX := rqB_le (k := (n : Int)) hck
        have hpos := rqB_pos (n : Int) ((a_s, a_p, a_n, (a_v0, a_l0), (a_v1, a_l1), (a_v2, a_l2), (a_v3, a_l3)) : Atm)
        have hcutN := fun p hp => rq_cut_none hm (p := p) hp
        have hext := rq_ext hm r
        rw [← hX] at hlX hpos hcutN hext
        have HPK := Lib.hid (pick_any cut (X.length : Int) · k1 k2 (by omega) (by omega))
        have hp0 := Int.emod_nonneg cut (show (X.length : Int) ≠ 0 by omega)
        have hp1 := Int.emod_lt_of_pos cut (show (0 : Int) < (X.length : Int) by omega)
        obtain ⟨p, hp⟩ : ∃ p : Nat, cut % (X.length : Int) = (p : Int) := ⟨(cut % (X.length : Int)).toNat, by omega⟩
        have hpl : p < X.length := by omega
        have hno := hcutN p hpl
        rw [hp] at HPK
        have HR1 := Lib.hid (fun W hE => readreq_no (X.take p) W (by rw [List.length_take]; omega) hE hno)
        have hcat := cat_bytes X r
        have hsl := ext_bytes X 0 p
        have HXR := Lib.hid hext
        clear hp0 hp1 hp hno hcutN hext hX hm hXE hYE hck hn1 hn3
        go_wp2_with fail
        refine (HPK.out _).mono ?_
        rintro e w8 ⟨rfl, rfl⟩
        have hpl2 : (p : Int) ≤ (X.length : Int) := by omega
        have hpl3 : p ≤ X.length := by omega
        go_wp2_with fail
        refine (HR1.out _ (HE.out.next hS)).mono ?_
        rintro e w9 ⟨rfl, hb⟩
        replace hS := hS.trans hb
        clear hb HR1 hsl
        go_wp2_with fail
        clear hcat hpl2 hpl3 HPK
        have hlr : (X ++ r).length ≤ 4096 := by rw [List.length_append]; omega
        cases hre : r.isEmpty
        · have hx : readRq (X ++ r) = none := by rw [HXR.out, hre]; rfl
          refine (readreq_no (X ++ r) _ hlr ((HE.out.next hS).next ((Since.refl _).alloc _)) hx).mono ?_
          rintro e w10 ⟨rfl, hb⟩
          clear hx
          go_wp2_with fail
          go_meet
          exact ((hS.alloc _).trans hb).alloc _
        · have hx : readRq (X ++ r) = some (n, ((a_s, a_p, a_n, (a_v0, a_l0), (a_v1, a_l1), (a_v2, a_l2), (a_v3, a_l3)) : Atm)) := by rw [HXR.out, hre]; rfl
          refine (readreq_yes (X ++ r) n a_s a_p a_n a_v0 a_v1 a_v2 a_v3 a_l0 a_l1 a_l2 a_l3 _ hlr ((HE.out.next hS).next ((Since.refl _).alloc _)) hx).mono ?_
          rintro e w10 ⟨rfl, hb⟩
          clear hx
          go_wp2_with fail
          go_meet
          exact ((hS.alloc _).trans hb).alloc _
      · clear hX hm hXE hYE
        go_wp2_with fail
        go_meet
        exact hS
    case rest =>
      have hS := hcut
      clear hcut
      obtain ⟨x0, x1, x2, x3⟩ := (HX.out.next hS).rs
      obtain ⟨y0, y1, y2, y3⟩ := (HY.out.next hS).rs
      obtain ⟨T, E3, hTE⟩ : ∃ (T : List UInt8) (E3 : Int), Hid ((mayRs (code, ch, L, ct) = true ∧ T = rsB (code, ch, L, ct) ∧ E3 = 0) ∨ (mayRs (code, ch, L, ct) = false ∧ T = [] ∧ E3 = 2)) := by
        cases h : mayRs (code, ch, L, ct)
        · exact ⟨[], 2, .inr ⟨rfl, rfl, rfl⟩⟩
        · exact ⟨_, 0, .inl ⟨rfl, rfl, rfl⟩⟩
      have hlT : Hid ((rsB (code, ch, L, ct)).length ≤ 100000) := rsB_light (x := (code, ch, L, ct)) HL20.out.2 HL20.out.1 hc1
      have HTX : Hid (∀ W, AtmRow W (.slice a1 L.length c1) L → Env W → Calls Tryd.prog 12 #[.agg #[.int .i64 code, .bool ch, .slice a1 L.length c1, .string ⟨ct.toArray⟩]] W fun e w' => e = .returned (.tuple #[.string ⟨T.toArray⟩, .int .i64 E3]) ∧ Since W w') := by
        intro W hv hEW
        have h20 := HL20.out
        rcases hTE.out with ⟨h, rfl, rfl⟩ | ⟨h, rfl, rfl⟩
        · exact response_good code ch _ L ct W hEW hv h20.2 (by omega) h (by have := hlT.out; omega)
        · exact response_no code ch _ L ct W hEW hv HFL.out (fun x hx => light_light (h20.2 x hx)) (by omega) h
      obtain ⟨Z, E4, hZE⟩ : ∃ (Z : List UInt8) (E4 : Int), Hid ((mayRs (code2, ch2, M, ct2) = true ∧ Z = rsB (code2, ch2, M, ct2) ∧ E4 = 0) ∨ (mayRs (code2, ch2, M, ct2) = false ∧ Z = [] ∧ E4 = 2)) := by
        cases h : mayRs (code2, ch2, M, ct2)
        · exact ⟨[], 2, .inr ⟨rfl, rfl, rfl⟩⟩
        · exact ⟨_, 0, .inl ⟨rfl, rfl, rfl⟩⟩
      have hlZ : Hid ((rsB (code2, ch2, M, ct2)).length ≤ 100000) := rsB_light (x := (code2, ch2, M, ct2)) HM20.out.2 HM20.out.1 hc2
      have HTY : Hid (∀ W, AtmRow W (.slice a2 M.length c2) M → Env W → Calls Tryd.prog 12 #[.agg #[.int .i64 code2, .bool ch2, .slice a2 M.length c2, .string ⟨ct2.toArray⟩]] W fun e w' => e = .returned (.tuple #[.string ⟨Z.toArray⟩, .int .i64 E4]) ∧ Since W w') := by
        intro W hv hEW
        have h20 := HM20.out
        rcases hZE.out with ⟨h, rfl, rfl⟩ | ⟨h, rfl, rfl⟩
        · exact response_good code2 ch2 _ M ct2 W hEW hv h20.2 (by omega) h (by have := hlZ.out; omega)
        · exact response_no code2 ch2 _ M ct2 W hEW hv HFM.out (fun x hx => light_light (h20.2 x hx)) (by omega) h
      go_wp2_with fail
      refine (HTX.out _ (HV.out.next hS) (HE.out.next hS)).mono ?_
      rintro e w11 ⟨rfl, hb⟩
      replace hS := hS.trans hb
      try clear hb
      try clear p0 p1 p2 p3 p4 p5 p6 p7 p8 p9 p10 p11
      try clear q0 q1 q2 q3 q4 q5 q6 q7 q8 q9 q10 q11
      try clear x0 x1 x2 x3
      try clear y0 y1 y2 y3
      obtain ⟨y0, y1, y2, y3⟩ := (HY.out.next hS).rs
      go_wp2_with fail
      refine (HTY.out _ (HU.out.next hS) (HE.out.next hS)).mono ?_
      rintro e w12 ⟨rfl, hb⟩
      replace hS := hS.trans hb
      try clear hb
      try clear p0 p1 p2 p3 p4 p5 p6 p7 p8 p9 p10 p11
      try clear q0 q1 q2 q3 q4 q5 q6 q7 q8 q9 q10 q11
      try clear x0 x1 x2 x3
      try clear y0 y1 y2 y3
      clear HTX HTY
      go_upto_region 16 with (fail)
      go_cut [145] (fun s145 wx => s145 = .bool false ∧ Since ((((w.alloc (.cells #[.int .i64 k, .string ⟨a_s.toArray⟩, .string ⟨a_p.toArray⟩, .int .i64 a_n, .bool a_v0, .string ⟨a_l0.toArray⟩, .bool a_v1, .string ⟨a_l1.toArray⟩, .bool a_v2, .string ⟨a_l2.toArray⟩, .bool a_v3, .string ⟨a_l3.toArray⟩] 28)).alloc (.cells #[.int .i64 l, .string ⟨b_s.toArray⟩, .string ⟨b_p.toArray⟩, .int .i64 b_n, .bool b_v0, .string ⟨b_l0.toArray⟩, .bool b_v1, .string ⟨b_l1.toArray⟩, .bool b_v2, .string ⟨b_l2.toArray⟩, .bool b_v3, .string ⟨b_l3.toArray⟩] 28)).alloc (.cells #[.int .i64 code, .bool ch, .slice a1 L.length c1, .string ⟨ct.toArray⟩] 32)).alloc (.cells #[.int .i64 code2, .bool ch2, .slice a2 M.length c2, .string ⟨ct2.toArray⟩] 32)) wx)
      case first =>
        obtain ⟨x0, x1, x2, x3⟩ := (HX.out.next hS).rs
        obtain ⟨y0, y1, y2, y3⟩ := (HY.out.next hS).rs
        rcases hTE.out with ⟨hm, hT, rfl⟩ | ⟨hm, hT, rfl⟩
        · rcases hZE.out with ⟨hm2, hZ, rfl⟩ | ⟨hm2, hZ, rfl⟩
          · have hTZ := rs_same hm hm2 (by have := hlT.out; omega) (by have := hlZ.out; omega)
            have HSM := Lib.hid (fun W h1 h2 => fsame_any code code2 ch ch2 (.slice a1 L.length c1) (.slice a2 M.length c2) L M ct ct2 W h1 h2 (by have := HL20.out.1; omega) (by have := HM20.out.1; omega))
            obtain ⟨sm, hsm⟩ : ∃ b, Hid (b = sameR (code, ch, L, ct) (code2, ch2, M, ct2)) := ⟨_, rfl⟩
            rw [← hsm.out] at hTZ HSM
            rw [← hT, ← hZ] at hTZ
            clear hT hZ hm hm2 hTE hZE hXE hYE
            go_wp2_with fail
            refine (HSM.out _ (HV.out.next hS) (HU.out.next hS)).mono ?_
            rintro e w13 ⟨rfl, hb⟩
            replace hS := hS.trans hb
            try clear hb
            try clear p0 p1 p2 p3 p4 p5 p6 p7 p8 p9 p10 p11
            try clear q0 q1 q2 q3 q4 q5 q6 q7 q8 q9 q10 q11
            try clear x0 x1 x2 x3
            try clear y0 y1 y2 y3
            go_wp2_with fail
            go_meet
            exact ⟨by first | rfl | simp [hTZ], hS⟩
          · clear hT hZ hm hm2 hTE hZE hXE hYE
            go_wp2_with fail
            go_meet
            exact ⟨rfl, hS⟩
        · clear hT hm hTE hZE hXE hYE
          go_wp2_with fail
          go_meet
          exact ⟨rfl, hS⟩
      case rest =>
        obtain ⟨rfl, hS⟩ := hcut
        rcases hTE.out with ⟨hm, hT, rfl⟩ | ⟨hm, hT, rfl⟩
        · have hlT' := hlT.out
          have hpos := rsB_pos (code, ch, L, ct)
          have hcutN := fun p hp => rs_cut_none hm (by omega) (p := p) hp
          have hext := rs_ext hm r (by omega)
          rw [← hT] at hlT' hpos hcutN hext
          have HPK := Lib.hid (pick_any cut (T.length : Int) · k1 k2 (by omega) (by omega))
          have hp0 := Int.emod_nonneg cut (show (T.length : Int) ≠ 0 by omega)
          have hp1 := Int.emod_lt_of_pos cut (show (0 : Int) < (T.length : Int) by omega)
          obtain ⟨p, hp⟩ : ∃ p : Nat, cut % (T.length : Int) = (p : Int) := ⟨(cut % (T.length : Int)).toNat, by omega⟩
          have hpl : p < T.length := by omega
          have hno := hcutN p hpl
          rw [hp] at HPK
          have HR1 := Lib.hid (fun W hE => readresp_no (T.take p) W (by rw [List.length_take]; omega) hE hno)
          have hcat := cat_bytes T r
          have hsl := ext_bytes T 0 p
          have HXR := Lib.hid hext
          clear hp0 hp1 hp hno hcutN hext hT hm hTE hZE hXE hYE
          go_wp2_with fail
          refine (HPK.out _).mono ?_
          rintro e w14 ⟨rfl, rfl⟩
          have hpl2 : (p : Int) ≤ (T.length : Int) := by omega
          have hpl3 : p ≤ T.length := by omega
          go_wp2_with fail
          refine (HR1.out _ (HE.out.next hS)).mono ?_
          rintro e w15 ⟨rv, rfl, hrv, hb⟩
          replace hS := hS.trans hb
          obtain ⟨ra, rc, rfl⟩ := hrv.form
          clear hb HR1 hsl hrv
          go_wp2_with fail
          clear hcat hpl2 hpl3 HPK
          have hlr : (T ++ r).length ≤ 900000 := by rw [List.length_append]; omega
          cases hre : r.isEmpty
          · have hx : readRs (T ++ r) = none := by rw [HXR.out, hre]; rfl
            refine (readresp_no (T ++ r) _ hlr ((HE.out.next hS).next ((Since.refl _).alloc _)) hx).mono ?_
            rintro e w16 ⟨rv2, rfl, hrv, hb⟩
            obtain ⟨ra2, rc2, rfl⟩ := hrv.form
            clear hx hrv
            go_wp2_with fail
            go_ret
            exact ⟨rfl, hA.trans (((hS.alloc _).trans hb).alloc _)⟩
          · have hx : readRs (T ++ r) = some (code, ch, L, ct) := by rw [HXR.out, hre]; rfl
            refine (readresp_yes (T ++ r) (code, ch, L, ct) _ hlr ((HE.out.next hS).next ((Since.refl _).alloc _)) hx).mono ?_
            rintro e w16 ⟨rv2, rfl, hrv, hb⟩
            obtain ⟨ra2, rc2, rfl⟩ := hrv.form
            clear hx hrv
            go_wp2_with fail
            go_ret
            exact ⟨rfl, hA.trans (((hS.alloc _).trans hb).alloc _)⟩
        · clear hm hTE hZE hXE hYE
          subst hT
          go_wp2_with fail
          go_ret
          exact ⟨rfl, hA.trans hS⟩
end Go.Proofs.YtkdeokgkjmboeaaDoor
