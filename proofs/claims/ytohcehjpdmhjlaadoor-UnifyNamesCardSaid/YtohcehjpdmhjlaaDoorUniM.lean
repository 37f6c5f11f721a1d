/- Unify at any two valid atoms; the chapter's examples of layer 6 have the results that it states. -/
import Derived.Test.YtohcehjpdmhjlaaDoorUniJ
import Derived.Test.YtohcehjpdmhjlaaDoorUniN
import Derived.Test.YtohcehjpdmhjlaaDoorUniL
namespace Go.Proofs.YtohcehjpdmhjlaaDoor
open Go.RowKit

set_option maxHeartbeats 4000000 in
set_option maxRecDepth 100000 in
theorem unify_ne (a_s a_p : List UInt8) (a_n : Int) (a_v0 a_v1 a_v2 a_v3 : Bool) (a_l0 a_l1 a_l2 a_l3 : List UInt8) (b_s b_p : List UInt8) (b_n : Int) (b_v0 b_v1 b_v2 b_v3 : Bool) (b_l0 b_l1 b_l2 b_l3 : List UInt8) (h : ¬ (a_s = b_s ∧ a_p = b_p ∧ a_n = b_n)) (w : World) :
    Calls Tryd.prog 16 #[.agg #[.string ⟨a_s.toArray⟩, .string ⟨a_p.toArray⟩, .int .i64 a_n, .bool a_v0, .string ⟨a_l0.toArray⟩, .bool a_v1, .string ⟨a_l1.toArray⟩, .bool a_v2, .string ⟨a_l2.toArray⟩, .bool a_v3, .string ⟨a_l3.toArray⟩], .agg #[.string ⟨b_s.toArray⟩, .string ⟨b_p.toArray⟩, .int .i64 b_n, .bool b_v0, .string ⟨b_l0.toArray⟩, .bool b_v1, .string ⟨b_l1.toArray⟩, .bool b_v2, .string ⟨b_l2.toArray⟩, .bool b_v3, .string ⟨b_l3.toArray⟩]] w fun e w' => e = .returned (.tuple #[.slice none 0 0, .bool false]) ∧ Since w w' := by
  have hS : Since w ((w.alloc (.cells #[.string ⟨a_s.toArray⟩, .string ⟨a_p.toArray⟩, .int .i64 a_n, .bool a_v0, .string ⟨a_l0.toArray⟩, .bool a_v1, .string ⟨a_l1.toArray⟩, .bool a_v2, .string ⟨a_l2.toArray⟩, .bool a_v3, .string ⟨a_l3.toArray⟩] 26)).alloc (.cells #[.string ⟨b_s.toArray⟩, .string ⟨b_p.toArray⟩, .int .i64 b_n, .bool b_v0, .string ⟨b_l0.toArray⟩, .bool b_v1, .string ⟨b_l1.toArray⟩, .bool b_v2, .string ⟨b_l2.toArray⟩, .bool b_v3, .string ⟨b_l3.toArray⟩] 26)) := ((Since.refl _).alloc _).alloc _
  have a_B : Box ((w.alloc (.cells #[.string ⟨a_s.toArray⟩, .string ⟨a_p.toArray⟩, .int .i64 a_n, .bool a_v0, .string ⟨a_l0.toArray⟩, .bool a_v1, .string ⟨a_l1.toArray⟩, .bool a_v2, .string ⟨a_l2.toArray⟩, .bool a_v3, .string ⟨a_l3.toArray⟩] 26)).alloc (.cells #[.string ⟨b_s.toArray⟩, .string ⟨b_p.toArray⟩, .int .i64 b_n, .bool b_v0, .string ⟨b_l0.toArray⟩, .bool b_v1, .string ⟨b_l1.toArray⟩, .bool b_v2, .string ⟨b_l2.toArray⟩, .bool b_v3, .string ⟨b_l3.toArray⟩] 26)) w.heap.size ((a_s, a_p, a_n, (a_v0, a_l0), (a_v1, a_l1), (a_v2, a_l2), (a_v3, a_l3)) : Atm) := (box_new w ((a_s, a_p, a_n, (a_v0, a_l0), (a_v1, a_l1), (a_v2, a_l2), (a_v3, a_l3)) : Atm) _).next ((Since.refl _).alloc _)
  have b_B : Box ((w.alloc (.cells #[.string ⟨a_s.toArray⟩, .string ⟨a_p.toArray⟩, .int .i64 a_n, .bool a_v0, .string ⟨a_l0.toArray⟩, .bool a_v1, .string ⟨a_l1.toArray⟩, .bool a_v2, .string ⟨a_l2.toArray⟩, .bool a_v3, .string ⟨a_l3.toArray⟩] 26)).alloc (.cells #[.string ⟨b_s.toArray⟩, .string ⟨b_p.toArray⟩, .int .i64 b_n, .bool b_v0, .string ⟨b_l0.toArray⟩, .bool b_v1, .string ⟨b_l1.toArray⟩, .bool b_v2, .string ⟨b_l2.toArray⟩, .bool b_v3, .string ⟨b_l3.toArray⟩] 26)) (w.heap.size + 1) ((b_s, b_p, b_n, (b_v0, b_l0), (b_v1, b_l1), (b_v2, b_l2), (b_v3, b_l3)) : Atm) := by
    have := box_new (w.alloc (.cells #[.string ⟨a_s.toArray⟩, .string ⟨a_p.toArray⟩, .int .i64 a_n, .bool a_v0, .string ⟨a_l0.toArray⟩, .bool a_v1, .string ⟨a_l1.toArray⟩, .bool a_v2, .string ⟨a_l2.toArray⟩, .bool a_v3, .string ⟨a_l3.toArray⟩] 26)) ((b_s, b_p, b_n, (b_v0, b_l0), (b_v1, b_l1), (b_v2, b_l2), (b_v3, b_l3)) : Atm) 26
    rwa [World.size_alloc] at this
  have a0 := a_B.s
  have a1 := a_B.p
  have a2 := a_B.n
  have b0 := b_B.s
  have b1 := b_B.p
  have b2 := b_B.n
  clear a_B b_B
  go_enter Tryd.func16, Tryd.ntmps16
  by_cases h1 : a_s = b_s
  · subst h1
    by_cases h2 : a_p = b_p
    · subst h2
      have h3 : ¬ a_n = b_n := fun e => h ⟨rfl, rfl, e⟩
      clear h
      go_wp2_with fail
      go_ret2
      exact ⟨rfl, hS⟩
    · clear h
      go_wp2_with fail
      go_ret2
      exact ⟨rfl, hS⟩
  · clear h
    go_wp2_with fail
    go_ret2
    exact ⟨rfl, hS⟩
theorem valid_len {a : Atm} (h : checkA a = 0) : ∃ n : Nat, n ≤ 4 ∧ a.2.2.1 = (n : Int) ∧ countA a = n := by
  have := checkA_range h
  refine ⟨a.2.2.1.toNat, by omega, by omega, ?_⟩
  unfold countA
  omega
theorem named_pairs {a b : Atm} (ha : checkA a = 0) (hb : checkA b = 0) (hn : countA a = countA b) : NamedP (((argsL a).zip (argsL b)).take (countA a)) := by
  obtain ⟨L, hL, ea, _⟩ := valid_pad ha
  obtain ⟨M, hM, eb, _⟩ := valid_pad hb
  have ca : countA a = L.length := by rw [ea]; exact pad_count hL.1
  have cb : countA b = M.length := by rw [eb]; exact pad_count hM.1
  have e : ((argsL a).zip (argsL b)).take (countA a) = L.zip M := by
    rw [List.zip, List.take_zipWith]
    have h1 : (argsL a).take (countA a) = L := by rw [ea]; exact pad_take hL.1
    have h2 : (argsL b).take (countA a) = M := by rw [hn, eb]; exact pad_take hM.1
    rw [h1, h2]
  rw [e]
  exact named_zip hL hM
theorem unify_some (a_s a_p : List UInt8) (a_n : Int) (a_v0 a_v1 a_v2 a_v3 : Bool) (a_l0 a_l1 a_l2 a_l3 : List UInt8) (b_s b_p : List UInt8) (b_n : Int) (b_v0 b_v1 b_v2 b_v3 : Bool) (b_l0 b_l1 b_l2 b_l3 : List UInt8) (ha : checkA ((a_s, a_p, a_n, (a_v0, a_l0), (a_v1, a_l1), (a_v2, a_l2), (a_v3, a_l3)) : Atm) = 0) (hb : checkA ((b_s, b_p, b_n, (b_v0, b_l0), (b_v1, b_l1), (b_v2, b_l2), (b_v3, b_l3)) : Atm) = 0) {m : List Bnd} (hm : uniA ((a_s, a_p, a_n, (a_v0, a_l0), (a_v1, a_l1), (a_v2, a_l2), (a_v3, a_l3)) : Atm) ((b_s, b_p, b_n, (b_v0, b_l0), (b_v1, b_l1), (b_v2, b_l2), (b_v3, b_l3)) : Atm) = some m) (w : World) :
    Calls Tryd.prog 16 #[.agg #[.string ⟨a_s.toArray⟩, .string ⟨a_p.toArray⟩, .int .i64 a_n, .bool a_v0, .string ⟨a_l0.toArray⟩, .bool a_v1, .string ⟨a_l1.toArray⟩, .bool a_v2, .string ⟨a_l2.toArray⟩, .bool a_v3, .string ⟨a_l3.toArray⟩], .agg #[.string ⟨b_s.toArray⟩, .string ⟨b_p.toArray⟩, .int .i64 b_n, .bool b_v0, .string ⟨b_l0.toArray⟩, .bool b_v1, .string ⟨b_l1.toArray⟩, .bool b_v2, .string ⟨b_l2.toArray⟩, .bool b_v3, .string ⟨b_l3.toArray⟩]] w fun e w' => ∃ v, e = .returned (.tuple #[v, .bool true]) ∧ RowS w' v m ∧ Since w w' := by
  obtain ⟨n, hn, e1, ca⟩ := valid_len ha
  obtain ⟨k, hk, e2, cb⟩ := valid_len hb
  have hu := hm
  unfold uniA at hu
  split at hu
  · rename_i he
    have hnp := named_pairs ha hb (by rw [ca, cb]; have := he.2.2; omega)
    rw [ca] at hu hnp
    obtain ⟨h1, h2, h3⟩ := he
    simp only at e1 e2 h1 h2 h3
    subst h1 h2
    obtain rfl : a_n = (n : Int) := e1
    obtain rfl : b_n = (n : Int) := h3.symm
    refine (unify_main a_s a_p n a_v0 a_v1 a_v2 a_v3 a_l0 a_l1 a_l2 a_l3 b_v0 b_v1 b_v2 b_v3 b_l0 b_l1 b_l2 b_l3 hn w hnp).mono ?_
    rintro e w' ⟨v, r, rfl, hs, hr⟩
    rw [hu] at hr
    obtain ⟨rfl, hr⟩ := hr
    exact ⟨v, rfl, hr, hs⟩
  · cases hu
theorem unify_none (a_s a_p : List UInt8) (a_n : Int) (a_v0 a_v1 a_v2 a_v3 : Bool) (a_l0 a_l1 a_l2 a_l3 : List UInt8) (b_s b_p : List UInt8) (b_n : Int) (b_v0 b_v1 b_v2 b_v3 : Bool) (b_l0 b_l1 b_l2 b_l3 : List UInt8) (ha : checkA ((a_s, a_p, a_n, (a_v0, a_l0), (a_v1, a_l1), (a_v2, a_l2), (a_v3, a_l3)) : Atm) = 0) (hb : checkA ((b_s, b_p, b_n, (b_v0, b_l0), (b_v1, b_l1), (b_v2, b_l2), (b_v3, b_l3)) : Atm) = 0) (hm : uniA ((a_s, a_p, a_n, (a_v0, a_l0), (a_v1, a_l1), (a_v2, a_l2), (a_v3, a_l3)) : Atm) ((b_s, b_p, b_n, (b_v0, b_l0), (b_v1, b_l1), (b_v2, b_l2), (b_v3, b_l3)) : Atm) = none) (w : World) :
    Calls Tryd.prog 16 #[.agg #[.string ⟨a_s.toArray⟩, .string ⟨a_p.toArray⟩, .int .i64 a_n, .bool a_v0, .string ⟨a_l0.toArray⟩, .bool a_v1, .string ⟨a_l1.toArray⟩, .bool a_v2, .string ⟨a_l2.toArray⟩, .bool a_v3, .string ⟨a_l3.toArray⟩], .agg #[.string ⟨b_s.toArray⟩, .string ⟨b_p.toArray⟩, .int .i64 b_n, .bool b_v0, .string ⟨b_l0.toArray⟩, .bool b_v1, .string ⟨b_l1.toArray⟩, .bool b_v2, .string ⟨b_l2.toArray⟩, .bool b_v3, .string ⟨b_l3.toArray⟩]] w fun e w' => e = .returned (.tuple #[.slice none 0 0, .bool false]) ∧ Since w w' := by
  obtain ⟨n, hn, e1, ca⟩ := valid_len ha
  obtain ⟨k, hk, e2, cb⟩ := valid_len hb
  have hu := hm
  unfold uniA at hu
  split at hu
  · rename_i he
    have hnp := named_pairs ha hb (by rw [ca, cb]; have := he.2.2; omega)
    rw [ca] at hu hnp
    obtain ⟨h1, h2, h3⟩ := he
    simp only at e1 e2 h1 h2 h3
    subst h1 h2
    obtain rfl : a_n = (n : Int) := e1
    obtain rfl : b_n = (n : Int) := h3.symm
    refine (unify_main a_s a_p n a_v0 a_v1 a_v2 a_v3 a_l0 a_l1 a_l2 a_l3 b_v0 b_v1 b_v2 b_v3 b_l0 b_l1 b_l2 b_l3 hn w hnp).mono ?_
    rintro e w' ⟨v, r, rfl, hs, hr⟩
    rw [hu] at hr
    obtain ⟨rfl, rfl⟩ := hr
    exact ⟨rfl, hs⟩
  · rename_i he
    exact unify_ne a_s a_p a_n a_v0 a_v1 a_v2 a_v3 a_l0 a_l1 a_l2 a_l3 b_s b_p b_n b_v0 b_v1 b_v2 b_v3 b_l0 b_l1 b_l2 b_l3 he w
theorem lv_c1 : checkA (([97, 108, 105, 99, 101], [112], 2, (true, [88]), (false, [98]), (false, []), (false, [])) : Atm) = 0 := by kernel_rfl
theorem lv_c2 : checkA (([97, 108, 105, 99, 101], [112], 2, (false, [97]), (true, [89]), (false, []), (false, [])) : Atm) = 0 := by kernel_rfl
theorem lv_c3 : checkA (([97, 108, 105, 99, 101], [112], 2, (true, [88]), (true, [89]), (false, []), (false, [])) : Atm) = 0 := by kernel_rfl
theorem lv_c4 : checkA (([97, 108, 105, 99, 101], [112], 2, (true, [89]), (false, [97]), (false, []), (false, [])) : Atm) = 0 := by kernel_rfl
theorem lv_u1 : uniA (([97, 108, 105, 99, 101], [112], 2, (true, [88]), (false, [98]), (false, []), (false, [])) : Atm) (([97, 108, 105, 99, 101], [112], 2, (false, [97]), (true, [89]), (false, []), (false, [])) : Atm) = some [([88], (false, [97])), ([89], (false, [98]))] := by decide +kernel
theorem lv_u2 : uniA (([97, 108, 105, 99, 101], [112], 2, (true, [88]), (true, [89]), (false, []), (false, [])) : Atm) (([97, 108, 105, 99, 101], [112], 2, (true, [89]), (false, [97]), (false, []), (false, [])) : Atm) = some [([88], (false, [97])), ([89], (false, [97]))] := by decide +kernel
/-- Two bindings written out. -/
theorem bnd_two (W : World) (x y : Bnd) (g : Nat) (hg : W.heap.size = g) : RowOf 3 bndC (W.alloc (.cells #[.string ⟨x.1.toArray⟩, .bool x.2.1, .string ⟨x.2.2.toArray⟩, .string ⟨y.1.toArray⟩, .bool y.2.1, .string ⟨y.2.2.toArray⟩] 49)) (.slice (some ⟨g, 0, none⟩) 2 2) [x, y] := by
  refine ⟨_, 2, rfl, Nat.le_refl _, by unfold maxLen; omega, fun _ => ⟨g, 0, rfl, fun k hk j u hu => ?_⟩⟩
  have hk2 : k = 0 ∨ k = 1 := by simp only [List.length_cons, List.length_nil] at hk; omega
  rcases hk2 with rfl | rfl
  · have h := cells_lit W #[.string ⟨x.1.toArray⟩, .bool x.2.1, .string ⟨x.2.2.toArray⟩, .string ⟨y.1.toArray⟩, .bool y.2.1, .string ⟨y.2.2.toArray⟩] 49 g hg j u (by
      match j, hu with
      | 0, hu => exact hu
      | 1, hu => exact hu
      | 2, hu => exact hu)
    rw [add_form] at h
    simpa using h
  · have h := cells_lit W #[.string ⟨x.1.toArray⟩, .bool x.2.1, .string ⟨x.2.2.toArray⟩, .string ⟨y.1.toArray⟩, .bool y.2.1, .string ⟨y.2.2.toArray⟩] 49 g hg (3 + j) u (by
      match j, hu with
      | 0, hu => exact hu
      | 1, hu => exact hu
      | 2, hu => exact hu)
    rw [add_form] at h
    have e : 0 + 1 * 3 + j = 0 + (3 + j) := by omega
    rw [e]
    exact h
end Go.Proofs.YtohcehjpdmhjlaaDoor
