/- Being under an atom, whatever the two are; what two atoms meet in: the plain law. -/
import Derived.Test.YtohcehjpdmhjlaaDoorUniMe
namespace Go.Proofs.YtohcehjpdmhjlaaDoor
open Go.RowKit

def UnderA (a p : Atm) : Prop := a.1 = p.1 ∧ a.2.1 = p.2.1 ∧ a.2.2.1 = p.2.2.1 ∧ ∀ i, i < countA a → CondAt a p i
theorem tmAt_pad {s p : List UInt8} : ∀ {L : List Tm} {i : Nat} (_ : L.length ≤ 4) (hi : i < L.length), tmAt (padN s p L) i = L[i]
  | [_], 0, _, _ => rfl
  | [_, _], 0, _, _ => rfl
  | [_, _], 1, _, _ => rfl
  | [_, _, _], 0, _, _ => rfl
  | [_, _, _], 1, _, _ => rfl
  | [_, _, _], 2, _, _ => rfl
  | [_, _, _, _], 0, _, _ => rfl
  | [_, _, _, _], 1, _, _ => rfl
  | [_, _, _, _], 2, _, _ => rfl
  | [_, _, _, _], 3, _, _ => rfl
  | [], _, _, h => by simp at h
  | [_], _ + 1, _, h => absurd h (by simp only [List.length_cons, List.length_nil]; omega)
  | [_, _], _ + 2, _, h => absurd h (by simp only [List.length_cons, List.length_nil]; omega)
  | [_, _, _], _ + 3, _, h => absurd h (by simp only [List.length_cons, List.length_nil]; omega)
  | [_, _, _, _], _ + 4, _, h => absurd h (by simp only [List.length_cons, List.length_nil]; omega)
  | _ :: _ :: _ :: _ :: _ :: _, _, h, _ => by simp at h
theorem underA_pad {s p s' p' : List UInt8} {C L : List Tm} (hC : C.length ≤ 4) (hL : L.length ≤ 4) : UnderA (padN s p C) (padN s' p' L) ↔ s = s' ∧ p = p' ∧ UnderL C L := by
  have hc : countA (padN s p C) = C.length := pad_count hC
  constructor
  · rintro ⟨h1, h2, h3, h4⟩
    have hl : C.length = L.length := by
      have : (C.length : Int) = (L.length : Int) := h3
      omega
    refine ⟨h1, h2, hl, fun i hi hm => ?_⟩
    have h := h4 i (by omega)
    unfold CondAt at h
    rw [tmAt_pad hL hm, tmAt_pad hC hi] at h
    refine ⟨h.1, fun k hk hv he => ?_⟩
    have h5 := h.2 k hk hv
    rw [tmAt_pad hL (by omega), tmAt_pad hC (by omega)] at h5
    exact h5 he
  · rintro ⟨rfl, rfl, hl, h⟩
    refine ⟨rfl, rfl, (show (C.length : Int) = (L.length : Int) by omega), fun i hi => ?_⟩
    rw [hc] at hi
    have hm : i < L.length := by omega
    have h2 := h i hi hm
    unfold CondAt
    rw [tmAt_pad hL hm, tmAt_pad hC hi]
    refine ⟨h2.1, fun k hk hv he => ?_⟩
    rw [tmAt_pad hL (by omega)] at he
    rw [tmAt_pad hC (by omega)]
    exact h2.2 k hk hv he
theorem mark_pad {x s p : List UInt8} : ∀ {M : List Tm} (_ : M.length ≤ 4), markA x (padN s p M) = padN s p (M.map (markT x))
  | [], _ => rfl
  | [_], _ => rfl
  | [_, _], _ => rfl
  | [_, _, _], _ => rfl
  | [_, _, _, _], _ => rfl
  | _ :: _ :: _ :: _ :: _ :: _, h => by simp at h
theorem nam_pad {s p : List UInt8} {L : List Tm} (h : NamedL L) : NamA (padN s p L) L.length := by
  refine ⟨h.1, rfl, fun t ht => ?_⟩
  have e := pad_take (s := s) (p := p) h.1
  rw [pad_count h.1] at e
  rw [e] at ht
  exact (h.2 t ht).1
theorem nam_of {a : Atm} (h : checkA a = 0) : NamA a (countA a) := by
  obtain ⟨L, hL, ea, _⟩ := valid_pad h
  have e : countA a = L.length := by rw [ea]; exact pad_count hL.1
  rw [e, ea]
  exact nam_pad hL
theorem meet_facts {a b : Atm} {x : List UInt8} (ka : checkA a = 0) (kb : checkA b = 0) (hx : x.length ≤ 45) (h35 : (35 : UInt8) ∈ x) :
    NamA (markA x b) (countA b) ∧ (uniA a a = some [] ∧ applyA [] a = a) ∧ uniA (markA x b) a = uniA a (markA x b) ∧
    (∀ m, uniA a (markA x b) = some m → InvB m ∧ m.length ≤ 4 ∧ applyA m (markA x b) = applyA m a ∧ UnderA (applyA m a) a ∧ UnderA (applyA m a) (markA x b)) ∧
    (∀ c, checkA c = 0 → UnderA c a → UnderA c (markA x b) → ∃ m, uniA a (markA x b) = some m ∧ UnderA c (applyA m a)) := by
  obtain ⟨L, hL, ea, _, _, htL⟩ := valid_pad ka
  obtain ⟨M, hM, eb, _, _, htM⟩ := valid_pad kb
  have hM' : NamedL (M.map (markT x)) := markT_named (n := 0) (fun t ht => named_term (htM t ht)) hx hM.1
  have em : markA x b = padN b.1 b.2.1 (M.map (markT x)) := by rw [eb]; exact mark_pad hM.1
  have cb : countA b = (M.map (markT x)).length := by rw [eb, List.length_map]; exact pad_count hM.1
  rw [em, cb]
  have ea' : a = padN a.1 a.2.1 L := ea
  generalize a.1 = s at *
  generalize a.2.1 = p at *
  generalize b.1 = s' at *
  generalize b.2.1 = p' at *
  subst ea'
  refine ⟨nam_pad hM', ⟨?_, ?_⟩, uniA_swap hL.1 hM'.1, fun m hm => ?_, fun c kc h1 h2 => ?_⟩
  · rw [uniA_pad hL.1 hL.1, if_pos ⟨rfl, rfl, rfl⟩]; exact uni_self L
  · rw [apply_pad [] hL.1, map_nil_id]
  · obtain ⟨i1, i2, i3⟩ := uniA_sound hL hM' hm
    refine ⟨i1, i2, i3.symm, ?_, ?_⟩
    · rw [apply_pad m hL.1, underA_pad (by rw [List.length_map]; exact hL.1) hL.1]
      exact ⟨rfl, rfl, under_apply m L⟩
    · have hm2 := hm
      rw [uniA_pad hL.1 hM'.1] at hm2
      split at hm2
      · rename_i he
        rw [i3, apply_pad m hM'.1, underA_pad (by rw [List.length_map]; exact hM'.1) hM'.1]
        exact ⟨rfl, rfl, under_apply m _⟩
      · cases hm2
  · obtain ⟨C, hC, ec, _⟩ := valid_pad kc
    rw [ec, underA_pad hC.1 hL.1] at h1
    rw [ec, underA_pad hC.1 hM'.1] at h2
    obtain ⟨m, hm, hu⟩ := meet_under hL hM' (mark_apart htL h35) h1.2.2 h2.2.2
    refine ⟨m, ?_, ?_⟩
    · have hl : L.length = (M.map (markT x)).length := by have := h1.2.2.1; have := h2.2.2.1; omega
      rw [uniA_pad hL.1 hM'.1, if_pos ⟨h1.1.symm.trans h2.1, h1.2.1.symm.trans h2.2.1, hl⟩]
      exact hm
    · rw [ec, apply_pad m hL.1, underA_pad hC.1 (by rw [List.length_map]; exact hL.1)]
      exact ⟨h1.1, h1.2.1, hu⟩
set_option maxHeartbeats 4000000 in
set_option maxRecDepth 100000 in
theorem under_ne (a_s a_p : List UInt8) (a_n : Int) (a_v0 a_v1 a_v2 a_v3 : Bool) (a_l0 a_l1 a_l2 a_l3 : List UInt8) (b_s b_p : List UInt8) (b_n : Int) (b_v0 b_v1 b_v2 b_v3 : Bool) (b_l0 b_l1 b_l2 b_l3 : List UInt8) (h : ¬ (a_s = b_s ∧ a_p = b_p ∧ a_n = b_n)) (w : World) :
    Calls Tryd.prog 11 #[.agg #[.string ⟨a_s.toArray⟩, .string ⟨a_p.toArray⟩, .int .i64 a_n, .bool a_v0, .string ⟨a_l0.toArray⟩, .bool a_v1, .string ⟨a_l1.toArray⟩, .bool a_v2, .string ⟨a_l2.toArray⟩, .bool a_v3, .string ⟨a_l3.toArray⟩], .agg #[.string ⟨b_s.toArray⟩, .string ⟨b_p.toArray⟩, .int .i64 b_n, .bool b_v0, .string ⟨b_l0.toArray⟩, .bool b_v1, .string ⟨b_l1.toArray⟩, .bool b_v2, .string ⟨b_l2.toArray⟩, .bool b_v3, .string ⟨b_l3.toArray⟩]] w fun e w' => e = .returned (.bool false) ∧ Since w w' := by
  have HAL := Lib.hid (fun W => alike_no a_s a_p a_n a_v0 a_v1 a_v2 a_v3 a_l0 a_l1 a_l2 a_l3 b_s b_p b_n b_v0 b_v1 b_v2 b_v3 b_l0 b_l1 b_l2 b_l3 h W)
  clear h
  have hS : Since w ((w.alloc (.cells #[.string ⟨a_s.toArray⟩, .string ⟨a_p.toArray⟩, .int .i64 a_n, .bool a_v0, .string ⟨a_l0.toArray⟩, .bool a_v1, .string ⟨a_l1.toArray⟩, .bool a_v2, .string ⟨a_l2.toArray⟩, .bool a_v3, .string ⟨a_l3.toArray⟩] 26)).alloc (.cells #[.string ⟨b_s.toArray⟩, .string ⟨b_p.toArray⟩, .int .i64 b_n, .bool b_v0, .string ⟨b_l0.toArray⟩, .bool b_v1, .string ⟨b_l1.toArray⟩, .bool b_v2, .string ⟨b_l2.toArray⟩, .bool b_v3, .string ⟨b_l3.toArray⟩] 26)) := ((Since.refl _).alloc _).alloc _
  have a_B : Box ((w.alloc (.cells #[.string ⟨a_s.toArray⟩, .string ⟨a_p.toArray⟩, .int .i64 a_n, .bool a_v0, .string ⟨a_l0.toArray⟩, .bool a_v1, .string ⟨a_l1.toArray⟩, .bool a_v2, .string ⟨a_l2.toArray⟩, .bool a_v3, .string ⟨a_l3.toArray⟩] 26)).alloc (.cells #[.string ⟨b_s.toArray⟩, .string ⟨b_p.toArray⟩, .int .i64 b_n, .bool b_v0, .string ⟨b_l0.toArray⟩, .bool b_v1, .string ⟨b_l1.toArray⟩, .bool b_v2, .string ⟨b_l2.toArray⟩, .bool b_v3, .string ⟨b_l3.toArray⟩] 26)) w.heap.size ((a_s, a_p, a_n, (a_v0, a_l0), (a_v1, a_l1), (a_v2, a_l2), (a_v3, a_l3)) : Atm) := (box_new w ((a_s, a_p, a_n, (a_v0, a_l0), (a_v1, a_l1), (a_v2, a_l2), (a_v3, a_l3)) : Atm) _).next ((Since.refl _).alloc _)
  have b_B : Box ((w.alloc (.cells #[.string ⟨a_s.toArray⟩, .string ⟨a_p.toArray⟩, .int .i64 a_n, .bool a_v0, .string ⟨a_l0.toArray⟩, .bool a_v1, .string ⟨a_l1.toArray⟩, .bool a_v2, .string ⟨a_l2.toArray⟩, .bool a_v3, .string ⟨a_l3.toArray⟩] 26)).alloc (.cells #[.string ⟨b_s.toArray⟩, .string ⟨b_p.toArray⟩, .int .i64 b_n, .bool b_v0, .string ⟨b_l0.toArray⟩, .bool b_v1, .string ⟨b_l1.toArray⟩, .bool b_v2, .string ⟨b_l2.toArray⟩, .bool b_v3, .string ⟨b_l3.toArray⟩] 26)) (w.heap.size + 1) ((b_s, b_p, b_n, (b_v0, b_l0), (b_v1, b_l1), (b_v2, b_l2), (b_v3, b_l3)) : Atm) := by
    have := box_new (w.alloc (.cells #[.string ⟨a_s.toArray⟩, .string ⟨a_p.toArray⟩, .int .i64 a_n, .bool a_v0, .string ⟨a_l0.toArray⟩, .bool a_v1, .string ⟨a_l1.toArray⟩, .bool a_v2, .string ⟨a_l2.toArray⟩, .bool a_v3, .string ⟨a_l3.toArray⟩] 26)) ((b_s, b_p, b_n, (b_v0, b_l0), (b_v1, b_l1), (b_v2, b_l2), (b_v3, b_l3)) : Atm) 26
    rwa [World.size_alloc] at this
  obtain ⟨a_c0, a_c1, a_c2, a_c3, a_c4, a_c5, a_c6, a_c7, a_c8, a_c9, a_c10⟩ := a_B.all
  obtain ⟨b_c0, b_c1, b_c2, b_c3, b_c4, b_c5, b_c6, b_c7, b_c8, b_c9, b_c10⟩ := b_B.all
  go_enter Tryd.func11, Tryd.ntmps11
  go_wp2_with fail
  refine (HAL.out _).mono ?_
  rintro e w1 ⟨rfl, hb⟩
  clear a_c0 a_c1 a_c2 a_c3 a_c4 a_c5 a_c6 a_c7 a_c8 a_c9 a_c10 b_c0 b_c1 b_c2 b_c3 b_c4 b_c5 b_c6 b_c7 b_c8 b_c9 b_c10 a_B b_B
  go_wp2_with fail
  go_ret
  exact ⟨rfl, hS.trans hb⟩
theorem underA_any (a_s a_p : List UInt8) (a_n : Int) (a_v0 a_v1 a_v2 a_v3 : Bool) (a_l0 a_l1 a_l2 a_l3 : List UInt8) (b_s b_p : List UInt8) (b_n : Int) (b_v0 b_v1 b_v2 b_v3 : Bool) (b_l0 b_l1 b_l2 b_l3 : List UInt8) {n k : Nat} (ha : n ≤ 4 ∧ a_n = (n : Int)) (hb : k ≤ 4 ∧ b_n = (k : Int)) (R : Bool) (hR : R = true ↔ UnderA ((a_s, a_p, a_n, (a_v0, a_l0), (a_v1, a_l1), (a_v2, a_l2), (a_v3, a_l3)) : Atm) ((b_s, b_p, b_n, (b_v0, b_l0), (b_v1, b_l1), (b_v2, b_l2), (b_v3, b_l3)) : Atm)) (w : World) :
    Calls Tryd.prog 11 #[.agg #[.string ⟨a_s.toArray⟩, .string ⟨a_p.toArray⟩, .int .i64 a_n, .bool a_v0, .string ⟨a_l0.toArray⟩, .bool a_v1, .string ⟨a_l1.toArray⟩, .bool a_v2, .string ⟨a_l2.toArray⟩, .bool a_v3, .string ⟨a_l3.toArray⟩], .agg #[.string ⟨b_s.toArray⟩, .string ⟨b_p.toArray⟩, .int .i64 b_n, .bool b_v0, .string ⟨b_l0.toArray⟩, .bool b_v1, .string ⟨b_l1.toArray⟩, .bool b_v2, .string ⟨b_l2.toArray⟩, .bool b_v3, .string ⟨b_l3.toArray⟩]] w fun e w' => e = .returned (.bool R) ∧ Since w w' := by
  by_cases he : a_s = b_s ∧ a_p = b_p ∧ a_n = b_n
  · obtain ⟨h1, h2, h3⟩ := he
    subst h1 h2 h3
    obtain ⟨hn, rfl⟩ := ha
    refine under_main a_s a_p n a_v0 a_v1 a_v2 a_v3 a_l0 a_l1 a_l2 a_l3 b_v0 b_v1 b_v2 b_v3 b_l0 b_l1 b_l2 b_l3 hn R ?_ w
    have e : ∀ X : Atm, X.2.2.1 = (n : Int) → countA X = n := fun X hX => by unfold countA; rw [hX]; omega
    rw [hR]
    constructor
    · rintro ⟨_, _, _, h⟩ i hi
      exact h i (by rw [e _ rfl]; exact hi)
    · intro h
      exact ⟨rfl, rfl, rfl, fun i hi => h i (by rw [e _ rfl] at hi; exact hi)⟩
  · have h0 : R = false := by
      cases hRv : R
      · rfl
      · obtain ⟨h1, h2, h3, _⟩ := hR.1 hRv
        exact absurd ⟨h1, h2, h3⟩ he
    rw [h0]
    exact under_ne a_s a_p a_n a_v0 a_v1 a_v2 a_v3 a_l0 a_l1 a_l2 a_l3 b_s b_p b_n b_v0 b_v1 b_v2 b_v3 b_l0 b_l1 b_l2 b_l3 he w
end Go.Proofs.YtohcehjpdmhjlaaDoor
