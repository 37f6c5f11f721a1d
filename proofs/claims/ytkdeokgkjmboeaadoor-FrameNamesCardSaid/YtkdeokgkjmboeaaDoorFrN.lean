/- Responses: none is the beginning of another; what is cut is not read. -/
import Derived.Test.YtkdeokgkjmboeaaDoorFrM
namespace Go.Proofs.YtkdeokgkjmboeaaDoor
open Go.RowKit

theorem restF_more (ch : Bool) (L : List Atm) (ct r : List UInt8) (h : ∀ a ∈ L, checkA a = 0) (hL : L.length < 4294967296) (hc : ct.length < 4294967296) : restF (chB ch :: (numL L.length ++ (L.flatMap atomB ++ (textB ct ++ r)))) false = (ch, L, ct, r, false) := by
  have h1 : oneF (chB ch :: (numL L.length ++ (L.flatMap atomB ++ (textB ct ++ r)))) false = ((if ch then 1 else 0), numL L.length ++ (L.flatMap atomB ++ (textB ct ++ r)), false) := by cases ch <;> rfl
  unfold restF
  rw [h1]
  have h2 : (false || decide (1 < (if ch then 1 else 0))) = false := by cases ch <;> rfl
  simp only
  rw [h2, nmF_enc hL]
  simp only
  rw [atomsF_enc L h]
  simp only
  rw [textB, List.append_assoc, nmF_enc hc]
  have h3 : ¬ (ct ++ r).length < ct.length := by rw [List.length_append]; omega
  simp only [takeF, Bool.false_eq_true, if_false, h3, List.take_left', List.drop_left']
  cases ch <;> rfl
/-- The parts of a response's bytes with more behind. -/
theorem parts_more {x : Rsp} (hx : mayRs x = true) (h1 : x.2.2.1.length < 4294967296) (h2 : x.2.2.2.length < 4294967296) (r : List UInt8) : partsF (rsB x ++ r) = (x, r, false) := by
  obtain ⟨code, ch, L, ct⟩ := x
  rcases mayRs_cases hx with ⟨h0, hp, h16, hch, hL, hct⟩ | ⟨h0, _, hv, _⟩
  · simp only at h0 hp h16 hch hL hct
    subst hch; subst hL; subst hct
    obtain ⟨k, rfl⟩ : ∃ k : Nat, code = (k : Int) := ⟨code.toNat, by omega⟩
    have hk0 : k ≠ 0 := by omega
    have hb : rsB ((k : Int), false, [], []) ++ r = UInt8.ofNat k :: r := by
      unfold rsB
      rw [if_pos h0, Int.toNat_natCast]; rfl
    have ho : oneF (rsB ((k : Int), false, [], []) ++ r) false = (k, r, false) := by rw [hb]; exact oneF_ofNat (by omega) r
    unfold partsF
    rw [ho]
    simp only
    rw [if_neg hk0]
  · simp only at h0 hv h1 h2
    subst h0
    have hb : rsB ((0 : Int), ch, L, ct) ++ r = UInt8.ofNat 0 :: (chB ch :: (numL L.length ++ (L.flatMap atomB ++ (textB ct ++ r)))) := by
      have e : rsB ((0 : Int), ch, L, ct) = UInt8.ofNat 0 :: (chB ch :: (numL L.length ++ (L.flatMap atomB ++ textB ct))) := rfl
      rw [e, List.cons_append, List.cons_append, List.append_assoc, List.append_assoc]
    have ho : oneF (rsB ((0 : Int), ch, L, ct) ++ r) false = (0, chB ch :: (numL L.length ++ (L.flatMap atomB ++ (textB ct ++ r))), false) := by rw [hb]; exact oneF_ofNat (by omega) _
    unfold partsF
    rw [ho]
    simp only
    rw [restF_more ch L ct r (fun a ha => (hv a ha).1) h1 h2, if_pos trivial]
theorem rs_pre {x y : Rsp} (hx : mayRs x = true) (hy : mayRs y = true) (x1 : x.2.2.1.length < 4294967296) (x2 : x.2.2.2.length < 4294967296) (y1 : y.2.2.1.length < 4294967296) (y2 : y.2.2.2.length < 4294967296) {r : List UInt8} (h : rsB x ++ r = rsB y) : r = [] ∧ x = y := by
  have h3 := parts_more hx x1 x2 r
  have h4 := parts_more hy y1 y2 []
  rw [List.append_nil, ← h, h3] at h4
  simp only [Prod.mk.injEq, and_true] at h4
  exact ⟨h4.2, h4.1⟩
theorem rsB_pos (x : Rsp) : 1 ≤ (rsB x).length := by
  unfold rsB
  split <;> simp
theorem rs_cut_none {x : Rsp} (hx : mayRs x = true) (hl : (rsB x).length < 4294967296) {p : Nat} (hp : p < (rsB x).length) : readRs ((rsB x).take p) = none := by
  cases hr : readRs ((rsB x).take p) with
  | none => rfl
  | some y =>
    obtain ⟨hy, he⟩ := readRs_some hr
    have h2 : rsB y ++ (rsB x).drop p = rsB x := by rw [← he, List.take_append_drop]
    have hx3 := rsB_parts hx (Nat.le_refl _)
    have hy3 := rsB_parts hy (n := (rsB x).length) (by rw [← he, List.length_take]; omega)
    have h3 := congrArg List.length (rs_pre hy hx (by omega) (by omega) (by omega) (by omega) h2).1
    rw [List.length_drop, List.length_nil] at h3
    omega
theorem rs_ext {x : Rsp} (hx : mayRs x = true) (r : List UInt8) (hl : (rsB x).length + r.length < 4294967296) : readRs (rsB x ++ r) = if r.isEmpty then some x else none := by
  have hx3 := rsB_parts hx (Nat.le_refl _)
  cases r with
  | nil => rw [List.append_nil]; exact readRs_rsB hx (by omega) (by omega)
  | cons c r =>
    simp only [List.isEmpty_cons, Bool.false_eq_true, if_false]
    cases hr : readRs (rsB x ++ c :: r) with
    | none => rfl
    | some y =>
      obtain ⟨hy, he⟩ := readRs_some hr
      have hy3 := rsB_parts hy (n := (rsB x).length + (c :: r).length) (by rw [← he, List.length_append]; exact Nat.le_refl _)
      cases (rs_pre hx hy (by omega) (by omega) (by omega) (by omega) he).1
theorem rs_same {x y : Rsp} (hx : mayRs x = true) (hy : mayRs y = true) (hxl : (rsB x).length < 4294967296) (hyl : (rsB y).length < 4294967296) : (rsB x == rsB y) = sameR x y := by
  by_cases h : x = y
  · subst h; rw [sameR_self]; simp
  · rw [sameR_not h]
    have hx3 := rsB_parts hx (Nat.le_refl _)
    have hy3 := rsB_parts hy (Nat.le_refl _)
    have hn : rsB x ≠ rsB y := fun e => h (rs_pre hx hy (by omega) (by omega) (by omega) (by omega) (r := []) (by rw [List.append_nil]; exact e)).2
    simpa using hn
theorem rq_same {k l : Int} {a b : Atm} (h1 : mayRq k a = true) (h2 : mayRq l b = true) : (rqB k a == rqB l b) = eqRq k l a b := by
  by_cases h : k = l ∧ a = b
  · obtain ⟨rfl, rfl⟩ := h; rw [eqRq_self]; simp
  · have hf : eqRq k l a b = false := by
      cases he : eqRq k l a b
      · rfl
      · exact absurd (eqRq_iff.1 he) h
    rw [hf]
    have hn : rqB k a ≠ rqB l b := fun e => h (rq_inj h1 h2 e)
    simpa using hn
end Go.Proofs.YtkdeokgkjmboeaaDoor
