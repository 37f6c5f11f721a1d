/- Same[Step]: rows of steps, one for one. -/
import Derived.Test.YtfbkddpapjpgbaaLexF
import Derived.Test.YtfbkddpapjpgbaaLexSame
namespace Go.Proofs.Ytfbkddpapjpgbaa
open Go.RowKit

/-- Are two steps one? -/
def eqS (a b : Item) : Bool := decide (a.1.1 = b.1.1) && (decide (a.1.2.1 = b.1.2.1) && (decide (a.1.2.2 = b.1.2.2) && decide (a.2 = b.2)))
theorem eqS_iff {a b : Item} : eqS a b = true ↔ a = b := by
  obtain ⟨⟨k, l, n⟩, e⟩ := a
  obtain ⟨⟨j, m, p⟩, f⟩ := b
  simp only [eqS, Bool.and_eq_true, decide_eq_true_eq, Prod.mk.injEq, and_assoc]
theorem run_stEq (k j e f : Int) (l m : List UInt8) (a b : Nat) (W : World) : (Op.equalIn 10000 38 (.agg #[.int .i64 k, .string ⟨l.toArray⟩, .int .i64 (a : Int), .int .i64 e]) (.agg #[.int .i64 j, .string ⟨m.toArray⟩, .int .i64 (b : Int), .int .i64 f])).run Try.prog W = .ok (eqS ((k, l, a), e) ((j, m, b), f)) W := by
  go_simp
  by_cases h1 : k = j <;> by_cases h2 : l = m <;> by_cases h3 : a = b <;> by_cases h4 : e = f <;> simp [h1, h2, h3, h4, eqS, Int.ofNat_inj]
attribute [local go_sem ↓] run_stEq
theorem st_get : ∀ (L : List Item) (i k : Nat) (h : i < L.length), k < 4 → (L.flatMap stL)[4 * i + k]? = (stL L[i])[k]?
  | t :: r, 0, k, h, hk => by
    rw [List.flatMap_cons, Nat.mul_zero, Nat.zero_add, List.getElem?_append_left (by exact hk)]; rfl
  | t :: r, i + 1, k, h, hk => by
    have hl : (stL t).length = 4 := rfl
    rw [List.flatMap_cons, List.getElem?_append_right (by rw [hl]; omega), hl, show 4 * (i + 1) + k - 4 = 4 * i + k by omega]
    exact st_get r i k (by simpa using h) hk
theorem st_flen (L : List Item) : (L.flatMap stL).length = 4 * L.length := by
  induction L with
  | nil => rfl
  | cons t r ih =>
    have hl : (stL t).length = 4 := rfl
    rw [List.flatMap_cons, List.length_append, ih, hl, List.length_cons]; omega
/-- A step in a row of steps, as a walk writes its places. -/
theorem st_at {w : World} {b o : Nat} {L : List Item} (h : ∀ (j : Nat) (h : j < (L.flatMap stL).length), w.cell? ⟨b, o + j, none⟩ = some (L.flatMap stL)[j]) {i : Nat} (hi : i < L.length) :
    w.cell? ⟨b, o + i * 4, none⟩ = some (.int .i64 L[i].1.1) ∧ w.cell? ⟨b, o + i * 4 + 1, none⟩ = some (.string ⟨L[i].1.2.1.toArray⟩) ∧ w.cell? ⟨b, o + i * 4 + 2, none⟩ = some (.int .i64 (L[i].1.2.2 : Int)) ∧ w.cell? ⟨b, o + i * 4 + 3, none⟩ = some (.int .i64 L[i].2) := by
  have g : ∀ k, k < 4 → w.cell? ⟨b, o + (4 * i + k), none⟩ = (stL L[i])[k]? := by
    intro k hk
    have hj : 4 * i + k < (L.flatMap stL).length := by rw [st_flen]; omega
    rw [h _ hj, ← st_get L i k hi hk, List.getElem?_eq_getElem hj]
  rw [Nat.mul_comm 4 i] at g
  exact ⟨g 0 (by omega), g 1 (by omega), g 2 (by omega), g 3 (by omega)⟩
theorem drop_eqS {L1 L2 : List Item} {k : Nat} (h1 : k < L1.length) (h2 : k < L2.length) : decide (L1.drop k = L2.drop k) = (eqS L1[k] L2[k] && decide (L1.drop (k + 1) = L2.drop (k + 1))) := by
  rw [List.drop_eq_getElem_cons h1, List.drop_eq_getElem_cons h2, Bool.eq_iff_iff, Bool.and_eq_true, decide_eq_true_eq, decide_eq_true_eq, eqS_iff, List.cons.injEq]
theorem own_row4 {w : World} {v : Value} {base : Nat} {e : TypeId} {n : Nat} {xs : List Value} (h : w.ownsRow base e 4 v n xs) : Row w v n xs := row_of_own h

set_option maxHeartbeats 400000 in
theorem same_step (v1 v2 : Value) (L1 L2 : List Item) (w : World) (h1 : Row w v1 L1.length (L1.flatMap stL)) (h2 : Row w v2 L2.length (L2.flatMap stL)) (hm1 : L1.length ≤ 1000000) (hm2 : L2.length ≤ 1000000) :
    Calls Try.prog 17 #[v1, v2] w fun e w' => e = .returned (.bool (decide (L1 = L2))) ∧ Since w w' := by
  by_cases hl : L1.length = L2.length
  · have hq : ((L1.length : Int) != (L2.length : Int)) = false := by simp [hl]
    by_cases h0 : 0 < L1.length
    · obtain ⟨b1, o1, c1, rfl, hn1, hc1⟩ := h1.some h0
      obtain ⟨b2, o2, c2, rfl, hn2, hc2⟩ := h2.some (by omega)
      clear h1 h2
      have HL := Lib.hid hl
      have HC1 := Lib.hid hc1
      have HC2 := Lib.hid hc2
      clear hl hc1 hc2
      go_enter Try.func17, Try.ntmps17
      go_wp2
      go_loopw [5] (fun i wr => ∃ k : Nat, k ≤ L1.length ∧ i = .int .i64 k ∧ Hid (decide (L1 = L2) = decide (L1.drop k = L2.drop k)) ∧ Since w wr) (fun i _ => L1.length - (intOf i).toNat)
      case atStart => exact ⟨0, Nat.zero_le _, rfl, rfl, Since.refl _⟩
      case round =>
        obtain ⟨k, hk, rfl, hres, hS⟩ := hrel
        by_cases hlt : k < L1.length
        · have hlt2 : k < L2.length := by rw [← HL.out]; exact hlt
          obtain ⟨d1, d2, d3, d4⟩ := st_at HC1.out hlt
          obtain ⟨e1, e2, e3, e4⟩ := st_at HC2.out hlt2
          replace d1 := hS.cell d1; replace d2 := hS.cell d2; replace d3 := hS.cell d3; replace d4 := hS.cell d4
          replace e1 := hS.cell e1; replace e2 := hS.cell e2; replace e3 := hS.cell e3; replace e4 := hS.cell e4
          have hst := drop_eqS hlt hlt2
          have HST := Lib.hid hst
          clear hst
          have hk2 : (k : Int) < (L2.length : Int) := by omega
          generalize L1[k] = x at *
          generalize L2[k] = y at *
          obtain ⟨⟨xk, xt, xa⟩, xe⟩ := x
          obtain ⟨⟨yk, yt, ya⟩, ye⟩ := y
          simp only at d1 d2 d3 d4 e1 e2 e3 e4
          cases he : eqS ((xk, xt, xa), xe) ((yk, yt, ya), ye)
          · go_wp2
            go_quiet (fail)
            go_wp2
            go_ret
            refine ⟨ret_bool ?_, hS.drewN _⟩
            rw [hres.out, HST.out, he, Bool.false_and]
          · go_wp2
            go_quiet (fail)
            go_wp2
            go_roundw
            case rel =>
              refine ⟨k + 1, by omega, by go_num, ?_, hS.drewN _⟩
              have := hres.out
              rw [HST.out, he, Bool.true_and] at this
              exact this
            case measure => simp [intOf]; omega
        · go_wp2
          go_ret
          refine ⟨ret_bool ?_, hS⟩
          rw [hres.out, List.drop_eq_nil_of_le (by omega), List.drop_eq_nil_of_le (by rw [← HL.out]; omega)]
          simp
    · have e1 : L1 = [] := List.eq_nil_of_length_eq_zero (by omega)
      have e2 : L2 = [] := List.eq_nil_of_length_eq_zero (by omega)
      subst e1 e2
      obtain ⟨a1, c1, rfl⟩ := h1.len
      obtain ⟨a2, c2, rfl⟩ := h2.len
      clear h1 h2
      go_enter Try.func17, Try.ntmps17
      go_wp2
      go_loop [5] (fun i => i = .int .i64 0) (fun _ => 0)
      case atStart => rfl
      case round =>
        subst hrel
        go_wp2
        go_ret
        exact ⟨rfl, Since.refl _⟩
  · have hq : ((L1.length : Int) != (L2.length : Int)) = true := by simp; omega
    obtain ⟨a1, c1, rfl⟩ := h1.len
    obtain ⟨a2, c2, rfl⟩ := h2.len
    clear h1 h2
    go_enter Try.func17, Try.ntmps17
    go_wp2
    go_ret
    exact ⟨ret_bool (by rw [eq_comm]; exact decide_eq_false (fun e => hl (by rw [e]))), Since.refl _⟩
end Go.Proofs.Ytfbkddpapjpgbaa
