/- ParseTrees of law 10: the walk. -/
import Derived.Test.YtnfjjckbgnieeaaGreatDoorPTr
import Derived.Test.YtnfjjckbgnieeaaGreatDoorPSa
import Derived.Test.YtnfjjckbgnieeaaGreatDoorPLv
namespace Go.Proofs.YtnfjjckbgnieeaaGreatDoor
open Go.RowKit

theorem toksF_place : ∀ (f : Nat) (r : List UInt8) (i at_ : Nat) (e : Int), (toksF f r i).2 = some (at_, e) → at_ ≤ i + r.length
  | 0, _, _, _, _, h => by simp [toksF] at h
  | f + 1, r, i, at_, e, h => by
    rw [toksF] at h
    have hs := skipN_le false r
    cases hk : tokN (r.drop (skipN false r)) with
    | none => rw [hk] at h; simp at h
    | some x =>
      cases x with
      | error e => rw [hk] at h; simp at h; omega
      | ok p =>
        obtain ⟨q, u⟩ := p
        rw [hk] at h
        simp only at h
        obtain ⟨h1, r', h2⟩ := tokN_len hk
        have hl := congrArg List.length h2
        rw [List.length_drop, List.length_append] at hl
        have ih := toksF_place f _ _ _ _ h
        rw [List.length_drop] at ih
        omega
theorem allL_place {s : Txt} (hs : s.length ≤ 65536) : (allL s).2.1 ≤ s.length := by
  unfold allL
  rw [if_neg (by omega)]
  cases h : toksL s with
  | mk l x =>
    cases x with
    | none => exact Nat.zero_le _
    | some y =>
      obtain ⟨at_, e⟩ := y
      have h2 := toksF_place (s.length + 1) s 0 at_ e (by rw [show toksF (s.length + 1) s 0 = toksL s from rfl, h])
      show at_ ≤ _
      omega
theorem all_toks {s : Txt} (hs : s.length ≤ 65536) (_h : (allL s).2.2 = 0) : (allL s).1 = (toksL s).1 ∨ (allL s).1 = [] := by
  unfold allL
  rw [if_neg (by omega)]
  cases h2 : toksL s with
  | mk l x =>
    cases x with
    | none => exact .inl rfl
    | some y => exact .inr rfl
/-- What a text is parsed to. -/
theorem pol_said {s : Txt} (hs : s.length ≤ 65536) : ((policyL s).2.2 = 0 → POk (policyL s).1) ∧ (¬ (policyL s).2.2 = 0 → (policyL s).1 = pol0 ∧ (policyL s).2.1 ≤ s.length) := by
  unfold policyL
  by_cases h0 : (allL s).2.2 = 0
  · rw [if_pos h0]
    cases hp : polT (txtsK (allL s).1) with
    | ok st => exact ⟨fun _ => polT_ok hp, fun h => absurd rfl h⟩
    | error x =>
      obtain ⟨k, e⟩ := x
      refine ⟨fun _ => pol0_ok, fun _ => ⟨rfl, ?_⟩⟩
      show placeK (allL s).1 s.length k ≤ _
      rcases all_toks hs h0 with h | h
      · rw [h]; exact placeK_le k
      · rw [h]; simp [placeK]
  · rw [if_neg h0]
    exact ⟨fun h => absurd h h0, fun _ => ⟨rfl, allL_place hs⟩⟩
theorem meas_step {n k : Nat} (h : k < n) : n - ((k : Int) + 1).toNat < n - ((k : Int)).toNat := by omega
theorem cast_step (k : Nat) : (k : Int) + 1 = ((k + 1 : Nat) : Int) := by omega
theorem wrap_step {n k : Nat} (h : k < n) (hn : n ≤ 9223372036854775807) : wrap64 ((k : Int) + 1) = (k : Int) + 1 := IntWalk.wrap64_in _ (by omega)
theorem meas_wrap {n k : Nat} (h : k < n) (hn : n ≤ 9223372036854775807) : n - (wrap64 ((k : Int) + 1)).toNat < n - ((k : Int)).toNat := by
  rw [wrap_step h hn]; exact meas_step h
theorem intOf_int (X : Int) : intOf (.int .i64 X) = X := rfl
theorem max_lit : maxLen ≤ 9223372036854775807 := by decide
theorem own_lenP {W : World} {D : Nat} {e : TypeId} {K n : Nat} {v : Value} {xs : List Value} (h : W.ownsRow D e K v n xs) : n ≤ 9223372036854775807 := by
  rcases h.2 with ⟨_, h⟩ | ⟨g, cap, cur, _, _, _, h1, h2, _⟩
  · rw [h]; exact Nat.zero_le _
  · exact Nat.le_trans h1 (Nat.le_trans h2 max_lit)
theorem princ_len {x : Txt} (h : principalB x = true) : x.length ≤ maxLen := by
  unfold principalB at h
  rw [Bool.and_eq_true] at h
  have h2 := h.1
  cases x with
  | nil => unfold maxLen; simp
  | cons c r =>
    simp only [spelledB, Bool.and_eq_true, decide_eq_true_eq] at h2
    unfold maxLen; omega
theorem spell_len {f m : Int → Bool} {x : Txt} (h : spelledB f m x = true) : x.length ≤ maxLen := by
  cases x with
  | nil => unfold maxLen; simp
  | cons c r =>
    simp only [spelledB, Bool.and_eq_true, decide_eq_true_eq] at h
    unfold maxLen; omega
theorem term_len {t : Tm} (h : termB t = true) : t.2.length ≤ maxLen := by
  obtain ⟨v, l⟩ := t
  cases v with
  | true => have h1 : variableB l = true := h; unfold variableB at h1; first | exact spell_len h1 | (rw [Bool.and_eq_true] at h1; exact spell_len h1.1)
  | false => have h1 : constantB l = true := h; unfold constantB at h1; rw [Bool.and_eq_true] at h1; exact spell_len h1.1
theorem valid_fits {a : Atm} (h : checkA a = 0) : FitsA a := by
  obtain ⟨h1, h2, _, _, h5, _, h7⟩ := valid_parts h
  refine ⟨princ_len h1, princ_len h2, fun t ht => ?_⟩
  rw [← List.take_append_drop (countA a) (argsL a)] at ht
  rcases List.mem_append.1 ht with ht | ht
  · exact term_len (h5 t ht)
  · rw [h7 t ht]; unfold maxLen; simp
theorem row_zero {W : World} {D : Nat} {a : Option Addr} {e : Nat} (h : W.ownsRow D 9 1 (.slice a 0 e) 0 []) : Row W (.slice a 0 e) 0 [] := row_of_own h
set_option maxHeartbeats 2000000 in
set_option maxRecDepth 100000 in
theorem same_pol0 (a3 a4 a5 a8 a9 : Option Addr) (e3 e4 e5 e8 e9 : Nat) (D : Nat) (w : World) (h3 : w.ownsRow D 9 1 (.slice a3 0 e3) 0 []) (h4 : w.ownsRow D 36 2 (.slice a4 0 e4) 0 []) :
    Calls Tryz.prog 12 #[.agg #[.slice a3 0 e3, .slice a4 0 e4, .slice a5 0 e5, .int .i64 0, .int .i64 0, .slice a8 0 e8, .slice a9 0 e9], .agg #[.slice none 0 0, .slice none 0 0, .slice none 0 0, .int .i64 0, .int .i64 0, .slice none 0 0, .slice none 0 0]] w fun e w' => e = .returned (.bool true) ∧ Since w w' := by
  have HS1 : Hid (∀ W, Since w W → Calls Tryz.prog 39 #[.slice a3 0 e3, .slice none 0 0] W fun e w' => e = .returned (.bool true) ∧ Since W w') := fun W h => by
    have h := same_str (.slice a3 0 e3) (.slice none 0 0) [] [] W (tx_row (L := []) (own_since h3 h)) (tx_row (L := []) (World.ownsRow_nil W 0 _ _)) (by simp) (by simp)
    exact h
  have HS2 : Hid (∀ W, Since w W → Calls Tryz.prog 40 #[.slice a4 0 e4, .slice none 0 0] W fun e w' => e = .returned (.bool true) ∧ Since W w') := fun W h => same_prds _ _ [] W (prd_row (L := []) (own_since h4 h)) (prd_row (L := []) (World.ownsRow_nil W 0 _ _)) (by simp)
  have hS : Since w ((w.alloc (.cells #[.slice a3 0 e3, .slice a4 0 e4, .slice a5 0 e5, .int .i64 0, .int .i64 0, .slice a8 0 e8, .slice a9 0 e9] 29)).alloc (.cells #[.slice none 0 0, .slice none 0 0, .slice none 0 0, .int .i64 0, .int .i64 0, .slice none 0 0, .slice none 0 0] 29)) := ((Since.refl w).alloc _).alloc _
  have c1 : Cel ((w.alloc (.cells #[.slice a3 0 e3, .slice a4 0 e4, .slice a5 0 e5, .int .i64 0, .int .i64 0, .slice a8 0 e8, .slice a9 0 e9] 29)).alloc (.cells #[.slice none 0 0, .slice none 0 0, .slice none 0 0, .int .i64 0, .int .i64 0, .slice none 0 0, .slice none 0 0] 29)) w.heap.size #[.slice a3 0 e3, .slice a4 0 e4, .slice a5 0 e5, .int .i64 0, .int .i64 0, .slice a8 0 e8, .slice a9 0 e9] 29 := (show Cel _ _ _ _ from heap_alloc_new w _).next ((Since.refl _).alloc _)
  have c2 : Cel ((w.alloc (.cells #[.slice a3 0 e3, .slice a4 0 e4, .slice a5 0 e5, .int .i64 0, .int .i64 0, .slice a8 0 e8, .slice a9 0 e9] 29)).alloc (.cells #[.slice none 0 0, .slice none 0 0, .slice none 0 0, .int .i64 0, .int .i64 0, .slice none 0 0, .slice none 0 0] 29)) (w.heap.size + 1) #[.slice none 0 0, .slice none 0 0, .slice none 0 0, .int .i64 0, .int .i64 0, .slice none 0 0, .slice none 0 0] 29 := by
    have h := heap_alloc_new (w.alloc (.cells #[.slice a3 0 e3, .slice a4 0 e4, .slice a5 0 e5, .int .i64 0, .int .i64 0, .slice a8 0 e8, .slice a9 0 e9] 29)) (.cells #[.slice none 0 0, .slice none 0 0, .slice none 0 0, .int .i64 0, .int .i64 0, .slice none 0 0, .slice none 0 0] 29)
    rwa [World.size_alloc] at h
  clear h3 h4
  go_enter Tryz.func12, Tryz.ntmps12
  go_upto_region 1 with (fail)
  generalize ((w.alloc (.cells #[.slice a3 0 e3, .slice a4 0 e4, .slice a5 0 e5, .int .i64 0, .int .i64 0, .slice a8 0 e8, .slice a9 0 e9] 29)).alloc (.cells #[.slice none 0 0, .slice none 0 0, .slice none 0 0, .int .i64 0, .int .i64 0, .slice none 0 0, .slice none 0 0] 29)) = w1 at *
  have k0 : w1.cell? ⟨w.heap.size, 0, none⟩ = some (.slice a3 0 e3) := c1.cell 0; have k1 : w1.cell? ⟨w.heap.size, 1, none⟩ = some (.slice a4 0 e4) := c1.cell 1; have k2 : w1.cell? ⟨w.heap.size, 2, none⟩ = some (.slice a5 0 e5) := c1.cell 2; have k3 : w1.cell? ⟨w.heap.size, 3, none⟩ = some (.int .i64 0) := c1.cell 3; have k4 : w1.cell? ⟨w.heap.size, 4, none⟩ = some (.int .i64 0) := c1.cell 4; have k5 : w1.cell? ⟨w.heap.size, 5, none⟩ = some (.slice a8 0 e8) := c1.cell 5; have k6 : w1.cell? ⟨w.heap.size, 6, none⟩ = some (.slice a9 0 e9) := c1.cell 6
  have l0 : w1.cell? ⟨w.heap.size + 1, 0, none⟩ = some (.slice none 0 0) := c2.cell 0; have l1 : w1.cell? ⟨w.heap.size + 1, 1, none⟩ = some (.slice none 0 0) := c2.cell 1; have l2 : w1.cell? ⟨w.heap.size + 1, 2, none⟩ = some (.slice none 0 0) := c2.cell 2; have l3 : w1.cell? ⟨w.heap.size + 1, 3, none⟩ = some (.int .i64 0) := c2.cell 3; have l4 : w1.cell? ⟨w.heap.size + 1, 4, none⟩ = some (.int .i64 0) := c2.cell 4; have l5 : w1.cell? ⟨w.heap.size + 1, 5, none⟩ = some (.slice none 0 0) := c2.cell 5; have l6 : w1.cell? ⟨w.heap.size + 1, 6, none⟩ = some (.slice none 0 0) := c2.cell 6
  clear c1 c2
  go_wp2_with fail
  refine (HS1.out _ hS).mono ?_
  rintro e w2 ⟨rfl, hb⟩
  replace hS := hS.trans hb
  replace k0 := hb.cell k0; replace l0 := hb.cell l0; replace k1 := hb.cell k1; replace l1 := hb.cell l1; replace k2 := hb.cell k2; replace l2 := hb.cell l2; replace k3 := hb.cell k3; replace l3 := hb.cell l3; replace k4 := hb.cell k4; replace l4 := hb.cell l4; replace k5 := hb.cell k5; replace l5 := hb.cell l5; replace k6 := hb.cell k6; replace l6 := hb.cell l6
  clear hb
  go_wp2_with fail
  refine (HS2.out _ hS).mono ?_
  rintro e w3 ⟨rfl, hb⟩
  replace hS := hS.trans hb
  replace k0 := hb.cell k0; replace l0 := hb.cell l0; replace k1 := hb.cell k1; replace l1 := hb.cell l1; replace k2 := hb.cell k2; replace l2 := hb.cell l2; replace k3 := hb.cell k3; replace l3 := hb.cell l3; replace k4 := hb.cell k4; replace l4 := hb.cell l4; replace k5 := hb.cell k5; replace l5 := hb.cell l5; replace k6 := hb.cell k6; replace l6 := hb.cell l6
  clear hb HS1 HS2
  go_wp2_with fail
  go_loopw [5] (fun i wr => i = .int .i64 0 ∧ Since w3 wr) (fun _ _ => 0)
  case atStart => exact ⟨rfl, Since.refl _⟩
  case round =>
  obtain ⟨rfl, hb⟩ := hrel
  rename World => w4
  replace hS := hS.trans hb
  replace k0 := hb.cell k0; replace l0 := hb.cell l0; replace k1 := hb.cell k1; replace l1 := hb.cell l1; replace k2 := hb.cell k2; replace l2 := hb.cell l2; replace k3 := hb.cell k3; replace l3 := hb.cell l3; replace k4 := hb.cell k4; replace l4 := hb.cell l4; replace k5 := hb.cell k5; replace l5 := hb.cell l5; replace k6 := hb.cell k6; replace l6 := hb.cell l6
  clear hb
  go_wp2_with fail
  go_loopw [6] (fun i wr => i = .int .i64 0 ∧ Since w4 wr) (fun _ _ => 0)
  case atStart => exact ⟨rfl, Since.refl _⟩
  case round =>
  obtain ⟨rfl, hb⟩ := hrel
  rename World => w5
  replace hS := hS.trans hb
  replace k0 := hb.cell k0; replace l0 := hb.cell l0; replace k1 := hb.cell k1; replace l1 := hb.cell l1; replace k2 := hb.cell k2; replace l2 := hb.cell l2; replace k3 := hb.cell k3; replace l3 := hb.cell l3; replace k4 := hb.cell k4; replace l4 := hb.cell l4; replace k5 := hb.cell k5; replace l5 := hb.cell l5; replace k6 := hb.cell k6; replace l6 := hb.cell l6
  clear hb
  go_wp2_with fail
  go_loopw [7] (fun i wr => i = .int .i64 0 ∧ Since w5 wr) (fun _ _ => 0)
  case atStart => exact ⟨rfl, Since.refl _⟩
  case round =>
  obtain ⟨rfl, hb⟩ := hrel
  rename World => w6
  replace hS := hS.trans hb
  replace k0 := hb.cell k0; replace l0 := hb.cell l0; replace k1 := hb.cell k1; replace l1 := hb.cell l1; replace k2 := hb.cell k2; replace l2 := hb.cell l2; replace k3 := hb.cell k3; replace l3 := hb.cell l3; replace k4 := hb.cell k4; replace l4 := hb.cell l4; replace k5 := hb.cell k5; replace l5 := hb.cell l5; replace k6 := hb.cell k6; replace l6 := hb.cell l6
  clear hb
  go_wp2_with fail
  go_ret
  exact ⟨rfl, hS⟩
set_option maxHeartbeats 8000000 in
set_option maxRecDepth 100000 in
theorem ptrees_any (s : Txt) (hs : s.length ≤ maxLen) (w : World) (hE : EnvT w) : Calls Tryz.prog 3 #[.string ⟨s.toArray⟩] w fun e w' => e = .returned (.bool true) ∧ Since w w' := by
  obtain ⟨K, hK⟩ : ∃ K : Ending → World → Prop, Hid (K = fun e w' => e = .returned (.bool true) ∧ Since w w') := ⟨_, rfl⟩
  have hgood : Hid (∀ w', Since w w' → K (.returned (.bool true)) w') := fun w' h => by rw [hK.out]; exact ⟨rfl, h⟩
  rw [← hK.out]
  have HL : Hid (Calls Tryz.prog 10 #[] w fun e w' => e = .returned (.bool true) ∧ Since w w') := lives10_any w hE
  have HP : Hid (∀ W, Since w W → Calls Tryz.prog 11 #[.string ⟨s.toArray⟩] W (PolPost s W)) := fun W h => policy_any s hs W (hE.next h)
  unfold PolPost at HP
  have hsaid := @pol_said s
  obtain ⟨R, hR⟩ : ∃ R, Hid (R = policyL s) := ⟨_, rfl⟩
  rw [← hR.out] at HP hsaid
  obtain ⟨P, at_, er⟩ := R
  simp only at HP hsaid
  have HSA := Lib.hid hsaid
  obtain ⟨n, hn⟩ : ∃ n : Nat, Hid (s.length = n) := ⟨_, rfl⟩
  have hn2 := hn.out
  clear hE hK hR hsaid hs
  go_enter Tryz.func3, Tryz.ntmps3
  go_wp2_with fail
  refine HL.out.mono ?_
  rintro e w2 ⟨rfl, hS2⟩
  by_cases gn : (1500 : Int) < (n : Int)
  · go_wp2_with fail
    exact hgood.out _ hS2
  have hsl := HSA.out (by omega)
  clear HSA HL
  go_wp2_with fail
  refine (HP.out _ hS2).mono ?_
  rintro e w6 ⟨c3, c4, c5, c6, c7, c8, c9, C, U, G, rfl, hO, hb⟩
  have hS6 := hS2.trans hb
  clear hb HP hS2
  by_cases he : ¬ er = 0
  · obtain ⟨rfl, hat⟩ := hsl.2 he
    have hr1 := hO.pr
    have hr2 := hO.pd
    obtain ⟨a3, e3, a4, e4, a5, e5, a8, e8, a9, e9, v3, v4, v5, v6, v7, v8, v9⟩ := pol_cells2 hO
    replace v3 : c3 = .slice a3 0 e3 := v3
    replace v4 : c4 = .slice a4 0 e4 := v4
    replace v5 : c5 = .slice a5 0 e5 := v5
    replace v6 : c6 = .int .i64 0 := v6
    replace v7 : c7 = .int .i64 0 := v7
    replace v8 : c8 = .slice a8 0 e8 := v8
    replace v9 : c9 = .slice a9 0 e9 := v9
    clear hO
    subst v3 v4 v5 v6 v7 v8 v9
    obtain ⟨w7, hw7⟩ : ∃ W, Hid (W = w6.alloc (.cells #[.slice a3 0 e3, .slice a4 0 e4, .slice a5 0 e5, .int .i64 0, .int .i64 0, .slice a8 0 e8, .slice a9 0 e9] 29)) := ⟨_, rfl⟩
    have hb : Since w6 w7 := by rw [hw7.out]; exact (Since.refl w6).alloc _
    have hB : Cel w7 w6.heap.size #[.slice a3 0 e3, .slice a4 0 e4, .slice a5 0 e5, .int .i64 0, .int .i64 0, .slice a8 0 e8, .slice a9 0 e9] 29 := by rw [hw7.out]; exact heap_alloc_new w6 _
    have hS7 := hS6.trans hb
    have HSP : Hid (∀ W, Since w7 W → Calls Tryz.prog 12 #[.agg #[.slice a3 0 e3, .slice a4 0 e4, .slice a5 0 e5, .int .i64 0, .int .i64 0, .slice a8 0 e8, .slice a9 0 e9], .agg #[.slice none 0 0, .slice none 0 0, .slice none 0 0, .int .i64 0, .int .i64 0, .slice none 0 0, .slice none 0 0]] W fun e w' => e = .returned (.bool true) ∧ Since W w') := fun W h => same_pol0 a3 a4 a5 a8 a9 e3 e4 e5 e8 e9 _ W (own_since hr1 (hb.trans h)) (own_since hr2 (hb.trans h))
    clear hb hr1 hr2
    have h1 : (0 : Int) ≤ (at_ : Int) := by omega
    have h2 : (at_ : Int) ≤ (n : Int) := by omega
    go_upto_region 6 with (fail)
    rw [← hw7.out]
    have k0 : w7.cell? ⟨w6.heap.size, 0, none⟩ = some (.slice a3 0 e3) := hB.cell 0; have k1 : w7.cell? ⟨w6.heap.size, 1, none⟩ = some (.slice a4 0 e4) := hB.cell 1; have k2 : w7.cell? ⟨w6.heap.size, 2, none⟩ = some (.slice a5 0 e5) := hB.cell 2; have k3 : w7.cell? ⟨w6.heap.size, 3, none⟩ = some (.int .i64 0) := hB.cell 3; have k4 : w7.cell? ⟨w6.heap.size, 4, none⟩ = some (.int .i64 0) := hB.cell 4; have k5 : w7.cell? ⟨w6.heap.size, 5, none⟩ = some (.slice a8 0 e8) := hB.cell 5; have k6 : w7.cell? ⟨w6.heap.size, 6, none⟩ = some (.slice a9 0 e9) := hB.cell 6
    clear hB hw7
    go_wp2_with fail
    refine (HSP.out _ (Since.refl _)).mono ?_
    rintro e w8 ⟨rfl, hb⟩
    go_wp2_with fail
    exact hgood.out _ (hS7.trans hb)
  replace he : er = 0 := by omega
  subst he
  have hok := hsl.1 rfl
  clear hsl
  obtain ⟨pr, pd, cl, qu, bu, ru, gr⟩ := P
  obtain ⟨a3, e3, a4, e4, a5, e5, a8, e8, a9, e9, v3, v4, v5, v6, v7, v8, v9⟩ := pol_cells2 hO
  simp only at v3 v4 v5 v6 v7 v8 v9
  subst v3 v4 v5 v6 v7 v8 v9
  obtain ⟨w7, hw7⟩ : ∃ W, Hid (W = w6.alloc (.cells #[.slice a3 pr.length e3, .slice a4 pd.length e4, .slice a5 cl.length e5, .int .i64 qu, .int .i64 bu, .slice a8 ru.length e8, .slice a9 gr.length e9] 29)) := ⟨_, rfl⟩
  have hb : Since w6 w7 := by rw [hw7.out]; exact (Since.refl w6).alloc _
  have hB : Cel w7 w6.heap.size #[.slice a3 pr.length e3, .slice a4 pd.length e4, .slice a5 cl.length e5, .int .i64 qu, .int .i64 bu, .slice a8 ru.length e8, .slice a9 gr.length e9] 29 := by rw [hw7.out]; exact heap_alloc_new w6 _
  have hS7 := hS6.trans hb
  replace hO := hO.next hb
  clear hb
  obtain ⟨hoP, hoD, hoC, hoQ, hoB, hoR, hoG⟩ := hok
  have HO := Lib.hid hO
  have HoP := Lib.hid hoP
  have HoD := Lib.hid hoD
  have HoC := Lib.hid hoC
  have HoR := Lib.hid hoR
  have HoG := Lib.hid hoG
  obtain ⟨q1, q2⟩ := hoQ
  obtain ⟨b1, b2⟩ := hoB
  simp only at q1 q2 b1 b2
  have lP : pr.length ≤ 9223372036854775807 := own_lenP hO.pr
  have lD : pd.length ≤ 9223372036854775807 := own_lenP hO.pd
  have eC : C.length = cl.length := by have h : C.map Prod.fst = cl := hO.eC; rw [← h, List.length_map]
  have eU : U.length = ru.length := by have h : U.map Prod.fst = ru := hO.eU; rw [← h, List.length_map]
  have eG : G.length = gr.length := by have h : G.map Prod.fst = gr := hO.eG; rw [← h, List.length_map]
  have lC : cl.length ≤ 9223372036854775807 := by rw [← eC]; exact own_lenP hO.cl.row
  have lU : ru.length ≤ 9223372036854775807 := by rw [← eU]; exact own_lenP hO.ru.row
  have lG : gr.length ≤ 9223372036854775807 := by rw [← eG]; exact own_lenP hO.gr.row
  have HeC := Lib.hid eC
  have HeU := Lib.hid eU
  have HeG := Lib.hid eG
  have HlP := Lib.hid lP
  have HlD := Lib.hid lD
  have HlC := Lib.hid lC
  have HlU := Lib.hid lU
  have HlG := Lib.hid lG
  clear hO hoP hoD hoC hoR hoG hS6 lP lD lC lU lG eC eU eG
  go_upto_region 6 with (fail)
  rw [← hw7.out]
  have k0 : w7.cell? ⟨w6.heap.size, 0, none⟩ = some (.slice a3 pr.length e3) := hB.cell 0; have k1 : w7.cell? ⟨w6.heap.size, 1, none⟩ = some (.slice a4 pd.length e4) := hB.cell 1; have k2 : w7.cell? ⟨w6.heap.size, 2, none⟩ = some (.slice a5 cl.length e5) := hB.cell 2; have k3 : w7.cell? ⟨w6.heap.size, 3, none⟩ = some (.int .i64 qu) := hB.cell 3; have k4 : w7.cell? ⟨w6.heap.size, 4, none⟩ = some (.int .i64 bu) := hB.cell 4; have k5 : w7.cell? ⟨w6.heap.size, 5, none⟩ = some (.slice a8 ru.length e8) := hB.cell 5; have k6 : w7.cell? ⟨w6.heap.size, 6, none⟩ = some (.slice a9 gr.length e9) := hB.cell 6
  clear hB hw7
  go_wp2_with fail
  go_loopw [6, 7] (fun ok i wr => ∃ k : Nat, k ≤ pr.length ∧ ok = .bool true ∧ i = .int .i64 (k : Int) ∧ Since w7 wr) (fun _ i _ => pr.length - (intOf i).toNat)
  case atStart => exact ⟨0, Nat.zero_le _, rfl, rfl, Since.refl _⟩
  case round =>
  rename World => w10
  obtain ⟨k, hk, rfl, rfl, hb⟩ := hrel
  replace HO := Lib.hid (HO.out.next hb)
  have hrel0 := hb
  have hS10 := hS7.trans hb
  replace k0 := hb.cell k0; replace k1 := hb.cell k1; replace k2 := hb.cell k2; replace k3 := hb.cell k3; replace k4 := hb.cell k4; replace k5 := hb.cell k5; replace k6 := hb.cell k6
  clear hb
  by_cases hlt : k < pr.length
  · have hlt2 : (k : Int) < (pr.length : Int) := Int.ofNat_lt.2 hlt
    have hlt0 : (0 : Int) ≤ (k : Int) := Int.natCast_nonneg k
    have hk1 := wrap_step hlt HlP.out
    have hk3 := Lib.hid (meas_wrap hlt HlP.out)
    have hmem := List.getElem_mem hlt
    have hrow : w10.ownsRow w2.heap.size 9 1 (.slice a3 pr.length e3) pr.length (pr.flatMap txtL) := HO.out.pr
    obtain ⟨b, o, c, hv, -, hat⟩ := own_atk hrow (by decide) (fun _ => rfl) hlt
    injection hv with hv1 hv2 hv3
    clear hv2
    subst hv1; subst hv3
    have x0 : w10.cell? ⟨b, o + k * 1, none⟩ = some (.string ⟨pr[k].toArray⟩) := hat 0 _ rfl
    rw [Nat.mul_one] at x0
    have hx1 := HoP.out _ hmem
    clear hat hmem
    obtain ⟨x, hx⟩ : ∃ x, Hid (x = pr[k]) := ⟨pr[k], rfl⟩
    rw [← hx.out] at x0 hx1
    clear hx
    have HPX : Hid (∀ W, Calls Tryz.prog 13 #[.string ⟨x.toArray⟩] W fun e w' => e = .returned (.bool true) ∧ Since W w') := fun W => by
      have h := rpri_any' x W (princ_len hx1)
      rwa [hx1] at h
    clear hx1 hrow
    go_wp2_with fail
    refine (HPX.out _).mono ?_
    rintro e w11 ⟨rfl, hb⟩
    have hS11 : Since w7 w11 := hrel0.trans hb
    clear hb x0 HPX
    go_wp2_with fail
    go_roundw
    case rel => exact ⟨k + 1, hlt, rfl, congrArg (Value.int .i64) (hk1.trans (cast_step k)), hS11⟩
    case measure => rw [intOf_int, intOf_int]; exact hk3.out
  have hlt2 : ¬ (k : Int) < (pr.length : Int) := fun h => hlt (Int.ofNat_lt.1 h)
  clear hk hlt hrel0
  go_wp2_with fail
  go_loopw [6, 8] (fun ok i wr => ∃ k : Nat, k ≤ pd.length ∧ ok = .bool true ∧ i = .int .i64 (k : Int) ∧ Since w10 wr) (fun _ i _ => pd.length - (intOf i).toNat)
  case atStart => exact ⟨0, Nat.zero_le _, rfl, rfl, Since.refl _⟩
  case round =>
  rename World => w20
  obtain ⟨k, hk, rfl, rfl, hb⟩ := hrel
  replace HO := Lib.hid (HO.out.next hb)
  have hrel0 := hb
  have hS20 := hS10.trans hb
  replace k0 := hb.cell k0; replace k1 := hb.cell k1; replace k2 := hb.cell k2; replace k3 := hb.cell k3; replace k4 := hb.cell k4; replace k5 := hb.cell k5; replace k6 := hb.cell k6
  clear hb
  by_cases hlt : k < pd.length
  · have hlt2 : (k : Int) < (pd.length : Int) := Int.ofNat_lt.2 hlt
    have hlt0 : (0 : Int) ≤ (k : Int) := Int.natCast_nonneg k
    have hk1 := wrap_step hlt HlD.out
    have hk3 := Lib.hid (meas_wrap hlt HlD.out)
    have hmem := List.getElem_mem hlt
    have hrow : w20.ownsRow w2.heap.size 36 2 (.slice a4 pd.length e4) pd.length (pd.flatMap prdL) := HO.out.pd
    obtain ⟨b, o, c, hv, -, hat⟩ := own_atk hrow (by decide) (fun _ => rfl) hlt
    injection hv with hv1 hv2 hv3
    clear hv2
    subst hv1; subst hv3
    have x0 : w20.cell? ⟨b, o + k * 2, none⟩ = some (.string ⟨pd[k].1.toArray⟩) := hat 0 _ rfl
    have x1 : w20.cell? ⟨b, o + k * 2 + 1, none⟩ = some (.int .i64 pd[k].2) := hat 1 _ rfl
    obtain ⟨hx1, hx2, hx3⟩ := HoD.out _ hmem
    clear hat hmem
    obtain ⟨⟨x, y⟩, hx⟩ : ∃ x, Hid (x = pd[k]) := ⟨pd[k], rfl⟩
    rw [← hx.out] at x0 x1 hx1 hx2 hx3
    simp only at x0 x1 hx1 hx2 hx3
    clear hx
    have HPX : Hid (∀ W, Calls Tryz.prog 14 #[.string ⟨x.toArray⟩] W fun e w' => e = .returned (.bool true) ∧ Since W w') := fun W => by
      have h := rpre_any' x W (princ_len hx1)
      rwa [hx1] at h
    clear hx1 hrow
    go_wp2_with fail
    refine (HPX.out _).mono ?_
    rintro e w21 ⟨rfl, hb⟩
    have hS21 : Since w10 w21 := hrel0.trans hb
    replace x1 := hb.cell x1
    replace k0 := hb.cell k0; replace k1 := hb.cell k1; replace k2 := hb.cell k2; replace k3 := hb.cell k3; replace k4 := hb.cell k4; replace k5 := hb.cell k5; replace k6 := hb.cell k6
    clear hb x0 HPX
    go_wp2_with fail
    go_roundw
    case rel => exact ⟨k + 1, hlt, rfl, congrArg (Value.int .i64) (hk1.trans (cast_step k)), hS21⟩
    case measure => rw [intOf_int, intOf_int]; exact hk3.out
  have hlt2 : ¬ (k : Int) < (pd.length : Int) := fun h => hlt (Int.ofNat_lt.1 h)
  clear hk hlt hrel0
  go_wp2_with fail
  go_loopw [6, 9] (fun ok i wr => ∃ k : Nat, k ≤ cl.length ∧ ok = .bool true ∧ i = .int .i64 (k : Int) ∧ Since w20 wr) (fun _ i _ => cl.length - (intOf i).toNat)
  case atStart => exact ⟨0, Nat.zero_le _, rfl, rfl, Since.refl _⟩
  case round =>
  rename World => w30
  obtain ⟨k, hk, rfl, rfl, hb⟩ := hrel
  replace HO := Lib.hid (HO.out.next hb)
  have hrel0 := hb
  have hS30 := hS20.trans hb
  replace k0 := hb.cell k0; replace k1 := hb.cell k1; replace k2 := hb.cell k2; replace k3 := hb.cell k3; replace k4 := hb.cell k4; replace k5 := hb.cell k5; replace k6 := hb.cell k6
  clear hb
  by_cases hlt : k < cl.length
  · have hlt2 : (k : Int) < (cl.length : Int) := Int.ofNat_lt.2 hlt
    have hlt0 : (0 : Int) ≤ (k : Int) := Int.natCast_nonneg k
    have hk1 := wrap_step hlt HlC.out
    have hk3 := Lib.hid (meas_wrap hlt HlC.out)
    have hltC : k < C.length := by rw [HeC.out]; exact hlt
    have hmC := List.getElem_mem hltC
    have hrow : w30.ownsRow w2.heap.size 38 2 (.slice a5 cl.length e5) C.length (C.flatMap fun p => clrC p.1 p.2) := HO.out.cl.row
    obtain ⟨b, o, c, hv, -, hat⟩ := own_atk hrow (by decide) (fun _ => rfl) hltC
    injection hv with hv1 hv2 hv3
    clear hv2
    subst hv1; subst hv3
    have hin : w30.ownsRow w2.heap.size 9 1 C[k].2 C[k].1.2.length (C[k].1.2.flatMap txtL) := HO.out.cl.ins _ hmC
    have hf : C[k].1 ∈ cl := by
      have h : C.map Prod.fst = cl := HO.out.eC
      rw [← h]; exact List.mem_map_of_mem hmC
    obtain ⟨hx1, hx2⟩ := HoC.out _ hf
    obtain ⟨ua, uc, hu⟩ := own_slice hin
    have x0 : w30.cell? ⟨b, o + k * 2, none⟩ = some (.string ⟨C[k].1.1.toArray⟩) := hat 0 _ rfl
    have x1 : w30.cell? ⟨b, o + k * 2 + 1, none⟩ = some C[k].2 := hat 1 _ rfl
    rw [hu] at x1
    clear hat hmC hf hin hu hrow
    obtain ⟨x, hx⟩ : ∃ x, Hid (x = C[k].1.1) := ⟨C[k].1.1, rfl⟩
    obtain ⟨z, hz⟩ : ∃ z : Nat, Hid (z = C[k].1.2.length) := ⟨C[k].1.2.length, rfl⟩
    rw [← hx.out] at x0 hx1
    rw [← hz.out] at x1 hx2
    have hz2 : (0 : Int) < (z : Int) := Int.ofNat_lt.2 hx2
    clear hx hz
    have HPX : Hid (∀ W, Calls Tryz.prog 13 #[.string ⟨x.toArray⟩] W fun e w' => e = .returned (.bool true) ∧ Since W w') := fun W => by
      have h := rpri_any' x W (princ_len hx1)
      rwa [hx1] at h
    clear hx1
    go_wp2_with fail
    refine (HPX.out _).mono ?_
    rintro e w31 ⟨rfl, hb⟩
    have hS31 : Since w20 w31 := hrel0.trans hb
    replace x1 := hb.cell x1
    replace k0 := hb.cell k0; replace k1 := hb.cell k1; replace k2 := hb.cell k2; replace k3 := hb.cell k3; replace k4 := hb.cell k4; replace k5 := hb.cell k5; replace k6 := hb.cell k6
    clear hb x0 HPX
    go_wp2_with fail
    go_roundw
    case rel => exact ⟨k + 1, hlt, rfl, congrArg (Value.int .i64) (hk1.trans (cast_step k)), hS31⟩
    case measure => rw [intOf_int, intOf_int]; exact hk3.out
  have hlt2 : ¬ (k : Int) < (cl.length : Int) := fun h => hlt (Int.ofNat_lt.1 h)
  clear hk hlt hrel0
  go_wp2_with fail
  go_loopw [6, 10] (fun ok i wr => ∃ k : Nat, k ≤ ru.length ∧ ok = .bool true ∧ i = .int .i64 (k : Int) ∧ Since w30 wr) (fun _ i _ => ru.length - (intOf i).toNat)
  case atStart => exact ⟨0, Nat.zero_le _, rfl, rfl, Since.refl _⟩
  case round =>
  rename World => w40
  obtain ⟨k, hk, rfl, rfl, hb⟩ := hrel
  replace HO := Lib.hid (HO.out.next hb)
  have hrel0 := hb
  have hS40 := hS30.trans hb
  replace k0 := hb.cell k0; replace k1 := hb.cell k1; replace k2 := hb.cell k2; replace k3 := hb.cell k3; replace k4 := hb.cell k4; replace k5 := hb.cell k5; replace k6 := hb.cell k6
  clear hb
  by_cases hlt : k < ru.length
  · have hlt2 : (k : Int) < (ru.length : Int) := Int.ofNat_lt.2 hlt
    have hlt0 : (0 : Int) ≤ (k : Int) := Int.natCast_nonneg k
    have hk1 := wrap_step hlt HlU.out
    have hk3 := Lib.hid (meas_wrap hlt HlU.out)
    have hltU : k < U.length := by rw [HeU.out]; exact hlt
    have hmU := List.getElem_mem hltU
    have hrow : w40.ownsRow w2.heap.size 47 12 (.slice a8 ru.length e8) U.length (U.flatMap fun p => rulC p.1 p.2) := HO.out.ru.row
    obtain ⟨b, o, c, hv, -, hat⟩ := own_atk hrow (by decide) (fun _ => rfl) hltU
    injection hv with hv1 hv2 hv3
    clear hv2
    subst hv1; subst hv3
    have hin : w40.ownsRow w2.heap.size 44 11 U[k].2 U[k].1.2.length (U[k].1.2.flatMap atmL) := HO.out.ru.ins _ hmU
    have hf : U[k].1 ∈ ru := by
      have h : U.map Prod.fst = ru := HO.out.eU
      rw [← h]; exact List.mem_map_of_mem hmU
    obtain ⟨hx1, hx2⟩ := HoR.out _ hf
    obtain ⟨p, hp⟩ : ∃ p, Hid (p = U[k]) := ⟨U[k], rfl⟩
    rw [← hp.out] at hat hin hx1 hx2
    obtain ⟨⟨⟨x_s, x_p, x_n, ⟨x_v0, x_l0⟩, ⟨x_v1, x_l1⟩, ⟨x_v2, x_l2⟩, ⟨x_v3, x_l3⟩⟩, Bx⟩, u⟩ := p
    simp only at hin hx1 hx2
    obtain ⟨ua, uc, rfl⟩ := own_slice hin
    have lB : Hid (Bx.length ≤ 9223372036854775807) := own_lenP hin
    have d1 : AtAt w40 b (o + k * 12) ((x_s, x_p, x_n, (x_v0, x_l0), (x_v1, x_l1), (x_v2, x_l2), (x_v3, x_l3)) : Atm) := at_sub hat 0 11
    obtain ⟨x_c0, x_c1, x_c2, x_c3, x_c4, x_c5, x_c6, x_c7, x_c8, x_c9, x_c10⟩ := d1.all
    have xu : w40.cell? ⟨b, o + k * 12 + 11, none⟩ = some (.slice ua Bx.length uc) := hat 11 _ rfl
    have HAR := Lib.hid (atm_row hin)
    have HB2 := Lib.hid hx2
    have HCX : Hid (∀ W, Calls Tryz.prog 15 #[.agg #[.string ⟨x_s.toArray⟩, .string ⟨x_p.toArray⟩, .int .i64 x_n, .bool x_v0, .string ⟨x_l0.toArray⟩, .bool x_v1, .string ⟨x_l1.toArray⟩, .bool x_v2, .string ⟨x_l2.toArray⟩, .bool x_v3, .string ⟨x_l3.toArray⟩]] W fun e w' => e = .returned (.int .i64 0) ∧ Since W w') := fun W => by
      have h := rcheck_any x_s x_p x_n x_v0 x_v1 x_v2 x_v3 x_l0 x_l1 x_l2 x_l3 W (valid_fits hx1)
      rwa [hx1] at h
    clear hat hmU hf hin hrow hp hx1 hx2 d1
    go_wp2_with fail
    refine (HCX.out _).mono ?_
    rintro e w41 ⟨rfl, hb⟩
    have hS41 := hrel0.trans hb
    replace HAR := Lib.hid (anext HAR.out hb)
    replace xu := hb.cell xu
    replace k0 := hb.cell k0; replace k1 := hb.cell k1; replace k2 := hb.cell k2; replace k3 := hb.cell k3; replace k4 := hb.cell k4; replace k5 := hb.cell k5; replace k6 := hb.cell k6
    clear hb HCX x_c0 x_c1 x_c2 x_c3 x_c4 x_c5 x_c6 x_c7 x_c8 x_c9 x_c10
    go_wp2_with fail
    go_loopw [6, 11] (fun ok i wr => ∃ j : Nat, j ≤ Bx.length ∧ ok = .bool true ∧ i = .int .i64 (j : Int) ∧ Since w41 wr) (fun _ i _ => Bx.length - (intOf i).toNat)
    case atStart => exact ⟨0, Nat.zero_le _, rfl, rfl, Since.refl _⟩
    case round =>
    rename World => w42
    obtain ⟨j, hj, rfl, rfl, hb⟩ := hrel
    have hS42 := hS41.trans hb
    have hS42b := hb
    replace HAR := Lib.hid (anext HAR.out hb)
    replace xu := hb.cell xu
    replace k0 := hb.cell k0; replace k1 := hb.cell k1; replace k2 := hb.cell k2; replace k3 := hb.cell k3; replace k4 := hb.cell k4; replace k5 := hb.cell k5; replace k6 := hb.cell k6
    clear hb
    by_cases hlj : j < Bx.length
    · have hlj2 : (j : Int) < (Bx.length : Int) := Int.ofNat_lt.2 hlj
      have hlj0 : (0 : Int) ≤ (j : Int) := Int.natCast_nonneg j
      have hj1 := wrap_step hlj lB.out
      have hj3 := Lib.hid (meas_wrap hlj lB.out)
      have hmem := List.getElem_mem hlj
      obtain ⟨d, od, e2, -, hau⟩ := HAR.out.get (Nat.lt_of_le_of_lt (Nat.zero_le _) hlj)
      subst e2
      have d2 := hau j hlj
      have hy1 := HB2.out _ hmem
      obtain ⟨y, hy⟩ : ∃ y, Hid (y = Bx[j]) := ⟨Bx[j], rfl⟩
      rw [← hy.out] at d2 hy1
      obtain ⟨y_s, y_p, y_n, ⟨y_v0, y_l0⟩, ⟨y_v1, y_l1⟩, ⟨y_v2, y_l2⟩, ⟨y_v3, y_l3⟩⟩ := y
      obtain ⟨y_c0, y_c1, y_c2, y_c3, y_c4, y_c5, y_c6, y_c7, y_c8, y_c9, y_c10⟩ := d2.all
      have HCY : Hid (∀ W, Calls Tryz.prog 15 #[.agg #[.string ⟨y_s.toArray⟩, .string ⟨y_p.toArray⟩, .int .i64 y_n, .bool y_v0, .string ⟨y_l0.toArray⟩, .bool y_v1, .string ⟨y_l1.toArray⟩, .bool y_v2, .string ⟨y_l2.toArray⟩, .bool y_v3, .string ⟨y_l3.toArray⟩]] W fun e w' => e = .returned (.int .i64 0) ∧ Since W w') := fun W => by
        have h := rcheck_any y_s y_p y_n y_v0 y_v1 y_v2 y_v3 y_l0 y_l1 y_l2 y_l3 W (valid_fits hy1)
        rwa [hy1] at h
      clear hau hmem hy hy1 d2
      go_wp2_with fail
      refine (HCY.out _).mono ?_
      rintro e w43 ⟨rfl, hb⟩
      have hS43 := hS42b.trans hb
      clear hb HCY y_c0 y_c1 y_c2 y_c3 y_c4 y_c5 y_c6 y_c7 y_c8 y_c9 y_c10
      go_wp2_with fail
      go_roundw
      case rel => exact ⟨j + 1, hlj, rfl, congrArg (Value.int .i64) (hj1.trans (cast_step j)), hS43⟩
      case measure => rw [intOf_int, intOf_int]; exact hj3.out
    have hlj2 : ¬ (j : Int) < (Bx.length : Int) := fun h => hlj (Int.ofNat_lt.1 h)
    clear hj hlj
    go_wp2_with fail
    go_roundw
    case rel => exact ⟨k + 1, hlt, rfl, congrArg (Value.int .i64) (hk1.trans (cast_step k)), hS42⟩
    case measure => rw [intOf_int, intOf_int]; exact hk3.out
  have hlt2 : ¬ (k : Int) < (ru.length : Int) := fun h => hlt (Int.ofNat_lt.1 h)
  clear hk hlt hrel0
  go_wp2_with fail
  go_loopw [6, 12] (fun ok i wr => ∃ k : Nat, k ≤ gr.length ∧ ok = .bool true ∧ i = .int .i64 (k : Int) ∧ Since w40 wr) (fun _ i _ => gr.length - (intOf i).toNat)
  case atStart => exact ⟨0, Nat.zero_le _, rfl, rfl, Since.refl _⟩
  case round =>
  rename World => w50
  obtain ⟨k, hk, rfl, rfl, hb⟩ := hrel
  replace HO := Lib.hid (HO.out.next hb)
  have hrel0 := hb
  have hS50 := hS40.trans hb
  replace k0 := hb.cell k0; replace k1 := hb.cell k1; replace k2 := hb.cell k2; replace k3 := hb.cell k3; replace k4 := hb.cell k4; replace k5 := hb.cell k5; replace k6 := hb.cell k6
  clear hb
  by_cases hlt : k < gr.length
  · have hlt2 : (k : Int) < (gr.length : Int) := Int.ofNat_lt.2 hlt
    have hlt0 : (0 : Int) ≤ (k : Int) := Int.natCast_nonneg k
    have hk1 := wrap_step hlt HlG.out
    have hk3 := Lib.hid (meas_wrap hlt HlG.out)
    have hltG : k < G.length := by rw [HeG.out]; exact hlt
    have hmG := List.getElem_mem hltG
    have hrow : w50.ownsRow w2.heap.size 49 13 (.slice a9 gr.length e9) G.length (G.flatMap fun p => grnC p.1 p.2) := HO.out.gr.row
    obtain ⟨b, o, c, hv, -, hat⟩ := own_atk hrow (by decide) (fun _ => rfl) hltG
    injection hv with hv1 hv2 hv3
    clear hv2
    subst hv1; subst hv3
    have hf : G[k].1 ∈ gr := by
      have h : G.map Prod.fst = gr := HO.out.eG
      rw [← h]; exact List.mem_map_of_mem hmG
    obtain ⟨hx1, hx2, -⟩ := HoG.out _ hf
    obtain ⟨p, hp⟩ : ∃ p, Hid (p = G[k]) := ⟨G[k], rfl⟩
    rw [← hp.out] at hat hx1 hx2
    obtain ⟨⟨z, ⟨x_s, x_p, x_n, ⟨x_v0, x_l0⟩, ⟨x_v1, x_l1⟩, ⟨x_v2, x_l2⟩, ⟨x_v3, x_l3⟩⟩, Bx⟩, u⟩ := p
    simp only at hx1 hx2
    have d1 : AtAt w50 b (o + k * 13 + 1) ((x_s, x_p, x_n, (x_v0, x_l0), (x_v1, x_l1), (x_v2, x_l2), (x_v3, x_l3)) : Atm) := at_sub hat 1 11
    obtain ⟨x_c0, x_c1, x_c2, x_c3, x_c4, x_c5, x_c6, x_c7, x_c8, x_c9, x_c10⟩ := d1.all
    have x0 : w50.cell? ⟨b, o + k * 13, none⟩ = some (.string ⟨z.toArray⟩) := hat 0 _ rfl
    have HCX : Hid (∀ W, Calls Tryz.prog 15 #[.agg #[.string ⟨x_s.toArray⟩, .string ⟨x_p.toArray⟩, .int .i64 x_n, .bool x_v0, .string ⟨x_l0.toArray⟩, .bool x_v1, .string ⟨x_l1.toArray⟩, .bool x_v2, .string ⟨x_l2.toArray⟩, .bool x_v3, .string ⟨x_l3.toArray⟩]] W fun e w' => e = .returned (.int .i64 0) ∧ Since W w') := fun W => by
      have h := rcheck_any x_s x_p x_n x_v0 x_v1 x_v2 x_v3 x_l0 x_l1 x_l2 x_l3 W (valid_fits hx2)
      rwa [hx2] at h
    have HPX : Hid (∀ W, Calls Tryz.prog 13 #[.string ⟨z.toArray⟩] W fun e w' => e = .returned (.bool true) ∧ Since W w') := fun W => by
      have h := rpri_any' z W (princ_len hx1)
      rwa [hx1] at h
    clear hat hmG hf hrow hp hx1 hx2 d1
    go_wp2_with fail
    refine (HCX.out _).mono ?_
    rintro e w51 ⟨rfl, hb⟩
    have hS51 := hrel0.trans hb
    replace x0 := hb.cell x0
    replace k0 := hb.cell k0; replace k1 := hb.cell k1; replace k2 := hb.cell k2; replace k3 := hb.cell k3; replace k4 := hb.cell k4; replace k5 := hb.cell k5; replace k6 := hb.cell k6
    clear hb HCX x_c0 x_c1 x_c2 x_c3 x_c4 x_c5 x_c6 x_c7 x_c8 x_c9 x_c10
    go_wp2_with fail
    refine (HPX.out _).mono ?_
    rintro e w52 ⟨rfl, hb⟩
    have hS52 := hS51.trans hb
    clear hb HPX x0
    go_wp2_with fail
    go_roundw
    case rel => exact ⟨k + 1, hlt, rfl, congrArg (Value.int .i64) (hk1.trans (cast_step k)), hS52⟩
    case measure => rw [intOf_int, intOf_int]; exact hk3.out
  have hlt2 : ¬ (k : Int) < (gr.length : Int) := fun h => hlt (Int.ofNat_lt.1 h)
  clear hk hlt hrel0
  go_wp2_with fail
  exact hgood.out _ hS50
end Go.Proofs.YtnfjjckbgnieeaaGreatDoor
