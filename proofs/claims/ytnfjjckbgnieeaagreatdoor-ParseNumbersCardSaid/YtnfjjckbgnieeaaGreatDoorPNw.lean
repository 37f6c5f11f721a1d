/- A text of a quota, a budget and an arity, and what it is parsed to. No program's function in sight. Numerals of law 10. ParseNumbers: the walk. -/
import Derived.Test.YtnfjjckbgnieeaaGreatDoorPLx
import Derived.Test.YtnfjjckbgnieeaaGreatDoorPTr
import Derived.Test.YtnfjjckbgnieeaaGreatDoorPLv
import Derived.Test.YtnfjjckbgnieeaaGreatDoorOpen
namespace Go.Proofs.YtnfjjckbgnieeaaGreatDoor
open Go.RowKit

theorem dec_step (u : Nat) (h : ¬ u < 10) : Lib.decDigits u = Lib.decDigits (u / 10) ++ [UInt8.ofNat (48 + u % 10)] := by
  rw [Lib.decDigits, dif_neg h]
theorem dig_ofNat {d : Nat} (h : d < 10) : (UInt8.ofNat (48 + d)).toNat = 48 + d := by
  rw [UInt8.toNat_ofNat']; omega
theorem numV_dec (u : Nat) : numV (Lib.decDigits u) = u := by
  induction u using Nat.strongRecOn with
  | _ u ih =>
    by_cases h : u < 10
    · rw [Lib.decDigits, dif_pos h]
      show 10 * 0 + ((UInt8.ofNat (48 + u)).toNat - 48) = u
      rw [dig_ofNat h]; omega
    · rw [dec_step u h, numV_snoc, ih _ (by omega), dig_ofNat (by omega)]; omega
theorem dec_digits (u : Nat) : (Lib.decDigits u).all (fun c => digitB c.toNat) = true := by
  rw [List.all_eq_true]
  intro c hc
  obtain ⟨h1, h2⟩ := digits_mem u c hc
  unfold digitB
  rw [Bool.and_eq_true, decide_eq_true_eq, decide_eq_true_eq]
  omega
theorem dec_len : ∀ (k u : Nat), u < 10 ^ (k + 1) → (Lib.decDigits u).length ≤ k + 1
  | 0, u, h => by rw [Lib.decDigits, dif_pos (by simpa using h)]; simp
  | k + 1, u, h => by
    by_cases h1 : u < 10
    · rw [Lib.decDigits, dif_pos h1]; simp
    · rw [dec_step u h1, List.length_append, List.length_singleton]
      have := dec_len k (u / 10) (by rw [Nat.pow_succ] at h; omega)
      omega
theorem numB_dec (u : Nat) : numB (Lib.decDigits u) = decide (u ≤ 9999999) := by
  have h0 : 0 < (Lib.decDigits u).length := List.length_pos_iff.2 (digits_some u)
  unfold numB
  rw [decide_eq_true h0, dec_digits u]
  have hh : (decide ((Lib.decDigits u).length = 1) || !decide ((Lib.decDigits u).head? = some 48)) = true := by
    rcases dec_head u with h | h
    · rw [decide_eq_true h]; rfl
    · rw [decide_eq_false h, Bool.not_false, Bool.or_true]
  rw [hh, Bool.true_and, Bool.and_true, Bool.and_true]
  by_cases h : u ≤ 9999999
  · rw [decide_eq_true h, decide_eq_true (dec_len 6 u (by omega))]
  · rw [decide_eq_false h, decide_eq_false]
    intro hl
    have h1 := numV_lt (Lib.decDigits u) 0 0 (dec_digits u) (by omega)
    have h2 : (10 : Nat) ^ (0 + (Lib.decDigits u).length) ≤ 10 ^ 7 := Nat.pow_le_pow_right (by omega) (by omega)
    have e7 : (10 : Nat) ^ 7 = 10000000 := by decide
    have h3 : (Lib.decDigits u).foldl (fun n c => 10 * n + (c.toNat - 48)) 0 = u := numV_dec u
    rw [h3] at h1
    omega
theorem word_dec {u : Nat} (h : u < 4294967296) : WordT 1 (Lib.decDigits u) := by
  have hl := dec_len 9 u (by omega)
  have hd := dec_digits u
  cases hx : Lib.decDigits u with
  | nil => exact absurd hx (digits_some u)
  | cons c r =>
    rw [hx] at hl hd
    rw [List.all_cons, Bool.and_eq_true] at hd
    have h2 : firstB c.toNat = true := by unfold firstB; rw [hd.1, Bool.or_true]
    obtain ⟨f1, f2, f3, f4⟩ := first_facts h2
    refine ⟨?_, fun t => skip_first f2 f4, by simp⟩
    have ht : r.takeWhile (fun x => moreB false x.toNat) = r := takeWhile_all fun x hx => by
      have := List.all_eq_true.1 hd.2 x hx
      unfold moreB lowB
      rw [this]; simp
    rw [tokN_first f1 f3 h2, ht, if_pos (by omega)]
theorem word_quota : WordT 1 wQuota := ⟨by kernel_rfl, fun _ => skip_first (by decide) (by decide), by decide⟩
theorem word_budget : WordT 1 wBudget := ⟨by kernel_rfl, fun _ => skip_first (by decide) (by decide), by decide⟩
theorem word_pred : WordT 1 wPred := ⟨by kernel_rfl, fun _ => skip_first (by decide) (by decide), by decide⟩
/-- The text's words; sp: what stands behind its last stop, T: the words behind it. -/
def numW (x y z sp : Txt) (T : List Wd) : List Wd := (1, wQuota, [32]) :: (1, x, []) :: (3, [46], [32]) :: (1, wBudget, [32]) :: (1, y, []) :: (3, [46], [32]) :: (1, wPred, [32]) :: (1, [112], []) :: (3, [47], []) :: (1, z, []) :: (3, [46], sp) :: T
def numTx (x y z : Txt) : Txt := wQuota ++ [32] ++ x ++ [46, 32] ++ wBudget ++ [32] ++ y ++ [46, 32] ++ wPred ++ [32, 112, 47] ++ z ++ [46]
theorem glue_num (x y z sp : Txt) (T : List Wd) : glue (numW x y z sp T) = numTx x y z ++ (sp ++ glue T) := by
  simp [glue, numW, numTx, wQuota, wBudget, wPred]
theorem ends_sign {c : UInt8} (h : c = 46 ∨ c = 47) : Ends c := by
  rcases h with rfl | rfl <;> exact ⟨by decide, by decide⟩
theorem wds_num {x y z sp : Txt} {T : List Wd} (hx : WordT 1 x) (hy : WordT 1 y) (hz : WordT 1 z) (hs : SepOk sp) (hT : Wds T) : Wds (numW x y z sp T) := by
  refine ⟨word_quota, sep_32, .inr ends_32, hx, sep_nil, .inr (ends_sign (.inl rfl)), word_sign (by decide), sep_32, .inl rfl, word_budget, sep_32, .inr ends_32, hy, sep_nil, .inr (ends_sign (.inl rfl)), word_sign (by decide), sep_32, .inl rfl, word_pred, sep_32, .inr ends_32, word_con (by decide), sep_nil, .inr (ends_sign (.inr rfl)), word_sign (by decide), sep_nil, .inl rfl, hz, sep_nil, .inr (ends_sign (.inl rfl)), word_sign (by decide), hs, .inl rfl, hT⟩
theorem quota_st (st : PSt) (x : Txt) (r : Toks) : stmtT st (wQuota :: x :: [46] :: r) = if st.q then .error (r.length + 3, 5) else if numB x then .ok ({ st with p := { st.p with qu := numV x }, q := true }, r) else .error (r.length + 2, 3) := by
  rw [stmtT, partT, show isT wPrincipal (wQuota :: x :: [46] :: r) = false from by show decide (wQuota = wPrincipal) = false; decide, show isT wPred (wQuota :: x :: [46] :: r) = false from by show decide (wQuota = wPred) = false; decide, show isT wClear (wQuota :: x :: [46] :: r) = false from by show decide (wQuota = wClear) = false; decide, show isT wQuota (wQuota :: x :: [46] :: r) = true from by show decide (wQuota = wQuota) = true; decide]
  simp only [Bool.false_eq_true, if_false, if_true, List.drop_succ_cons, List.drop_zero, quotaT, singleT, numT, nameT]
  cases st.q with
  | true => simp
  | false =>
    cases numB x with
    | true => simp [mustT]
    | false => simp
theorem budget_st (st : PSt) (x : Txt) (r : Toks) : stmtT st (wBudget :: x :: [46] :: r) = if st.b then .error (r.length + 3, 5) else if numB x then .ok ({ st with p := { st.p with bu := numV x }, b := true }, r) else .error (r.length + 2, 3) := by
  rw [stmtT, partT, show isT wPrincipal (wBudget :: x :: [46] :: r) = false from by show decide (wBudget = wPrincipal) = false; decide, show isT wPred (wBudget :: x :: [46] :: r) = false from by show decide (wBudget = wPred) = false; decide, show isT wClear (wBudget :: x :: [46] :: r) = false from by show decide (wBudget = wClear) = false; decide, show isT wQuota (wBudget :: x :: [46] :: r) = false from by show decide (wBudget = wQuota) = false; decide, show isT wBudget (wBudget :: x :: [46] :: r) = true from by show decide (wBudget = wBudget) = true; decide]
  simp only [Bool.false_eq_true, if_false, if_true, List.drop_succ_cons, List.drop_zero, budgetT, singleT, numT, nameT]
  cases st.b with
  | true => simp
  | false =>
    cases numB x with
    | true => simp [mustT]
    | false => simp
theorem pred_st (st : PSt) (x z : Txt) (r : Toks) (hx : principalB x = true) : stmtT st (wPred :: x :: [47] :: z :: [46] :: r) = if numB z then .ok ({ st with p := { st.p with pd := st.p.pd ++ [(x, (numV z : Int))] } }, r) else .error (r.length + 2, 3) := by
  rw [stmtT, partT, show isT wPrincipal (wPred :: x :: [47] :: z :: [46] :: r) = false from by show decide (wPred = wPrincipal) = false; decide, show isT wPred (wPred :: x :: [47] :: z :: [46] :: r) = true from by show decide (wPred = wPred) = true; decide]
  simp only [Bool.false_eq_true, if_false, if_true, List.drop_succ_cons, List.drop_zero, predT, numT, nameT, hx, mustT]
  cases numB z with
  | true => simp
  | false => simp
def numSt (a b c : Nat) : PSt := ⟨⟨[], [([112], (c : Int))], [], a, b, [], []⟩, true, true⟩
/-- What the texts come to. -/
theorem polG_num (a b c : Nat) (r : Toks) : polG pst0 (wQuota :: Lib.decDigits a :: [46] :: wBudget :: Lib.decDigits b :: [46] :: wPred :: [112] :: [47] :: Lib.decDigits c :: [46] :: r) =
    if a ≤ 9999999 then (if b ≤ 9999999 then (if c ≤ 9999999 then polG (numSt a b c) r else .error (r.length + 2, 3)) else .error (r.length + 7, 3)) else .error (r.length + 10, 3) := by
  rw [polG_step, if_neg (by simp), quota_st, numB_dec, numV_dec]
  simp only [show pst0.q = false from rfl, Bool.false_eq_true, if_false]
  by_cases ha : a ≤ 9999999
  · rw [decide_eq_true ha, if_pos rfl, if_pos ha]
    simp only
    rw [polG_step, if_neg (by simp), budget_st, numB_dec, numV_dec]
    simp only [show pst0.b = false from rfl, Bool.false_eq_true, if_false]
    by_cases hb : b ≤ 9999999
    · rw [decide_eq_true hb, if_pos rfl, if_pos hb]
      simp only
      rw [polG_step, if_neg (by simp), pred_st _ _ _ _ (by decide), numB_dec, numV_dec]
      by_cases hc : c ≤ 9999999
      · rw [decide_eq_true hc, if_pos rfl, if_pos hc]
        rfl
      · rw [decide_eq_false hc, if_neg (by decide), if_neg hc]
    · rw [decide_eq_false hb, if_neg (by decide), if_neg hb]
      rfl
  · rw [decide_eq_false ha, if_neg (by decide), if_neg ha]
    rfl
def numR (a b c : Nat) : Pol × Nat × Int :=
  if a ≤ 9999999 then (if b ≤ 9999999 then (if c ≤ 9999999 then ((numSt a b c).p, 0, 0) else (pol0, (numTx (Lib.decDigits a) (Lib.decDigits b) (Lib.decDigits c)).length - 1 - (Lib.decDigits c).length, 3)) else (pol0, 15 + (Lib.decDigits a).length, 3)) else (pol0, 6, 3)
theorem numTx_len (x y z : Txt) : (numTx x y z).length = x.length + y.length + z.length + 25 := by
  simp [numTx, wQuota, wBudget, wPred]; omega
theorem policy_num {a b c : Nat} (ha : a < 4294967296) (hb : b < 4294967296) (hc : c < 4294967296) : policyL (numTx (Lib.decDigits a) (Lib.decDigits b) (Lib.decDigits c)) = numR a b c := by
  have hw : Wds (numW (Lib.decDigits a) (Lib.decDigits b) (Lib.decDigits c) [] []) := wds_num (word_dec ha) (word_dec hb) (word_dec hc) sep_nil trivial
  have hg : numTx (Lib.decDigits a) (Lib.decDigits b) (Lib.decDigits c) = glue (numW (Lib.decDigits a) (Lib.decDigits b) (Lib.decDigits c) [] []) := by rw [glue_num]; simp [glue]
  have l1 := dec_len 9 a (by omega)
  have l2 := dec_len 9 b (by omega)
  have l3 := dec_len 9 c (by omega)
  have hA := allL_glue hw (by rw [← hg, numTx_len]; omega)
  rw [← hg] at hA
  unfold policyL
  rw [hA, toksW_txts]
  simp only [if_true]
  have hp : polT ((numW (Lib.decDigits a) (Lib.decDigits b) (Lib.decDigits c) [] []).map (·.2.1)) = _ := polG_num a b c []
  rw [hp]
  unfold numR
  by_cases h1 : a ≤ 9999999
  · by_cases h2 : b ≤ 9999999
    · by_cases h3 : c ≤ 9999999
      · rw [if_pos h1, if_pos h2, if_pos h3, if_pos h1, if_pos h2, if_pos h3]
        rfl
      · rw [if_pos h1, if_pos h2, if_neg h3, if_pos h1, if_pos h2, if_neg h3, numTx_len]
        refine congrArg (fun k => (pol0, k, (3 : Int))) ?_
        simp [placeK, numW, toksW, wQuota, wBudget, wPred]
        omega
    · rw [if_pos h1, if_neg h2, if_pos h1, if_neg h2]
      refine congrArg (fun k => (pol0, k, (3 : Int))) ?_
      simp [placeK, numW, toksW, wQuota, wBudget]
      omega
  · rw [if_neg h1, if_neg h1]
    refine congrArg (fun k => (pol0, k, (3 : Int))) ?_
    simp [placeK, numW, toksW, wQuota]
/-- A second budget behind it. -/
theorem policy_more {a b c : Nat} (ha : a ≤ 9999999) (hb : b ≤ 9999999) (hc : c ≤ 9999999) : policyL (numTx (Lib.decDigits a) (Lib.decDigits b) (Lib.decDigits c) ++ ([10] ++ (wBudget ++ [32, 49, 46]))) = (pol0, (numTx (Lib.decDigits a) (Lib.decDigits b) (Lib.decDigits c)).length + 1, 5) := by
  have hT : Wds [(1, wBudget, [32]), (1, [49], []), (3, [46], [])] := ⟨word_budget, sep_32, .inr ends_32, word_con (by decide), sep_nil, .inr (ends_sign (.inl rfl)), word_sign (by decide), sep_nil, .inl rfl, trivial⟩
  have hw : Wds (numW (Lib.decDigits a) (Lib.decDigits b) (Lib.decDigits c) [10] [(1, wBudget, [32]), (1, [49], []), (3, [46], [])]) := wds_num (word_dec (by omega)) (word_dec (by omega)) (word_dec (by omega)) sep_10 hT
  have hg : numTx (Lib.decDigits a) (Lib.decDigits b) (Lib.decDigits c) ++ ([10] ++ (wBudget ++ [32, 49, 46])) = glue (numW (Lib.decDigits a) (Lib.decDigits b) (Lib.decDigits c) [10] [(1, wBudget, [32]), (1, [49], []), (3, [46], [])]) := by rw [glue_num]; simp [glue]
  have l1 := dec_len 9 a (by omega)
  have l2 := dec_len 9 b (by omega)
  have l3 := dec_len 9 c (by omega)
  have hA := allL_glue hw (by rw [← hg, List.length_append, numTx_len]; simp [wBudget]; omega)
  rw [← hg] at hA
  unfold policyL
  rw [hA, toksW_txts]
  simp only [if_true]
  have hp : polT ((numW (Lib.decDigits a) (Lib.decDigits b) (Lib.decDigits c) [10] [(1, wBudget, [32]), (1, [49], []), (3, [46], [])]).map (·.2.1)) = _ := polG_num a b c [wBudget, [49], [46]]
  rw [hp, if_pos ha, if_pos hb, if_pos hc, polG_step, if_neg (by simp), budget_st]
  simp only [show (numSt a b c).b = true from rfl, if_true]
  refine congrArg (fun k => (pol0, k, (5 : Int))) ?_
  rw [numTx_len]
  simp [placeK, numW, toksW, wQuota, wBudget, wPred]
  omega
end Go.Proofs.YtnfjjckbgnieeaaGreatDoor

namespace Go.Proofs.YtnfjjckbgnieeaaGreatDoor
open Go.RowKit

theorem dig_ext (d : Nat) (h : d < 10) (l : List UInt8) : (ByteArray.mk #[48, 49, 50, 51, 52, 53, 54, 55, 56, 57]).extract d (d + 1) ++ ByteArray.mk l.toArray = ByteArray.mk (UInt8.ofNat (48 + d) :: l).toArray := by
  have h6 : d = 0 ∨ d = 1 ∨ d = 2 ∨ d = 3 ∨ d = 4 ∨ d = 5 ∨ d = 6 ∨ d = 7 ∨ d = 8 ∨ d = 9 := by omega
  have key : ∀ (b : ByteArray) (c : UInt8), b = ⟨#[c]⟩ → b ++ ByteArray.mk l.toArray = ByteArray.mk (c :: l).toArray := by
    intro b c hb
    rw [hb]
    apply ByteArray.ext
    simp
  rcases h6 with rfl | rfl | rfl | rfl | rfl | rfl | rfl | rfl | rfl | rfl <;> exact key _ _ (by decide)
def restR (m : Nat) (l : List UInt8) : List UInt8 := if l = [] then Lib.decDigits m else if m = 0 then l else Lib.decDigits m ++ l
theorem rest_step {m : Nat} {l : List UInt8} (h : l = [] ∨ m ≠ 0) : restR (m / 10) (UInt8.ofNat (48 + m % 10) :: l) = restR m l := by
  unfold restR
  rw [if_neg (by simp)]
  by_cases h10 : m < 10
  · rw [show m / 10 = 0 by omega, if_pos rfl, show m % 10 = m by omega]
    have e : Lib.decDigits m = [UInt8.ofNat (48 + m)] := by rw [Lib.decDigits, dif_pos h10]
    by_cases hl : l = []
    · rw [if_pos hl, hl, e]
    · rw [if_neg hl, if_neg (h.resolve_left hl), e]; rfl
  · rw [if_neg (by omega)]
    have e := dec_step m h10
    by_cases hl : l = []
    · rw [if_pos hl, hl, e]
    · rw [if_neg hl, if_neg (by omega), e]; simp
def leftD (m : Nat) : Nat := if m = 0 then 0 else (Lib.decDigits m).length
theorem ld_step {m : Nat} (h : m ≠ 0) : leftD (m / 10) + 1 = leftD m := by
  unfold leftD
  rw [if_neg h]
  by_cases h10 : m < 10
  · rw [if_pos (by omega), Lib.decDigits, dif_pos h10]; rfl
  · rw [if_neg (by omega), dec_step m h10]; simp
def emptyN (v : Value) : Nat := match v with
  | .string b => if b.size = 0 then 1 else 0
  | _ => 0
theorem empty_cons (c : UInt8) (l : List UInt8) : emptyN (.string ⟨(c :: l).toArray⟩) = 0 := by
  show (if (c :: l).toArray.size = 0 then 1 else 0) = 0
  simp
set_option maxHeartbeats 1000000 in
set_option maxRecDepth 100000 in
theorem digits10_any (n : Nat) (hn : n < 4294967296) (w : World) : Calls Tryz.prog 16 #[.int .u32 (n : Int)] w fun e w' => e = .returned (.string ⟨(Lib.decDigits n).toArray⟩) ∧ Since w w' := by
  obtain ⟨R, hR⟩ : ∃ R, Hid (R = Lib.decDigits n) := ⟨_, rfl⟩
  rw [← hR.out]
  go_enter Tryz.func16, Tryz.ntmps16
  go_wp2_with fail
  go_loopw [0, 3] (fun x s wr => ∃ (m : Nat) (l : List UInt8), x = .int .u32 (m : Int) ∧ s = .string ⟨l.toArray⟩ ∧ m < 4294967296 ∧ l.length + leftD m ≤ 11 ∧ Since w wr ∧ Hid (R = restR m l)) (fun x s _ => (intOf x).toNat + emptyN s)
  case atStart => exact ⟨n, [], rfl, rfl, hn, by have h1 := dec_len 9 n (by omega); unfold leftD; rw [List.length_nil]; split <;> omega, Since.refl _, hR⟩
  case round =>
    obtain ⟨m, l, rfl, rfl, hm, hl, hS, hres⟩ := hrel
    have hlen : l.length ≤ 11 := by omega
    cases l with
    | nil =>
      have hl2 : ([UInt8.ofNat (48 + m % 10)] : List UInt8).length + leftD (m / 10) ≤ 11 := by
        by_cases h0 : m = 0
        · subst h0; decide
        · have := ld_step h0
          rw [List.length_singleton]; rw [List.length_nil] at hl; omega
      have hst : restR (m / 10) [UInt8.ofNat (48 + m % 10)] = restR m [] := rest_step (.inl rfl)
      have hx := dig_ext (m % 10) (by omega) []
      obtain ⟨cd, hcd⟩ : ∃ c, Hid (c = UInt8.ofNat (48 + m % 10)) := ⟨_, rfl⟩
      rw [← hcd.out] at hx hst hl2
      have HST := Lib.hid hst
      clear hst hcd
      go_wp2_with fail
      refine ⟨⟨m / 10, [cd], rfl, rfl, by omega, hl2, hS, ?_⟩, ?_⟩
      · show _ = _; rw [hres.out, ← HST.out]
      · show (m / 10 : Int).toNat + 0 < (m : Int).toNat + 1
        omega
    | cons c r =>
      by_cases h0 : m = 0
      · subst h0
        have hRl : R = c :: r := by rw [hres.out]; rfl
        subst hRl
        go_wp2_with fail
        go_ret
        exact ⟨rfl, hS⟩
      · have hm0 : 0 < m := by omega
        have hl2 : (UInt8.ofNat (48 + m % 10) :: c :: r).length + leftD (m / 10) ≤ 11 := by
          have := ld_step h0
          rw [List.length_cons]; omega
        have hst : restR (m / 10) (UInt8.ofNat (48 + m % 10) :: c :: r) = restR m (c :: r) := rest_step (.inr h0)
        have hx := dig_ext (m % 10) (by omega) (c :: r)
        obtain ⟨cd, hcd⟩ : ∃ c, Hid (c = UInt8.ofNat (48 + m % 10)) := ⟨_, rfl⟩
        rw [← hcd.out] at hx hst hl2
        have HST := Lib.hid hst
        clear hst hcd
        go_wp2_with fail
        · exfalso; rw [List.length_cons] at hlen; omega
        refine ⟨⟨m / 10, cd :: c :: r, rfl, rfl, by omega, hl2, hS, ?_⟩, ?_⟩
        · show _ = _; rw [hres.out, ← HST.out]
        · rw [empty_cons, empty_cons]
          show (m / 10 : Int).toNat + 0 < (m : Int).toNat + 0
          omega
end Go.Proofs.YtnfjjckbgnieeaaGreatDoor

namespace Go.Proofs.YtnfjjckbgnieeaaGreatDoor
open Go.RowKit

theorem cat_run {a b c : List UInt8} (h : a ++ b = c) (hl : c.length ≤ 1000000) (W : World) : (Op.stringOp .add ⟨a.toArray⟩ ⟨b.toArray⟩).run Tryz.prog W = .ok (.string ⟨c.toArray⟩) W := by
  refine run_cat ?_ ?_ W
  · rw [← h]; apply ByteArray.ext; simp
  · have : (a ++ b).length ≤ 1000000 := by rw [h]; exact hl
    rw [List.length_append] at this
    simpa [ByteArray.size] using this
/-- A policy's cells, as a call hands them back. -/
theorem pol_cells {W : World} {D : Nat} {c3 c4 c5 c6 c7 c8 c9 : Value} {P : Pol} {C : List (Clr × Value)} {U : List (Rul × Value)} {G : List (Grn × Value)} (h : POwn W D c3 c4 c5 c6 c7 c8 c9 P C U G) : ∃ a3 e3 a4 e4 a5 e5 a8 e8 a9 e9, c3 = .slice a3 P.pr.length e3 ∧ c4 = .slice a4 P.pd.length e4 ∧ c5 = .slice a5 P.cl.length e5 ∧ c6 = .int .i64 P.qu ∧ c7 = .int .i64 P.bu ∧ c8 = .slice a8 P.ru.length e8 ∧ c9 = .slice a9 P.gr.length e9 := by
  obtain ⟨a3, e3, h3⟩ := own_slice h.pr
  obtain ⟨a4, e4, h4⟩ := own_slice h.pd
  obtain ⟨a5, e5, h5⟩ := own_slice h.cl.row
  obtain ⟨a8, e8, h8⟩ := own_slice h.ru.row
  obtain ⟨a9, e9, h9⟩ := own_slice h.gr.row
  have l5 : C.length = P.cl.length := by rw [← h.eC, List.length_map]
  have l8 : U.length = P.ru.length := by rw [← h.eU, List.length_map]
  have l9 : G.length = P.gr.length := by rw [← h.eG, List.length_map]
  rw [l5] at h5; rw [l8] at h8; rw [l9] at h9
  exact ⟨a3, e3, a4, e4, a5, e5, a8, e8, a9, e9, h3, h4, h5, h.qu, h.bu, h8, h9⟩
set_option maxHeartbeats 8000000 in
set_option maxRecDepth 100000 in
theorem pnumbers_any (a b c : Nat) (ha : a < 4294967296) (hb : b < 4294967296) (hc : c < 4294967296) (w : World) (hE : EnvT w) : Calls Tryz.prog 4 #[.int .u32 (a : Int), .int .u32 (b : Int), .int .u32 (c : Int)] w fun e w' => e = .returned (.bool true) ∧ Since w w' := by
  have HL := Lib.hid (lives10_any w hE)
  have HDa := Lib.hid (digits10_any a ha)
  have HDb := Lib.hid (digits10_any b hb)
  have HDc := Lib.hid (digits10_any c hc)
  have la := dec_len 9 a (by omega)
  have lb := dec_len 9 b (by omega)
  have lc := dec_len 9 c (by omega)
  have HP := Lib.hid (fun W (h : Since w W) => policy_any (numTx (Lib.decDigits a) (Lib.decDigits b) (Lib.decDigits c)) (by rw [numTx_len]; unfold maxLen; omega) W (hE.next h))
  have HM := Lib.hid (fun W (h : Since w W) => policy_any (numTx (Lib.decDigits a) (Lib.decDigits b) (Lib.decDigits c) ++ ([10] ++ (wBudget ++ [32, 49, 46]))) (by rw [List.length_append, numTx_len]; simp [wBudget]; unfold maxLen; omega) W (hE.next h))
  unfold PolPost at HP HM
  rw [policy_num ha hb hc] at HP
  have HMm : Hid (a ≤ 9999999 → b ≤ 9999999 → c ≤ 9999999 → policyL (numTx (Lib.decDigits a) (Lib.decDigits b) (Lib.decDigits c) ++ ([10] ++ (wBudget ++ [32, 49, 46]))) = (pol0, (numTx (Lib.decDigits a) (Lib.decDigits b) (Lib.decDigits c)).length + 1, 5)) := fun h1 h2 h3 => policy_more h1 h2 h3
  unfold numR at HP
  have hlen := numTx_len (Lib.decDigits a) (Lib.decDigits b) (Lib.decDigits c)
  obtain ⟨x, hx⟩ : ∃ x, Hid (x = Lib.decDigits a) := ⟨_, rfl⟩
  obtain ⟨y, hy⟩ : ∃ x, Hid (x = Lib.decDigits b) := ⟨_, rfl⟩
  obtain ⟨z, hz⟩ : ∃ x, Hid (x = Lib.decDigits c) := ⟨_, rfl⟩
  rw [← hx.out] at HDa la HP HM HMm hlen
  rw [← hy.out] at HDb lb HP HM HMm hlen
  rw [← hz.out] at HDc lc HP HM HMm hlen
  obtain ⟨s, hs⟩ : ∃ s, Hid (s = numTx x y z) := ⟨_, rfl⟩
  obtain ⟨u, hu⟩ : ∃ u : List UInt8, Hid (u = s ++ ([10] ++ (wBudget ++ [32, 49, 46]))) := ⟨s ++ ([10] ++ (wBudget ++ [32, 49, 46])), rfl⟩
  rw [← hs.out, ← hu.out] at HM HMm
  rw [← hs.out] at HP hlen
  have k1 : ∀ W, (Op.stringOp .add ⟨#[113, 117, 111, 116, 97, 32]⟩ ⟨x.toArray⟩).run Tryz.prog W = .ok (.string ⟨([113, 117, 111, 116, 97, 32] ++ x).toArray⟩) W := cat_run (a := [113, 117, 111, 116, 97, 32]) rfl (by simp; omega)
  obtain ⟨t1, h1⟩ : ∃ t : List UInt8, Hid (t = [113, 117, 111, 116, 97, 32] ++ x) := ⟨[113, 117, 111, 116, 97, 32] ++ x, rfl⟩
  rw [← h1.out] at k1
  have l1 : t1.length ≤ 100 := by rw [h1.out]; simp; omega
  have k2 : ∀ W, (Op.stringOp .add ⟨t1.toArray⟩ ⟨#[46, 32, 98, 117, 100, 103, 101, 116, 32]⟩).run Tryz.prog W = .ok (.string ⟨(t1 ++ [46, 32, 98, 117, 100, 103, 101, 116, 32]).toArray⟩) W := cat_run (b := [46, 32, 98, 117, 100, 103, 101, 116, 32]) rfl (by simp; omega)
  obtain ⟨t2, h2⟩ : ∃ t : List UInt8, Hid (t = t1 ++ [46, 32, 98, 117, 100, 103, 101, 116, 32]) := ⟨t1 ++ [46, 32, 98, 117, 100, 103, 101, 116, 32], rfl⟩
  rw [← h2.out] at k2
  have l2 : t2.length ≤ 200 := by rw [h2.out]; simp; omega
  have k3 : ∀ W, (Op.stringOp .add ⟨t2.toArray⟩ ⟨y.toArray⟩).run Tryz.prog W = .ok (.string ⟨(t2 ++ y).toArray⟩) W := cat_run rfl (by simp; omega)
  obtain ⟨t3, h3⟩ : ∃ t : List UInt8, Hid (t = t2 ++ y) := ⟨t2 ++ y, rfl⟩
  rw [← h3.out] at k3
  have l3 : t3.length ≤ 300 := by rw [h3.out]; simp; omega
  have k4 : ∀ W, (Op.stringOp .add ⟨t3.toArray⟩ ⟨#[46, 32, 112, 114, 101, 100, 32, 112, 47]⟩).run Tryz.prog W = .ok (.string ⟨(t3 ++ [46, 32, 112, 114, 101, 100, 32, 112, 47]).toArray⟩) W := cat_run (b := [46, 32, 112, 114, 101, 100, 32, 112, 47]) rfl (by simp; omega)
  obtain ⟨t4, h4⟩ : ∃ t : List UInt8, Hid (t = t3 ++ [46, 32, 112, 114, 101, 100, 32, 112, 47]) := ⟨t3 ++ [46, 32, 112, 114, 101, 100, 32, 112, 47], rfl⟩
  rw [← h4.out] at k4
  have l4 : t4.length ≤ 400 := by rw [h4.out]; simp; omega
  have k5 : ∀ W, (Op.stringOp .add ⟨t4.toArray⟩ ⟨z.toArray⟩).run Tryz.prog W = .ok (.string ⟨(t4 ++ z).toArray⟩) W := cat_run rfl (by simp; omega)
  obtain ⟨t5, h5⟩ : ∃ t : List UInt8, Hid (t = t4 ++ z) := ⟨t4 ++ z, rfl⟩
  rw [← h5.out] at k5
  have l5 : t5.length ≤ 500 := by rw [h5.out]; simp; omega
  have k6 : ∀ W, (Op.stringOp .add ⟨t5.toArray⟩ ⟨#[46]⟩).run Tryz.prog W = .ok (.string ⟨s.toArray⟩) W := cat_run (b := [46]) (by rw [hs.out, h5.out, h4.out, h3.out, h2.out, h1.out]; simp [numTx, wQuota, wBudget, wPred]) (by omega)
  have k7 : ∀ W, (Op.stringOp .add ⟨s.toArray⟩ ⟨#[10, 98, 117, 100, 103, 101, 116, 32, 49, 46]⟩).run Tryz.prog W = .ok (.string ⟨u.toArray⟩) W := cat_run (b := [10, 98, 117, 100, 103, 101, 116, 32, 49, 46]) (by rw [hu.out]; rfl) (by rw [hu.out]; simp [wBudget]; omega)
  clear hx hy hz hs hu h1 h2 h3 h4 h5 l1 l2 l3 l4 l5
  obtain ⟨K, hK⟩ : ∃ K : Ending → World → Prop, Hid (K = fun e w' => e = .returned (.bool true) ∧ Since w w') := ⟨_, rfl⟩
  have hgood : Hid (∀ w', Since w w' → K (.returned (.bool true)) w') := fun w' h => by rw [hK.out]; exact ⟨rfl, h⟩
  rw [← hK.out]
  have HLEN := Lib.hid hlen
  have hwa : wrap64 (a : Int) = (a : Int) := IntWalk.wrap64_in _ (by omega)
  have hwb : wrap64 (b : Int) = (b : Int) := IntWalk.wrap64_in _ (by omega)
  have hwc : wrap64 (c : Int) = (c : Int) := IntWalk.wrap64_in _ (by omega)
  clear hK hE ha hb hc hlen
  go_enter Tryz.func4, Tryz.ntmps4
  go_wp2_with fail
  refine HL.out.mono ?_
  rintro e w2 ⟨rfl, hS2⟩
  go_wp2_with fail
  refine (HDa.out _).mono ?_
  rintro e w3 ⟨rfl, hS3⟩
  go_wp2_with fail
  refine (HDb.out _).mono ?_
  rintro e w4 ⟨rfl, hS4⟩
  go_wp2_with fail
  refine (HDc.out _).mono ?_
  rintro e w5 ⟨rfl, hS5⟩
  have hSa := ((hS2.trans hS3).trans hS4).trans hS5
  clear HL HDa HDb HDc hS2 hS3 hS4 hS5
  go_wp2_with fail
  refine (HP.out _ hSa).mono ?_
  rintro e w6 ⟨c3, c4, c5, c6, c7, c8, c9, C, U, G, rfl, hO, hS6⟩
  have hS6 := hSa.trans hS6
  clear HP hSa k1 k2 k3 k4 k5 k6
  by_cases ha : a ≤ 9999999
  · rw [if_pos ha] at hO ⊢
    by_cases hb : b ≤ 9999999
    · rw [if_pos hb] at hO ⊢
      by_cases hc : c ≤ 9999999
      · rw [if_pos hc] at hO ⊢
        have hpol := HMm.out ha hb hc
        have HM2 := HM.out
        rw [hpol] at HM2
        replace HM := Lib.hid HM2
        have ha1 : ¬ (9999999 : Int) < (a : Int) := by omega
        have hb1 : ¬ (9999999 : Int) < (b : Int) := by omega
        have hc1 : ¬ (9999999 : Int) < (c : Int) := by omega
        obtain ⟨a3, e3, a4, e4, a5, e5, a8, e8, a9, e9, rfl, hv4, rfl, rfl, rfl, rfl, rfl⟩ := pol_cells hO
        obtain ⟨gb, go, e4', rfl, -, hat⟩ := own_at1 hO.pd (Nat.succ_pos _)
        have q1 : w6.cell? ⟨gb, go + 1, none⟩ = some (.int .i64 (c : Int)) := hat 1 _ rfl
        have l4 : (numSt a b c).p.pd.length = 1 := rfl
        rw [l4]
        have hB7 : Cel (w6.alloc (.cells #[.slice a3 (numSt a b c).p.pr.length e3, .slice (some ⟨gb, go, none⟩) 1 e4', .slice a5 (numSt a b c).p.cl.length e5, .int .i64 (numSt a b c).p.qu, .int .i64 (numSt a b c).p.bu, .slice a8 (numSt a b c).p.ru.length e8, .slice a9 (numSt a b c).p.gr.length e9] 29)) w6.heap.size #[.slice a3 (numSt a b c).p.pr.length e3, .slice (some ⟨gb, go, none⟩) 1 e4', .slice a5 (numSt a b c).p.cl.length e5, .int .i64 (numSt a b c).p.qu, .int .i64 (numSt a b c).p.bu, .slice a8 (numSt a b c).p.ru.length e8, .slice a9 (numSt a b c).p.gr.length e9] 29 := heap_alloc_new w6 _
        have q7 := ((Since.refl w6).alloc (.cells #[.slice a3 (numSt a b c).p.pr.length e3, .slice (some ⟨gb, go, none⟩) 1 e4', .slice a5 (numSt a b c).p.cl.length e5, .int .i64 (numSt a b c).p.qu, .int .i64 (numSt a b c).p.bu, .slice a8 (numSt a b c).p.ru.length e8, .slice a9 (numSt a b c).p.gr.length e9] 29)).cell q1
        have hS7 : Since w (w6.alloc (.cells #[.slice a3 (numSt a b c).p.pr.length e3, .slice (some ⟨gb, go, none⟩) 1 e4', .slice a5 (numSt a b c).p.cl.length e5, .int .i64 (numSt a b c).p.qu, .int .i64 (numSt a b c).p.bu, .slice a8 (numSt a b c).p.ru.length e8, .slice a9 (numSt a b c).p.gr.length e9] 29)) := hS6.alloc _
        clear hO hv4 hpol HM2 HMm hat l4 q1 hS6
        go_upto_region 13 with (fail)
        generalize w6.alloc (.cells #[.slice a3 (numSt a b c).p.pr.length e3, .slice (some ⟨gb, go, none⟩) 1 e4', .slice a5 (numSt a b c).p.cl.length e5, .int .i64 (numSt a b c).p.qu, .int .i64 (numSt a b c).p.bu, .slice a8 (numSt a b c).p.ru.length e8, .slice a9 (numSt a b c).p.gr.length e9] 29) = w7 at *
        have k3 : w7.cell? ⟨w6.heap.size, 3, none⟩ = some (.int .i64 (a : Int)) := hB7.cell 3
        have k4 : w7.cell? ⟨w6.heap.size, 4, none⟩ = some (.int .i64 (b : Int)) := hB7.cell 4
        have k1 : w7.cell? ⟨w6.heap.size, 1, none⟩ = some (.slice (some ⟨gb, go, none⟩) 1 e4') := hB7.cell 1
        clear hB7
        go_wp2_with fail
        refine (HM.out _ hS7).mono ?_
        rintro e w8 ⟨c3, c4, c5, c6, c7, c8, c9, C', U', G', rfl, -, hS8⟩
        have hSf := hS7.trans hS8
        have hw1 : wrap64 ((s.length : Int) + 1) = (s.length : Int) + 1 := IntWalk.wrap64_in _ (by have := HLEN.out; omega)
        rw [show ((s.length + 1 : Nat) : Int) = (s.length : Int) + 1 by omega]
        clear HM hS7 hS8 k3 k4 k1 q7 hS6 HLEN
        go_wp2_with fail
        exact hgood.out _ hSf
      · rw [if_neg hc] at hO ⊢
        have ha1 : ¬ (9999999 : Int) < (a : Int) := by omega
        have hb1 : ¬ (9999999 : Int) < (b : Int) := by omega
        have hc1 : (9999999 : Int) < (c : Int) := by omega
        have hL := HLEN.out
        have hw1 : wrap64 ((s.length : Int) - 1) = (s.length : Int) - 1 := IntWalk.wrap64_in _ (by omega)
        have hw2 : wrap64 ((s.length : Int) - 1 - (z.length : Int)) = (s.length : Int) - 1 - (z.length : Int) := IntWalk.wrap64_in _ (by omega)
        rw [show ((s.length - 1 - z.length : Nat) : Int) = (s.length : Int) - 1 - (z.length : Int) by omega]
        obtain ⟨a3, e3, a4, e4, a5, e5, a8, e8, a9, e9, rfl, rfl, rfl, rfl, rfl, rfl, rfl⟩ := pol_cells hO
        have hSf := hS6.alloc (.cells #[.slice a3 pol0.pr.length e3, .slice a4 pol0.pd.length e4, .slice a5 pol0.cl.length e5, .int .i64 pol0.qu, .int .i64 pol0.bu, .slice a8 pol0.ru.length e8, .slice a9 pol0.gr.length e9] 29)
        clear hO HM HMm hL HLEN hS6
        go_wp2_with fail
        exact hgood.out _ hSf
    · rw [if_neg hb] at hO ⊢
      have ha1 : ¬ (9999999 : Int) < (a : Int) := by omega
      have hb1 : (9999999 : Int) < (b : Int) := by omega
      have hL := HLEN.out
      have hw1 : wrap64 ((s.length : Int) - 1) = (s.length : Int) - 1 := IntWalk.wrap64_in _ (by omega)
      have hw2 : wrap64 ((s.length : Int) - 1 - (z.length : Int)) = (s.length : Int) - 1 - (z.length : Int) := IntWalk.wrap64_in _ (by omega)
      have hw3 : wrap64 (15 + (x.length : Int)) = 15 + (x.length : Int) := IntWalk.wrap64_in _ (by omega)
      rw [show ((15 + x.length : Nat) : Int) = 15 + (x.length : Int) by omega]
      obtain ⟨a3, e3, a4, e4, a5, e5, a8, e8, a9, e9, rfl, rfl, rfl, rfl, rfl, rfl, rfl⟩ := pol_cells hO
      have hSf := hS6.alloc (.cells #[.slice a3 pol0.pr.length e3, .slice a4 pol0.pd.length e4, .slice a5 pol0.cl.length e5, .int .i64 pol0.qu, .int .i64 pol0.bu, .slice a8 pol0.ru.length e8, .slice a9 pol0.gr.length e9] 29)
      clear hO HM HMm hL HLEN hS6
      go_wp2_with fail
      exact hgood.out _ hSf
  · rw [if_neg ha] at hO ⊢
    have ha1 : (9999999 : Int) < (a : Int) := by omega
    have hL := HLEN.out
    have hw1 : wrap64 ((s.length : Int) - 1) = (s.length : Int) - 1 := IntWalk.wrap64_in _ (by omega)
    have hw2 : wrap64 ((s.length : Int) - 1 - (z.length : Int)) = (s.length : Int) - 1 - (z.length : Int) := IntWalk.wrap64_in _ (by omega)
    have hw3 : wrap64 (15 + (x.length : Int)) = 15 + (x.length : Int) := IntWalk.wrap64_in _ (by omega)
    obtain ⟨a3, e3, a4, e4, a5, e5, a8, e8, a9, e9, rfl, rfl, rfl, rfl, rfl, rfl, rfl⟩ := pol_cells hO
    have hSf := hS6.alloc (.cells #[.slice a3 pol0.pr.length e3, .slice a4 pol0.pd.length e4, .slice a5 pol0.cl.length e5, .int .i64 pol0.qu, .int .i64 pol0.bu, .slice a8 pol0.ru.length e8, .slice a9 pol0.gr.length e9] 29)
    clear hO HM HMm hL HLEN hS6
    by_cases hbb : (9999999 : Int) < (b : Int)
    · go_wp2_with fail
      exact hgood.out _ hSf
    · go_wp2_with fail
      exact hgood.out _ hSf
end Go.Proofs.YtnfjjckbgnieeaaGreatDoor
