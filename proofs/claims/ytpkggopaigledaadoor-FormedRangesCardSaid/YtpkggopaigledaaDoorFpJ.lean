/- Plain law of FormedParts: a policy without its last rule, grant or clear. -/
import Derived.Test.YtpkggopaigledaaDoorFpG
namespace Go.Proofs.YtpkggopaigledaaDoor
open Go.RowKit

theorem rulesF_all {pr : List Txt} {pd : List (Txt × Int)} : ∀ {L : List (Atm × List Atm)}, rulesF pr pd L = 0 ↔ ∀ x ∈ L, ruleErr pr pd x = 0
  | [] => by simp [rulesF]
  | r :: l => by
    rw [rulesF, List.forall_mem_cons]
    by_cases h0 : ruleErr pr pd r = 0
    · rw [if_pos h0, rulesF_all]
      exact ⟨fun h => ⟨h0, h⟩, fun h => h.2⟩
    · rw [if_neg h0]
      exact ⟨fun h => absurd h h0, fun h => h.1⟩
theorem grantsF_all {pr : List Txt} {pd : List (Txt × Int)} : ∀ {L : List (Txt × Atm × List Atm)}, grantsF pr pd L = 0 ↔ ∀ x ∈ L, grantErr pr pd x = 0
  | [] => by simp [grantsF]
  | r :: l => by
    rw [grantsF, List.forall_mem_cons]
    by_cases h0 : grantErr pr pd r = 0
    · rw [if_pos h0, grantsF_all]
      exact ⟨fun h => ⟨h0, h⟩, fun h => h.2⟩
    · rw [if_neg h0]
      exact ⟨fun h => absurd h h0, fun h => h.1⟩
theorem clrsF_take {pr : List Txt} : ∀ {L : List (Txt × List Txt)} {met : List Txt} (k : Nat), clrsF pr met L = 0 → clrsF pr met (L.take k) = 0
  | [], _, k, _ => by rw [List.take_nil]; rfl
  | _ :: _, _, 0, _ => rfl
  | y :: r, met, k + 1, h => by
    rw [clrsF] at h
    rw [List.take_succ_cons, clrsF]
    by_cases h0 : clrErr pr met y = 0
    · rw [if_pos h0] at h ⊢
      exact clrsF_take k h
    · rw [if_neg h0] at h; exact absurd h h0
theorem check_cut {P : Pol} (h : checkE P = 0) (i j k : Nat) : checkE { P with cl := P.cl.take i, ru := P.ru.take j, gr := P.gr.take k } = 0 := by
  obtain ⟨z0, z1, z2, z3, z4⟩ := check_parts h
  obtain ⟨y1, y2⟩ := rulesE_parts z4
  have w1 : rulesF P.pr P.pd (P.ru.take j) = 0 := rulesF_all.2 fun x hx => rulesF_all.1 y1 x (List.mem_of_mem_take hx)
  have w2 : grantsF P.pr P.pd (P.gr.take k) = 0 := grantsF_all.2 fun x hx => grantsF_all.1 y2 x (List.mem_of_mem_take hx)
  have w3 : numE P.qu P.bu (P.ru.take j).length (P.gr.take k).length = 0 := by
    have hb := ifE_zero z3 (by decide)
    rw [numE]
    have l1 : (P.ru.take j).length ≤ P.ru.length := by rw [List.length_take]; omega
    have l2 : (P.gr.take k).length ≤ P.gr.length := by rw [List.length_take]; omega
    have e : ((decide (P.qu < 0) || decide (1000 < P.qu)) || (decide (P.bu < 1) || decide (1048576 < P.bu)) || decide (64 < (P.ru.take j).length + (P.gr.take k).length)) = false := by
      simp only [Bool.or_eq_false_iff, decide_eq_false_iff_not] at hb ⊢
      omega
    rw [e]; rfl
  show firstE [prinsE P.pr, predsE P.pd, clrsF P.pr [] (P.cl.take i), numE P.qu P.bu (P.ru.take j).length (P.gr.take k).length, rulesE P.pr P.pd (P.ru.take j) (P.gr.take k)] = 0
  rw [z0, z1, clrsF_take i z2, w3, rulesE, w1, w2]; rfl
/-- What a well-formed policy's rules are. -/
theorem rule_parts {P : Pol} (h : checkE P = 0) {x : Atm × List Atm} (hx : x ∈ P.ru) : atomE P.pr P.pd x.1 = 0 ∧ (∀ b ∈ x.2, atomE P.pr P.pd b = 0) ∧ ∀ s ∈ namesA x.1 true, s ∈ haveF x.2 := by
  have h0 := rulesF_all.1 (rulesE_parts (check_parts h).2.2.2.2).1 x hx
  have z := firstE_zero h0
  obtain ⟨h1, _, h3⟩ := clause_ok (z (clauseE P.pr P.pd x.1 x.2) (by simp))
  have h4 := ifE_zero (z (rangedE x.1 x.2) (by simp)) (by decide)
  refine ⟨h1, h3, fun s hs => ?_⟩
  have := List.any_eq_false.1 h4 s hs
  simpa using this
theorem grant_parts {P : Pol} (h : checkE P = 0) {x : Txt × Atm × List Atm} (hx : x ∈ P.gr) : P.pr.contains x.1 = true ∧ (x.1 == x.2.1.1) = false ∧ atomE P.pr P.pd x.2.1 = 0 := by
  have h0 := grantsF_all.1 (rulesE_parts (check_parts h).2.2.2.2).2 x hx
  have z := firstE_zero h0
  obtain ⟨h1, _, _⟩ := clause_ok (z (clauseE P.pr P.pd x.2.1 x.2.2) (by simp))
  have h2 := ifE_zero (z (ifE (!(P.pr.contains x.1)) 6) (by simp)) (by decide)
  have h3 := ifE_zero (z (ifE (x.1 == x.2.1.1) 11) (by simp)) (by decide)
  exact ⟨by simpa using h2, h3, h1⟩
end Go.Proofs.YtpkggopaigledaaDoor
