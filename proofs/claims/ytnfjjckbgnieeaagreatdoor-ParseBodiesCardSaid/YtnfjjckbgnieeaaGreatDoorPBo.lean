/- Rules and grants of valid atoms, written down, and what they are parsed to. No program's function in sight. -/
import Derived.Test.YtnfjjckbgnieeaaGreatDoorPLx
import Derived.Test.YtnfjjckbgnieeaaGreatDoorPTr
import Derived.Test.YtnfjjckbgnieeaaGreatDoorTermP
import Derived.Test.YtnfjjckbgnieeaaGreatDoorRef3N
namespace Go.Proofs.YtnfjjckbgnieeaaGreatDoor
open Go.RowKit

theorem isT_self (x : Txt) (r : Toks) : isT x (x :: r) = true := by show decide (x = x) = true; simp
def kW (x : Txt) : Int := if variableB x then 2 else 1
theorem word_term {x : Txt} (h : termT x = true) : WordT (kW x) x := by
  unfold kW
  cases hv : variableB x with
  | true => exact word_var hv
  | false =>
    unfold termT at h
    rw [hv, Bool.or_false] at h
    exact word_con h
theorem princ_con {x : Txt} (h : principalB x = true) : WordT 1 x := by
  have hs : spelledB smallB lowB x = true ∧ reservedB x = false := by
    unfold principalB at h
    rw [Bool.and_eq_true] at h
    exact ⟨h.1, by simpa using h.2⟩
  refine word_con ?_
  unfold constantB
  rw [hs.2]
  have h2 := hs.1
  cases x with
  | nil => cases h2
  | cons c r =>
    simp only [spelledB, Bool.and_eq_true, decide_eq_true_eq] at h2 ⊢
    refine ⟨⟨⟨h2.1.1, ?_⟩, h2.2⟩, rfl⟩
    unfold firstB
    rw [h2.1.2]; rfl
def termsW : List Txt → List Wd
  | [] => []
  | [x] => [(kW x, x, [])]
  | x :: y :: r => (kW x, x, []) :: (3, [44], [32]) :: termsW (y :: r)
theorem glue_terms : ∀ L : List Txt, glue (termsW L) = Lib.join L [44, 32]
  | [] => rfl
  | [x] => by rw [termsW, glue, glue, join_one]; simp
  | x :: y :: r => by rw [termsW, glue, glue, glue_terms (y :: r), join_two]; simp
theorem ends_44 : Ends 44 := ⟨by decide, by decide⟩
theorem ends_41 : Ends 41 := ⟨by decide, by decide⟩
theorem ends_40 : Ends 40 := ⟨by decide, by decide⟩
theorem wds_terms {T : List Wd} (hT : Wds T) (he : headEnds (glue T)) : ∀ L : List Txt, (∀ x ∈ L, termT x = true) → Wds (termsW L ++ T)
  | [], _ => hT
  | [x], h => ⟨word_term (h x (by simp)), sep_nil, .inr he, hT⟩
  | x :: y :: r, h => ⟨word_term (h x (by simp)), sep_nil, .inr ends_44, word_sign (by decide), sep_32, .inl rfl, wds_terms hT he (y :: r) (fun z hz => h z (List.mem_cons_of_mem _ hz))⟩
def saidW (p : Txt) (L : List Txt) (sep : Txt) : List Wd := if L = [] then [(1, p, sep)] else (1, p, []) :: (3, [40], []) :: (termsW L ++ [(3, [41], sep)])
theorem glue_said (p : Txt) (L : List Txt) (sep : Txt) : glue (saidW p L sep) = p ++ ((if L = [] then [] else [40] ++ (Lib.join L [44, 32] ++ [41])) ++ sep) := by
  unfold saidW
  split
  · simp [glue]
  · rw [glue, glue, glue_append, glue_terms]; simp [glue]
theorem wds_said {p : Txt} {L : List Txt} {sep : Txt} {T : List Wd} (hp : WordT 1 p) (hL : ∀ x ∈ L, termT x = true) (hs : SepOk sep) (he : headEnds (sep ++ glue T)) (hT : Wds T) : Wds (saidW p L sep ++ T) := by
  unfold saidW
  split
  · exact ⟨hp, hs, .inr he, hT⟩
  · refine ⟨hp, sep_nil, .inr ends_40, word_sign (by decide), sep_nil, .inl rfl, ?_⟩
    show Wds (termsW L ++ [(3, [41], sep)] ++ T)
    rw [List.append_assoc]
    have hT2 : Wds ((3, [41], sep) :: T) := ⟨word_sign (by decide), hs, .inl rfl, hT⟩
    exact wds_terms hT2 ends_41 L hL
def commas (L : List Txt) : Toks := (termsW L).map (·.2.1)
theorem commas_one (x : Txt) : commas [x] = [x] := rfl
theorem commas_more (x y : Txt) (r : List Txt) : commas (x :: y :: r) = x :: [44] :: commas (y :: r) := rfl
def saidX (p : Txt) (L : List Txt) : Toks := if L = [] then [p] else p :: [40] :: (commas L ++ [[41]])
theorem said_txts (p : Txt) (L : List Txt) (sep : Txt) : (saidW p L sep).map (·.2.1) = saidX p L := by
  unfold saidW saidX
  split
  · rfl
  · simp [commas]
theorem putT_n {a : Atm} {m : Nat} (h : a.2.2.1 = (m : Int)) (hm : m < 4) (t : Tm) : (putT a t).2.2.1 = ((m + 1 : Nat) : Int) := by
  obtain ⟨s, p, n, t0, t1, t2, t3⟩ := a
  have h' : n = (m : Int) := h
  subst h'
  have h6 : m = 0 ∨ m = 1 ∨ m = 2 ∨ m = 3 := by omega
  rcases h6 with rfl | rfl | rfl | rfl <;> rfl
theorem each_terms (r : Toks) : ∀ (L : List Txt) (a : Atm) (m : Nat), L ≠ [] → a.2.2.1 = (m : Int) → m + L.length ≤ 4 → (∀ x ∈ L, termT x = true) → eachT termStep a (commas L ++ [41] :: r) = .ok (L.foldl (fun a x => putT a (variableB x, x)) a, [41] :: r)
  | [], _, _, h, _, _, _ => absurd rfl h
  | [x], a, m, _, hn, hm, hx => by
    have h4 : ¬ a.2.2.1 = 4 := by rw [hn]; simp at hm; omega
    rw [eachT_step termStep_eats, commas_one, List.cons_append, List.nil_append, termStep, nameT, if_pos (hx x (by simp))]
    simp only
    rw [if_neg h4]
    rfl
  | x :: y :: q, a, m, _, hn, hm, hx => by
    have h4 : ¬ a.2.2.1 = 4 := by rw [hn]; simp at hm; omega
    rw [eachT_step termStep_eats, commas_more, List.cons_append, List.cons_append, termStep, nameT, if_pos (hx x (by simp))]
    simp only
    rw [if_neg h4]
    simp only
    rw [isT_self, if_pos rfl, List.drop_succ_cons, List.drop_zero]
    exact each_terms r (y :: q) _ (m + 1) (by simp) (putT_n hn (by simp at hm; omega) _) (by simp at hm ⊢; omega) (fun z hz => hx z (List.mem_cons_of_mem _ hz))
theorem term_self {t : Tm} (h : termB t = true) : (variableB t.2, t.2) = t := by
  obtain ⟨v, l⟩ := t
  cases v with
  | true => have : variableB l = true := h; rw [this]
  | false =>
    have hc : constantB l = true := h
    cases hv : variableB l with
    | true => rw [var_not_con hv] at hc; cases hc
    | false => rfl
theorem term_T {t : Tm} (h : termB t = true) : termT t.2 = true := by
  obtain ⟨v, l⟩ := t
  cases v with
  | true => have : variableB l = true := h; simp [termT, this]
  | false => have : constantB l = true := h; simp [termT, this]
theorem names_T {a : Atm} (h : checkA a = 0) : ∀ x ∈ namesOf a, termT x = true := by
  obtain ⟨_, _, _, _, h5, _, _⟩ := valid_parts h
  intro x hx
  obtain ⟨t, ht, rfl⟩ := List.mem_map.1 hx
  exact term_T (h5 t ht)
theorem fold_atom {a : Atm} (h : checkA a = 0) : (namesOf a).foldl (fun a x => putT a (variableB x, x)) (atom0 a.1 a.2.1) = a := by
  obtain ⟨_, _, h3, h4, h5, h6, h7⟩ := valid_parts h
  obtain ⟨s, p, n, t0, t1, t2, t3⟩ := a
  simp only at h3 h4 h6
  have hn : n = 0 ∨ n = 1 ∨ n = 2 ∨ n = 3 ∨ n = 4 := by omega
  unfold namesOf
  unfold termsA at h5
  rcases hn with rfl | rfl | rfl | rfl | rfl
  · have e : countA (s, p, 0, t0, t1, t2, t3) = 0 := by omega
    rw [e] at h7 ⊢
    have a0 := h7 t0 (by simp [argsL])
    have a1 := h7 t1 (by simp [argsL])
    have a2 := h7 t2 (by simp [argsL])
    have a3 := h7 t3 (by simp [argsL])
    subst a0; subst a1; subst a2; subst a3
    rfl
  · have e : countA (s, p, 1, t0, t1, t2, t3) = 1 := by omega
    rw [e] at h5 h7 ⊢
    have b0 := term_self (h5 t0 (by simp [argsL]))
    have a1 := h7 t1 (by simp [argsL])
    have a2 := h7 t2 (by simp [argsL])
    have a3 := h7 t3 (by simp [argsL])
    subst a1; subst a2; subst a3
    show ((s, p, 1, (variableB t0.2, t0.2), _) : Atm) = _
    rw [b0] <;> rfl
  · have e : countA (s, p, 2, t0, t1, t2, t3) = 2 := by omega
    rw [e] at h5 h7 ⊢
    have b0 := term_self (h5 t0 (by simp [argsL]))
    have b1 := term_self (h5 t1 (by simp [argsL]))
    have a2 := h7 t2 (by simp [argsL])
    have a3 := h7 t3 (by simp [argsL])
    subst a2; subst a3
    show ((s, p, 2, (variableB t0.2, t0.2), (variableB t1.2, t1.2), _) : Atm) = _
    rw [b0, b1] <;> rfl
  · have e : countA (s, p, 3, t0, t1, t2, t3) = 3 := by omega
    rw [e] at h5 h7 ⊢
    have b0 := term_self (h5 t0 (by simp [argsL]))
    have b1 := term_self (h5 t1 (by simp [argsL]))
    have b2 := term_self (h5 t2 (by simp [argsL]))
    have a3 := h7 t3 (by simp [argsL])
    subst a3
    show ((s, p, 3, (variableB t0.2, t0.2), (variableB t1.2, t1.2), (variableB t2.2, t2.2), _) : Atm) = _
    rw [b0, b1, b2] <;> rfl
  · have e : countA (s, p, 4, t0, t1, t2, t3) = 4 := by omega
    rw [e] at h5 h7 ⊢
    have b0 := term_self (h5 t0 (by simp [argsL]))
    have b1 := term_self (h5 t1 (by simp [argsL]))
    have b2 := term_self (h5 t2 (by simp [argsL]))
    have b3 := term_self (h5 t3 (by simp [argsL]))
    show ((s, p, 4, (variableB t0.2, t0.2), (variableB t1.2, t1.2), (variableB t2.2, t2.2), (variableB t3.2, t3.2)) : Atm) = _
    rw [b0, b1, b2, b3] <;> rfl
theorem names_len4 (a : Atm) : (namesOf a).length ≤ 4 := by
  rw [namesOf, List.length_map, List.length_take, argsL_len]; omega
theorem said_read {a : Atm} (h : checkA a = 0) {r : Toks} (hr : isT [40] r = false) : saidT a.1 (saidX a.2.1 (namesOf a) ++ r) = .ok (a, r) := by
  obtain ⟨_, h2, _, _, _, h6, _⟩ := valid_parts h
  have hf := fold_atom h
  unfold saidX
  by_cases h0 : namesOf a = []
  · rw [if_pos h0]
    rw [h0] at hf
    show saidT a.1 (a.2.1 :: r) = _
    rw [saidT, nameT, if_pos h2]
    simp only
    rw [hr, if_neg (by decide)]
    exact congrArg (fun x => Except.ok (x, r)) hf
  · rw [if_neg h0]
    have e : (a.2.1 :: [40] :: (commas (namesOf a) ++ [[41]])) ++ r = a.2.1 :: [40] :: (commas (namesOf a) ++ [41] :: r) := by simp
    rw [e, saidT, nameT, if_pos h2]
    simp only
    rw [if_pos (by rfl)]
    show (match eachT termStep (atom0 a.1 a.2.1) (commas (namesOf a) ++ [41] :: r) with | .error e => .error e | .ok (a, r2) => match mustT [41] r2 with | .error e => .error e | .ok r3 => .ok (a, r3) : Except PErr (Atm × Toks)) = _
    rw [each_terms r _ _ 0 h0 rfl (by have := names_len4 a; omega) (names_T h)]
    simp only
    rw [mustT, if_pos rfl, hf]
def atomX (a : Atm) : Toks := a.1 :: wSays :: saidX a.2.1 (namesOf a)
theorem atom_read {a : Atm} (h : checkA a = 0) {r : Toks} (hr : isT [40] r = false) : atomT (atomX a ++ r) = .ok (a, r) := by
  obtain ⟨h1, _⟩ := valid_parts h
  show atomT (a.1 :: wSays :: (saidX a.2.1 (namesOf a) ++ r)) = _
  rw [atomT, nameT, if_pos h1]
  simp only
  rw [mustT, if_pos rfl]
  exact said_read h hr
def bodyX : List Atm → Toks
  | [] => []
  | [a] => atomX a
  | a :: b :: r => atomX a ++ [44] :: bodyX (b :: r)
theorem each_atoms (r : Toks) : ∀ (B l : List Atm), B ≠ [] → (∀ a ∈ B, checkA a = 0) → eachT atomStep l (bodyX B ++ [46] :: r) = .ok (l ++ B, [46] :: r)
  | [], _, h, _ => absurd rfl h
  | [a], l, _, ha => by
    rw [eachT_step atomStep_eats, bodyX, atomStep, atom_read (ha a (by simp)) (by rfl)]
    rfl
  | a :: b :: q, l, _, ha => by
    rw [eachT_step atomStep_eats, bodyX, List.append_assoc, atomStep, atom_read (ha a (by simp)) (by rfl)]
    show (if isT [44] ([44] :: (bodyX (b :: q) ++ [46] :: r)) = true then eachT atomStep (l ++ [a]) (bodyX (b :: q) ++ [46] :: r) else _) = _
    rw [if_pos (by rfl), each_atoms r (b :: q) (l ++ [a]) (by simp) (fun z hz => ha z (List.mem_cons_of_mem _ hz))]
    simp
def tailX (B : List Atm) : Toks := (if B = [] then [] else wIf :: bodyX B) ++ [[46]]
theorem body_read {B : List Atm} (h : ∀ a ∈ B, checkA a = 0) : bodyT (tailX B) = .ok (B, [[46]]) := by
  unfold tailX bodyT
  by_cases h0 : B = []
  · subst h0; rfl
  · rw [if_neg h0]
    show (if isT wIf (wIf :: (bodyX B ++ [[46]])) = true then eachT atomStep [] (bodyX B ++ [[46]]) else _) = _
    rw [if_pos (by exact isT_self _ _), each_atoms [] B [] h0 h]
    rfl
theorem tail_40 (B : List Atm) : isT [40] (tailX B) = false ∧ isT wCansay (tailX B) = false := by
  unfold tailX
  split
  · exact ⟨by decide, by decide⟩
  · exact ⟨by show decide (wIf = ([40] : Txt)) = false; decide, by show decide (wIf = wCansay) = false; decide⟩
theorem said_next {p : Txt} {L : List Txt} {r : Toks} (h : isT wCansay r = false) : isT wCansay ((saidX p L ++ r).drop 1) = false := by
  unfold saidX
  split
  · exact h
  · next h0 => 
    show decide (([40] : Txt) = wCansay) = false
    decide
def ruleX (h : Atm) (B : List Atm) : Toks := atomX h ++ tailX B
def grantX (h : Atm) (tw : Txt) (B : List Atm) : Toks := h.1 :: wSays :: tw :: wCansay :: (saidX h.2.1 (namesOf h) ++ tailX B)
theorem not_key {x : Txt} (h : principalB x = true) (r : Toks) (st : PSt) : partT st (x :: r) = saysT st (x :: r) := by
  have w : x ≠ wPrincipal ∧ x ≠ wPred ∧ x ≠ wClear ∧ x ≠ wQuota ∧ x ≠ wBudget := by
    refine ⟨?_, ?_, ?_, ?_, ?_⟩ <;> (intro e; subst e; exact absurd h (by decide))
  have hno : ∀ k, x ≠ k → isT k (x :: r) = false := fun k hk => decide_eq_false hk
  rw [partT, hno _ w.1, hno _ w.2.1, hno _ w.2.2.1, hno _ w.2.2.2.1, hno _ w.2.2.2.2]
  simp
theorem rule_read {h : Atm} {B : List Atm} (hh : checkA h = 0) (hB : ∀ a ∈ B, checkA a = 0) : polT (ruleX h B) = .ok { pst0 with p := { pol0 with ru := [(h, B)] } } := by
  obtain ⟨h1, _⟩ := valid_parts hh
  have hs : stmtT pst0 (ruleX h B) = .ok ({ pst0 with p := { pol0 with ru := [(h, B)] } }, []) := by
    show stmtT pst0 (h.1 :: wSays :: (saidX h.2.1 (namesOf h) ++ tailX B)) = _
    rw [stmtT, not_key h1, saysT, nameT, if_pos h1]
    simp only
    rw [mustT, if_pos rfl]
    simp only
    rw [said_next (tail_40 B).2, if_neg (by decide), ruleT, said_read hh (tail_40 B).1]
    simp only
    rw [body_read hB]
    simp only
    rw [mustT, if_pos rfl]
    rfl
  show polG pst0 (ruleX h B) = _
  rw [polG_step, if_neg (by show ¬ (h.1 :: wSays :: (saidX h.2.1 (namesOf h) ++ tailX B)).length = 0; simp), hs]
  rfl
theorem grant_read {h : Atm} {tw : Txt} {B : List Atm} (hh : checkA h = 0) (ht : principalB tw = true) (hB : ∀ a ∈ B, checkA a = 0) : polT (grantX h tw B) = .ok { pst0 with p := { pol0 with gr := [(tw, h, B)] } } := by
  obtain ⟨h1, _⟩ := valid_parts hh
  have hs : stmtT pst0 (grantX h tw B) = .ok ({ pst0 with p := { pol0 with gr := [(tw, h, B)] } }, []) := by
    unfold grantX
    rw [stmtT, not_key h1, saysT, nameT, if_pos h1]
    simp only
    rw [mustT, if_pos rfl]
    simp only
    rw [if_pos (by exact isT_self _ _), grantT, nameT, if_pos ht]
    simp only
    rw [mustT, if_pos rfl]
    simp only
    rw [said_read hh (tail_40 B).1]
    simp only
    rw [body_read hB]
    simp only
    rw [mustT, if_pos rfl]
    rfl
  show polG pst0 (grantX h tw B) = _
  rw [polG_step, if_neg (by simp [grantX]), hs]
  rfl
/-- The texts. -/
def bodyW : List Atm → List Wd
  | [] => []
  | [a] => (1, a.1, [32]) :: (1, wSays, [32]) :: saidW a.2.1 (namesOf a) []
  | a :: b :: r => (1, a.1, [32]) :: (1, wSays, [32]) :: (saidW a.2.1 (namesOf a) [] ++ (3, [44], []) :: bodyW (b :: r))
def tailW (B : List Atm) : List Wd := (if B = [] then [] else (1, wIf, [32]) :: bodyW B) ++ [(3, [46], [])]
def sepB (B : List Atm) : Txt := if B = [] then [] else [32]
def ruleW (h : Atm) (B : List Atm) : List Wd := (1, h.1, [32]) :: (1, wSays, [32]) :: (saidW h.2.1 (namesOf h) (sepB B) ++ tailW B)
def grantW (h : Atm) (tw : Txt) (B : List Atm) : List Wd := (1, h.1, [32]) :: (1, wSays, [32]) :: (1, tw, [32]) :: (1, wCansay, [32]) :: (saidW h.2.1 (namesOf h) (sepB B) ++ tailW B)
theorem word_says : WordT 1 wSays := ⟨by kernel_rfl, fun _ => skip_first (by decide) (by decide), by decide⟩
theorem word_if : WordT 1 wIf := ⟨by kernel_rfl, fun _ => skip_first (by decide) (by decide), by decide⟩
theorem word_cansay : WordT 1 wCansay := ⟨by kernel_rfl, fun _ => skip_first (by decide) (by decide), by decide⟩
theorem wds_body {T : List Wd} (hT : Wds T) (he : headEnds (glue T)) : ∀ B : List Atm, (∀ a ∈ B, checkA a = 0) → Wds (bodyW B ++ T)
  | [], _ => hT
  | [a], h => by
    have ha := h a (by simp)
    obtain ⟨h1, h2, _⟩ := valid_parts ha
    exact ⟨princ_con h1, sep_32, .inr ends_32, word_says, sep_32, .inr ends_32, wds_said (princ_con h2) (names_T ha) sep_nil he hT⟩
  | a :: b :: r, h => by
    have ha := h a (by simp)
    obtain ⟨h1, h2, _⟩ := valid_parts ha
    have ih := wds_body hT he (b :: r) (fun z hz => h z (List.mem_cons_of_mem _ hz))
    have e : bodyW (a :: b :: r) ++ T = (1, a.1, [32]) :: (1, wSays, [32]) :: (saidW a.2.1 (namesOf a) [] ++ ((3, [44], []) :: (bodyW (b :: r) ++ T))) := by rw [bodyW]; simp
    rw [e]
    exact ⟨princ_con h1, sep_32, .inr ends_32, word_says, sep_32, .inr ends_32, wds_said (princ_con h2) (names_T ha) sep_nil ends_44 ⟨word_sign (by decide), sep_nil, .inl rfl, ih⟩⟩
theorem wds_tail {B : List Atm} (h : ∀ a ∈ B, checkA a = 0) : Wds (tailW B) := by
  have hT : Wds [(3, [46], [])] := ⟨word_sign (by decide), sep_nil, .inl rfl, trivial⟩
  unfold tailW
  split
  · exact hT
  · exact ⟨word_if, sep_32, .inr ends_32, wds_body hT (show Ends 46 from ⟨by decide, by decide⟩) B h⟩
theorem tail_ends (B : List Atm) : headEnds (sepB B ++ glue (tailW B)) := by
  unfold sepB tailW
  split
  · exact (show Ends 46 from ⟨by decide, by decide⟩)
  · exact ends_32
theorem sepB_ok (B : List Atm) : SepOk (sepB B) := by
  unfold sepB
  split
  · exact sep_nil
  · exact sep_32
theorem wds_rule {h : Atm} {B : List Atm} (hh : checkA h = 0) (hB : ∀ a ∈ B, checkA a = 0) : Wds (ruleW h B) := by
  obtain ⟨h1, h2, _⟩ := valid_parts hh
  exact ⟨princ_con h1, sep_32, .inr ends_32, word_says, sep_32, .inr ends_32, wds_said (princ_con h2) (names_T hh) (sepB_ok B) (tail_ends B) (wds_tail hB)⟩
theorem wds_grant {h : Atm} {tw : Txt} {B : List Atm} (hh : checkA h = 0) (ht : principalB tw = true) (hB : ∀ a ∈ B, checkA a = 0) : Wds (grantW h tw B) := by
  obtain ⟨h1, h2, _⟩ := valid_parts hh
  exact ⟨princ_con h1, sep_32, .inr ends_32, word_says, sep_32, .inr ends_32, princ_con ht, sep_32, .inr ends_32, word_cansay, sep_32, .inr ends_32, wds_said (princ_con h2) (names_T hh) (sepB_ok B) (tail_ends B) (wds_tail hB)⟩
theorem body_txts : ∀ B : List Atm, (bodyW B).map (·.2.1) = bodyX B
  | [] => rfl
  | [a] => by
    rw [bodyW, bodyX, List.map_cons, List.map_cons, said_txts]; rfl
  | a :: b :: r => by
    rw [bodyW, bodyX, List.map_cons, List.map_cons, List.map_append, said_txts, List.map_cons, body_txts (b :: r)]
    simp [atomX]
theorem tail_txts (B : List Atm) : (tailW B).map (·.2.1) = tailX B := by
  unfold tailW tailX
  split
  · rfl
  · rw [List.map_append, List.map_cons, body_txts]; rfl
theorem rule_txts (h : Atm) (B : List Atm) : (ruleW h B).map (·.2.1) = ruleX h B := by
  rw [ruleW, ruleX, List.map_cons, List.map_cons, List.map_append, said_txts, tail_txts]
  simp [atomX]
theorem grant_txts (h : Atm) (tw : Txt) (B : List Atm) : (grantW h tw B).map (·.2.1) = grantX h tw B := by
  rw [grantW, grantX, List.map_cons, List.map_cons, List.map_cons, List.map_cons, List.map_append, said_txts, tail_txts]
/-- What stands between a head and the stop. -/
def condTx : List Atm → Txt
  | [] => []
  | a :: r => [32, 105, 102, 32] ++ textA a ++ r.flatMap (fun b => 44 :: textA b)
theorem said_glue (a : Atm) (sep : Txt) : glue (saidW a.2.1 (namesOf a) sep) = saidA a ++ sep := by
  rw [glue_said, saidA]
  by_cases h : countA a = 0
  · have h0 : namesOf a = [] := by unfold namesOf; rw [h]; rfl
    rw [if_pos h0, if_pos h]; simp
  · rw [if_neg (names_ne h), if_neg h]; simp
theorem body_glue : ∀ (a : Atm) (r : List Atm), glue (bodyW (a :: r)) = textA a ++ r.flatMap (fun b => 44 :: textA b)
  | a, [] => by rw [bodyW, glue, glue, said_glue]; simp [said_text, wSays]
  | a, b :: r => by
    rw [bodyW, glue, glue, glue_append, said_glue, glue, body_glue b r]
    simp [said_text, wSays]
theorem tail_glue (B : List Atm) : sepB B ++ glue (tailW B) = condTx B ++ [46] := by
  unfold sepB tailW
  cases B with
  | nil => rfl
  | cons a r =>
    rw [if_neg (by simp), if_neg (by simp), glue_append, glue, body_glue, condTx]
    simp [wIf, glue]
theorem rule_glue (h : Atm) (B : List Atm) : glue (ruleW h B) = textA h ++ condTx B ++ [46] := by
  rw [ruleW, glue, glue, glue_append, said_glue, said_text]
  have := tail_glue B
  simp only [List.append_assoc] at this ⊢
  rw [this]
  simp [wSays]
theorem grant_glue (h : Atm) (tw : Txt) (B : List Atm) : glue (grantW h tw B) = h.1 ++ [32, 115, 97, 121, 115, 32] ++ tw ++ [32, 99, 97, 110, 115, 97, 121, 32] ++ saidA h ++ condTx B ++ [46] := by
  rw [grantW, glue, glue, glue, glue, glue_append, said_glue]
  have := tail_glue B
  simp only [List.append_assoc] at this ⊢
  rw [this]
  simp [wSays, wCansay]
theorem policy_rule {h : Atm} {B : List Atm} (hh : checkA h = 0) (hB : ∀ a ∈ B, checkA a = 0) (hl : (textA h ++ condTx B ++ [46]).length ≤ 65536) : policyL (textA h ++ condTx B ++ [46]) = ({ pol0 with ru := [(h, B)] }, 0, 0) := by
  have hA := allL_glue (wds_rule hh hB) (by rw [rule_glue]; exact hl)
  rw [rule_glue] at hA
  unfold policyL
  rw [hA, toksW_txts, rule_txts]
  simp only [if_true]
  rw [rule_read hh hB]
theorem policy_grant {h : Atm} {tw : Txt} {B : List Atm} (hh : checkA h = 0) (ht : principalB tw = true) (hB : ∀ a ∈ B, checkA a = 0) (hl : (h.1 ++ [32, 115, 97, 121, 115, 32] ++ tw ++ [32, 99, 97, 110, 115, 97, 121, 32] ++ saidA h ++ condTx B ++ [46]).length ≤ 65536) :
    policyL (h.1 ++ [32, 115, 97, 121, 115, 32] ++ tw ++ [32, 99, 97, 110, 115, 97, 121, 32] ++ saidA h ++ condTx B ++ [46]) = ({ pol0 with gr := [(tw, h, B)] }, 0, 0) := by
  have hA := allL_glue (wds_grant hh ht hB) (by rw [grant_glue]; exact hl)
  rw [grant_glue] at hA
  unfold policyL
  rw [hA, toksW_txts, grant_txts]
  simp only [if_true]
  rw [grant_read hh ht hB]
end Go.Proofs.YtnfjjckbgnieeaaGreatDoor
