/- Rows of the call's own, read as a policy's rows; what a well-formed policy's parts are. -/
import Derived.Test.YtpkggopaigledaaDoorFpF
import Derived.Test.YtpkggopaigledaaDoorFpB
namespace Go.Proofs.YtpkggopaigledaaDoor
open Go.RowKit

theorem krow_own {α : Type} {K : Nat} {R : World → Nat → Nat → α → Prop} {f : α → List Value} {W : World} {B : Nat} {e : TypeId} {v : Value} {L : List α} (hf : ∀ x, (f x).length = K)
    (hR : ∀ b o x, x ∈ L → (∀ j u, (f x)[j]? = some u → W.cell? ⟨b, o + j, none⟩ = some u) → R W b o x) (h : W.ownsRow B e K v L.length (L.flatMap f)) : KRow K R W v L := by
  obtain ⟨a, c, rfl⟩ := own_slice h
  rcases row_of_own h with ⟨h1, h2, h3⟩ | ⟨b, o, c', h1, h2, h3⟩
  · injection h1 with e1 e2 e3
    subst e1 e3
    have : L = [] := List.eq_nil_of_length_eq_zero h2
    subst this
    exact KRow.nil _ _
  · injection h1 with e1 e2 e3
    subst e1 e3
    refine ⟨_, _, rfl, h2, fun h0 => ⟨b, o, rfl, fun k hk => hR _ _ _ (List.getElem_mem hk) fun j u hu => ?_⟩⟩
    have hj : j < K := by rw [← hf L[k]]; exact (List.getElem?_eq_some_iff.1 hu).1
    have hl : k * K + j < (L.flatMap f).length := by
      rw [flat_len hf]
      have : (k + 1) * K ≤ L.length * K := Nat.mul_le_mul_right K hk
      rw [Nat.add_mul, Nat.one_mul] at this
      omega
    have := h3 (k * K + j) hl
    rw [Nat.add_assoc, this, ← List.getElem?_eq_getElem hl, flat_at hf L k hk j hj, hu]
theorem own_trow {W : World} {B : Nat} {v : Value} {L : List Txt} (h : W.ownsRow B 9 1 v L.length (L.flatMap txtL)) : TRow W v L :=
  krow_own (fun _ => rfl) (fun _ _ _ _ hc => hc 0 _ rfl) h
theorem own_prow {W : World} {B : Nat} {v : Value} {L : List (Txt × Int)} (h : W.ownsRow B 47 2 v L.length (L.flatMap prdL)) : PRow W v L :=
  krow_own (fun _ => rfl) (fun _ _ _ _ hc => ⟨hc 0 _ rfl, hc 1 _ rfl⟩) h
theorem own_arow {W : World} {B : Nat} {v : Value} {L : List Atm} (h : W.ownsRow B 39 11 v L.length (L.flatMap atmL)) : ARow W v L :=
  krow_own (fun _ => rfl) (fun _ _ _ _ hc j u hu => hc j u (by rw [← hu]; exact Array.getElem?_toList)) h
/-- A row of pairs, read without the second parts. -/
theorem krow_fst {α β : Type} {K : Nat} {R : World → Nat → Nat → α → Prop} {W : World} {v : Value} {L : List (α × β)} (h : KRow K (fun W b o p => R W b o p.1) W v L) : KRow K R W v (L.map Prod.fst) := by
  obtain ⟨a, c, rfl, h2, h3⟩ := h
  refine ⟨a, c, by rw [List.length_map], by rw [List.length_map]; exact h2, fun h0 => ?_⟩
  rw [List.length_map] at h0
  obtain ⟨b, o, h4, h5⟩ := h3 h0
  refine ⟨b, o, h4, fun k hk => ?_⟩
  rw [List.length_map] at hk
  rw [List.getElem_map]
  exact h5 k hk
theorem nest_crow {W : World} {B : Nat} {v : Value} {L : List ((Txt × List Txt) × Value)} (h : NestC W B v L) : CRow W v (L.map Prod.fst) :=
  krow_fst (krow_own (f := fun p => clrC p.1 p.2) (fun _ => rfl) (fun _ _ p hp hc => ⟨hc 0 _ rfl, p.2, hc 1 _ rfl, own_trow (h.ins p hp)⟩) h.row)
theorem nest_rrow {W : World} {B : Nat} {v : Value} {L : List ((Atm × List Atm) × Value)} (h : NestR W B v L) : RRow W v (L.map Prod.fst) :=
  krow_fst (krow_own (f := fun p => rulC p.1 p.2) (fun _ => rfl) (fun _ _ p hp hc => ⟨fun j u hu => hc j u (by
    show ((atmC p.1.1).toList ++ [p.2])[j]? = some u
    have hj : j < (atmC p.1.1).toList.length := by rw [Array.length_toList]; exact (Array.getElem?_eq_some_iff.1 hu).1
    rw [List.getElem?_append_left hj, Array.getElem?_toList]; exact hu), p.2, hc 11 _ rfl, own_arow (h.ins p hp)⟩) h.row)
theorem nest_grow {W : World} {B : Nat} {v : Value} {L : List ((Txt × Atm × List Atm) × Value)} (h : NestG W B v L) : GRow W v (L.map Prod.fst) :=
  krow_fst (krow_own (f := fun p => grnC p.1 p.2) (fun _ => rfl) (fun _ _ p hp hc => ⟨hc 0 _ rfl, fun j u hu => by
    have h1 := hc (1 + j) u (by
      show (strV p.1.1 :: ((atmC p.1.2.1).toList ++ [p.2]))[1 + j]? = some u
      have hj : j < (atmC p.1.2.1).toList.length := by rw [Array.length_toList]; exact (Array.getElem?_eq_some_iff.1 hu).1
      rw [Nat.add_comm, List.getElem?_cons_succ, List.getElem?_append_left hj, Array.getElem?_toList]; exact hu)
    rwa [← Nat.add_assoc] at h1, p.2, hc 12 _ rfl, own_arow (h.ins p hp)⟩) h.row)
theorem firstE_zero : ∀ {L : List Int}, firstE L = 0 → ∀ e ∈ L, e = 0
  | [], _, e, he => by cases he
  | x :: r, h, e, he => by
    rw [firstE] at h
    by_cases h0 : x = 0
    · rw [if_pos h0] at h
      rcases List.mem_cons.1 he with rfl | he
      · exact h0
      · exact firstE_zero h e he
    · rw [if_neg h0] at h; exact absurd h h0
theorem check_parts {P : Pol} (h : checkE P = 0) : prinsE P.pr = 0 ∧ predsE P.pd = 0 ∧ clrsF P.pr [] P.cl = 0 ∧ numE P.qu P.bu P.ru.length P.gr.length = 0 ∧ rulesE P.pr P.pd P.ru P.gr = 0 := by
  have z := firstE_zero h
  exact ⟨z _ (by simp), z _ (by simp), z _ (by simp), z _ (by simp), z _ (by simp)⟩
theorem ifE_zero {b : Bool} {e : Int} (h : ifE b e = 0) (he : e ≠ 0) : b = false := by
  cases b
  · rfl
  · exact absurd h he
/-- Principals, one more that is there already. -/
theorem prinsF_more {x : Txt} : ∀ {L met : List Txt}, prinsF met L = 0 → x ∈ met ++ L → principalB x = true → prinsF met (L ++ [x]) = 5
  | [], met, _, hx, hp => by
    have hc : met.contains x = true := by simpa using hx
    show (if firstE [ifE (!principalB x) 3, ifE (met.contains x) 5] = 0 then _ else firstE [ifE (!principalB x) 3, ifE (met.contains x) 5]) = 5
    rw [hp, hc]; rfl
  | y :: r, met, h, hx, hp => by
    rw [prinsF] at h
    show (if firstE [ifE (!principalB y) 3, ifE (met.contains y) 5] = 0 then prinsF (met ++ [y]) (r ++ [x]) else _) = 5
    by_cases h0 : firstE [ifE (!principalB y) 3, ifE (met.contains y) 5] = 0
    · rw [if_pos h0] at h ⊢
      exact prinsF_more h (by simpa using hx) hp
    · rw [if_neg h0] at h; exact absurd h h0
theorem prinsF_ok {x : Txt} : ∀ {L met : List Txt}, prinsF met L = 0 → x ∈ L → principalB x = true
  | [], _, _, hx => by cases hx
  | y :: r, met, h, hx => by
    rw [prinsF] at h
    by_cases h0 : firstE [ifE (!principalB y) 3, ifE (met.contains y) 5] = 0
    · rw [if_pos h0] at h
      rcases List.mem_cons.1 hx with rfl | hx
      · have := firstE_zero h0 _ (List.mem_cons_self)
        simpa using ifE_zero this (by decide)
      · exact prinsF_ok h hx
    · rw [if_neg h0] at h; exact absurd h h0
theorem prins_twice {P : Pol} {x : Txt} (h : checkE P = 0) (hx : x ∈ P.pr) : checkE { P with pr := P.pr ++ [x] } = if 16 < P.pr.length + 1 then 4 else 5 := by
  have h0 := (check_parts h).1
  have hl : 0 < P.pr.length := List.length_pos_of_mem hx
  rw [prinsE] at h0
  by_cases hb : P.pr.length < 1 ∨ 16 < P.pr.length
  · rw [if_pos hb] at h0; cases h0
  rw [if_neg hb] at h0
  have e : prinsE (P.pr ++ [x]) = if 16 < P.pr.length + 1 then 4 else 5 := by
    rw [prinsE, List.length_append, List.length_singleton]
    by_cases h17 : 16 < P.pr.length + 1
    · rw [if_pos h17, if_pos (.inr h17)]
    · rw [if_neg h17, if_neg (by omega), prinsF_more h0 (by simpa using hx) (prinsF_ok h0 hx)]
  show firstE [prinsE (P.pr ++ [x]), _, _, _, _] = _
  rw [e]
  by_cases h17 : 16 < P.pr.length + 1
  · rw [if_pos h17]; rfl
  · rw [if_neg h17]; rfl
/-- Predicates, one more. -/
theorem predsF_more {x : Txt × Int} : ∀ {L : List (Txt × Int)} {met : List Txt}, predsF met L = 0 → predsF met (L ++ [x]) = predErr (met ++ L.map (·.1)) x
  | [], met, _ => by
    show (if predErr met x = 0 then predsF (met ++ [x.1]) [] else predErr met x) = _
    rw [List.map_nil, List.append_nil]
    split
    · rename_i h; rw [h]; rfl
    · rfl
  | y :: r, met, h => by
    rw [predsF] at h
    show (if predErr met y = 0 then predsF (met ++ [y.1]) (r ++ [x]) else _) = _
    by_cases h0 : predErr met y = 0
    · rw [if_pos h0] at h ⊢
      rw [predsF_more h]
      simp
    · rw [if_neg h0] at h; exact absurd h h0
theorem arity_more {x : Txt × Int} {q : Txt} : ∀ {L : List (Txt × Int)}, (arityF L q).isSome = true → arityF (L ++ [x]) q = arityF L q
  | [], h => by cases h
  | y :: r, h => by
    rw [List.cons_append, arityF, arityF]
    rw [arityF] at h
    by_cases e : y.1 = q
    · rw [if_pos e, if_pos e]
    · rw [if_neg e] at h
      rw [if_neg e, if_neg e, arity_more h]
theorem atomE_more {pr : List Txt} {pd : List (Txt × Int)} {x : Txt × Int} {a : Atm} (h : atomE pr pd a = 0) : atomE pr (pd ++ [x]) a = 0 := by
  obtain ⟨h1, h2, h3, h4⟩ := (by
    have z := firstE_zero h
    have k1 := z (checkA a) (by simp)
    have k2 := ifE_zero (z (ifE (!(pr.contains a.1)) 6) (by simp)) (by decide)
    have k3 := ifE_zero (z (ifE (!(arityF pd a.2.1).isSome) 7) (by simp)) (by decide)
    have k4 := ifE_zero (z (ifE ((arityF pd a.2.1).getD 0 != a.2.2.1) 8) (by simp)) (by decide)
    exact (⟨k1, k2, k3, k4⟩ : checkA a = 0 ∧ (!(pr.contains a.1)) = false ∧ (!(arityF pd a.2.1).isSome) = false ∧ ((arityF pd a.2.1).getD 0 != a.2.2.1) = false))
  rw [atomE, arity_more (by simpa using h3), h1, h2, h3, h4]; rfl
theorem bodyF_zero {pr : List Txt} {pd : List (Txt × Int)} : ∀ {L : List Atm}, (∀ a ∈ L, atomE pr pd a = 0) → bodyF pr pd L = 0
  | [], _ => rfl
  | a :: r, h => by
    rw [bodyF, if_pos (h a List.mem_cons_self), bodyF_zero fun b hb => h b (List.mem_cons_of_mem _ hb)]
theorem clauseE_more {pr : List Txt} {pd : List (Txt × Int)} {x : Txt × Int} {a : Atm} {L : List Atm} (h : clauseE pr pd a L = 0) : clauseE pr (pd ++ [x]) a L = 0 := by
  obtain ⟨h1, h2, h3⟩ := clause_ok h
  rw [clauseE, atomE_more h1, bodyF_zero fun b hb => atomE_more (h3 b hb), decide_eq_false (by omega)]; rfl
theorem rulesF_more {pr : List Txt} {pd : List (Txt × Int)} {x : Txt × Int} : ∀ {L : List (Atm × List Atm)}, rulesF pr pd L = 0 → rulesF pr (pd ++ [x]) L = 0
  | [], _ => rfl
  | r :: l, h => by
    rw [rulesF] at h ⊢
    by_cases h0 : ruleErr pr pd r = 0
    · rw [if_pos h0] at h
      have z := firstE_zero h0
      have e : ruleErr pr (pd ++ [x]) r = 0 := by
        rw [ruleErr, clauseE_more (z _ (by simp)), z (rangedE r.1 r.2) (by simp)]; rfl
      rw [if_pos e, rulesF_more h]
    · rw [if_neg h0] at h; exact absurd h h0
theorem grantsF_more {pr : List Txt} {pd : List (Txt × Int)} {x : Txt × Int} : ∀ {L : List (Txt × Atm × List Atm)}, grantsF pr pd L = 0 → grantsF pr (pd ++ [x]) L = 0
  | [], _ => rfl
  | r :: l, h => by
    rw [grantsF] at h ⊢
    by_cases h0 : grantErr pr pd r = 0
    · rw [if_pos h0] at h
      have z := firstE_zero h0
      have e : grantErr pr (pd ++ [x]) r = 0 := by
        rw [grantErr, clauseE_more (z (clauseE pr pd r.2.1 r.2.2) (by simp)), z (ifE (!(pr.contains r.1)) 6) (by simp), z (ifE (r.1 == r.2.1.1) 11) (by simp)]; rfl
      rw [if_pos e, grantsF_more h]
    · rw [if_neg h0] at h; exact absurd h h0
theorem rulesE_parts {pr : List Txt} {pd : List (Txt × Int)} {ru : List (Atm × List Atm)} {gr : List (Txt × Atm × List Atm)} (h : rulesE pr pd ru gr = 0) : rulesF pr pd ru = 0 ∧ grantsF pr pd gr = 0 := by
  rw [rulesE] at h
  by_cases h0 : rulesF pr pd ru = 0
  · rw [if_pos h0] at h; exact ⟨h0, h⟩
  · rw [if_neg h0] at h; exact absurd h h0
/-- A new predicate. -/
theorem preds_new {P : Pol} {q : Txt} {m : Int} (h : checkE P = 0) (hq : principalB q = true) (h0 : 0 ≤ m) (h4 : m ≤ 4) :
    checkE { P with pd := P.pd ++ [(q, m)] } = if 32 < P.pd.length + 1 then 4 else if (arityF P.pd q).isSome then 5 else 0 := by
  obtain ⟨z0, z1, z2, z3, z4⟩ := check_parts h
  rw [predsE] at z1
  by_cases hb : 32 < P.pd.length
  · rw [if_pos hb] at z1; cases z1
  rw [if_neg hb] at z1
  have e : predsE (P.pd ++ [(q, m)]) = if 32 < P.pd.length + 1 then 4 else if (arityF P.pd q).isSome then 5 else 0 := by
    rw [predsE, List.length_append, List.length_singleton]
    by_cases h33 : 32 < P.pd.length + 1
    · rw [if_pos h33, if_pos h33]
    · rw [if_neg h33, if_neg h33, predsF_more z1, predErr, List.nil_append, hq, arity_some]
      have e1 : (decide (m < 0) || decide (4 < m)) = false := by simp; omega
      simp only []
      rw [e1]
      cases (P.pd.map (·.1)).contains q <;> rfl
  show firstE [prinsE P.pr, predsE (P.pd ++ [(q, m)]), clrsF P.pr [] P.cl, numE P.qu P.bu P.ru.length P.gr.length, rulesE P.pr (P.pd ++ [(q, m)]) P.ru P.gr] = _
  obtain ⟨y1, y2⟩ := rulesE_parts z4
  rw [z0, e, z2, z3, rulesE, rulesF_more y1, grantsF_more y2]
  by_cases h33 : 32 < P.pd.length + 1
  · rw [if_pos h33]; rfl
  · rw [if_neg h33]
    cases (arityF P.pd q).isSome <;> rfl
/-- Clears, one that is there already once more. -/
theorem clrsF_more {pr : List Txt} {x : Txt × List Txt} : ∀ {L : List (Txt × List Txt)} {met : List Txt}, clrsF pr met L = 0 → x.1 ∈ met ++ L.map (·.1) → pr.contains x.1 = true → clrsF pr met (L ++ [x]) = 5
  | [], met, _, hx, hp => by
    have hc : met.contains x.1 = true := by simpa using hx
    show (if clrErr pr met x = 0 then _ else clrErr pr met x) = 5
    have e : clrErr pr met x = 5 := by rw [clrErr, hp, hc]; rfl
    rw [e]; rfl
  | y :: r, met, h, hx, hp => by
    rw [clrsF] at h
    show (if clrErr pr met y = 0 then clrsF pr (met ++ [y.1]) (r ++ [x]) else _) = 5
    by_cases h0 : clrErr pr met y = 0
    · rw [if_pos h0] at h ⊢
      exact clrsF_more h (by simpa using hx) hp
    · rw [if_neg h0] at h; exact absurd h h0
theorem clrsF_ok {pr : List Txt} {x : Txt × List Txt} : ∀ {L : List (Txt × List Txt)} {met : List Txt}, clrsF pr met L = 0 → x ∈ L → pr.contains x.1 = true
  | [], _, _, hx => by cases hx
  | y :: r, met, h, hx => by
    rw [clrsF] at h
    by_cases h0 : clrErr pr met y = 0
    · rw [if_pos h0] at h
      rcases List.mem_cons.1 hx with rfl | hx
      · have := firstE_zero h0 _ (List.mem_cons_self)
        simpa using ifE_zero this (by decide)
      · exact clrsF_ok h hx
    · rw [if_neg h0] at h; exact absurd h h0
theorem clears_twice {P : Pol} {x : Txt × List Txt} (h : checkE P = 0) (hx : x ∈ P.cl) : checkE { P with cl := P.cl ++ [x] } = 5 := by
  obtain ⟨z0, z1, z2, _, _⟩ := check_parts h
  show firstE [prinsE P.pr, predsE P.pd, clrsF P.pr [] (P.cl ++ [x]), _, _] = 5
  rw [z0, z1, clrsF_more z2 (by simpa using ⟨_, hx⟩) (clrsF_ok z2 hx)]; rfl
end Go.Proofs.YtpkggopaigledaaDoor
