/- FormedRanges returns true. -/
import Derived.Test.YtpkggopaigledaaDoorFpJ
import Derived.Test.YtpkggopaigledaaDoorFoY
import Derived.Test.YtpkggopaigledaaDoorPick
namespace Go.Proofs.YtpkggopaigledaaDoor
open Go.RowKit

def zz : Txt := [90, 122, 95, 110, 111, 110, 101]
def setArg (a : Atm) (i : Nat) (t : Tm) : Atm := (a.1, a.2.1, a.2.2.1, if i = 0 then t else a.2.2.2.1, if i = 1 then t else a.2.2.2.2.1, if i = 2 then t else a.2.2.2.2.2.1, if i = 3 then t else a.2.2.2.2.2.2)
theorem args_set (a : Atm) (i : Nat) (t : Tm) : argsL (setArg a i t) = (argsL a).set i t := by
  match i with
  | 0 => rfl
  | 1 => rfl
  | 2 => rfl
  | 3 => rfl
  | n + 4 => rfl
theorem valid_form {a : Atm} (h : checkA a = 0) : 0 ≤ a.2.2.1 ∧ a.2.2.1 ≤ 4 ∧ countA a = a.2.2.1.toNat := by
  have h2 : ¬ (a.2.2.1 < 0 ∨ 4 < a.2.2.1) := by
    intro hb
    rw [checkA] at h
    split at h
    · cases h
    · exact absurd h (by decide)
  refine ⟨by omega, by omega, ?_⟩
  unfold countA
  omega
theorem check_set {a : Atm} {i : Nat} {t : Tm} (h : checkA a = 0) (hi : i < a.2.2.1.toNat) (ht : termB t = true) : checkA (setArg a i t) = 0 := by
  obtain ⟨f0, f4, _⟩ := valid_form h
  have h1 : (principalB a.1 && principalB a.2.1) = true := by
    cases hb : (principalB a.1 && principalB a.2.1)
    · rw [checkA, hb] at h; cases h
    · rfl
  rw [checkA_go h1 f0 f4] at h
  have h3 : ((argsL a).take a.2.2.1.toNat).all termB = true := by
    cases hb : ((argsL a).take a.2.2.1.toNat).all termB
    · rw [hb] at h; cases h
    · rfl
  rw [h3] at h
  have h4 : (((argsL a).drop a.2.2.1.toNat).all fun t => decide (t = (false, []))) = true := by
    cases hb : (((argsL a).drop a.2.2.1.toNat).all fun t => decide (t = (false, [])))
    · rw [hb] at h; cases h
    · rfl
  rw [checkA_go (a := setArg a i t) h1 f0 f4, args_set]
  have e3 : (((argsL a).set i t).take (setArg a i t).2.2.1.toNat).all termB = true := by
    rw [List.take_set, List.all_eq_true]
    intro x hx
    rcases List.mem_or_eq_of_mem_set hx with hx | hx
    · exact List.all_eq_true.1 h3 x hx
    · rw [hx]; exact ht
  have e4 : ((((argsL a).set i t).drop (setArg a i t).2.2.1.toNat).all fun t => decide (t = (false, []))) = true := by
    rw [List.drop_set_of_lt (show i < (setArg a i t).2.2.1.toNat from hi)]
    exact h4
  rw [e3, e4]; rfl
theorem atomE_ok {pr : List Txt} {pd : List (Txt × Int)} {a : Atm} (h : atomE pr pd a = 0) : checkA a = 0 := firstE_zero h _ (by simp)
theorem atomE_set {pr : List Txt} {pd : List (Txt × Int)} {a : Atm} {i : Nat} {t : Tm} (h : atomE pr pd a = 0) (hi : i < a.2.2.1.toNat) (ht : termB t = true) : atomE pr pd (setArg a i t) = 0 := by
  have z := firstE_zero h
  have k2 := z (ifE (!(pr.contains a.1)) 6) (by simp)
  have k3 := z (ifE (!(arityF pd a.2.1).isSome) 7) (by simp)
  have k4 := z (ifE ((arityF pd a.2.1).getD 0 != a.2.2.1) 8) (by simp)
  show firstE [checkA (setArg a i t), ifE (!(pr.contains a.1)) 6, ifE (!(arityF pd a.2.1).isSome) 7, ifE ((arityF pd a.2.1).getD 0 != a.2.2.1) 8] = 0
  rw [check_set (atomE_ok h) hi ht, k2, k3, k4]; rfl
theorem rulesF_set {pr : List Txt} {pd : List (Txt × Int)} {x : Atm × List Atm} : ∀ {L : List (Atm × List Atm)} {k : Nat}, rulesF pr pd L = 0 → k < L.length → rulesF pr pd (L.set k x) = ruleErr pr pd x
  | [], _, _, hk => absurd hk (by simp)
  | y :: r, 0, h, _ => by
    rw [rulesF] at h
    show rulesF pr pd (x :: r) = _
    rw [rulesF]
    by_cases h0 : ruleErr pr pd y = 0
    · rw [if_pos h0] at h
      by_cases h1 : ruleErr pr pd x = 0
      · rw [if_pos h1, h, h1]
      · rw [if_neg h1]
    · rw [if_neg h0] at h; exact absurd h h0
  | y :: r, k + 1, h, hk => by
    rw [rulesF] at h
    show rulesF pr pd (y :: r.set k x) = _
    rw [rulesF]
    by_cases h0 : ruleErr pr pd y = 0
    · rw [if_pos h0] at h ⊢
      exact rulesF_set h (by simpa using hk)
    · rw [if_neg h0] at h; exact absurd h h0
theorem check_set_rule {P : Pol} {k : Nat} {x : Atm × List Atm} (h : checkE P = 0) (hk : k < P.ru.length) : checkE { P with ru := P.ru.set k x } = ruleErr P.pr P.pd x := by
  obtain ⟨z0, z1, z2, z3, z4⟩ := check_parts h
  obtain ⟨y1, y2⟩ := rulesE_parts z4
  show firstE [prinsE P.pr, predsE P.pd, clrsF P.pr [] P.cl, numE P.qu P.bu (P.ru.set k x).length P.gr.length, rulesE P.pr P.pd (P.ru.set k x) P.gr] = _
  rw [List.length_set, z0, z1, z2, z3, rulesE, rulesF_set y1 hk, y2]
  by_cases h1 : ruleErr P.pr P.pd x = 0
  · rw [if_pos h1, h1]; rfl
  · rw [if_neg h1]
    show (if (0 : Int) = 0 then (if (0 : Int) = 0 then (if (0 : Int) = 0 then (if (0 : Int) = 0 then (if ruleErr P.pr P.pd x = 0 then (0 : Int) else ruleErr P.pr P.pd x) else 0) else 0) else 0) else 0) = _
    rw [if_pos rfl, if_pos rfl, if_pos rfl, if_pos rfl, if_neg h1]
theorem zz_term : termB (true, zz) = true := by decide
theorem names_zz {a : Atm} {i : Nat} (h : checkA a = 0) (hi : i < a.2.2.1.toNat) : zz ∈ namesA (setArg a i (true, zz)) true := by
  obtain ⟨f0, f4, fc⟩ := valid_form h
  unfold namesA
  rw [namesF_mem]
  refine .inr ?_
  have hc : countA (setArg a i (true, zz)) = a.2.2.1.toNat := fc
  rw [hc, args_set, List.take_set]
  have hl : i < ((argsL a).take a.2.2.1.toNat).length := by
    rw [List.length_take]
    have : (argsL a).length = 4 := rfl
    omega
  exact List.mem_set hl _
theorem not_have {L : List Atm} (h : ∀ b ∈ L, ∀ t ∈ (argsL b).take (countA b), t.2 ≠ zz) : zz ∉ haveF L := by
  intro hz
  obtain ⟨b, hb, hz⟩ := List.mem_flatMap.1 hz
  unfold namesA at hz
  rcases (namesF_mem true zz _ []).1 hz with h1 | h1
  · cases h1
  · exact h b hb _ h1 rfl
section
variable {P : Pol} {k i : Nat}
theorem range_bent (h : checkE P = 0) (hk : k < P.ru.length) (hi : i < (P.ru[k]).1.2.2.1.toNat) (hno : ∀ b ∈ (P.ru[k]).2, ∀ t ∈ (argsL b).take (countA b), t.2 ≠ zz) :
    checkE { P with ru := P.ru.set k (setArg (P.ru[k]).1 i (true, zz), (P.ru[k]).2) } = 9 := by
  rw [check_set_rule h hk]
  obtain ⟨h1, h2, _⟩ := rule_parts h (List.getElem_mem hk)
  have h0 := rulesF_all.1 (rulesE_parts (check_parts h).2.2.2.2).1 _ (List.getElem_mem hk)
  have hc := firstE_zero h0 (clauseE P.pr P.pd (P.ru[k]).1 (P.ru[k]).2) (by simp)
  have hl := firstE_zero hc (ifE (decide (6 < (P.ru[k]).2.length)) 4) (by simp)
  have hb := firstE_zero hc (bodyF P.pr P.pd (P.ru[k]).2) (by simp)
  have e1 : clauseE P.pr P.pd (setArg (P.ru[k]).1 i (true, zz)) (P.ru[k]).2 = 0 := by
    rw [clauseE, atomE_set h1 hi zz_term, hl, hb]; rfl
  have e2 : rangedE (setArg (P.ru[k]).1 i (true, zz)) (P.ru[k]).2 = 9 := by
    have : ((namesA (setArg (P.ru[k]).1 i (true, zz)) true).any fun s => !((haveF (P.ru[k]).2).contains s)) = true := by
      rw [List.any_eq_true]
      exact ⟨zz, names_zz (atomE_ok h1) hi, by simpa using not_have hno⟩
    rw [rangedE, this]; rfl
  rw [ruleErr, e1, e2]; rfl
theorem range_more (h : checkE P = 0) (hk : k < P.ru.length) (hi : i < (P.ru[k]).1.2.2.1.toNat) (hl : (P.ru[k]).2.length < 6) :
    checkE { P with ru := P.ru.set k (setArg (P.ru[k]).1 i (true, zz), (P.ru[k]).2 ++ [setArg (P.ru[k]).1 i (true, zz)]) } = 0 := by
  rw [check_set_rule h hk]
  obtain ⟨h1, h2, _⟩ := rule_parts h (List.getElem_mem hk)
  have a1 := atomE_set h1 hi zz_term
  have e1 : clauseE P.pr P.pd (setArg (P.ru[k]).1 i (true, zz)) ((P.ru[k]).2 ++ [setArg (P.ru[k]).1 i (true, zz)]) = 0 := by
    have hb : bodyF P.pr P.pd ((P.ru[k]).2 ++ [setArg (P.ru[k]).1 i (true, zz)]) = 0 := bodyF_zero fun b hb => by
      rcases List.mem_append.1 hb with hb | hb
      · exact h2 b hb
      · rw [List.mem_singleton.1 hb]; exact a1
    have hd : decide (6 < ((P.ru[k]).2 ++ [setArg (P.ru[k]).1 i (true, zz)]).length) = false := by
      rw [List.length_append, List.length_singleton]
      exact decide_eq_false (by omega)
    rw [clauseE, a1, hd, hb]; rfl
  have e2 : rangedE (setArg (P.ru[k]).1 i (true, zz)) ((P.ru[k]).2 ++ [setArg (P.ru[k]).1 i (true, zz)]) = 0 := by
    have : ((namesA (setArg (P.ru[k]).1 i (true, zz)) true).any fun s => !((haveF ((P.ru[k]).2 ++ [setArg (P.ru[k]).1 i (true, zz)])).contains s)) = false := by
      rw [List.any_eq_false]
      intro s hs
      have : s ∈ haveF ((P.ru[k]).2 ++ [setArg (P.ru[k]).1 i (true, zz)]) := List.mem_flatMap.2 ⟨_, by simp, hs⟩
      simpa using this
    rw [rangedE, this]; rfl
  rw [ruleErr, e1, e2]; rfl
end

theorem flat_set {α : Type} {K : Nat} {f : α → List Value} (hf : ∀ a, (f a).length = K) : ∀ (L : List α) (k : Nat) (hk : k < L.length) (j : Nat) (y : α) (v : Value), j < K → f y = (f L[k]).set j v → (L.flatMap f).set (k * K + j) v = (L.set k y).flatMap f
  | a :: r, 0, _, j, y, v, hj, h => by
    rw [List.flatMap_cons, Nat.zero_mul, Nat.zero_add, List.set_append_left _ _ (by rw [hf]; exact hj), List.set_cons_zero, List.flatMap_cons, h]; rfl
  | a :: r, k + 1, hk, j, y, v, hj, h => by
    have e : (k + 1) * K + j = (f a).length + (k * K + j) := by rw [hf, Nat.succ_mul]; omega
    rw [List.flatMap_cons, e, List.set_append_right _ _ (by omega), Nat.add_sub_cancel_left, List.set_cons_succ, List.flatMap_cons]
    rw [flat_set hf r k (by simpa using hk) j y v hj (by simpa using h)]
theorem atmC_set (a : Atm) (i : Nat) (hi : i < 4) (s s' : Txt) (hv : (argsL a)[i]? = some (true, s')) : (atmC a).toList.set (3 + i * 2 + 1) (strV s) = (atmC (setArg a i (true, s))).toList := by
  obtain ⟨a1, a2, a3, ⟨v0, l0⟩, ⟨v1, l1⟩, ⟨v2, l2⟩, v3, l3⟩ := a
  match i, hi with
  | 0, _ =>
    have h : v0 = true := by simpa [argsL] using congrArg (Option.map Prod.fst) hv
    subst h; rfl
  | 1, _ =>
    have h : v1 = true := by simpa [argsL] using congrArg (Option.map Prod.fst) hv
    subst h; rfl
  | 2, _ =>
    have h : v2 = true := by simpa [argsL] using congrArg (Option.map Prod.fst) hv
    subst h; rfl
  | 3, _ =>
    have h : v3 = true := by simpa [argsL] using congrArg (Option.map Prod.fst) hv
    subst h; rfl
/-- An argument's two cells. -/
theorem arg_cells {W : World} {b o : Nat} {a : Atm} (h : AtAt W b o a) {i : Nat} (hi : i < 4) {t : Tm} (ht : (argsL a)[i]? = some t) : W.cell? ⟨b, o + 3 + i * 2, none⟩ = some (.bool t.1) ∧ W.cell? ⟨b, o + 3 + i * 2 + 1, none⟩ = some (.string ⟨t.2.toArray⟩) := by
  obtain ⟨a1, a2, a3, ⟨v0, l0⟩, ⟨v1, l1⟩, ⟨v2, l2⟩, v3, l3⟩ := a
  have hx := atat_cells a1 a2 a3 v0 v1 v2 v3 l0 l1 l2 l3 h
  obtain ⟨_, _, _, c3, c4, c5, c6, c7, c8, c9, c10⟩ := hx
  match i, hi, ht with
  | 0, _, ht => cases ht; exact ⟨c3, c4⟩
  | 1, _, ht => cases ht; exact ⟨c5, c6⟩
  | 2, _, ht => cases ht; exact ⟨c7, c8⟩
  | 3, _, ht => cases ht; exact ⟨c9, c10⟩
section
variable {α : Type} {W W' : World} {B : Nat} {e1 : TypeId} {K1 : Nat} {c : α → Value → List Value} {e2 : TypeId} {K2 : Nat} {cnt : α → Nat} {inn : α → List Value} {L : List (α × Value)} {g cap : Nat}
theorem pair_set {k : Nat} (hk : k < L.length) (y : α) (h : L.Pairwise fun p q => apartV p.2 q.2) : (L.set k (y, L[k].2)).Pairwise fun p q => apartV p.2 q.2 := by
  have h1 : (L.map Prod.snd).Pairwise apartV := List.pairwise_map.2 h
  have e : (L.set k (y, L[k].2)).map Prod.snd = L.map Prod.snd := by
    rw [List.map_set]
    show (L.map Prod.snd).set k L[k].2 = _
    apply List.ext_getElem (by simp)
    intro i h1 h2
    rw [List.getElem_set]
    split
    · rename_i h; subst h; simp
    · rfl
  rw [← e] at h1
  exact List.pairwise_map.1 h1
theorem snd_set {k : Nat} (hk : k < L.length) (y : α) {p : α × Value} (hp : p ∈ L.set k (y, L[k].2)) : ∃ q ∈ L, q.2 = p.2 := by
  rcases List.mem_or_eq_of_mem_set hp with h | h
  · exact ⟨p, h, rfl⟩
  · exact ⟨L[k], List.getElem_mem hk, by rw [h]⟩
/-- A cell of the k-th element is changed. -/
theorem Nest.stored (hc : ∀ x u, (c x u).length = K1) (h : Nest W B e1 K1 c e2 K2 cnt inn (.slice (some ⟨g, 0, none⟩) L.length cap) L) {k : Nat} (hk : k < L.length) {j : Nat} (hj : j < K1) (y : α) (v : Value) (he : e2 ≠ e1) (hy : c y L[k].2 = (c L[k].1 L[k].2).set j v) (h1 : cnt y = cnt L[k].1) (h2 : inn y = inn L[k].1) :
    Nest (W.setCell ⟨g, k * K1 + j, none⟩ v) B e1 K1 c e2 K2 cnt inn (.slice (some ⟨g, 0, none⟩) L.length cap) (L.set k (y, L[k].2)) := by
  obtain ⟨s1, s2⟩ := h.row.stored (k * K1 + j) v
  have hb : (Value.slice (some ⟨g, 0, none⟩) L.length cap).ownBlock = some g := rfl
  refine ⟨?_, fun p hp => ?_, pair_set hk y h.apart⟩
  · rw [List.length_set]
    rw [flat_set (f := fun p => c p.1 p.2) (fun a => hc a.1 a.2) L k hk j (y, L[k].2) v hj hy] at s1
    exact s1
  · have hk0 : ∀ q ∈ L, (W.setCell ⟨g, k * K1 + j, none⟩ v).ownsRow B e2 K2 q.2 (cnt q.1) (inn q.1) := fun q hq => (h.ins q hq).kept s2 (hb ▸ own_kind_apart (h.ins q hq) h.row he)
    rcases List.mem_or_eq_of_mem_set hp with h3 | h3
    · exact hk0 p h3
    · rw [h3]
      have := hk0 L[k] (List.getElem_mem hk)
      show (W.setCell ⟨g, k * K1 + j, none⟩ v).ownsRow B e2 K2 L[k].2 (cnt y) (inn y)
      rw [h1, h2]; exact this
/-- The k-th element's own row has grown; its cell is set. -/
theorem Nest.more (hc : ∀ x u, (c x u).length = K1) (h : Nest W B e1 K1 c e2 K2 cnt inn (.slice (some ⟨g, 0, none⟩) L.length cap) L) {k : Nat} (hk : k < L.length) {j : Nat} (hj : j < K1) (y : α) (v : Value) (he : e2 ≠ e1)
    (hr : W'.ownsRow B e2 K2 v (cnt y) (inn y)) (hg : W.grownBy W' L[k].2.ownBlock) (hb : v.ownBlock = L[k].2.ownBlock ∨ v.ownBlock = some W.heap.size) (hy : c y v = (c L[k].1 L[k].2).set j v) :
    Nest (W'.setCell ⟨g, k * K1 + j, none⟩ v) B e1 K1 c e2 K2 cnt inn (.slice (some ⟨g, 0, none⟩) L.length cap) (L.set k (y, v)) := by
  have hr1 := h.row.kept hg (own_kind_apart h.row (h.ins L[k] (List.getElem_mem hk)) (Ne.symm he))
  obtain ⟨s1, s2⟩ := hr1.stored (k * K1 + j) v
  have hob : (Value.slice (some ⟨g, 0, none⟩) L.length cap).ownBlock = some g := rfl
  have hap : ∀ i (hi : i < L.length), i ≠ k → apartV L[i].2 L[k].2 := by
    intro i hi hik
    rcases Nat.lt_or_gt_of_ne hik with h3 | h3
    · exact List.pairwise_iff_getElem.1 h.apart i k hi hk h3
    · have := List.pairwise_iff_getElem.1 h.apart k i hk hi h3
      show _ ∨ _
      cases hq : L[i].2.ownBlock with
      | none => exact .inl rfl
      | some b =>
        refine .inr fun e => ?_
        rcases this with h4 | h4
        · rw [h4] at e; cases e
        · exact h4 (by rw [hq, e])
  have hlt : ∀ i (hi : i < L.length) b, L[i].2.ownBlock = some b → b < W.heap.size := fun i hi b hb => ((h.ins L[i] (List.getElem_mem hi)).lt b hb).2
  refine ⟨?_, fun p hp => ?_, ?_⟩
  · rw [List.length_set]
    rw [flat_set (f := fun p => c p.1 p.2) (fun a => hc a.1 a.2) L k hk j (y, v) v hj hy] at s1
    exact s1
  · obtain ⟨i, hi, rfl⟩ := List.mem_iff_getElem.1 hp
    rw [List.length_set] at hi
    rw [List.getElem_set]
    split
    · exact hr.kept s2 (hob ▸ own_kind_apart hr hr1 he)
    · rename_i hne
      have h5 := (h.ins L[i] (List.getElem_mem hi)).kept hg (hap i hi (Ne.symm hne))
      exact h5.kept s2 (hob ▸ own_kind_apart h5 hr1 he)
  · rw [List.pairwise_iff_getElem]
    have far : ∀ i (hi : i < L.length), i ≠ k → L[i].2.ownBlock = none ∨ L[i].2.ownBlock ≠ v.ownBlock := by
      intro i hi hik
      cases hq : L[i].2.ownBlock with
      | none => exact .inl rfl
      | some b =>
        refine .inr fun e => ?_
        rcases hb with h4 | h4
        · rcases hap i hi hik with h6 | h6
          · rw [hq] at h6; cases h6
          · exact h6 (by rw [hq, e, h4])
        · rw [h4] at e
          have := hlt i hi b hq
          injection e with e
          omega
    intro i i' hi hi' hlt'
    rw [List.length_set] at hi hi'
    rw [List.getElem_set, List.getElem_set]
    by_cases h1 : k = i
    · rw [if_pos h1, if_neg (by omega)]
      rcases far i' hi' (by omega) with h6 | h6
      · cases hv : v.ownBlock with
        | none => exact .inl hv
        | some b => exact .inr (by rw [hv, h6]; simp)
      · cases hv : v.ownBlock with
        | none => exact .inl hv
        | some b => exact .inr (fun e => h6 e.symm)
    · rw [if_neg h1]
      by_cases h2 : k = i'
      · rw [if_pos h2]
        exact far i hi (Ne.symm h1)
      · rw [if_neg h2]
        exact List.pairwise_iff_getElem.1 h.apart i i' hi hi' hlt'
end
theorem rulC_len (x : Atm × List Atm) (u : Value) : (rulC x u).length = 12 := rfl
section
variable {W W' : World} {B : Nat} {v0 v1 v2 v6 : Value} {pr : List Txt} {pd : List (Txt × Int)} {C : List ((Txt × List Txt) × Value)} {U : List ((Atm × List Atm) × Value)} {G : List ((Txt × Atm × List Atm) × Value)} {b5 c5 k : Nat}
theorem OwnRows.bent (h : OwnRows W B v0 v1 v2 (.slice (some ⟨b5, 0, none⟩) U.length c5) v6 pr pd C U G) (hk : k < U.length) {j : Nat} (hj : j < 12) (y : Atm × List Atm) (v : Value) (hy : rulC y U[k].2 = (rulC U[k].1 U[k].2).set j v) (h2 : y.2 = U[k].1.2) :
    OwnRows (W.setCell ⟨b5, k * 12 + j, none⟩ v) B v0 v1 v2 (.slice (some ⟨b5, 0, none⟩) U.length c5) v6 pr pd C (U.set k (y, U[k].2)) G := by
  have s2 := (h.h5.row.stored (k * 12 + j) v).2
  have hob : (Value.slice (some ⟨b5, 0, none⟩) U.length c5).ownBlock = some b5 := rfl
  rw [← hob] at s2
  refine ⟨own_other h.h0 h.h5.row (by decide) s2, own_other h.h1 h.h5.row (by decide) s2, h.h2.own h.h5.row s2 (by decide) (by decide), h.h5.stored rulC_len hk hj y v (by decide) hy (by rw [h2]) (by rw [h2]), h.h6.own h.h5.row s2 (by decide) (by decide), h.h02, fun q hq p hp => ?_⟩
  obtain ⟨p', hp', e⟩ := snd_set hk y hp
  rw [← e]
  exact h.h56 q hq p' hp'
theorem OwnRows.more (h : OwnRows W B v0 v1 v2 (.slice (some ⟨b5, 0, none⟩) U.length c5) v6 pr pd C U G) (hk : k < U.length) (a : Atm) (v : Value)
    (hr : W'.ownsRow B 39 11 v (U[k].1.2.length + 1) (U[k].1.2.flatMap atmL ++ atmL a)) (hg : W.grownBy W' U[k].2.ownBlock) (hb : v.ownBlock = U[k].2.ownBlock ∨ v.ownBlock = some W.heap.size) :
    OwnRows (W'.setCell ⟨b5, k * 12 + 11, none⟩ v) B v0 v1 v2 (.slice (some ⟨b5, 0, none⟩) U.length c5) v6 pr pd C (U.set k ((U[k].1.1, U[k].1.2 ++ [a]), v)) G := by
  have hu := h.h5.ins U[k] (List.getElem_mem hk)
  have hr5 := h.h5.row.kept hg (own_kind_apart h.h5.row hu (by decide))
  have s2 := (hr5.stored (k * 12 + 11) v).2
  have hob : (Value.slice (some ⟨b5, 0, none⟩) U.length c5).ownBlock = some b5 := rfl
  rw [← hob] at s2
  have h6 : NestG W' B v6 G := ⟨own_other h.h6.row hu (by decide) hg, fun p hp => (h.h6.ins p hp).kept hg (h.h56 p hp U[k] (List.getElem_mem hk)), h.h6.apart⟩
  refine ⟨own_other (own_other h.h0 hu (by decide) hg) hr5 (by decide) s2, own_other (own_other h.h1 hu (by decide) hg) hr5 (by decide) s2, (h.h2.own hu hg (by decide) (by decide)).own hr5 s2 (by decide) (by decide),
    h.h5.more rulC_len hk (j := 11) (by decide) (U[k].1.1, U[k].1.2 ++ [a]) v (by decide) (by rw [List.length_append, List.flatMap_append]; simpa using hr) hg hb rfl, h6.own hr5 s2 (by decide) (by decide), h.h02, fun q hq p hp => ?_⟩
  rcases List.mem_or_eq_of_mem_set hp with h3 | h3
  · exact h.h56 q hq p h3
  · rw [h3]
    show q.2.ownBlock = none ∨ q.2.ownBlock ≠ v.ownBlock
    have h7 := h.h56 q hq U[k] (List.getElem_mem hk)
    cases hqb : q.2.ownBlock with
    | none => exact .inl rfl
    | some b =>
      refine .inr fun e => ?_
      rcases hb with h4 | h4
      · rcases h7 with h8 | h8
        · rw [hqb] at h8; cases h8
        · exact h8 (by rw [hqb, e, h4])
      · rw [h4] at e
        injection e with e
        have := ((h.h6.ins q hq).lt b hqb).2
        omega
/-- The k-th rule's cells. -/
theorem OwnRows.rule (h : OwnRows W B v0 v1 v2 (.slice (some ⟨b5, 0, none⟩) U.length c5) v6 pr pd C U G) (hk : k < U.length) : AtAt W b5 (k * 12) U[k].1.1 ∧ W.cell? ⟨b5, k * 12 + 11, none⟩ = some U[k].2 ∧ ARow W U[k].2 U[k].1.2 := by
  have hc : ∀ j u, j < 12 → (rulC U[k].1 U[k].2)[j]? = some u → W.cell? ⟨b5, k * 12 + j, none⟩ = some u := by
    intro j u hj hu
    have hl : k * 12 + j < U.length * 12 := by omega
    rw [h.h5.row.cellAt _ hl, flat_at (f := fun p : (Atm × List Atm) × Value => rulC p.1 p.2) (fun _ => rfl) U k hk j hj]
    exact hu
  refine ⟨fun j u hu => ?_, hc 11 _ (by decide) rfl, own_arow (h.h5.ins U[k] (List.getElem_mem hk))⟩
  have hj : j < 11 := by have := (Array.getElem?_eq_some_iff.1 hu).1; simpa [atmC] using this
  refine hc j u (by omega) ?_
  show ((atmC U[k].1.1).toList ++ [U[k].2])[j]? = some u
  rw [List.getElem?_append_left (by simpa [atmC] using hj), Array.getElem?_toList]; exact hu
theorem OwnRows.at {qu bu : Int} {P : Pol} {a0 a1 a2 a5 a6 : Option Addr} {n0 n1 n2 n5 n6 c0 c1 c2 c5 c6 : Nat} (hR : OwnRows W B (.slice a0 n0 c0) (.slice a1 n1 c1) (.slice a2 n2 c2) (.slice a5 n5 c5) (.slice a6 n6 c6) P.pr P.pd C U G) (eC : C.map Prod.fst = P.cl) (eU : U.map Prod.fst = P.ru) (eG : G.map Prod.fst = P.gr) (hq : qu = P.qu) (hb : bu = P.bu) :
    PolAt W a0 a1 a2 a5 a6 n0 c0 n1 c1 n2 c2 n5 c5 n6 c6 qu bu P :=
  ⟨own_trow hR.h0, own_prow hR.h1, eC ▸ nest_crow hR.h2, hq, hb, eU ▸ nest_rrow hR.h5, eG ▸ nest_grow hR.h6⟩
end
theorem own_block {W : World} {B : Nat} {e : TypeId} {K : Nat} {a : Option Addr} {n c m : Nat} {xs : List Value} (h : W.ownsRow B e K (.slice a n c) m xs) (h0 : 0 < m) : ∃ b, a = some ⟨b, 0, none⟩ ∧ B ≤ b := by
  obtain ⟨hl, ⟨h1, h2⟩ | ⟨g, cap, cur, hv, hgb, r⟩⟩ := h
  · omega
  · cases hv; exact ⟨g, rfl, hgb⟩
theorem fits_set {a : Atm} {i : Nat} (h : FitsA a) : FitsA (setArg a i (true, zz)) := by
  refine ⟨h.1, h.2.1, fun t ht => ?_⟩
  rw [args_set] at ht
  rcases List.mem_or_eq_of_mem_set ht with h1 | h1
  · exact h.2.2 t h1
  · rw [h1]; exact (show 7 ≤ maxLen by unfold maxLen; decide)
theorem fits_rule {P : Pol} {k : Nat} {x : Atm × List Atm} (h : PolFits P) (hx : FitsA x.1 ∧ (∀ a ∈ x.2, FitsA a) ∧ x.2.length ≤ 100000) : PolFits { P with ru := P.ru.set k x } := by
  refine ⟨h.1, h.2.1, h.2.2.1, h.2.2.2.1, h.2.2.2.2.1, h.2.2.2.2.2.1, fun y hy => ?_, h.2.2.2.2.2.2.2.1, ?_, h.2.2.2.2.2.2.2.2.2⟩
  · rcases List.mem_or_eq_of_mem_set hy with h1 | h1
    · exact h.2.2.2.2.2.2.1 y h1
    · rw [h1]; exact hx
  · show (P.ru.set k x).length ≤ 1000000
    rw [List.length_set]
    exact h.2.2.2.2.2.2.2.2.1

theorem pick_to (n : Int) (m : Nat) (h1 : -9223372036854775808 ≤ n) (h2 : n ≤ 9223372036854775807) (hm : 1 ≤ m) (hM : m ≤ 1000000) :
    ∃ k : Nat, k < m ∧ ∀ W : World, Calls Tryd.prog 12 #[.int .i64 n, .int .i64 (m : Int)] W fun e w' => e = .returned (.int .i64 (k : Int)) ∧ Since W w' := by
  have h3 := Int.emod_nonneg n (show (m : Int) ≠ 0 by omega)
  have h4 := Int.emod_lt_of_pos n (show (0 : Int) < (m : Int) by omega)
  refine ⟨(n % (m : Int)).toNat, by omega, fun W => (pick_any n m W h1 h2 (by omega) (by omega)).mono ?_⟩
  rintro e w' ⟨rfl, rfl⟩
  exact ⟨by rw [Int.toNat_of_nonneg h3], Since.refl _⟩
theorem rule_set {x : Atm} {T : List Atm} {u : Value} {j : Nat} {s0 : Txt} (hj : j < 4) (h : (argsL x)[j]? = some (true, s0)) : rulC (setArg x j (true, zz), T) u = (rulC (x, T) u).set (3 + j * 2 + 1) (strV zz) := by
  show (atmC (setArg x j (true, zz))).toList ++ [u] = ((atmC x).toList ++ [u]).set (3 + j * 2 + 1) (strV zz)
  rw [List.set_append_left _ _ (by simp [atmC]; omega), atmC_set x j hj zz s0 h]
theorem st_atoms {o : Oper} {x y : Operand} {ev : Operand → Value} {g k : Nat} {a : Option Addr} {n c : Nat} {v0 : Value} (ho : o.op = Op.store 40 x y) (hx : ev x = .pointer (some ⟨g, k, none⟩)) (hy : ev y = .slice a n c) (W : World) (h1 : W.cell? ⟨g, k, none⟩ = some v0) (h2 : W.frozen? ⟨g, k, none⟩ = false) :
    (execOp ev o).run Tryd.prog W = .ok .skip (W.setCell ⟨g, k, none⟩ (.slice a n c)) := by
  simp only [execOp, ho]
  go_simp

set_option maxHeartbeats 0 in
set_option maxRecDepth 100000 in
theorem ranges_any (ap ad ac ar ag : Option Addr) (np cp nd cd nc cc nr cr ng cg : Nat) (qu bu : Int) (P : Pol) (n : Int) (w : World) (hP : PolAt w ap ad ac ar ag np cp nd cd nc cc nr cr ng cg qu bu P) (hf : PolBig P) (hn1 : -9223372036854775808 ≤ n) (hn2 : n ≤ 9223372036854775807) (hE : Env w) :
    Calls Tryd.prog 3 #[.agg #[.slice ap np cp, .slice ad nd cd, .slice ac nc cc, .int .i64 qu, .int .i64 bu, .slice ar nr cr, .slice ag ng cg], .int .i64 n] w fun e w' => e = .returned (.bool true) ∧ Since w w' := by
  obtain ⟨iA, hi, hz0, hz1, hz2⟩ := info_parts own_atm_info
  have IA := Lib.hid (And.intro hi (And.intro hz0 (And.intro hz1 hz2)))
  clear hi hz0 hz1 hz2
  have hS : Since w (w.alloc (.cells #[.slice ap np cp, .slice ad nd cd, .slice ac nc cc, .int .i64 qu, .int .i64 bu, .slice ar nr cr, .slice ag ng cg] 28)) := (Since.refl _).alloc _
  obtain ⟨p_c0, p_c1, p_c2, p_c3, p_c4, p_c5, p_c6⟩ := pbox_new w ap ad ac ar ag np cp nd cd nc cc nr cr ng cg qu bu 28
  obtain ⟨L, hL⟩ : ∃ B, Hid (B = lightPol P) := ⟨_, rfl⟩
  obtain ⟨K, hK⟩ : ∃ B, Hid (B = checkE P) := ⟨_, rfl⟩
  have HPOL := Lib.hid (hP.next hS)
  have HE := Lib.hid (hE.next hS)
  clear hP hE
  have Fr := Lib.hid HPOL.out.2.2.2.2.2.1.form
  go_enter Tryd.func3, Tryd.ntmps3
  go_wp2_with fail
  have HS := Since.refl (w.alloc (.cells #[.slice ap np cp, .slice ad nd cd, .slice ac nc cc, .int .i64 qu, .int .i64 bu, .slice ar nr cr, .slice ag ng cg] 28))
  generalize (w.alloc (.cells #[.slice ap np cp, .slice ad nd cd, .slice ac nc cc, .int .i64 qu, .int .i64 bu, .slice ar nr cr, .slice ag ng cg] 28)) = w1 at *
  refine (lives12_any _ (HE.out.next HS)).mono ?_
  rintro e wl1 ⟨rfl, hb⟩
  replace HS := HS.trans hb; replace p_c0 := hb.cell p_c0; replace p_c1 := hb.cell p_c1; replace p_c2 := hb.cell p_c2; replace p_c3 := hb.cell p_c3; replace p_c4 := hb.cell p_c4; replace p_c5 := hb.cell p_c5; replace p_c6 := hb.cell p_c6
  clear hb
  go_wp2_with fail
  have HLP := Lib.hid (lightpol_any ap ad ac ar ag np cp nd cd nc cc nr cr ng cg qu bu P _ (HPOL.out.next HS) hf)
  rw [← hL.out] at HLP
  refine (HLP.out).mono ?_
  rintro e wl2 ⟨rfl, hb⟩
  replace HS := HS.trans hb; replace p_c0 := hb.cell p_c0; replace p_c1 := hb.cell p_c1; replace p_c2 := hb.cell p_c2; replace p_c3 := hb.cell p_c3; replace p_c4 := hb.cell p_c4; replace p_c5 := hb.cell p_c5; replace p_c6 := hb.cell p_c6
  clear hb
  clear HLP
  cases L
  · go_wp2_with fail
    go_ret
    exact ⟨rfl, hS.trans HS⟩
  have hft := light_fits hL.out.symm hf
  by_cases hr0 : nr = 0
  · have hr1 : ((nr : Int) == 0) = true := by subst hr0; rfl
    go_wp2_with fail
    go_ret
    exact ⟨rfl, hS.trans HS⟩
  have hr1 : ((nr : Int) == 0) = false := by simpa using hr0
  go_wp2_with fail
  have HCK := Lib.hid (fcheck_any ap ad ac ar ag np cp nd cd nc cc nr cr ng cg qu bu P _ (HPOL.out.next HS) hft (HE.out.next HS))
  rw [← hK.out] at HCK
  refine (HCK.out).mono ?_
  rintro e wl3 ⟨rfl, hb⟩
  replace HS := HS.trans hb; replace p_c0 := hb.cell p_c0; replace p_c1 := hb.cell p_c1; replace p_c2 := hb.cell p_c2; replace p_c3 := hb.cell p_c3; replace p_c4 := hb.cell p_c4; replace p_c5 := hb.cell p_c5; replace p_c6 := hb.cell p_c6
  clear hb
  clear HCK
  by_cases hk0 : K = 0
  case neg =>
    have hk1 : (K != 0) = true := by simpa using hk0
    go_wp2_with fail
    go_ret
    exact ⟨rfl, hS.trans HS⟩
  subst hk0
  have hchk := hK.out.symm
  have HCHK := Lib.hid hchk
  have HFT := Lib.hid hft
  clear hchk hft hf hL hK
  have hnr : nr ≤ 1000000 := by have := Fr.out; have := HFT.out.2.2.2.2.2.2.2.2.1; omega
  obtain ⟨k, hk, hpk⟩ := pick_to n nr hn1 hn2 (by omega) (by omega)
  have HPK := Lib.hid hpk
  clear hpk hr1
  go_wp2_with fail
  refine (HPK.out _).mono ?_
  rintro e wl4 ⟨rfl, hb⟩
  replace HS := HS.trans hb; replace p_c0 := hb.cell p_c0; replace p_c1 := hb.cell p_c1; replace p_c2 := hb.cell p_c2; replace p_c3 := hb.cell p_c3; replace p_c4 := hb.cell p_c4; replace p_c5 := hb.cell p_c5; replace p_c6 := hb.cell p_c6
  clear hb
  clear HPK
  go_wp2_with fail
  refine (ownpol_any ap ad ac ar ag np cp nd cd nc cc nr cr ng cg qu bu P _ (HPOL.out.next HS) HFT.out).mono ?_
  rintro e wq ⟨a0, a1, a2, a5, a6, c0, c1, c2, c5, c6, C, U, G, eC, eU, eG, rfl, hR, hb⟩
  have HEC := Lib.hid eC
  have HEU := Lib.hid eU
  have HEG := Lib.hid eG
  clear eC eU eG
  have lU : U.length = nr := by rw [← List.length_map (f := Prod.fst), HEU.out]; exact Fr.out.symm
  obtain ⟨b5, e5, hb5⟩ := own_block hR.h5.row (by omega)
  subst e5
  have hkU : k < U.length := by omega
  have HLU := Lib.hid lU
  clear lU
  obtain ⟨wb, hwb⟩ : ∃ W : World, Hid (W = wl4) := ⟨_, rfl⟩
  rw [← hwb.out] at hR hb hb5 HS
  clear hwb
  have hC : Cel (wq.alloc (.cells #[.slice a0 P.pr.length c0, .slice a1 P.pd.length c1, .slice a2 C.length c2, .int .i64 qu, .int .i64 bu, .slice (some ⟨b5, 0, none⟩) U.length c5, .slice a6 G.length c6] 28)) wq.heap.size #[.slice a0 P.pr.length c0, .slice a1 P.pd.length c1, .slice a2 C.length c2, .int .i64 qu, .int .i64 bu, .slice (some ⟨b5, 0, none⟩) U.length c5, .slice a6 G.length c6] 28 := heap_alloc_new _ _
  replace hR := hR.next ((Since.refl _).alloc (.cells #[.slice a0 P.pr.length c0, .slice a1 P.pd.length c1, .slice a2 C.length c2, .int .i64 qu, .int .i64 bu, .slice (some ⟨b5, 0, none⟩) U.length c5, .slice a6 G.length c6] 28))
  have hge : wb.heap.size ≤ wq.heap.size := hb.size
  have hSq : Since wb (wq.alloc (.cells #[.slice a0 P.pr.length c0, .slice a1 P.pd.length c1, .slice a2 C.length c2, .int .i64 qu, .int .i64 bu, .slice (some ⟨b5, 0, none⟩) U.length c5, .slice a6 G.length c6] 28)) := hb.alloc _
  clear hb p_c0 p_c1 p_c2 p_c3 p_c4 p_c5 p_c6
  have hkP : k < P.ru.length := by have := Fr.out; omega
  obtain ⟨⟨⟨x, T⟩, u⟩, hx⟩ : ∃ x, Hid (x = U[k]) := ⟨U[k], rfl⟩
  have hPx : Hid (P.ru[k] = (x, T)) := by
    show _ = _
    have e : (U.map Prod.fst)[k]'(by rw [List.length_map]; exact hkU) = U[k].1 := List.getElem_map _
    have e2 : P.ru[k] = (U.map Prod.fst)[k]'(by rw [List.length_map]; exact hkU) := by simp only [HEU.out]
    rw [e2, e, ← hx.out]
  have hpx := rule_parts HCHK.out (List.getElem_mem hkP)
  have hfx := HFT.out.2.2.2.2.2.2.1 _ (List.getElem_mem hkP)
  rw [hPx.out] at hpx hfx
  simp only at hpx hfx
  obtain ⟨f0, f4, fc⟩ := valid_form (atomE_ok hpx.1)
  have hd := hR.rule hkU
  rw [← hx.out] at hd
  simp only at hd
  obtain ⟨ua, uc, hu⟩ := hd.2.2.slice
  subst hu
  obtain ⟨x_s, x_p, x_n, ⟨x_v0, x_l0⟩, ⟨x_v1, x_l1⟩, ⟨x_v2, x_l2⟩, ⟨x_v3, x_l3⟩⟩ := x
  simp only at f0 f4 fc
  obtain ⟨N, hN⟩ : ∃ N : Nat, x_n = (N : Int) := ⟨x_n.toNat, by omega⟩
  subst hN
  have hN4 : N ≤ 4 := by omega
  rw [Int.toNat_natCast] at fc
  have HFX := Lib.hid hfx
  have HPX := Lib.hid hpx
  have HFC := Lib.hid fc
  clear hpx hfx f0 f4 fc
  have HD1 := Lib.hid hd.1
  have HD2 := Lib.hid hd.2.1
  have HD3 := Lib.hid hd.2.2
  clear hd
  have q_c : (wq.alloc (.cells #[.slice a0 P.pr.length c0, .slice a1 P.pd.length c1, .slice a2 C.length c2, .int .i64 qu, .int .i64 bu, .slice (some ⟨b5, 0, none⟩) U.length c5, .slice a6 G.length c6] 28)).cell? ⟨wq.heap.size, 5, none⟩ = some (.slice (some ⟨b5, 0, none⟩) U.length c5) := hC.cell 5
  have hlt0 : (0 : Int) ≤ (k : Int) := by omega
  have hlt1 : (k : Int) < (U.length : Int) := by omega
  have x_c2 : (wq.alloc (.cells #[.slice a0 P.pr.length c0, .slice a1 P.pd.length c1, .slice a2 C.length c2, .int .i64 qu, .int .i64 bu, .slice (some ⟨b5, 0, none⟩) U.length c5, .slice a6 G.length c6] 28)).cell? ⟨b5, k * 12 + 2, none⟩ = some (.int .i64 (N : Int)) := HD1.out 2 _ rfl
  go_wp2_with fail
  generalize wq.alloc (.cells #[.slice a0 P.pr.length c0, .slice a1 P.pd.length c1, .slice a2 C.length c2, .int .i64 qu, .int .i64 bu, .slice (some ⟨b5, 0, none⟩) U.length c5, .slice a6 G.length c6] 28) = wc at *
  generalize wq.heap.size = g at *
  go_loopw [7, 8] (fun a m wr => ∃ i : Nat, i ≤ N ∧ m = .int .i64 (i : Int) ∧ wc = wr ∧ (a = .int .i64 (-1) ∨ ∃ j : Nat, j < i ∧ a = .int .i64 (j : Int) ∧ ∃ s, (argsL (x_s, x_p, (N : Int), (x_v0, x_l0), (x_v1, x_l1), (x_v2, x_l2), x_v3, x_l3))[j]? = some (true, s))) (fun _ m _ => N - (intOf m).toNat)
  case atStart => exact ⟨0, by omega, rfl, rfl, .inl rfl⟩
  case round =>
  obtain ⟨i, hi, rfl, rfl, ha⟩ := hrel
  have HA := Lib.hid ha
  clear ha
  by_cases hlt : i < N
  · have hlt2 : (i : Int) < (N : Int) := by omega
    have hlt3 : (0 : Int) ≤ (i : Int) := by omega
    have hlt5 : (i : Int) < 4 := by omega
    obtain ⟨⟨tv, tl⟩, ht⟩ : ∃ t, (argsL (x_s, x_p, (N : Int), (x_v0, x_l0), (x_v1, x_l1), (x_v2, x_l2), x_v3, x_l3))[i]? = some t := ⟨_, List.getElem?_eq_getElem (by show i < 4; omega)⟩
    obtain ⟨ac0, ac1⟩ := arg_cells HD1.out (show i < 4 by omega) ht
    have HT := Lib.hid ht
    clear ht ac1
    cases tv
    · go_wp2_with fail
      go_roundw
      case rel => exact ⟨i + 1, by omega, by go_num, by first | rfl | trivial, HA.out.imp id (fun ⟨j, h1, h2⟩ => ⟨j, by omega, h2⟩)⟩
      case measure => simp [intOf]; omega
    · go_wp2_with fail
      go_roundw
      case rel => exact ⟨i + 1, by omega, by go_num, by first | rfl | trivial, .inr ⟨i, by omega, rfl, _, HT.out⟩⟩
      case measure => simp [intOf]; omega
  have hlt2 : ¬ (i : Int) < (N : Int) := by omega
  rcases HA.out with rfl | ⟨j, hji, rfl, s0, hs0⟩
  · go_wp2_with fail
    go_ret
    exact ⟨rfl, hS.trans (HS.trans hSq)⟩
  have hj4 : j < 4 := by omega
  have hj0 : ¬ (j : Int) < 0 := by omega
  have hj1 : (0 : Int) ≤ (j : Int) := by omega
  have hj2 : (j : Int) < 4 := by omega
  obtain ⟨ac0, ac1⟩ := arg_cells HD1.out hj4 hs0
  have HS0 := Lib.hid hs0
  clear hs0 HA ac0
  have afr : wc.frozen? ⟨b5, k * 12 + 3 + j * 2 + 1, none⟩ = false := hR.h5.row.frozenAt _
  have alt : b5 < wc.heap.size := (hR.h5.row.lt b5 rfl).2
  have hbR := hR.bent hkU (j := 3 + j * 2 + 1) (by omega) (setArg (x_s, x_p, (N : Int), (x_v0, x_l0), (x_v1, x_l1), (x_v2, x_l2), x_v3, x_l3) j (true, zz), T) (strV zz) (by rw [← hx.out]; exact rule_set hj4 HS0.out) (by rw [← hx.out])
  rw [← hx.out] at hbR
  have hC2 : Cel (wc.setCell ⟨b5, k * 12 + (3 + j * 2 + 1), none⟩ (strV zz)) g #[.slice a0 P.pr.length c0, .slice a1 P.pd.length c1, .slice a2 C.length c2, .int .i64 qu, .int .i64 bu, .slice (some ⟨b5, 0, none⟩) U.length c5, .slice a6 G.length c6] 28 := cel_own hC hR.h5.row (by decide) (hR.h5.row.stored _ _).2
  have hSb : Since wb (wc.setCell ⟨b5, k * 12 + (3 + j * 2 + 1), none⟩ (strV zz)) := hSq.setCell hb5 _
  have eoff : k * 12 + (3 + j * 2 + 1) = k * 12 + 3 + j * 2 + 1 := by omega
  rw [eoff] at hbR hC2 hSb
  have q2 : (wc.setCell ⟨b5, k * 12 + 3 + j * 2 + 1, none⟩ (strV zz)).cell? ⟨g, 5, none⟩ = some (.slice (some ⟨b5, 0, none⟩) U.length c5) := hC2.cell 5
  go_wp2_with fail
  obtain ⟨y, hy⟩ : ∃ y, Hid (y = setArg (x_s, x_p, (N : Int), (x_v0, x_l0), (x_v1, x_l1), (x_v2, x_l2), x_v3, x_l3) j (true, zz)) := ⟨_, rfl⟩
  rw [← hy.out] at hbR
  have hyf : Hid (FitsA y) := by show FitsA y; rw [hy.out]; exact fits_set HFX.out.1
  have e9 : Hid ((∀ b ∈ T, ∀ t ∈ (argsL b).take (countA b), t.2 ≠ zz) → checkE { P with ru := P.ru.set k (y, T) } = 9) := by
    intro hno
    have h := range_bent (i := j) HCHK.out hkP (by rw [hPx.out]; simp only [Int.toNat_natCast]; omega) (by rw [hPx.out]; exact hno)
    rw [hPx.out] at h
    rw [hy.out]; exact h
  have e0 : Hid (T.length < 6 → checkE { P with ru := P.ru.set k (y, T ++ [y]) } = 0) := by
    intro hl
    have h := range_more (i := j) HCHK.out hkP (by rw [hPx.out]; simp only [Int.toNat_natCast]; omega) (by rw [hPx.out]; exact hl)
    rw [hPx.out] at h
    rw [hy.out]; exact h
  obtain ⟨V, hV⟩ : ∃ V, Hid (V = U.set k ((y, T), .slice ua T.length uc)) := ⟨_, rfl⟩
  have hbR2 : OwnRows (wc.setCell ⟨b5, k * 12 + 3 + j * 2 + 1, none⟩ (strV zz)) wb.heap.size (.slice a0 P.pr.length c0) (.slice a1 P.pd.length c1) (.slice a2 C.length c2) (.slice (some ⟨b5, 0, none⟩) U.length c5) (.slice a6 G.length c6) P.pr P.pd C V G := by rw [hV.out]; exact hbR
  have lV : V.length = U.length := by rw [hV.out, List.length_set]
  have hkV : k < V.length := by omega
  have hVk : Hid (V[k] = ((y, T), .slice ua T.length uc)) := by show _ = _; simp only [hV.out, List.getElem_set_self]
  have hVm : Hid (V.map Prod.fst = P.ru.set k (y, T)) := by show _ = _; rw [hV.out, List.map_set, HEU.out]
  have LV := Lib.hid lV
  clear lV hbR hV hy HS0
  have hd := (show OwnRows _ _ _ _ _ (.slice (some ⟨b5, 0, none⟩) V.length c5) _ _ _ _ V _ by rw [LV.out]; exact hbR2).rule hkV
  rw [hVk.out] at hd
  simp only at hd
  obtain ⟨y_s, y_p, y_n, ⟨y_v0, y_l0⟩, ⟨y_v1, y_l1⟩, ⟨y_v2, y_l2⟩, ⟨y_v3, y_l3⟩⟩ := y
  clear ac1 afr alt q2 q_c x_c2 hC hR hSq HD1 HD2 HD3
  generalize hw2 : wc.setCell ⟨b5, k * 12 + 3 + j * 2 + 1, none⟩ (strV zz) = w2 at *
  have hw3 : wc.setCell ⟨b5, k * 12 + 3 + j * 2 + 1, none⟩ (.string ⟨#[90, 122, 95, 110, 111, 110, 101]⟩) = w2 := hw2
  rw [hw3]
  clear hw2 hw3 eoff
  have HD1 := Lib.hid hd.1
  have HD2 := Lib.hid hd.2.1
  have HD3 := Lib.hid hd.2.2
  clear hd
  have hTl : T.length ≤ 100000 := HFX.out.2.2
  go_loopw [9] (fun m wr => ∃ i : Nat, i ≤ T.length ∧ m = .int .i64 (i : Int) ∧ w2 = wr ∧ Hid (∀ b ∈ T.take i, ∀ t ∈ (argsL b).take (countA b), t.2 ≠ zz)) (fun m _ => T.length - (intOf m).toNat)
  case atStart => exact ⟨0, by omega, rfl, rfl, (fun _ h => by cases h)⟩
  case round =>
  obtain ⟨i, hi, rfl, rfl, hno⟩ := hrel
  have q_c : w2.cell? ⟨g, 5, none⟩ = some (.slice (some ⟨b5, 0, none⟩) U.length c5) := hC2.cell 5
  have u_c : w2.cell? ⟨b5, k * 12 + 11, none⟩ = some (.slice ua T.length uc) := HD2.out
  by_cases hlt : i < T.length
  · have hlt3 : (i : Int) < (T.length : Int) := by omega
    have hlt4 : (0 : Int) ≤ (i : Int) := by omega
    obtain ⟨ub, uo, e2, hc2, hat⟩ := HD3.out.get (by omega)
    subst e2
    have d2 := hat i hlt
    have hz0 := HPX.out.2.1 _ (List.getElem_mem hlt)
    obtain ⟨f0, f4, fc⟩ := valid_form (atomE_ok hz0)
    obtain ⟨z, hz⟩ : ∃ z, Hid (z = T[i]) := ⟨T[i], rfl⟩
    rw [← hz.out] at d2 f0 f4 fc
    have htm := take_more T i hlt
    rw [← hz.out] at htm
    have HTM := Lib.hid htm
    have HZ := Lib.hid d2
    have n_c : w2.cell? ⟨ub, uo + i * 11 + 2, none⟩ = some (.int .i64 z.2.2.1) := d2 2 _ rfl
    clear hat hz0 hz htm d2
    obtain ⟨M, hM⟩ : ∃ M : Nat, z.2.2.1 = (M : Int) := ⟨z.2.2.1.toNat, by omega⟩
    rw [hM] at n_c fc f4
    rw [Int.toNat_natCast] at fc
    have hM4 : M ≤ 4 := by omega
    have HFZ := Lib.hid fc
    clear fc f0 f4 hM
    go_wp2_with fail
    go_loopw [10] (fun m wr => ∃ q : Nat, q ≤ M ∧ m = .int .i64 (q : Int) ∧ w2 = wr ∧ Hid (∀ t ∈ (argsL z).take q, t.2 ≠ zz)) (fun m _ => M - (intOf m).toNat)
    case atStart => exact ⟨0, by omega, rfl, rfl, (fun _ h => by cases h)⟩
    case round =>
    obtain ⟨q, hq, rfl, rfl, hnq⟩ := hrel
    by_cases hltq : q < M
    · have hltq2 : (q : Int) < (M : Int) := by omega
      have hltq3 : (0 : Int) ≤ (q : Int) := by omega
      have hltq4 : (q : Int) < 4 := by omega
      have hql : q < (argsL z).length := by show q < 4; omega
      obtain ⟨⟨tv, tl⟩, ht⟩ : ∃ t, Hid (t = (argsL z)[q]) := ⟨(argsL z)[q], rfl⟩
      obtain ⟨-, ac1⟩ := arg_cells HZ.out (show q < 4 by omega) (show (argsL z)[q]? = some (tv, tl) by rw [ht.out]; exact List.getElem?_eq_getElem hql)
      have htq := take_more (argsL z) q hql
      rw [← ht.out] at htq
      have HTQ := Lib.hid htq
      clear htq ht
      simp only at ac1
      by_cases hz : tl = zz
      · subst hz
        have ac2 : w2.cell? ⟨ub, uo + i * 11 + 3 + q * 2 + 1, none⟩ = some (.string ⟨#[90, 122, 95, 110, 111, 110, 101]⟩) := ac1
        clear ac1
        go_wp2_with fail
        go_ret
        exact ⟨rfl, hS.trans (HS.trans hSb)⟩
      · have hz2 : ¬ tl = [90, 122, 95, 110, 111, 110, 101] := hz
        have hz1 : (tl == [90, 122, 95, 110, 111, 110, 101]) = false := by simpa using hz2
        go_wp2_with fail
        go_roundw
        case rel =>
          refine ⟨q + 1, by omega, by go_num, by first | rfl | trivial, ?_⟩
          show ∀ t ∈ (argsL z).take (q + 1), t.2 ≠ zz
          rw [← HTQ.out]
          intro t ht
          rcases List.mem_append.1 ht with h | h
          · exact hnq.out t h
          · rw [List.mem_singleton.1 h]; exact hz
        case measure => simp [intOf]; omega
    · have hltq2 : ¬ (q : Int) < (M : Int) := by omega
      obtain rfl : q = M := by omega
      go_wp2_with fail
      go_roundw
      case rel =>
        refine ⟨i + 1, by omega, by go_num, by first | rfl | trivial, ?_⟩
        show ∀ b ∈ T.take (i + 1), ∀ t ∈ (argsL b).take (countA b), t.2 ≠ zz
        rw [← HTM.out]
        intro b hb
        rcases List.mem_append.1 hb with h | h
        · exact hno.out b h
        · rw [List.mem_singleton.1 h, HFZ.out]; exact hnq.out
      case measure => simp [intOf]; omega
  have hlt3 : ¬ (i : Int) < (T.length : Int) := by omega
  obtain rfl : i = T.length := by omega
  rw [List.take_length] at hno
  have HC9 := Lib.hid (fcheck_any a0 a1 a2 (some ⟨b5, 0, none⟩) a6 P.pr.length c0 P.pd.length c1 C.length c2 U.length c5 G.length c6 qu bu { P with ru := P.ru.set k (((y_s, y_p, y_n, (y_v0, y_l0), (y_v1, y_l1), (y_v2, y_l2), (y_v3, y_l3)) : Atm), T) } w2 (OwnRows.at (P := { P with ru := P.ru.set k (((y_s, y_p, y_n, (y_v0, y_l0), (y_v1, y_l1), (y_v2, y_l2), (y_v3, y_l3)) : Atm), T) }) hbR2 HEC.out hVm.out HEG.out HPOL.out.2.2.2.1 HPOL.out.2.2.2.2.1) (fits_rule HFT.out ⟨hyf.out, HFX.out.2⟩) (HE.out.next (HS.trans hSb)))
  rw [e9.out hno.out] at HC9
  have q_c0 : w2.cell? ⟨g, 0, none⟩ = some (.slice a0 P.pr.length c0) := hC2.cell 0
  have q_c1 : w2.cell? ⟨g, 1, none⟩ = some (.slice a1 P.pd.length c1) := hC2.cell 1
  have q_c2 : w2.cell? ⟨g, 2, none⟩ = some (.slice a2 C.length c2) := hC2.cell 2
  have q_c3 : w2.cell? ⟨g, 3, none⟩ = some (.int .i64 qu) := hC2.cell 3
  have q_c4 : w2.cell? ⟨g, 4, none⟩ = some (.int .i64 bu) := hC2.cell 4
  have q_c6 : w2.cell? ⟨g, 6, none⟩ = some (.slice a6 G.length c6) := hC2.cell 6
  go_wp2_with fail
  refine HC9.out.mono ?_
  rintro e w5 ⟨rfl, hb⟩
  clear HC9 e9 hno q_c u_c q_c0 q_c1 q_c2 q_c3 q_c4 q_c6
  replace hC2 := hC2.next hb
  replace hbR2 := hbR2.next hb
  replace hSb := hSb.trans hb
  have HD1 := Lib.hid (HD1.out.next hb)
  have HD2 := Lib.hid (hb.cell HD2.out)
  clear hb HD3
  have q_c : w5.cell? ⟨g, 5, none⟩ = some (.slice (some ⟨b5, 0, none⟩) U.length c5) := hC2.cell 5
  have u_c : w5.cell? ⟨b5, k * 12 + 11, none⟩ = some (.slice ua T.length uc) := HD2.out
  by_cases h6 : 6 ≤ T.length
  · have h6' : (6 : Int) ≤ (T.length : Int) := by omega
    go_wp2_with fail
    go_ret
    exact ⟨rfl, hS.trans (HS.trans hSb)⟩
  have h6' : ¬ (6 : Int) ≤ (T.length : Int) := by omega
  go_wp2_with fail
  go_cut [] from 117 to 135 (fun W => Cel W g #[.slice a0 P.pr.length c0, .slice a1 P.pd.length c1, .slice a2 C.length c2, .int .i64 qu, .int .i64 bu, .slice (some ⟨b5, 0, none⟩) U.length c5, .slice a6 G.length c6] 28 ∧ (∃ V', V'.map Prod.fst = P.ru.set k (((y_s, y_p, y_n, (y_v0, y_l0), (y_v1, y_l1), (y_v2, y_l2), (y_v3, y_l3)) : Atm), T ++ [((y_s, y_p, y_n, (y_v0, y_l0), (y_v1, y_l1), (y_v2, y_l2), (y_v3, y_l3)) : Atm)]) ∧ OwnRows W wb.heap.size (.slice a0 P.pr.length c0) (.slice a1 P.pd.length c1) (.slice a2 C.length c2) (.slice (some ⟨b5, 0, none⟩) U.length c5) (.slice a6 G.length c6) P.pr P.pd C V' G) ∧ Since wb W)
  case first =>
    have hz : k * 12 = 0 + k * 12 := by omega
    have hD := (Since.refl w5).drew
    have hC3 := hC2.next hD
    have hR3 := hbR2.next hD
    have hS3 := hSb.drew
    have hL : w5.drew.cell? ⟨b5, 0 + k * 12 + 11, none⟩ = some (.slice ua T.length uc) := hD.cell (hz ▸ HD2.out)
    have hX : AtAt w5.drew b5 (0 + k * 12) ((y_s, y_p, y_n, (y_v0, y_l0), (y_v1, y_l1), (y_v2, y_l2), (y_v3, y_l3)) : Atm) := hz ▸ HD1.out.next hD
    have hQ5 : w5.drew.cell? ⟨g, 5, none⟩ = some (.slice (some ⟨b5, 0, none⟩) U.length c5) := hC3.cell 5
    have s0 : Since wb w5.drew ∧ w5.drew.cell? ⟨g, 5, none⟩ = some (.slice (some ⟨b5, 0, none⟩) U.length c5) ∧ AtAt w5.drew b5 (0 + k * 12) ((y_s, y_p, y_n, (y_v0, y_l0), (y_v1, y_l1), (y_v2, y_l2), (y_v3, y_l3)) : Atm) := ⟨hS3, hQ5, hX⟩
    clear hD
    refine hx_begin (S := fun W => Since wb W ∧ W.cell? ⟨g, 5, none⟩ = some (.slice (some ⟨b5, 0, none⟩) U.length c5) ∧ AtAt W b5 (0 + k * 12) ((y_s, y_p, y_n, (y_v0, y_l0), (y_v1, y_l1), (y_v2, y_l2), (y_v3, y_l3)) : Atm)) (by kernel_rfl) s0 (by kernel_rfl) (fun _ _ _ _ _ h => h) (fun hns hQ => ?_)
    refine hx_take (i := 0) (oi := _) (v := .pointer (some ⟨g, 5, none⟩)) rfl rfl hns (by kernel_rfl) (by kernel_rfl) hQ (by kernel_rfl) (fun _ _ => by kernel_rfl) s0 ?_
    refine hx_take (i := 1) (oi := _) (v := .slice (some ⟨b5, 0, none⟩) U.length c5) rfl rfl hns (by kernel_rfl) (by kernel_rfl) hQ (by kernel_rfl) (fun W hW => ld_one rfl (by kernel_rfl) (by kernel_rfl) W hW.2.1) s0 ?_
    refine hx_take (i := 2) (oi := _) (v := .int .i64 (k : Int)) rfl rfl hns (by kernel_rfl) (by kernel_rfl) hQ (by kernel_rfl) (fun _ _ => by kernel_rfl) s0 ?_
    refine hx_take (i := 3) (oi := _) (v := .pointer (some ⟨g, 5, none⟩)) rfl rfl hns (by kernel_rfl) (by kernel_rfl) hQ (by kernel_rfl) (fun _ _ => by kernel_rfl) s0 ?_
    refine hx_take (i := 4) (oi := _) (v := .slice (some ⟨b5, 0, none⟩) U.length c5) rfl rfl hns (by kernel_rfl) (by kernel_rfl) hQ (by kernel_rfl) (fun W hW => ld_one rfl (by kernel_rfl) (by kernel_rfl) W hW.2.1) s0 ?_
    refine hx_take (i := 5) (oi := _) (v := .int .i64 (k : Int)) rfl rfl hns (by kernel_rfl) (by kernel_rfl) hQ (by kernel_rfl) (fun _ _ => by kernel_rfl) s0 ?_
    refine hx_take (i := 6) (oi := _) (v := .pointer (some ⟨b5, 0 + k * 12, none⟩)) rfl rfl hns (by kernel_rfl) (by kernel_rfl) hQ (by kernel_rfl) (fun W _ => ix_sl (n := U.length) (c := c5) (K := 12) rfl (by kernel_rfl) (by kernel_rfl) (by kernel_rfl) rfl hkU W) s0 ?_
    refine hx_take (i := 7) (oi := _) (v := .pointer (some ⟨b5, 0 + k * 12 + 11, none⟩)) rfl rfl hns (by kernel_rfl) (by kernel_rfl) hQ (by kernel_rfl) (fun _ _ => by kernel_rfl) s0 ?_
    refine hx_take (i := 9) (oi := _) (v := .pointer (some ⟨g, 5, none⟩)) rfl rfl hns (by kernel_rfl) (by kernel_rfl) hQ (by kernel_rfl) (fun _ _ => by kernel_rfl) s0 ?_
    refine hx_take (i := 10) (oi := _) (v := .slice (some ⟨b5, 0, none⟩) U.length c5) rfl rfl hns (by kernel_rfl) (by kernel_rfl) hQ (by kernel_rfl) (fun W hW => ld_one rfl (by kernel_rfl) (by kernel_rfl) W hW.2.1) s0 ?_
    refine hx_take (i := 11) (oi := _) (v := .int .i64 (k : Int)) rfl rfl hns (by kernel_rfl) (by kernel_rfl) hQ (by kernel_rfl) (fun _ _ => by kernel_rfl) s0 ?_
    refine hx_take (i := 12) (oi := _) (v := .pointer (some ⟨b5, 0 + k * 12, none⟩)) rfl rfl hns (by kernel_rfl) (by kernel_rfl) hQ (by kernel_rfl) (fun W _ => ix_sl (n := U.length) (c := c5) (K := 12) rfl (by kernel_rfl) (by kernel_rfl) (by kernel_rfl) rfl hkU W) s0 ?_
    refine hx_take (i := 13) (oi := _) (v := .pointer (some ⟨b5, 0 + k * 12, none⟩)) rfl rfl hns (by kernel_rfl) (by kernel_rfl) hQ (by kernel_rfl) (fun _ _ => by kernel_rfl) s0 ?_
    refine hx_take (i := 14) (oi := _) (v := .agg #[.string ⟨y_s.toArray⟩, .string ⟨y_p.toArray⟩, .int .i64 y_n, .bool y_v0, .string ⟨y_l0.toArray⟩, .bool y_v1, .string ⟨y_l1.toArray⟩, .bool y_v2, .string ⟨y_l2.toArray⟩, .bool y_v3, .string ⟨y_l3.toArray⟩]) rfl rfl hns (by kernel_rfl) (by kernel_rfl) hQ (by kernel_rfl) (fun W hW => ld_at rfl (by kernel_rfl) (by kernel_rfl) (by kernel_rfl) W hW.2.2) s0 ?_
    generalize w5.drew = wd at *
    have hA := (Since.refl wd).alloc (.cells #[.string ⟨y_s.toArray⟩, .string ⟨y_p.toArray⟩, .int .i64 y_n, .bool y_v0, .string ⟨y_l0.toArray⟩, .bool y_v1, .string ⟨y_l1.toArray⟩, .bool y_v2, .string ⟨y_l2.toArray⟩, .bool y_v3, .string ⟨y_l3.toArray⟩] 39)
    have hC4 := hC3.next hA
    have hR4 := hR3.next hA
    have hL4 := hA.cell hL
    have s1 : Since wb (wd.alloc (.cells #[.string ⟨y_s.toArray⟩, .string ⟨y_p.toArray⟩, .int .i64 y_n, .bool y_v0, .string ⟨y_l0.toArray⟩, .bool y_v1, .string ⟨y_l1.toArray⟩, .bool y_v2, .string ⟨y_l2.toArray⟩, .bool y_v3, .string ⟨y_l3.toArray⟩] 39)) ∧ (wd.alloc (.cells #[.string ⟨y_s.toArray⟩, .string ⟨y_p.toArray⟩, .int .i64 y_n, .bool y_v0, .string ⟨y_l0.toArray⟩, .bool y_v1, .string ⟨y_l1.toArray⟩, .bool y_v2, .string ⟨y_l2.toArray⟩, .bool y_v3, .string ⟨y_l3.toArray⟩] 39)).cell? ⟨g, 5, none⟩ = some (.slice (some ⟨b5, 0, none⟩) U.length c5) ∧ AtAt (wd.alloc (.cells #[.string ⟨y_s.toArray⟩, .string ⟨y_p.toArray⟩, .int .i64 y_n, .bool y_v0, .string ⟨y_l0.toArray⟩, .bool y_v1, .string ⟨y_l1.toArray⟩, .bool y_v2, .string ⟨y_l2.toArray⟩, .bool y_v3, .string ⟨y_l3.toArray⟩] 39)) b5 (0 + k * 12) ((y_s, y_p, y_n, (y_v0, y_l0), (y_v1, y_l1), (y_v2, y_l2), (y_v3, y_l3)) : Atm) := ⟨hS3.alloc _, hA.cell hQ5, hX.next hA⟩
    clear hC3 hR3 hA hQ5 hX
    have hT6 : T.length < 6 := by omega
    have hVl : OwnRows (wd.alloc (.cells #[.string ⟨y_s.toArray⟩, .string ⟨y_p.toArray⟩, .int .i64 y_n, .bool y_v0, .string ⟨y_l0.toArray⟩, .bool y_v1, .string ⟨y_l1.toArray⟩, .bool y_v2, .string ⟨y_l2.toArray⟩, .bool y_v3, .string ⟨y_l3.toArray⟩] 39)) wb.heap.size (.slice a0 P.pr.length c0) (.slice a1 P.pd.length c1) (.slice a2 C.length c2) (.slice (some ⟨b5, 0, none⟩) V.length c5) (.slice a6 G.length c6) P.pr P.pd C V G := by rw [LV.out]; exact hR4
    have hu := hVl.h5.ins V[k] (List.getElem_mem hkV)
    rw [hVk.out] at hu
    simp only at hu
    have hbs : wb.heap.size ≤ (wd.alloc (.cells #[.string ⟨y_s.toArray⟩, .string ⟨y_p.toArray⟩, .int .i64 y_n, .bool y_v0, .string ⟨y_l0.toArray⟩, .bool y_v1, .string ⟨y_l1.toArray⟩, .bool y_v2, .string ⟨y_l2.toArray⟩, .bool y_v3, .string ⟨y_l3.toArray⟩] 39)).heap.size := (hS3.alloc (.cells #[.string ⟨y_s.toArray⟩, .string ⟨y_p.toArray⟩, .int .i64 y_n, .bool y_v0, .string ⟨y_l0.toArray⟩, .bool y_v1, .string ⟨y_l1.toArray⟩, .bool y_v2, .string ⟨y_l2.toArray⟩, .bool y_v3, .string ⟨y_l3.toArray⟩] 39)).size
    refine hx_two_vv (i := 8) (j := 15) (.slice ua T.length uc) wd (.slice (some ⟨wd.heap.size, 0, none⟩) 1 1) (wd.alloc (.cells #[.string ⟨y_s.toArray⟩, .string ⟨y_p.toArray⟩, .int .i64 y_n, .bool y_v0, .string ⟨y_l0.toArray⟩, .bool y_v1, .string ⟨y_l1.toArray⟩, .bool y_v2, .string ⟨y_l2.toArray⟩, .bool y_v3, .string ⟨y_l3.toArray⟩] 39)) rfl rfl (by kernel_rfl) (by kernel_rfl) (by kernel_rfl) rfl (ld_one rfl (by kernel_rfl) (by kernel_rfl) wd hL) s0 rfl (by kernel_rfl) s1 ?_ ?_
    · refine hx_make (i := 15) (oi := _) (.slice (some ⟨wd.heap.size, 0, none⟩) 1 1) (wd.alloc (.cells #[.string ⟨y_s.toArray⟩, .string ⟨y_p.toArray⟩, .int .i64 y_n, .bool y_v0, .string ⟨y_l0.toArray⟩, .bool y_v1, .string ⟨y_l1.toArray⟩, .bool y_v2, .string ⟨y_l2.toArray⟩, .bool y_v3, .string ⟨y_l3.toArray⟩] 39)) rfl rfl (by kernel_rfl) (by kernel_rfl) (by kernel_rfl) s1 ?_
      refine hx_append (i := 16) (oi := _) (.tmp 125) (.tmp 132) 40 wb.heap.size 39 iA (.agg #[.string ByteArray.empty, .string ByteArray.empty, .int .i64 0, .bool false, .string ByteArray.empty, .bool false, .string ByteArray.empty, .bool false, .string ByteArray.empty, .bool false, .string ByteArray.empty]) 11 136 (.slice ua T.length uc) T.length _ _ (some ⟨wd.heap.size, 0, none⟩) 1 1 (#[.string ⟨y_s.toArray⟩, .string ⟨y_p.toArray⟩, .int .i64 y_n, .bool y_v0, .string ⟨y_l0.toArray⟩, .bool y_v1, .string ⟨y_l1.toArray⟩, .bool y_v2, .string ⟨y_l2.toArray⟩, .bool y_v3, .string ⟨y_l3.toArray⟩]).toList rfl rfl (by kernel_rfl) (by kernel_rfl) rfl Tryd.underlying40 IA.out.1 IA.out.2.1 IA.out.2.2.1 IA.out.2.2.2 rfl (by decide) (by kernel_rfl) hu (by kernel_rfl) (reads_new _ #[.string ⟨y_s.toArray⟩, .string ⟨y_p.toArray⟩, .int .i64 y_n, .bool y_v0, .string ⟨y_l0.toArray⟩, .bool y_v1, .string ⟨y_l1.toArray⟩, .bool y_v2, .string ⟨y_l2.toArray⟩, .bool y_v3, .string ⟨y_l3.toArray⟩] _ 11 rfl) (by simp [Value.oneCell']) (by unfold maxLen; omega) (by omega) hbs ?_
      intro v4 w4 hown4 hg4 hb4
      obtain ⟨a4, c4, rfl⟩ := own_slice hown4
      have hm := OwnRows.more (a := ((y_s, y_p, y_n, (y_v0, y_l0), (y_v1, y_l1), (y_v2, y_l2), (y_v3, y_l3)) : Atm)) (v := .slice a4 (T.length + 1) c4) hVl hkV (by rw [hVk.out]; exact hown4) (by rw [hVk.out]; exact hg4) (by rw [hVk.out]; exact hb4)
      have hu5 := hVl.h5.row.kept hg4 (own_kind_apart hVl.h5.row hu (by decide))
      have hC5 := cel_own hC4 hu (by decide) hg4
      have hb5' : wb.heap.size ≤ b5 := hb5
      have hS5 : Since wb w4 := Below.grown s1.1 hg4 s1.1.size (own_ge hu)
      have hX5 : AtAt w4 b5 (0 + k * 12) ((y_s, y_p, y_n, (y_v0, y_l0), (y_v1, y_l1), (y_v2, y_l2), (y_v3, y_l3)) : Atm) := fun j u hu' => by
        have hj : j < 11 := by have := (Array.getElem?_eq_some_iff.1 hu').1; simpa [atmC] using this
        have hl : 0 + k * 12 + j < V.length * 12 := by omega
        rw [hu5.cellAt _ hl, ← hVl.h5.row.cellAt _ hl]
        exact s1.2.2 j u hu'
      refine ⟨⟨hS5, hC5.cell 5, hX5⟩, ?_⟩
      refine hx_take (i := 17) (oi := _) (v := .pointer (some ⟨b5, 0 + k * 12, none⟩)) rfl rfl hns (by kernel_rfl) (by kernel_rfl) hQ (by kernel_rfl) (fun W _ => ix_sl (n := U.length) (c := c5) (K := 12) rfl (by kernel_rfl) (by kernel_rfl) (by kernel_rfl) rfl hkU W) ⟨hS5, hC5.cell 5, hX5⟩ ?_
      refine hx_take (i := 18) (oi := _) (v := .pointer (some ⟨b5, 0 + k * 12 + 11, none⟩)) rfl rfl hns (by kernel_rfl) (by kernel_rfl) hQ (by kernel_rfl) (fun _ _ => by kernel_rfl) ⟨hS5, hC5.cell 5, hX5⟩ ?_
      have hl11 : w4.cell? ⟨b5, 0 + k * 12 + 11, none⟩ = some (.slice ua T.length uc) := by
        have hl : 0 + k * 12 + 11 < V.length * 12 := by omega
        rw [hu5.cellAt _ hl, ← hVl.h5.row.cellAt _ hl]
        exact hL4
      have hC6 : Cel (w4.setCell ⟨b5, 0 + k * 12 + 11, none⟩ (.slice a4 (T.length + 1) c4)) g #[.slice a0 P.pr.length c0, .slice a1 P.pd.length c1, .slice a2 C.length c2, .int .i64 qu, .int .i64 bu, .slice (some ⟨b5, 0, none⟩) U.length c5, .slice a6 G.length c6] 28 := cel_own hC5 hu5 (by decide) (hu5.stored _ _).2
      have hS6 : Since wb (w4.setCell ⟨b5, 0 + k * 12 + 11, none⟩ (.slice a4 (T.length + 1) c4)) := hS5.setCell hb5' _
      have hX6 : AtAt (w4.setCell ⟨b5, 0 + k * 12 + 11, none⟩ (.slice a4 (T.length + 1) c4)) b5 (0 + k * 12) ((y_s, y_p, y_n, (y_v0, y_l0), (y_v1, y_l1), (y_v2, y_l2), (y_v3, y_l3)) : Atm) := fun j u hu' => by
        have hj : j < 11 := by have := (Array.getElem?_eq_some_iff.1 hu').1; simpa [atmC] using this
        exact (World.cell?_setCell_other _ _ _ _ (by intro e; injection e with _ e; omega)).trans (hX5 j u hu')
      refine hx_store (i := 19) (oi := _) (w4.setCell ⟨b5, 0 + k * 12 + 11, none⟩ (.slice a4 (T.length + 1) c4)) rfl rfl (by kernel_rfl) (by kernel_rfl) (st_atoms rfl (by kernel_rfl) (by kernel_rfl) _ hl11 (hu5.frozenAt _)) ⟨hS6, hC6.cell 5, hX6⟩ ?_
      refine wpAnyH_done (by kernel_rfl) ?_ _
      clear hns hQ
      simp only [List.set_cons_zero, List.set_cons_succ]
      clear hz
      go_wp2_with fail
      go_meet
      case rel =>
        have hz2 : 0 + k * 12 = k * 12 := Nat.zero_add _
        rw [hz2] at hC6 hS6
        rw [LV.out] at hm
        refine ⟨hC6, ⟨_, ?_, hm⟩, hS6⟩
        rw [List.map_set, hVm.out, hVk.out, List.set_set]
    · refine hx_make (i := 8) (oi := _) (.slice ua T.length uc) (wd.alloc (.cells #[.string ⟨y_s.toArray⟩, .string ⟨y_p.toArray⟩, .int .i64 y_n, .bool y_v0, .string ⟨y_l0.toArray⟩, .bool y_v1, .string ⟨y_l1.toArray⟩, .bool y_v2, .string ⟨y_l2.toArray⟩, .bool y_v3, .string ⟨y_l3.toArray⟩] 39)) rfl rfl (by kernel_rfl) (by kernel_rfl) (ld_one rfl (by kernel_rfl) (by kernel_rfl) (wd.alloc (.cells #[.string ⟨y_s.toArray⟩, .string ⟨y_p.toArray⟩, .int .i64 y_n, .bool y_v0, .string ⟨y_l0.toArray⟩, .bool y_v1, .string ⟨y_l1.toArray⟩, .bool y_v2, .string ⟨y_l2.toArray⟩, .bool y_v3, .string ⟨y_l3.toArray⟩] 39)) hL4) s1 ?_
      refine hx_append (i := 16) (oi := _) (.tmp 125) (.tmp 132) 40 wb.heap.size 39 iA (.agg #[.string ByteArray.empty, .string ByteArray.empty, .int .i64 0, .bool false, .string ByteArray.empty, .bool false, .string ByteArray.empty, .bool false, .string ByteArray.empty, .bool false, .string ByteArray.empty]) 11 136 (.slice ua T.length uc) T.length _ _ (some ⟨wd.heap.size, 0, none⟩) 1 1 (#[.string ⟨y_s.toArray⟩, .string ⟨y_p.toArray⟩, .int .i64 y_n, .bool y_v0, .string ⟨y_l0.toArray⟩, .bool y_v1, .string ⟨y_l1.toArray⟩, .bool y_v2, .string ⟨y_l2.toArray⟩, .bool y_v3, .string ⟨y_l3.toArray⟩]).toList rfl rfl (by kernel_rfl) (by kernel_rfl) rfl Tryd.underlying40 IA.out.1 IA.out.2.1 IA.out.2.2.1 IA.out.2.2.2 rfl (by decide) (by kernel_rfl) hu (by kernel_rfl) (reads_new _ #[.string ⟨y_s.toArray⟩, .string ⟨y_p.toArray⟩, .int .i64 y_n, .bool y_v0, .string ⟨y_l0.toArray⟩, .bool y_v1, .string ⟨y_l1.toArray⟩, .bool y_v2, .string ⟨y_l2.toArray⟩, .bool y_v3, .string ⟨y_l3.toArray⟩] _ 11 rfl) (by simp [Value.oneCell']) (by unfold maxLen; omega) (by omega) hbs ?_
      intro v4 w4 hown4 hg4 hb4
      obtain ⟨a4, c4, rfl⟩ := own_slice hown4
      have hm := OwnRows.more (a := ((y_s, y_p, y_n, (y_v0, y_l0), (y_v1, y_l1), (y_v2, y_l2), (y_v3, y_l3)) : Atm)) (v := .slice a4 (T.length + 1) c4) hVl hkV (by rw [hVk.out]; exact hown4) (by rw [hVk.out]; exact hg4) (by rw [hVk.out]; exact hb4)
      have hu5 := hVl.h5.row.kept hg4 (own_kind_apart hVl.h5.row hu (by decide))
      have hC5 := cel_own hC4 hu (by decide) hg4
      have hb5' : wb.heap.size ≤ b5 := hb5
      have hS5 : Since wb w4 := Below.grown s1.1 hg4 s1.1.size (own_ge hu)
      have hX5 : AtAt w4 b5 (0 + k * 12) ((y_s, y_p, y_n, (y_v0, y_l0), (y_v1, y_l1), (y_v2, y_l2), (y_v3, y_l3)) : Atm) := fun j u hu' => by
        have hj : j < 11 := by have := (Array.getElem?_eq_some_iff.1 hu').1; simpa [atmC] using this
        have hl : 0 + k * 12 + j < V.length * 12 := by omega
        rw [hu5.cellAt _ hl, ← hVl.h5.row.cellAt _ hl]
        exact s1.2.2 j u hu'
      refine ⟨⟨hS5, hC5.cell 5, hX5⟩, ?_⟩
      refine hx_take (i := 17) (oi := _) (v := .pointer (some ⟨b5, 0 + k * 12, none⟩)) rfl rfl hns (by kernel_rfl) (by kernel_rfl) hQ (by kernel_rfl) (fun W _ => ix_sl (n := U.length) (c := c5) (K := 12) rfl (by kernel_rfl) (by kernel_rfl) (by kernel_rfl) rfl hkU W) ⟨hS5, hC5.cell 5, hX5⟩ ?_
      refine hx_take (i := 18) (oi := _) (v := .pointer (some ⟨b5, 0 + k * 12 + 11, none⟩)) rfl rfl hns (by kernel_rfl) (by kernel_rfl) hQ (by kernel_rfl) (fun _ _ => by kernel_rfl) ⟨hS5, hC5.cell 5, hX5⟩ ?_
      have hl11 : w4.cell? ⟨b5, 0 + k * 12 + 11, none⟩ = some (.slice ua T.length uc) := by
        have hl : 0 + k * 12 + 11 < V.length * 12 := by omega
        rw [hu5.cellAt _ hl, ← hVl.h5.row.cellAt _ hl]
        exact hL4
      have hC6 : Cel (w4.setCell ⟨b5, 0 + k * 12 + 11, none⟩ (.slice a4 (T.length + 1) c4)) g #[.slice a0 P.pr.length c0, .slice a1 P.pd.length c1, .slice a2 C.length c2, .int .i64 qu, .int .i64 bu, .slice (some ⟨b5, 0, none⟩) U.length c5, .slice a6 G.length c6] 28 := cel_own hC5 hu5 (by decide) (hu5.stored _ _).2
      have hS6 : Since wb (w4.setCell ⟨b5, 0 + k * 12 + 11, none⟩ (.slice a4 (T.length + 1) c4)) := hS5.setCell hb5' _
      have hX6 : AtAt (w4.setCell ⟨b5, 0 + k * 12 + 11, none⟩ (.slice a4 (T.length + 1) c4)) b5 (0 + k * 12) ((y_s, y_p, y_n, (y_v0, y_l0), (y_v1, y_l1), (y_v2, y_l2), (y_v3, y_l3)) : Atm) := fun j u hu' => by
        have hj : j < 11 := by have := (Array.getElem?_eq_some_iff.1 hu').1; simpa [atmC] using this
        exact (World.cell?_setCell_other _ _ _ _ (by intro e; injection e with _ e; omega)).trans (hX5 j u hu')
      refine hx_store (i := 19) (oi := _) (w4.setCell ⟨b5, 0 + k * 12 + 11, none⟩ (.slice a4 (T.length + 1) c4)) rfl rfl (by kernel_rfl) (by kernel_rfl) (st_atoms rfl (by kernel_rfl) (by kernel_rfl) _ hl11 (hu5.frozenAt _)) ⟨hS6, hC6.cell 5, hX6⟩ ?_
      refine wpAnyH_done (by kernel_rfl) ?_ _
      clear hns hQ
      simp only [List.set_cons_zero, List.set_cons_succ]
      clear hz
      go_wp2_with fail
      go_meet
      case rel =>
        have hz2 : 0 + k * 12 = k * 12 := Nat.zero_add _
        rw [hz2] at hC6 hS6
        rw [LV.out] at hm
        refine ⟨hC6, ⟨_, ?_, hm⟩, hS6⟩
        rw [List.map_set, hVm.out, hVk.out, List.set_set]
  case rest =>
  obtain ⟨hC7, ⟨V', hV', hR7⟩, hS7⟩ := hcut
  have HC0 := Lib.hid (fcheck_any a0 a1 a2 (some ⟨b5, 0, none⟩) a6 P.pr.length c0 P.pd.length c1 C.length c2 U.length c5 G.length c6 qu bu { P with ru := P.ru.set k (((y_s, y_p, y_n, (y_v0, y_l0), (y_v1, y_l1), (y_v2, y_l2), (y_v3, y_l3)) : Atm), T ++ [((y_s, y_p, y_n, (y_v0, y_l0), (y_v1, y_l1), (y_v2, y_l2), (y_v3, y_l3)) : Atm)]) } wc (OwnRows.at (P := { P with ru := P.ru.set k (((y_s, y_p, y_n, (y_v0, y_l0), (y_v1, y_l1), (y_v2, y_l2), (y_v3, y_l3)) : Atm), T ++ [((y_s, y_p, y_n, (y_v0, y_l0), (y_v1, y_l1), (y_v2, y_l2), (y_v3, y_l3)) : Atm)]) }) hR7 HEC.out hV' HEG.out HPOL.out.2.2.2.1 HPOL.out.2.2.2.2.1) (fits_rule HFT.out ⟨hyf.out, (fun b hb => by rcases List.mem_append.1 hb with h | h; exact HFX.out.2.1 b h; rw [List.mem_singleton.1 h]; exact hyf.out), by rw [List.length_append, List.length_singleton]; show T.length + 1 ≤ 100000; omega⟩) (HE.out.next (HS.trans hS7)))
  rw [e0.out (by omega)] at HC0
  clear q_c u_c hC2 hbR2 hSb HD1 HD2
  have q_c0 : wc.cell? ⟨g, 0, none⟩ = some (.slice a0 P.pr.length c0) := hC7.cell 0
  have q_c1 : wc.cell? ⟨g, 1, none⟩ = some (.slice a1 P.pd.length c1) := hC7.cell 1
  have q_c2 : wc.cell? ⟨g, 2, none⟩ = some (.slice a2 C.length c2) := hC7.cell 2
  have q_c3 : wc.cell? ⟨g, 3, none⟩ = some (.int .i64 qu) := hC7.cell 3
  have q_c4 : wc.cell? ⟨g, 4, none⟩ = some (.int .i64 bu) := hC7.cell 4
  have q_c5 : wc.cell? ⟨g, 5, none⟩ = some (.slice (some ⟨b5, 0, none⟩) U.length c5) := hC7.cell 5
  have q_c6 : wc.cell? ⟨g, 6, none⟩ = some (.slice a6 G.length c6) := hC7.cell 6
  go_wp2_with fail
  refine HC0.out.mono ?_
  rintro e w8 ⟨rfl, hb⟩
  go_wp2_with fail
  go_ret
  exact ⟨rfl, hS.trans ((HS.trans hS7).trans hb)⟩
end Go.Proofs.YtpkggopaigledaaDoor
