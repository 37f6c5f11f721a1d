/- Bytes read back: atoms, steps, derivations; no program in sight. -/
import Derived.Test.YtkdeokgkjmboeaaGreatDoorCertQ
import Derived.Test.YtkdeokgkjmboeaaGreatDoorCertA
namespace Go.Proofs.YtkdeokgkjmboeaaGreatDoor
open Go.RowKit

theorem spelled_short {f m : Int → Bool} {l : List UInt8} (h : spelledB f m l = true) : l.length ≤ 255 := by
  rcases Nat.lt_or_ge 255 l.length with h1 | h1
  · rw [spelledB_long (by omega)] at h; cases h
  · exact h1
theorem constant_short {l : List UInt8} (h : constantB l = true) : l.length ≤ 255 := by
  unfold constantB at h
  rw [Bool.and_eq_true] at h
  exact spelled_short h.1
theorem principal_short {l : List UInt8} (h : principalB l = true) : l.length ≤ 255 := by
  unfold principalB at h
  rw [Bool.and_eq_true] at h
  exact spelled_short h.1
theorem term_short {t : Tm} (h : termB t = true) : t.2.length ≤ 255 := by
  unfold termB at h
  split at h
  · exact spelled_short h
  · exact constant_short h
def padN (s p : List UInt8) (L : List Tm) : Atm := (s, p, (L.length : Int), L.getD 0 (false, []), L.getD 1 (false, []), L.getD 2 (false, []), L.getD 3 (false, []))
theorem pad_take {s p : List UInt8} {L : List Tm} (h : L.length ≤ 4) : (argsL (padN s p L)).take (countA (padN s p L)) = L := by
  have hc : countA (padN s p L) = L.length := by
    show (min (max (L.length : Int) 0) 4).toNat = L.length
    omega
  rw [hc]
  match L, h with
  | [], _ => rfl
  | [_], _ => rfl
  | [_, _], _ => rfl
  | [_, _, _], _ => rfl
  | [_, _, _, _], _ => rfl
theorem valid_pad {a : Atm} (h : checkA a = 0) : ∃ L : List Tm, L.length ≤ 4 ∧ a = padN a.1 a.2.1 L ∧ a.1.length ≤ 255 ∧ a.2.1.length ≤ 255 ∧ ∀ t ∈ L, t.2.length ≤ 255 := by
  have hr := checkA_range h
  unfold checkA at h
  by_cases h1 : (!(principalB a.1 && principalB a.2.1)) = true
  · rw [if_pos h1] at h; cases h
  rw [if_neg h1, if_neg (by omega)] at h
  by_cases h3 : (!(((argsL a).take a.2.2.1.toNat).all termB)) = true
  · rw [if_pos h3] at h; cases h
  rw [if_neg h3] at h
  by_cases h4 : (!(((argsL a).drop a.2.2.1.toNat).all fun t => decide (t = (false, [])))) = true
  · rw [if_pos h4] at h; cases h
  simp only [Bool.not_eq_true', Bool.not_eq_false, Bool.and_eq_true, List.all_eq_true, decide_eq_true_eq] at h1 h3 h4
  refine ⟨(argsL a).take a.2.2.1.toNat, by rw [List.length_take, argsL_len]; omega, ?_, principal_short h1.1, principal_short h1.2, fun t ht => term_short (h3 t ht)⟩
  obtain ⟨s, p, n, t0, t1, t2, t3⟩ := a
  obtain ⟨m, rfl⟩ : ∃ m : Nat, n = (m : Int) := ⟨n.toNat, by have := hr.1; simp only at this; omega⟩
  have hm : m ≤ 4 := by have := hr.2.1; simp only at this; omega
  simp only [Int.toNat_natCast] at h4
  simp only [padN, Int.toNat_natCast]
  have hz : ∀ t ∈ ([t0, t1, t2, t3] : List Tm).drop m, t = (false, []) := h4
  match m, hm with
  | 0, _ => simp at hz; simp [argsL, hz]
  | 1, _ => simp at hz; simp [argsL, hz]
  | 2, _ => simp at hz; simp [argsL, hz]
  | 3, _ => simp at hz; simp [argsL, hz]
  | 4, _ => simp [argsL]
def atomP (l : List UInt8) : Option (Atm × List UInt8) :=
  match textP l with
  | none => none
  | some (s, r1) => match textP r1 with
    | none => none
    | some (p, r2) => match numP r2 with
      | none => none
      | some (n, r3) => if 4 < n then none else match manyP nameP n r3 with
        | none => none
        | some (L, r4) => if checkA (padN s p L) = 0 then some (padN s p L, r4) else none
theorem pad_bytes {s p : List UInt8} {L : List Tm} (h : L.length ≤ 4) : atomB (padN s p L) = (textB s ++ (textB p ++ numL L.length)) ++ L.flatMap nameB := by
  rw [atomB, pad_take h]; rfl
theorem atomP_enc {a : Atm} (h : checkA a = 0) (r : List UInt8) : atomP (atomB a ++ r) = some (a, r) := by
  obtain ⟨L, h4, ha, h1, h2, h3⟩ := valid_pad h
  obtain ⟨s, hs⟩ : ∃ s, s = a.1 := ⟨_, rfl⟩
  obtain ⟨p, hp⟩ : ∃ p, p = a.2.1 := ⟨_, rfl⟩
  rw [← hs, ← hp] at ha
  rw [← hs] at h1
  rw [← hp] at h2
  clear hs hp
  subst ha
  rw [pad_bytes h4, atomP]
  simp only [List.append_assoc]
  rw [textP_enc (by omega)]
  simp only
  rw [textP_enc (by omega)]
  simp only
  rw [numP_enc (by omega)]
  simp only
  rw [if_neg (by omega), manyP_enc L (fun t ht r => nameP_enc (by have := h3 t ht; omega) r)]
  simp only
  rw [if_pos h]
theorem atomP_back {l r : List UInt8} {a : Atm} (h : atomP l = some (a, r)) : checkA a = 0 ∧ l = atomB a ++ r := by
  rw [atomP] at h
  cases h1 : textP l with
  | none => rw [h1] at h; cases h
  | some y =>
  obtain ⟨s, r1⟩ := y
  rw [h1] at h
  simp only at h
  cases h2 : textP r1 with
  | none => rw [h2] at h; cases h
  | some y =>
  obtain ⟨p, r2⟩ := y
  rw [h2] at h
  simp only at h
  cases h3 : numP r2 with
  | none => rw [h3] at h; cases h
  | some y =>
  obtain ⟨n, r3⟩ := y
  rw [h3] at h
  simp only at h
  split at h
  · cases h
  rename_i h4
  cases h5 : manyP nameP n r3 with
  | none => rw [h5] at h; cases h
  | some y =>
  obtain ⟨L, r4⟩ := y
  rw [h5] at h
  simp only at h
  split at h
  · rename_i hc
    injection h with h
    injection h with e1 e2
    subst e1 e2
    obtain ⟨f1, f2, f3⟩ := manyP_back (enc := nameB) (Q := fun t => t.2.length < 4294967296) (fun l x r h => nameP_back h) n r3 L r4 h5
    refine ⟨hc, ?_⟩
    rw [pad_bytes (by omega), (textP_back h1).2, (textP_back h2).2, (numP_back h3).2, f3, f1]
    simp only [List.append_assoc]
  · cases h
def stepP (i : Nat) (l : List UInt8) : Option (Stp × List UInt8) :=
  match numP l with
  | none => none
  | some (c, r1) => match atomP r1 with
    | none => none
    | some (a, r2) => match numP r2 with
      | none => none
      | some (n, r3) => if 16 < n then none else match manyP numP n r3 with
        | none => none
        | some (L, r4) => if mayB i (a, (c : Int) - 1, L.map fun x : Nat => (x : Int)) = true then some ((a, (c : Int) - 1, L.map fun x : Nat => (x : Int)), r4) else none
theorem cites_nat (L : List Nat) : citesB (L.map fun x : Nat => (x : Int)) = L.flatMap numL := by
  rw [citesB, List.flatMap_map]; rfl
theorem may_clq {i : Nat} {x : Stp} (h : mayB i x = true) : checkA x.1 = 0 ∧ -1 ≤ x.2.1 ∧ x.2.1 ≤ 65536 ∧ x.2.2.length ≤ 16 ∧ ∀ c ∈ x.2.2, 0 ≤ c ∧ c < i := by
  simp only [mayB, Bool.and_eq_true, decide_eq_true_eq, beq_iff_eq, List.all_eq_true, citeB] at h
  exact ⟨h.1, h.2.2.1, h.2.2.2.1, h.2.2.2.2.1, h.2.2.2.2.2⟩
theorem nat_back : ∀ (l : List Int), (∀ c ∈ l, 0 ≤ c) → (l.map Int.toNat).map (fun x : Nat => (x : Int)) = l
  | [], _ => rfl
  | c :: r, h => by
    rw [List.map_cons, List.map_cons, nat_back r (fun x hx => h x (by simp [hx])), Int.toNat_of_nonneg (h c (by simp))]
theorem stepP_enc {i : Nat} {x : Stp} (h : mayB i x = true) (hi : i ≤ 1048576) (r : List UInt8) : stepP i (stepB x ++ r) = some (x, r) := by
  obtain ⟨h1, h2, h3, h4, h5⟩ := may_clq h
  obtain ⟨a, cl, cs⟩ := x
  simp only at h1 h2 h3 h4 h5
  obtain ⟨L, hL⟩ : ∃ L, L = cs.map Int.toNat := ⟨_, rfl⟩
  have hb : L.map (fun x : Nat => (x : Int)) = cs := by rw [hL]; exact nat_back cs fun c hc => (h5 c hc).1
  have hll : cs.length = L.length := by rw [hL, List.length_map]
  have hcl : ((cl + 1).toNat : Int) - 1 = cl := by omega
  have hs : stepB (a, cl, cs) = (numL (cl + 1).toNat ++ (atomB a ++ numL L.length)) ++ L.flatMap numL := by
    rw [← cites_nat, hb, ← hll]; rfl
  have hlt : ∀ x ∈ L, x < 4294967296 := by
    intro x hx
    rw [hL] at hx
    obtain ⟨c, hc, rfl⟩ := List.mem_map.1 hx
    have := h5 c hc
    omega
  rw [hs, stepP]
  simp only [List.append_assoc]
  rw [numP_enc (by omega)]
  simp only
  rw [atomP_enc h1]
  simp only
  rw [numP_enc (by omega)]
  simp only
  rw [if_neg (by omega), manyP_enc L (fun x hx r => numP_enc (hlt x hx) r)]
  simp only
  rw [hb, hcl, if_pos h]
theorem stepP_back {i : Nat} {x : Stp} {l r : List UInt8} (h : stepP i l = some (x, r)) : mayB i x = true ∧ l = stepB x ++ r := by
  rw [stepP] at h
  cases h1 : numP l with
  | none => rw [h1] at h; cases h
  | some y =>
  obtain ⟨c, r1⟩ := y
  rw [h1] at h
  simp only at h
  cases h2 : atomP r1 with
  | none => rw [h2] at h; cases h
  | some y =>
  obtain ⟨a, r2⟩ := y
  rw [h2] at h
  simp only at h
  cases h3 : numP r2 with
  | none => rw [h3] at h; cases h
  | some y =>
  obtain ⟨n, r3⟩ := y
  rw [h3] at h
  simp only at h
  split at h
  · cases h
  cases h5 : manyP numP n r3 with
  | none => rw [h5] at h; cases h
  | some y =>
  obtain ⟨L, r4⟩ := y
  rw [h5] at h
  simp only at h
  split at h
  · rename_i hc
    injection h with h
    injection h with e1 e2
    subst e1 e2
    obtain ⟨f1, f2, f3⟩ := manyP_back (enc := numL) (Q := fun n => n < 4294967296) (fun l x r h => numP_back h) n r3 L r4 h5
    refine ⟨hc, ?_⟩
    have e : ((c : Int) - 1 + 1).toNat = c := by omega
    show l = ((numL ((c : Int) - 1 + 1).toNat ++ (atomB a ++ numL (L.map fun x : Nat => (x : Int)).length)) ++ citesB (L.map fun x : Nat => (x : Int))) ++ r4
    rw [e, cites_nat, List.length_map, f1, (numP_back h1).2, (atomP_back h2).2, (numP_back h3).2, f3]
    simp only [List.append_assoc]
  · cases h
def stepsP : Nat → Nat → List UInt8 → Option (List Stp × List UInt8)
  | 0, _, l => some ([], l)
  | n + 1, i, l => match stepP i l with | none => none | some (x, r) => match stepsP n (i + 1) r with | none => none | some (L, q) => some (x :: L, q)
theorem stepsP_enc : ∀ (L : List Stp) (i : Nat), maysF i L = true → i + L.length ≤ 1048576 → ∀ r, stepsP L.length i (L.flatMap stepB ++ r) = some (L, r)
  | [], _, _, _, _ => rfl
  | x :: L, i, h, hi, r => by
    rw [maysF, Bool.and_eq_true] at h
    rw [List.length_cons] at hi
    rw [List.length_cons, stepsP, List.flatMap_cons, List.append_assoc, stepP_enc h.1 (by omega)]
    simp only [stepsP_enc L (i + 1) h.2 (by omega) r]
theorem stepsP_back : ∀ (n i : Nat) (l : List UInt8) (L : List Stp) (r : List UInt8), stepsP n i l = some (L, r) → L.length = n ∧ maysF i L = true ∧ l = L.flatMap stepB ++ r
  | 0, i, l, L, r, h => by
    rw [stepsP] at h
    injection h with h
    injection h with h1 h2
    subst h1 h2
    exact ⟨rfl, rfl, rfl⟩
  | n + 1, i, l, L, r, h => by
    rw [stepsP] at h
    cases hx : stepP i l with
    | none => rw [hx] at h; cases h
    | some y =>
      obtain ⟨x, q⟩ := y
      rw [hx] at h
      simp only at h
      cases hm : stepsP n (i + 1) q with
      | none => rw [hm] at h; cases h
      | some y =>
        obtain ⟨M, q'⟩ := y
        rw [hm] at h
        injection h with h
        injection h with h1 h2
        subst h1 h2
        obtain ⟨e1, e2, e3⟩ := stepsP_back n (i + 1) q M q' hm
        obtain ⟨e4, e5⟩ := stepP_back hx
        exact ⟨by rw [List.length_cons, e1], by rw [maysF, e4, e2]; rfl, by rw [List.flatMap_cons, List.append_assoc, ← e3, e5]⟩
/-- A derivation, and what is left. -/
def derivP (l : List UInt8) : Option (List Stp × List UInt8) := match numP l with | none => none | some (n, r) => if 1048576 < n then none else stepsP n 0 r
theorem derivP_enc {L : List Stp} (h : maysB L = true) (r : List UInt8) : derivP (stepsB L ++ r) = some (L, r) := by
  rw [maysB, Bool.and_eq_true, decide_eq_true_eq] at h
  rw [derivP, stepsB, List.append_assoc, numP_enc (by omega)]
  simp only
  rw [if_neg (by omega), stepsP_enc L 0 h.2 (by omega)]
theorem derivP_back {l r : List UInt8} {L : List Stp} (h : derivP l = some (L, r)) : maysB L = true ∧ l = stepsB L ++ r := by
  rw [derivP] at h
  cases h1 : numP l with
  | none => rw [h1] at h; cases h
  | some y =>
    obtain ⟨n, q⟩ := y
    rw [h1] at h
    simp only at h
    split at h
    · cases h
    · obtain ⟨e1, e2, e3⟩ := stepsP_back n 0 q L r h
      refine ⟨?_, ?_⟩
      · rw [maysB, e2, decide_eq_true (by omega)]; rfl
      · rw [(numP_back h1).2, e3, stepsB, e1, List.append_assoc]
/-- What Read answers: the whole is a derivation. -/
def readP (l : List UInt8) : Option (List Stp) := match derivP l with | some (L, []) => some L | _ => none
theorem readP_iff {l : List UInt8} {L : List Stp} : readP l = some L ↔ maysB L = true ∧ l = stepsB L := by
  constructor
  · intro h
    rw [readP] at h
    split at h
    · rename_i M hd
      injection h with h
      subst h
      have := derivP_back hd
      rw [List.append_nil] at this
      exact this
    · cases h
  · rintro ⟨h1, rfl⟩
    have := derivP_enc h1 []
    rw [List.append_nil] at this
    rw [readP, this]
/-- One text is one derivation. -/
theorem steps_inj {L M : List Stp} (hL : maysB L = true) (hM : maysB M = true) (h : stepsB L = stepsB M) : L = M := by
  have h1 := readP_iff.2 ⟨hL, rfl⟩
  have h2 := readP_iff.2 ⟨hM, h⟩
  rw [h1] at h2
  injection h2
/-- No other text begins as a derivation's does. -/
theorem steps_pre {L M : List Stp} {r : List UInt8} (hL : maysB L = true) (hM : maysB M = true) (h : stepsB L ++ r = stepsB M) : r = [] ∧ L = M := by
  have h1 := derivP_enc hL r
  have h2 := derivP_enc hM []
  rw [List.append_nil, ← h, h1] at h2
  injection h2 with h2
  injection h2 with h3 h4
  exact ⟨h4, h3⟩
end Go.Proofs.YtkdeokgkjmboeaaGreatDoor
