/- Atoms under bindings, and what makes two atoms one; with a ground atom it is matching; no program in sight. -/
import Derived.Test.YtbgdljcgbhhfdaaGreatDoorUniP
namespace Go.Proofs.YtbgdljcgbhhfdaaGreatDoor
open Go.RowKit
set_option linter.unusedVariables false

theorem spelled_short {f m : Int → Bool} {l : List UInt8} (h : spelledB f m l = true) : l.length ≤ 255 := by
  rcases Nat.lt_or_ge 255 l.length with h1 | h1
  · rw [spelledB_long (by omega)] at h; cases h
  · exact h1
theorem spelled_some {f m : Int → Bool} {l : List UInt8} (h : spelledB f m l = true) : l ≠ [] := by
  rintro rfl
  cases h
theorem named_term {t : Tm} (h : termB t = true) : t.2 ≠ [] ∧ t.2.length ≤ 255 := by
  unfold termB at h
  split at h
  · exact ⟨spelled_some h, spelled_short h⟩
  · unfold constantB at h
    rw [Bool.and_eq_true] at h
    exact ⟨spelled_some h.1, spelled_short h.1⟩
theorem principal_short {l : List UInt8} (h : principalB l = true) : l.length ≤ 255 := by
  unfold principalB at h
  rw [Bool.and_eq_true] at h
  exact spelled_short h.1
def padN (s p : List UInt8) (L : List Tm) : Atm := (s, p, (L.length : Int), L.getD 0 (false, []), L.getD 1 (false, []), L.getD 2 (false, []), L.getD 3 (false, []))
theorem pad_count {s p : List UInt8} {L : List Tm} (h : L.length ≤ 4) : countA (padN s p L) = L.length := by
  show (min (max (L.length : Int) 0) 4).toNat = L.length
  omega
theorem pad_take {s p : List UInt8} {L : List Tm} (h : L.length ≤ 4) : (argsL (padN s p L)).take (countA (padN s p L)) = L := by
  rw [pad_count h]
  match L, h with
  | [], _ => rfl
  | [_], _ => rfl
  | [_, _], _ => rfl
  | [_, _, _], _ => rfl
  | [_, _, _, _], _ => rfl
theorem checkA_range {a : Atm} (h : checkA a = 0) : 0 ≤ a.2.2.1 ∧ a.2.2.1 ≤ 4 := by
  unfold checkA at h
  by_cases h1 : (!(principalB a.1 && principalB a.2.1)) = true
  · rw [if_pos h1] at h; cases h
  rw [if_neg h1] at h
  by_cases h2 : a.2.2.1 < 0 ∨ 4 < a.2.2.1
  · rw [if_pos h2] at h; cases h
  exact ⟨by omega, by omega⟩
/-- Terms that have names, of at most 300 bytes. -/
def NamedL (L : List Tm) : Prop := L.length ≤ 4 ∧ ∀ t ∈ L, t.2 ≠ [] ∧ t.2.length ≤ 300
theorem valid_pad {a : Atm} (h : checkA a = 0) : ∃ L : List Tm, NamedL L ∧ a = padN a.1 a.2.1 L ∧ a.1.length ≤ 255 ∧ a.2.1.length ≤ 255 ∧ ∀ t ∈ L, termB t = true := by
  have hr := checkA_range h
  unfold checkA at h
  by_cases h1 : (!(principalB a.1 && principalB a.2.1)) = true
  · rw [if_pos h1] at h; cases h
  rw [if_neg h1, if_neg (by omega)] at h
  by_cases h3 : (!(((argsL a).take a.2.2.1.toNat).all termB)) = true
  · rw [if_pos h3] at h; cases h
  rw [if_neg h3] at h
  by_cases h4 : (!(((argsL a).drop a.2.2.1.toNat).all fun t => decide (t = (false, [])))) = true
  · rw [if_pos h4] at h; cases h
  simp only [Bool.not_eq_true', Bool.not_eq_false, Bool.and_eq_true, List.all_eq_true, decide_eq_true_eq] at h1 h3 h4
  refine ⟨(argsL a).take a.2.2.1.toNat, ⟨by rw [List.length_take, argsL_len]; omega, fun t ht => ⟨(named_term (h3 t ht)).1, by have := (named_term (h3 t ht)).2; omega⟩⟩, ?_, principal_short h1.1, principal_short h1.2, h3⟩
  obtain ⟨s, p, n, t0, t1, t2, t3⟩ := a
  obtain ⟨m, rfl⟩ : ∃ m : Nat, n = (m : Int) := ⟨n.toNat, by have := hr.1; simp only at this; omega⟩
  have hm : m ≤ 4 := by have := hr.2; simp only at this; omega
  simp only [Int.toNat_natCast] at h4
  simp only [padN, Int.toNat_natCast]
  have hz : ∀ t ∈ ([t0, t1, t2, t3] : List Tm).drop m, t = (false, []) := h4
  match m, hm with
  | 0, _ => simp at hz; simp [argsL, hz]
  | 1, _ => simp at hz; simp [argsL, hz]
  | 2, _ => simp at hz; simp [argsL, hz]
  | 3, _ => simp at hz; simp [argsL, hz]
  | 4, _ => simp [argsL]
/-- An atom under bindings. -/
def applyA (l : List Bnd) (a : Atm) : Atm :=
  let c := countA a
  let f := fun (k : Nat) (t : Tm) => if k < c then termS l t else t
  (a.1, a.2.1, a.2.2.1, f 0 a.2.2.2.1, f 1 a.2.2.2.2.1, f 2 a.2.2.2.2.2.1, f 3 a.2.2.2.2.2.2)
theorem apply_pad (l : List Bnd) {s p : List UInt8} {L : List Tm} (h : L.length ≤ 4) : applyA l (padN s p L) = padN s p (L.map (termS l)) := by
  unfold applyA
  simp only
  rw [pad_count h]
  match L, h with
  | [], _ => rfl
  | [_], _ => rfl
  | [_, _], _ => rfl
  | [_, _, _], _ => rfl
  | [_, _, _, _], _ => rfl
theorem pad_inj {s p s' p' : List UInt8} {L M : List Tm} (hL : L.length ≤ 4) (hM : M.length ≤ 4) : padN s p L = padN s' p' M ↔ s = s' ∧ p = p' ∧ L = M := by
  constructor
  · intro h
    refine ⟨congrArg (·.1) h, congrArg (·.2.1) h, ?_⟩
    rw [← pad_take (s := s) (p := p) hL, ← pad_take (s := s') (p := p') hM, h]
  · rintro ⟨rfl, rfl, rfl⟩; rfl
/-- What makes two atoms one. -/
def uniA (a b : Atm) : Option (List Bnd) :=
  if a.1 = b.1 ∧ a.2.1 = b.2.1 ∧ a.2.2.1 = b.2.2.1 then uniF (((argsL a).zip (argsL b)).take (countA a)) [] else none
theorem uniA_pad {s p s' p' : List UInt8} {L M : List Tm} (hL : L.length ≤ 4) (hM : M.length ≤ 4) : uniA (padN s p L) (padN s' p' M) = if s = s' ∧ p = p' ∧ L.length = M.length then uniF (L.zip M) [] else none := by
  have e : uniA (padN s p L) (padN s' p' M) = if s = s' ∧ p = p' ∧ (L.length : Int) = (M.length : Int) then uniF (((argsL (padN s p L)).zip (argsL (padN s' p' M))).take (countA (padN s p L))) [] else none := rfl
  rw [e]
  by_cases h : s = s' ∧ p = p' ∧ L.length = M.length
  · have h' : s = s' ∧ p = p' ∧ (L.length : Int) = (M.length : Int) := ⟨h.1, h.2.1, by omega⟩
    rw [if_pos h, if_pos h', List.zip, List.take_zipWith, pad_take hL]
    have hc : countA (padN s p L) = countA (padN s' p' M) := by rw [pad_count hL, pad_count hM, h.2.2]
    rw [hc, pad_take hM]
  · rw [if_neg h, if_neg (fun e => h ⟨e.1, e.2.1, by omega⟩)]
theorem zip_swap' : ∀ (L M : List Tm), L.zip M = (M.zip L).map Prod.swap
  | [], [] => rfl
  | [], _ :: _ => rfl
  | _ :: _, [] => rfl
  | a :: L, b :: M => by simp only [List.zip_cons_cons, List.map_cons, zip_swap' L M]; rfl
theorem uniA_swap {s p s' p' : List UInt8} {L M : List Tm} (hL : L.length ≤ 4) (hM : M.length ≤ 4) : uniA (padN s' p' M) (padN s p L) = uniA (padN s p L) (padN s' p' M) := by
  rw [uniA_pad hL hM, uniA_pad hM hL, zip_swap' M L, uni_swap]
  by_cases h : s = s' ∧ p = p' ∧ L.length = M.length
  · rw [if_pos h, if_pos ⟨h.1.symm, h.2.1.symm, h.2.2.symm⟩]
  · rw [if_neg h, if_neg (fun e => h ⟨e.1.symm, e.2.1.symm, e.2.2.symm⟩)]
theorem named_zip {L M : List Tm} (hL : NamedL L) (hM : NamedL M) : NamedP (L.zip M) := by
  intro q hq
  have := List.of_mem_zip (show (q.1, q.2) ∈ L.zip M from hq)
  exact ⟨(hL.2 _ this.1).1, (hM.2 _ this.2).1⟩
theorem map_zip {f : Tm → Tm} : ∀ {L M : List Tm}, L.length = M.length → ((∀ q ∈ L.zip M, f q.1 = f q.2) ↔ L.map f = M.map f)
  | [], [], _ => by simp
  | [], _ :: _, h => by cases h
  | _ :: _, [], h => by cases h
  | a :: L, b :: M, h => by
    simp only [List.zip_cons_cons, List.mem_cons, List.map_cons, List.cons.injEq]
    rw [← map_zip (f := f) (L := L) (M := M) (by simpa using h)]
    constructor
    · intro hh; exact ⟨hh _ (.inl rfl), fun q hq => hh q (.inr hq)⟩
    · rintro ⟨h1, h2⟩ q (rfl | hq)
      · exact h1
      · exact h2 q hq
theorem uniA_sound {s p s' p' : List UInt8} {L M : List Tm} {m : List Bnd} (hL : NamedL L) (hM : NamedL M) (h : uniA (padN s p L) (padN s' p' M) = some m) :
    InvB m ∧ m.length ≤ 4 ∧ applyA m (padN s p L) = applyA m (padN s' p' M) := by
  rw [uniA_pad hL.1 hM.1] at h
  split at h
  · rename_i he
    obtain ⟨rfl, rfl, hl⟩ := he
    obtain ⟨h1, h2, h3⟩ := uni_sound InvB.nil (named_zip hL hM) h
    refine ⟨h1, ?_, ?_⟩
    · have := uni_len h
      rw [List.length_zip, List.length_nil] at this
      have := hL.1
      omega
    · rw [apply_pad m hL.1, apply_pad m hM.1, (map_zip hl).1 h3]
  · cases h
theorem uniA_most {s p s' p' : List UInt8} {L M : List Tm} {l : List Bnd} (hL : NamedL L) (hM : NamedL M) (h : applyA l (padN s p L) = applyA l (padN s' p' M)) :
    ∃ m, uniA (padN s p L) (padN s' p' M) = some m ∧ applyA l (applyA m (padN s p L)) = applyA l (padN s p L) := by
  rw [apply_pad l hL.1, apply_pad l hM.1, pad_inj (by rw [List.length_map]; exact hL.1) (by rw [List.length_map]; exact hM.1)] at h
  obtain ⟨rfl, rfl, h⟩ := h
  have hl : L.length = M.length := by have := congrArg List.length h; rwa [List.length_map, List.length_map] at this
  obtain ⟨m, h1, h2⟩ := uni_most (σ := termS l) (fun t ht => termS_const l ht) InvB.nil (named_zip hL hM) (fun t => by rw [termS_nil]) ((map_zip hl).2 h)
  refine ⟨m, by rw [uniA_pad hL.1 hM.1, if_pos ⟨rfl, rfl, hl⟩]; exact h1, ?_⟩
  rw [apply_pad m hL.1, apply_pad l (by rw [List.length_map]; exact hL.1), apply_pad l hL.1, List.map_map]
  congr 1
  exact List.map_congr_left fun t _ => h2 t

/-- Matching. -/
def matchF : List (Tm × Tm) → List Bnd → Option (List Bnd)
  | [], l => some l
  | p :: r, l => if p.1.1 then (match getB l p.1.2 with | some z => if z = p.2 then matchF r l else none | none => matchF r (bindP l p.1.2 p.2)) else if p.1 = p.2 then matchF r l else none
def ConstL (l : List Bnd) : Prop := ∀ b ∈ l, b.2.1 = false
theorem const_bind {l : List Bnd} {v : List UInt8} {x : Tm} (h : ConstL l) (hx : x.1 = false) : ConstL (bindP l v x) := by
  intro b hb
  rcases mem_ins hb with rfl | hb
  · exact hx
  · obtain ⟨c, hc, rfl⟩ := List.mem_map.1 hb
    show (termS _ c.2).1 = false
    rw [termS_const _ (h c hc)]
    exact h c hc
theorem match_uni : ∀ {P : List (Tm × Tm)} {l : List Bnd}, ConstL l → (∀ p ∈ P, p.2.1 = false) → matchF P l = uniF P l
  | [], l, _, _ => rfl
  | p :: r, l, hl, hp => by
    have h2 := hp p List.mem_cons_self
    have hr : ∀ q ∈ r, q.2.1 = false := fun q hq => hp q (List.mem_cons_of_mem _ hq)
    rw [matchF, uniF, termS_const l h2]
    cases hv : p.1.1
    · rw [termS_const l hv, hv, h2]
      simp only [Bool.false_eq_true, if_false, Bool.false_and]
      rw [match_uni hl hr]
    · simp only [if_true]
      have e : termS l p.1 = (getB l p.1.2).getD p.1 := by unfold termS; rw [hv]; rfl
      rw [e]
      cases hg : getB l p.1.2 with
      | some z =>
        have hz : z.1 = false := hl _ (getB_mem hg)
        simp only [Option.getD_some]
        rw [hz, h2, match_uni hl hr]
        simp
      | none =>
        simp only [Option.getD_none]
        rw [hv, h2, if_neg (fun e => by rw [e, h2] at hv; cases hv)]
        simp only [Bool.not_false, Bool.true_or, Bool.and_true, if_true]
        exact match_uni (const_bind hl h2) hr
end Go.Proofs.YtbgdljcgbhhfdaaGreatDoor
