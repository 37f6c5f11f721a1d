/- Requests and responses: what is read back, what is cut, and the functions' answers told case by case. -/
import Derived.Test.YtkdeokgkjmboeaaDoorFrL
namespace Go.Proofs.YtkdeokgkjmboeaaDoor
open Go.RowKit

theorem rqB_pos (k : Int) (a : Atm) : 1 ≤ (rqB k a).length := by unfold rqB; rw [List.length_cons]; omega
theorem readRq_rqB {k : Nat} {a : Atm} (h : mayRq (k : Int) a = true) : readRq (rqB (k : Int) a) = some (k, a) := readRq_iff.2 ⟨h, rfl⟩
theorem mayRq_nat {k : Int} {a : Atm} (h : mayRq k a = true) : ∃ n : Nat, k = (n : Int) ∧ 1 ≤ n ∧ n ≤ 3 ∧ checkA a = 0 := by
  simp only [mayRq, Bool.and_eq_true, decide_eq_true_eq, beq_iff_eq] at h
  exact ⟨k.toNat, by omega, by omega, by omega, h.2.2⟩
theorem rq_cut_none {k : Int} {a : Atm} (h : mayRq k a = true) {p : Nat} (hp : p < (rqB k a).length) : readRq ((rqB k a).take p) = none := by
  cases hr : readRq ((rqB k a).take p) with
  | none => rfl
  | some q =>
    obtain ⟨l, b⟩ := q
    obtain ⟨hb, he⟩ := readRq_iff.1 hr
    have h2 : rqB (l : Int) b ++ (rqB k a).drop p = rqB k a := by rw [← he, List.take_append_drop]
    have h3 := congrArg List.length (rq_pre hb h h2)
    rw [List.length_drop, List.length_nil] at h3
    omega
theorem rq_ext {k : Nat} {a : Atm} (h : mayRq (k : Int) a = true) (r : List UInt8) : readRq (rqB (k : Int) a ++ r) = if r.isEmpty then some (k, a) else none := by
  cases r with
  | nil => rw [List.append_nil]; exact readRq_rqB h
  | cons c r =>
    simp only [List.isEmpty_cons, Bool.false_eq_true, if_false]
    cases hr : readRq (rqB (k : Int) a ++ c :: r) with
    | none => rfl
    | some q =>
      obtain ⟨l, b⟩ := q
      obtain ⟨hb, he⟩ := readRq_iff.1 hr
      cases rq_pre h hb he
theorem readRq_atom {s : List UInt8} {k : Nat} {a : Atm} (h : readRq s = some (k, a)) : checkA a = 0 := (mayRq_nat (readRq_iff.1 h).1).elim fun _ h => h.2.2.2

theorem readreq_yes (s : List UInt8) (k : Nat) (b_s b_p : List UInt8) (b_n : Int) (b_v0 b_v1 b_v2 b_v3 : Bool) (b_l0 b_l1 b_l2 b_l3 : List UInt8) (w : World) (hs : s.length ≤ 4096) (hE : Env w) (h : readRq s = some (k, ((b_s, b_p, b_n, (b_v0, b_l0), (b_v1, b_l1), (b_v2, b_l2), (b_v3, b_l3)) : Atm))) :
    Calls Tryd.prog 14 #[.string ⟨s.toArray⟩] w fun e w' => e = .returned (.tuple #[.agg #[.int .i64 (k : Int), .string ⟨b_s.toArray⟩, .string ⟨b_p.toArray⟩, .int .i64 b_n, .bool b_v0, .string ⟨b_l0.toArray⟩, .bool b_v1, .string ⟨b_l1.toArray⟩, .bool b_v2, .string ⟨b_l2.toArray⟩, .bool b_v3, .string ⟨b_l3.toArray⟩], .int .i64 0]) ∧ Since w w' := by
  unfold readRq at h
  split at h
  · cases h
  · rename_i hc
    rw [Bool.not_eq_true] at hc
    obtain ⟨hk, ha⟩ := Prod.ext_iff.1 (Option.some.inj h)
    have h1 := readreq_any s w hs hE k b_s b_p b_n b_v0 b_v1 b_v2 b_v3 b_l0 b_l1 b_l2 b_l3 (oneF s false).2.1 (atomF (oneF s false).2.1 (oneF s false).2.2).2.1 (oneF s false).2.2 (atomF (oneF s false).2.1 (oneF s false).2.2).2.2 (Prod.ext hk rfl) (Prod.ext ha rfl)
    simp only at hk ha
    rw [hk, ha] at hc
    rw [hc] at h1
    exact h1
theorem readreq_no (s : List UInt8) (w : World) (hs : s.length ≤ 4096) (hE : Env w) (h : readRq s = none) :
    Calls Tryd.prog 14 #[.string ⟨s.toArray⟩] w fun e w' => e = .returned (.tuple #[.agg #[.int .i64 0, .string ⟨#[]⟩, .string ⟨#[]⟩, .int .i64 0, .bool false, .string ⟨#[]⟩, .bool false, .string ⟨#[]⟩, .bool false, .string ⟨#[]⟩, .bool false, .string ⟨#[]⟩], .int .i64 15]) ∧ Since w w' := by
  unfold readRq at h
  split at h
  · rename_i hc
    generalize ho : oneF s false = o at *
    obtain ⟨k, s1, b1⟩ := o
    simp only at hc
    generalize hat : atomF s1 b1 = q at *
    obtain ⟨⟨a_s, a_p, a_n, ⟨a_v0, a_l0⟩, ⟨a_v1, a_l1⟩, ⟨a_v2, a_l2⟩, ⟨a_v3, a_l3⟩⟩, s2, b2⟩ := q
    simp only at hc
    have h1 := readreq_any s w hs hE k a_s a_p a_n a_v0 a_v1 a_v2 a_v3 a_l0 a_l1 a_l2 a_l3 s1 s2 b1 b2 ho hat
    rw [hc] at h1
    exact h1
  · cases h
theorem readresp_yes (s : List UInt8) (x : Rsp) (w : World) (hs : s.length ≤ 900000) (hE : Env w) (h : readRs s = some x) :
    Calls Tryd.prog 15 #[.string ⟨s.toArray⟩] w fun e w' => ∃ v, e = .returned (.tuple #[.agg #[.int .i64 x.1, .bool x.2.1, v, .string ⟨x.2.2.2.toArray⟩], .int .i64 0]) ∧ AtmRow w' v x.2.2.1 ∧ Since w w' := by
  have h1 := readresp_any s w hs hE
  unfold RsPost at h1
  rw [h] at h1
  exact h1
theorem readresp_no (s : List UInt8) (w : World) (hs : s.length ≤ 900000) (hE : Env w) (h : readRs s = none) :
    Calls Tryd.prog 15 #[.string ⟨s.toArray⟩] w fun e w' => ∃ v, e = .returned (.tuple #[.agg #[.int .i64 0, .bool false, v, .string ⟨#[]⟩], .int .i64 15]) ∧ AtmRow w' v [] ∧ Since w w' := by
  have h1 := readresp_any s w hs hE
  unfold RsPost at h1
  rw [h] at h1
  exact h1
theorem request_yes' (k : Int) (a_s a_p : List UInt8) (a_n : Int) (a_v0 a_v1 a_v2 a_v3 : Bool) (a_l0 a_l1 a_l2 a_l3 : List UInt8) (w : World) (hF : FitsA ((a_s, a_p, a_n, (a_v0, a_l0), (a_v1, a_l1), (a_v2, a_l2), (a_v3, a_l3)) : Atm)) (hE : Env w) (hm : mayRq k ((a_s, a_p, a_n, (a_v0, a_l0), (a_v1, a_l1), (a_v2, a_l2), (a_v3, a_l3)) : Atm) = true) :
    Calls Tryd.prog 11 #[.agg #[.int .i64 k, .string ⟨a_s.toArray⟩, .string ⟨a_p.toArray⟩, .int .i64 a_n, .bool a_v0, .string ⟨a_l0.toArray⟩, .bool a_v1, .string ⟨a_l1.toArray⟩, .bool a_v2, .string ⟨a_l2.toArray⟩, .bool a_v3, .string ⟨a_l3.toArray⟩]] w fun e w' => e = .returned (.tuple #[.string ⟨(rqB k ((a_s, a_p, a_n, (a_v0, a_l0), (a_v1, a_l1), (a_v2, a_l2), (a_v3, a_l3)) : Atm)).toArray⟩, .int .i64 0]) ∧ Since w w' := by
  obtain ⟨n, rfl, _⟩ := mayRq_nat hm
  exact request_yes n a_s a_p a_n a_v0 a_v1 a_v2 a_v3 a_l0 a_l1 a_l2 a_l3 w hF hE hm
theorem response_good (code : Int) (ch : Bool) (v : Value) (L : List Atm) (ct : List UInt8) (w : World) (hE : Env w) (hv : AtmRow w v L) (hg : ∀ x ∈ L, lightB x = true) (hm : L.length ≤ 10000) (hr : mayRs (code, ch, L, ct) = true) (hT : (rsB (code, ch, L, ct)).length ≤ 500000) :
    Calls Tryd.prog 12 #[.agg #[.int .i64 code, .bool ch, v, .string ⟨ct.toArray⟩]] w fun e w' => e = .returned (.tuple #[.string ⟨(rsB (code, ch, L, ct)).toArray⟩, .int .i64 0]) ∧ Since w w' := by
  rcases mayRs_cases hr with ⟨h0, hp, h16, hch, hL, hct⟩ | ⟨h0, _⟩
  · simp only at h0 hp h16 hch hL hct
    subst hch hL hct
    obtain ⟨n, rfl⟩ : ∃ n : Nat, code = (n : Int) := ⟨code.toNat, by omega⟩
    obtain ⟨a, c, rfl⟩ := hv.form
    have h := response_err n a c w hE (by omega) (by omega) hr
    have e : rsB ((n : Int), false, [], []) = [UInt8.ofNat n] := by
      unfold rsB
      simp only
      rw [if_pos h0, Int.toNat_natCast]
    rw [e]
    exact h
  · simp only at h0
    subst h0
    exact response_yes ch v L ct w hE hv hg hm hr hT

theorem flatA_len (B : Nat) : ∀ (L : List Atm), (∀ a ∈ L, (atomB a).length ≤ B) → (L.flatMap atomB).length ≤ L.length * B
  | [], _ => by simp
  | a :: r, h => by
    have h1 := flatA_len B r fun x hx => h x (List.mem_cons_of_mem _ hx)
    have h2 := h a (by simp)
    rw [List.flatMap_cons, List.length_append, List.length_cons, Nat.add_mul]
    omega
theorem flatA_pos : ∀ (L : List Atm), L.length ≤ (L.flatMap atomB).length
  | [] => by simp
  | a :: r => by
    have h1 := flatA_pos r
    have h2 := atomB_pos a
    rw [List.flatMap_cons, List.length_append, List.length_cons]
    omega
theorem rsB_light {x : Rsp} (hg : ∀ a ∈ x.2.2.1, lightB a = true) (hl : x.2.2.1.length ≤ 20) (hc : x.2.2.2.length ≤ 2000) : (rsB x).length ≤ 100000 := by
  unfold rsB
  split
  · simp
  · have h1 := flatA_len 2000 x.2.2.1 fun a ha => atomB_le (hg a ha)
    have h2 := num_len x.2.2.1.length
    have h3 := num_len x.2.2.2.length
    unfold textB
    simp only [List.length_cons, List.length_append]
    omega
theorem rsB_parts {x : Rsp} (hm : mayRs x = true) {n : Nat} (hn : (rsB x).length ≤ n) : x.2.2.1.length ≤ n ∧ x.2.2.2.length ≤ n := by
  rcases mayRs_cases hm with ⟨h0, hp, h16, hch, hL, hct⟩ | ⟨h0, _⟩
  · rw [hL, hct]; simp
  · unfold rsB at hn
    rw [if_neg (by simp [h0])] at hn
    have h1 := flatA_pos x.2.2.1
    unfold textB at hn
    simp only [List.length_cons, List.length_append] at hn
    omega
theorem rs_light {x : Rsp} (hm : mayRs x = true) : ∀ a ∈ x.2.2.1, lightB a = true := by
  rcases mayRs_cases hm with ⟨h0, hp, h16, hch, hL, hct⟩ | ⟨h0, _, hv, _⟩
  · rw [hL]; simp
  · exact fun a ha => valid_light (hv a ha).1
theorem mayRs_code {x : Rsp} (hm : mayRs x = true) : 0 ≤ x.1 ∧ x.1 ≤ 16 := by
  rcases mayRs_cases hm with ⟨h0, hp, h16, _⟩ | ⟨h0, _⟩
  · omega
  · omega
theorem sameR_self (x : Rsp) : sameR x x = true := sameR_iff.2 rfl
end Go.Proofs.YtkdeokgkjmboeaaDoor
