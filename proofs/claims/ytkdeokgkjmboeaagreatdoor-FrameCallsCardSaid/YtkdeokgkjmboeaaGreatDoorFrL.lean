/- What the laws of layer 24 share: requests compared, LightAtoms, lives. Requests and responses: what is read back, what is cut, and the functions' answers told case by case. -/
import Derived.Test.YtkdeokgkjmboeaaGreatDoorFrH
import Derived.Test.YtkdeokgkjmboeaaGreatDoorFrO
import Derived.Test.YtkdeokgkjmboeaaGreatDoorEq
import Derived.Test.YtkdeokgkjmboeaaGreatDoorPick
namespace Go.Proofs.YtkdeokgkjmboeaaGreatDoor
open Go.RowKit
attribute [local go_sem ↓] run_termEq
set_option maxHeartbeats 1000000 in
theorem run_arrEq9 (v0 v1 v2 v3 u0 u1 u2 u3 : Bool) (l0 l1 l2 l3 m0 m1 m2 m3 : List UInt8) (W : World) :
    (Op.equalIn 9998 24 (.agg #[.bool v0, .string ⟨l0.toArray⟩, .bool v1, .string ⟨l1.toArray⟩, .bool v2, .string ⟨l2.toArray⟩, .bool v3, .string ⟨l3.toArray⟩]) (.agg #[.bool u0, .string ⟨m0.toArray⟩, .bool u1, .string ⟨m1.toArray⟩, .bool u2, .string ⟨m2.toArray⟩, .bool u3, .string ⟨m3.toArray⟩])).run Tryz.prog W =
      .ok (eqT (v0, l0) (u0, m0) && (eqT (v1, l1) (u1, m1) && (eqT (v2, l2) (u2, m2) && eqT (v3, l3) (u3, m3)))) W := by
  have hs : ∀ W, (sizeOf 23).run Tryz.prog W = .ok 2 W := fun W => by kernel_rfl
  have ht : ∀ (v u : Bool) (l m : List UInt8) (W : World), (Op.equalIn 9997 23 (.agg #[.bool v, .string ⟨l.toArray⟩]) (.agg #[.bool u, .string ⟨m.toArray⟩])).run Tryz.prog W = .ok (eqT (v, l) (u, m)) W := fun v u l m W => run_termEq 9995 v u l m W
  rw [show (9998 : Nat) = 9997 + 1 from rfl, Op.equalIn]
  simp only [Sem.run_bind, run_underlying Tryz.underlying24, Result.andThen_ok, hs]
  simp only [Std.Legacy.Range.forIn_eq_forIn_range', Std.Legacy.Range.size, Nat.sub_zero, Nat.add_sub_cancel, Nat.div_one, List.range'_succ, List.range'_zero, List.forIn_cons, List.forIn_nil]
  generalize hQ : (9997 : Nat) = Q at *
  go_simp
  clear ht
  cases eqT (v0, l0) (u0, m0) <;> cases eqT (v1, l1) (u1, m1) <;> cases eqT (v2, l2) (u2, m2) <;> cases eqT (v3, l3) (u3, m3) <;> simp
attribute [local go_sem ↓] run_arrEq9
set_option maxHeartbeats 999900 in
theorem run_atomEq9 (a_s a_p : List UInt8) (a_n : Int) (a_v0 a_v1 a_v2 a_v3 : Bool) (a_l0 a_l1 a_l2 a_l3 : List UInt8) (b_s b_p : List UInt8) (b_n : Int) (b_v0 b_v1 b_v2 b_v3 : Bool) (b_l0 b_l1 b_l2 b_l3 : List UInt8) (W : World) : (Op.equalIn 9999 26 (.agg #[.string ⟨a_s.toArray⟩, .string ⟨a_p.toArray⟩, .int .i64 a_n, .bool a_v0, .string ⟨a_l0.toArray⟩, .bool a_v1, .string ⟨a_l1.toArray⟩, .bool a_v2, .string ⟨a_l2.toArray⟩, .bool a_v3, .string ⟨a_l3.toArray⟩]) (.agg #[.string ⟨b_s.toArray⟩, .string ⟨b_p.toArray⟩, .int .i64 b_n, .bool b_v0, .string ⟨b_l0.toArray⟩, .bool b_v1, .string ⟨b_l1.toArray⟩, .bool b_v2, .string ⟨b_l2.toArray⟩, .bool b_v3, .string ⟨b_l3.toArray⟩])).run Tryz.prog W = .ok (eqA ((a_s, a_p, a_n, (a_v0, a_l0), (a_v1, a_l1), (a_v2, a_l2), (a_v3, a_l3)) : Atm) ((b_s, b_p, b_n, (b_v0, b_l0), (b_v1, b_l1), (b_v2, b_l2), (b_v3, b_l3)) : Atm)) W := by
  have ha := fun W => run_arrEq9 a_v0 a_v1 a_v2 a_v3 b_v0 b_v1 b_v2 b_v3 a_l0 a_l1 a_l2 a_l3 b_l0 b_l1 b_l2 b_l3 W
  go_simp
  have e : decide (argsL ((a_s, a_p, a_n, (a_v0, a_l0), (a_v1, a_l1), (a_v2, a_l2), (a_v3, a_l3)) : Atm) = argsL ((b_s, b_p, b_n, (b_v0, b_l0), (b_v1, b_l1), (b_v2, b_l2), (b_v3, b_l3)) : Atm)) = (eqT (a_v0, a_l0) (b_v0, b_l0) && (eqT (a_v1, a_l1) (b_v1, b_l1) && (eqT (a_v2, a_l2) (b_v2, b_l2) && eqT (a_v3, a_l3) (b_v3, b_l3)))) := by
    rw [Bool.eq_iff_iff, decide_eq_true_eq]
    simp only [Bool.and_eq_true, eqT_iff]
    simp only [argsL, List.cons.injEq, and_true]
  unfold eqA
  rw [e]
  clear e ha
  generalize eqT (a_v0, a_l0) (b_v0, b_l0) = r0
  generalize eqT (a_v1, a_l1) (b_v1, b_l1) = r1
  generalize eqT (a_v2, a_l2) (b_v2, b_l2) = r2
  generalize eqT (a_v3, a_l3) (b_v3, b_l3) = r3
  by_cases h1 : a_s = b_s <;> by_cases h2 : a_p = b_p <;> by_cases h3 : a_n = b_n <;> cases r0 <;> cases r1 <;> cases r2 <;> cases r3 <;> simp [h1, h2, h3]
attribute [local go_sem ↓] run_atomEq9
def eqRq (k l : Int) (a b : Atm) : Bool := decide (k = l) && eqA a b
theorem eqRq_iff {k l : Int} {a b : Atm} : eqRq k l a b = true ↔ k = l ∧ a = b := by
  rw [eqRq, Bool.and_eq_true, decide_eq_true_eq, eqA_iff]
theorem eqRq_self (k : Int) (a : Atm) : eqRq k k a a = true := eqRq_iff.2 ⟨rfl, rfl⟩
set_option maxHeartbeats 1000000 in
theorem run_reqEq (k l : Int) (a_s a_p : List UInt8) (a_n : Int) (a_v0 a_v1 a_v2 a_v3 : Bool) (a_l0 a_l1 a_l2 a_l3 : List UInt8) (b_s b_p : List UInt8) (b_n : Int) (b_v0 b_v1 b_v2 b_v3 : Bool) (b_l0 b_l1 b_l2 b_l3 : List UInt8) (W : World) : (Op.equalIn 10000 28 (.agg #[.int .i64 k, .string ⟨a_s.toArray⟩, .string ⟨a_p.toArray⟩, .int .i64 a_n, .bool a_v0, .string ⟨a_l0.toArray⟩, .bool a_v1, .string ⟨a_l1.toArray⟩, .bool a_v2, .string ⟨a_l2.toArray⟩, .bool a_v3, .string ⟨a_l3.toArray⟩]) (.agg #[.int .i64 l, .string ⟨b_s.toArray⟩, .string ⟨b_p.toArray⟩, .int .i64 b_n, .bool b_v0, .string ⟨b_l0.toArray⟩, .bool b_v1, .string ⟨b_l1.toArray⟩, .bool b_v2, .string ⟨b_l2.toArray⟩, .bool b_v3, .string ⟨b_l3.toArray⟩])).run Tryz.prog W = .ok (eqRq k l ((a_s, a_p, a_n, (a_v0, a_l0), (a_v1, a_l1), (a_v2, a_l2), (a_v3, a_l3)) : Atm) ((b_s, b_p, b_n, (b_v0, b_l0), (b_v1, b_l1), (b_v2, b_l2), (b_v3, b_l3)) : Atm)) W := by
  have ha := fun W => run_atomEq9 a_s a_p a_n a_v0 a_v1 a_v2 a_v3 a_l0 a_l1 a_l2 a_l3 b_s b_p b_n b_v0 b_v1 b_v2 b_v3 b_l0 b_l1 b_l2 b_l3 W
  go_simp
  unfold eqRq
  clear ha
  generalize eqA ((a_s, a_p, a_n, (a_v0, a_l0), (a_v1, a_l1), (a_v2, a_l2), (a_v3, a_l3)) : Atm) ((b_s, b_p, b_n, (b_v0, b_l0), (b_v1, b_l1), (b_v2, b_l2), (b_v3, b_l3)) : Atm) = r
  by_cases h1 : k = l <;> cases r <;> simp [h1]
def lightAs (n : Nat) (L : List Atm) : Bool := !decide (n < L.length) && L.all lightB
set_option maxHeartbeats 2000000 in
set_option maxRecDepth 100000 in
theorem lightAs_any (v : Value) (L : List Atm) (w : World) (hv : AtmRow w v L) :
    Calls Tryz.prog 6 #[v, .int .i64 20] w fun e w' => e = .returned (.bool (lightAs 20 L)) ∧ Since w w' := by
  obtain ⟨a, c, rfl⟩ := hv.form
  have HV := Lib.hid hv
  clear hv
  cases h20 : decide ((20 : Int) < (L.length : Int))
  case true =>
    have hR : lightAs 20 L = false := by
      have : decide (20 < L.length) = true := by simp at h20 ⊢; omega
      rw [lightAs, this]; rfl
    rw [hR]
    clear hR
    go_enter Tryz.func6, Tryz.ntmps6
    go_wp2_with fail
    go_ret
    exact ⟨rfl, Since.refl _⟩
  case false =>
    have hl : L.length ≤ 20 := by simp at h20; omega
    obtain ⟨R, hR⟩ : ∃ R, Hid (R = lightAs 20 L) := ⟨_, rfl⟩
    have hR0 : Hid (R = (L.drop 0).all lightB) := by
      have : decide (20 < L.length) = false := by simp; omega
      show _ = _
      rw [hR.out, lightAs, this]; rfl
    rw [← hR.out]
    clear hR
    go_enter Tryz.func6, Tryz.ntmps6
    go_wp2_with fail
    clear h20
    go_loopw [5] (fun i wr => ∃ k : Nat, k ≤ L.length ∧ i = .int .i64 (k : Int) ∧ Since w wr ∧ Hid (R = (L.drop k).all lightB)) (fun i _ => L.length - (intOf i).toNat)
    case atStart => exact ⟨0, Nat.zero_le _, rfl, Since.refl _, hR0.out⟩
    case round =>
      clear hR0
      obtain ⟨k, hk, rfl, hS, hres⟩ := hrel
      by_cases hlt : k < L.length
      · obtain ⟨_, b, o, he, _, hat⟩ := (HV.out.next hS).get (by omega)
        cases he
        have hx := hat k hlt
        have hkl : (k : Int) < (L.length : Int) := by omega
        have HST : Hid (R = (lightB L[k] && (L.drop (k + 1)).all lightB)) := by show _ = _; rw [hres.out, List.drop_eq_getElem_cons hlt, List.all_cons]
        clear hat hres
        generalize L[k] = x at *
        obtain ⟨a_s, a_p, a_n, ⟨a_v0, a_l0⟩, ⟨a_v1, a_l1⟩, ⟨a_v2, a_l2⟩, ⟨a_v3, a_l3⟩⟩ := x
        obtain ⟨a_c0, a_c1, a_c2, a_c3, a_c4, a_c5, a_c6, a_c7, a_c8, a_c9, a_c10⟩ := hx.all
        clear hx
        have HLA := Lib.hid (fun W => light_any a_s a_p a_n a_v0 a_v1 a_v2 a_v3 a_l0 a_l1 a_l2 a_l3 W)
        cases g1 : lightB ((a_s, a_p, a_n, (a_v0, a_l0), (a_v1, a_l1), (a_v2, a_l2), (a_v3, a_l3)) : Atm)
        · have HN : Hid (R = false) := by show _ = _; rw [HST.out, g1]; rfl
          rw [g1] at HLA
          go_wp2_with fail
          refine (HLA.out _).mono ?_
          rintro e w3 ⟨rfl, hb⟩
          clear a_c0 a_c1 a_c2 a_c3 a_c4 a_c5 a_c6 a_c7 a_c8 a_c9 a_c10
          go_wp2_with fail
          go_ret
          exact ⟨ret_bool HN.out.symm, hS.trans hb⟩
        · have HN : Hid (R = (L.drop (k + 1)).all lightB) := by show _ = _; rw [HST.out, g1]; rfl
          rw [g1] at HLA
          go_wp2_with fail
          refine (HLA.out _).mono ?_
          rintro e w3 ⟨rfl, hb⟩
          clear a_c0 a_c1 a_c2 a_c3 a_c4 a_c5 a_c6 a_c7 a_c8 a_c9 a_c10
          go_wp2_with fail
          go_roundw
          case rel => exact ⟨k + 1, by omega, by go_num, hS.trans hb, HN.out⟩
          case measure => simp [intOf]; omega
      · have HN : Hid (R = true) := by show _ = _; rw [hres.out, List.drop_eq_nil_of_le (by omega)]; rfl
        clear hres
        go_wp2_with fail
        go_ret
        exact ⟨ret_bool HN.out.symm, hS⟩
theorem lives24_any (w : World) (hE : Env w) :
    Calls Tryz.prog 4 #[] w fun e w' => e = .returned (.bool true) ∧ Since w w' := by
  have H : Hid (∀ W, Env W → Calls Tryz.prog 7 #[.agg #[.int .i64 3, .string ⟨#[97]⟩, .string ⟨#[112]⟩, .int .i64 0, .bool false, .string ⟨#[]⟩, .bool false, .string ⟨#[]⟩, .bool false, .string ⟨#[]⟩, .bool false, .string ⟨#[]⟩]] W fun e w' => e = .returned (.tuple #[.string ⟨#[3, 1, 97, 1, 112, 0]⟩, .int .i64 0]) ∧ Since W w') := by
    intro W hEW
    have h := request_yes 3 [97] [112] 0 false false false false [] [] [] [] W (valid_fits (by decide +kernel)) hEW (by decide +kernel)
    rw [show rqB ((3 : Nat) : Int) (([97], [112], 0, (false, []), (false, []), (false, []), (false, [])) : Atm) = [3, 1, 97, 1, 112, 0] by decide +kernel] at h
    exact h
  go_enter Tryz.func4, Tryz.ntmps4
  go_wp2_with fail
  refine (H.out _ hE).mono ?_
  rintro e w1 ⟨rfl, hb⟩
  go_wp2_with fail
  go_ret
  exact ⟨rfl, hb⟩
end Go.Proofs.YtkdeokgkjmboeaaGreatDoor

namespace Go.Proofs.YtkdeokgkjmboeaaGreatDoor
open Go.RowKit

theorem rqB_pos (k : Int) (a : Atm) : 1 ≤ (rqB k a).length := by unfold rqB; rw [List.length_cons]; omega
theorem readRq_rqB {k : Nat} {a : Atm} (h : mayRq (k : Int) a = true) : readRq (rqB (k : Int) a) = some (k, a) := readRq_iff.2 ⟨h, rfl⟩
theorem mayRq_nat {k : Int} {a : Atm} (h : mayRq k a = true) : ∃ n : Nat, k = (n : Int) ∧ 1 ≤ n ∧ n ≤ 3 ∧ checkA a = 0 := by
  simp only [mayRq, Bool.and_eq_true, decide_eq_true_eq, beq_iff_eq] at h
  exact ⟨k.toNat, by omega, by omega, by omega, h.2.2⟩
theorem rq_cut_none {k : Int} {a : Atm} (h : mayRq k a = true) {p : Nat} (hp : p < (rqB k a).length) : readRq ((rqB k a).take p) = none := by
  cases hr : readRq ((rqB k a).take p) with
  | none => rfl
  | some q =>
    obtain ⟨l, b⟩ := q
    obtain ⟨hb, he⟩ := readRq_iff.1 hr
    have h2 : rqB (l : Int) b ++ (rqB k a).drop p = rqB k a := by rw [← he, List.take_append_drop]
    have h3 := congrArg List.length (rq_pre hb h h2)
    rw [List.length_drop, List.length_nil] at h3
    omega
theorem rq_ext {k : Nat} {a : Atm} (h : mayRq (k : Int) a = true) (r : List UInt8) : readRq (rqB (k : Int) a ++ r) = if r.isEmpty then some (k, a) else none := by
  cases r with
  | nil => rw [List.append_nil]; exact readRq_rqB h
  | cons c r =>
    simp only [List.isEmpty_cons, Bool.false_eq_true, if_false]
    cases hr : readRq (rqB (k : Int) a ++ c :: r) with
    | none => rfl
    | some q =>
      obtain ⟨l, b⟩ := q
      obtain ⟨hb, he⟩ := readRq_iff.1 hr
      cases rq_pre h hb he
theorem readRq_atom {s : List UInt8} {k : Nat} {a : Atm} (h : readRq s = some (k, a)) : checkA a = 0 := (mayRq_nat (readRq_iff.1 h).1).elim fun _ h => h.2.2.2

theorem readreq_yes (s : List UInt8) (k : Nat) (b_s b_p : List UInt8) (b_n : Int) (b_v0 b_v1 b_v2 b_v3 : Bool) (b_l0 b_l1 b_l2 b_l3 : List UInt8) (w : World) (hs : s.length ≤ 4096) (hE : Env w) (h : readRq s = some (k, ((b_s, b_p, b_n, (b_v0, b_l0), (b_v1, b_l1), (b_v2, b_l2), (b_v3, b_l3)) : Atm))) :
    Calls Tryz.prog 9 #[.string ⟨s.toArray⟩] w fun e w' => e = .returned (.tuple #[.agg #[.int .i64 (k : Int), .string ⟨b_s.toArray⟩, .string ⟨b_p.toArray⟩, .int .i64 b_n, .bool b_v0, .string ⟨b_l0.toArray⟩, .bool b_v1, .string ⟨b_l1.toArray⟩, .bool b_v2, .string ⟨b_l2.toArray⟩, .bool b_v3, .string ⟨b_l3.toArray⟩], .int .i64 0]) ∧ Since w w' := by
  unfold readRq at h
  split at h
  · cases h
  · rename_i hc
    rw [Bool.not_eq_true] at hc
    obtain ⟨hk, ha⟩ := Prod.ext_iff.1 (Option.some.inj h)
    have h1 := readreq_any s w hs hE k b_s b_p b_n b_v0 b_v1 b_v2 b_v3 b_l0 b_l1 b_l2 b_l3 (oneF s false).2.1 (atomF (oneF s false).2.1 (oneF s false).2.2).2.1 (oneF s false).2.2 (atomF (oneF s false).2.1 (oneF s false).2.2).2.2 (Prod.ext hk rfl) (Prod.ext ha rfl)
    simp only at hk ha
    rw [hk, ha] at hc
    rw [hc] at h1
    exact h1
theorem readreq_no (s : List UInt8) (w : World) (hs : s.length ≤ 4096) (hE : Env w) (h : readRq s = none) :
    Calls Tryz.prog 9 #[.string ⟨s.toArray⟩] w fun e w' => e = .returned (.tuple #[.agg #[.int .i64 0, .string ⟨#[]⟩, .string ⟨#[]⟩, .int .i64 0, .bool false, .string ⟨#[]⟩, .bool false, .string ⟨#[]⟩, .bool false, .string ⟨#[]⟩, .bool false, .string ⟨#[]⟩], .int .i64 15]) ∧ Since w w' := by
  unfold readRq at h
  split at h
  · rename_i hc
    generalize ho : oneF s false = o at *
    obtain ⟨k, s1, b1⟩ := o
    simp only at hc
    generalize hat : atomF s1 b1 = q at *
    obtain ⟨⟨a_s, a_p, a_n, ⟨a_v0, a_l0⟩, ⟨a_v1, a_l1⟩, ⟨a_v2, a_l2⟩, ⟨a_v3, a_l3⟩⟩, s2, b2⟩ := q
    simp only at hc
    have h1 := readreq_any s w hs hE k a_s a_p a_n a_v0 a_v1 a_v2 a_v3 a_l0 a_l1 a_l2 a_l3 s1 s2 b1 b2 ho hat
    rw [hc] at h1
    exact h1
  · cases h
theorem readresp_yes (s : List UInt8) (x : Rsp) (w : World) (hs : s.length ≤ 900000) (hE : Env w) (h : readRs s = some x) :
    Calls Tryz.prog 13 #[.string ⟨s.toArray⟩] w fun e w' => ∃ v, e = .returned (.tuple #[.agg #[.int .i64 x.1, .bool x.2.1, v, .string ⟨x.2.2.2.toArray⟩], .int .i64 0]) ∧ AtmRow w' v x.2.2.1 ∧ Since w w' := by
  have h1 := readresp_any s w hs hE
  unfold RsPost at h1
  rw [h] at h1
  exact h1
theorem readresp_no (s : List UInt8) (w : World) (hs : s.length ≤ 900000) (hE : Env w) (h : readRs s = none) :
    Calls Tryz.prog 13 #[.string ⟨s.toArray⟩] w fun e w' => ∃ v, e = .returned (.tuple #[.agg #[.int .i64 0, .bool false, v, .string ⟨#[]⟩], .int .i64 15]) ∧ AtmRow w' v [] ∧ Since w w' := by
  have h1 := readresp_any s w hs hE
  unfold RsPost at h1
  rw [h] at h1
  exact h1
theorem request_yes' (k : Int) (a_s a_p : List UInt8) (a_n : Int) (a_v0 a_v1 a_v2 a_v3 : Bool) (a_l0 a_l1 a_l2 a_l3 : List UInt8) (w : World) (hF : FitsA ((a_s, a_p, a_n, (a_v0, a_l0), (a_v1, a_l1), (a_v2, a_l2), (a_v3, a_l3)) : Atm)) (hE : Env w) (hm : mayRq k ((a_s, a_p, a_n, (a_v0, a_l0), (a_v1, a_l1), (a_v2, a_l2), (a_v3, a_l3)) : Atm) = true) :
    Calls Tryz.prog 7 #[.agg #[.int .i64 k, .string ⟨a_s.toArray⟩, .string ⟨a_p.toArray⟩, .int .i64 a_n, .bool a_v0, .string ⟨a_l0.toArray⟩, .bool a_v1, .string ⟨a_l1.toArray⟩, .bool a_v2, .string ⟨a_l2.toArray⟩, .bool a_v3, .string ⟨a_l3.toArray⟩]] w fun e w' => e = .returned (.tuple #[.string ⟨(rqB k ((a_s, a_p, a_n, (a_v0, a_l0), (a_v1, a_l1), (a_v2, a_l2), (a_v3, a_l3)) : Atm)).toArray⟩, .int .i64 0]) ∧ Since w w' := by
  obtain ⟨n, rfl, _⟩ := mayRq_nat hm
  exact request_yes n a_s a_p a_n a_v0 a_v1 a_v2 a_v3 a_l0 a_l1 a_l2 a_l3 w hF hE hm
theorem response_good (code : Int) (ch : Bool) (v : Value) (L : List Atm) (ct : List UInt8) (w : World) (hE : Env w) (hv : AtmRow w v L) (hg : ∀ x ∈ L, lightB x = true) (hm : L.length ≤ 10000) (hr : mayRs (code, ch, L, ct) = true) (hT : (rsB (code, ch, L, ct)).length ≤ 500000) :
    Calls Tryz.prog 11 #[.agg #[.int .i64 code, .bool ch, v, .string ⟨ct.toArray⟩]] w fun e w' => e = .returned (.tuple #[.string ⟨(rsB (code, ch, L, ct)).toArray⟩, .int .i64 0]) ∧ Since w w' := by
  rcases mayRs_cases hr with ⟨h0, hp, h16, hch, hL, hct⟩ | ⟨h0, _⟩
  · simp only at h0 hp h16 hch hL hct
    subst hch hL hct
    obtain ⟨n, rfl⟩ : ∃ n : Nat, code = (n : Int) := ⟨code.toNat, by omega⟩
    obtain ⟨a, c, rfl⟩ := hv.form
    have h := response_err n a c w hE (by omega) (by omega) hr
    have e : rsB ((n : Int), false, [], []) = [UInt8.ofNat n] := by
      unfold rsB
      simp only
      rw [if_pos h0, Int.toNat_natCast]
    rw [e]
    exact h
  · simp only at h0
    subst h0
    exact response_yes ch v L ct w hE hv hg hm hr hT

theorem flatA_len (B : Nat) : ∀ (L : List Atm), (∀ a ∈ L, (atomB a).length ≤ B) → (L.flatMap atomB).length ≤ L.length * B
  | [], _ => by simp
  | a :: r, h => by
    have h1 := flatA_len B r fun x hx => h x (List.mem_cons_of_mem _ hx)
    have h2 := h a (by simp)
    rw [List.flatMap_cons, List.length_append, List.length_cons, Nat.add_mul]
    omega
theorem flatA_pos : ∀ (L : List Atm), L.length ≤ (L.flatMap atomB).length
  | [] => by simp
  | a :: r => by
    have h1 := flatA_pos r
    have h2 := atomB_pos a
    rw [List.flatMap_cons, List.length_append, List.length_cons]
    omega
theorem rsB_light {x : Rsp} (hg : ∀ a ∈ x.2.2.1, lightB a = true) (hl : x.2.2.1.length ≤ 20) (hc : x.2.2.2.length ≤ 2000) : (rsB x).length ≤ 100000 := by
  unfold rsB
  split
  · simp
  · have h1 := flatA_len 2000 x.2.2.1 fun a ha => atomB_le (hg a ha)
    have h2 := num_len x.2.2.1.length
    have h3 := num_len x.2.2.2.length
    unfold textB
    simp only [List.length_cons, List.length_append]
    omega
theorem rsB_parts {x : Rsp} (hm : mayRs x = true) {n : Nat} (hn : (rsB x).length ≤ n) : x.2.2.1.length ≤ n ∧ x.2.2.2.length ≤ n := by
  rcases mayRs_cases hm with ⟨h0, hp, h16, hch, hL, hct⟩ | ⟨h0, _⟩
  · rw [hL, hct]; simp
  · unfold rsB at hn
    rw [if_neg (by simp [h0])] at hn
    have h1 := flatA_pos x.2.2.1
    unfold textB at hn
    simp only [List.length_cons, List.length_append] at hn
    omega
theorem rs_light {x : Rsp} (hm : mayRs x = true) : ∀ a ∈ x.2.2.1, lightB a = true := by
  rcases mayRs_cases hm with ⟨h0, hp, h16, hch, hL, hct⟩ | ⟨h0, _, hv, _⟩
  · rw [hL]; simp
  · exact fun a ha => valid_light (hv a ha).1
theorem mayRs_code {x : Rsp} (hm : mayRs x = true) : 0 ≤ x.1 ∧ x.1 ≤ 16 := by
  rcases mayRs_cases hm with ⟨h0, hp, h16, _⟩ | ⟨h0, _⟩
  · omega
  · omega
theorem sameR_self (x : Rsp) : sameR x x = true := sameR_iff.2 rfl
end Go.Proofs.YtkdeokgkjmboeaaGreatDoor
