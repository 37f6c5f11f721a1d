/- Plain matching with canonical forms; Same[Atom] of equal lists; Add in words of Tab. -/
import Derived.Test.YtbgdljcgbhhfdaaDoorTabQ
namespace Go.Proofs.YtbgdljcgbhhfdaaDoor
open Go.RowKit Go.Maps Go.WideMaps
attribute [local go_sem ↓] run_atomEq
attribute [local go_sem] eqA_self

theorem vN_lit (j : Nat) (h : j < 4) : vN j = [86, UInt8.ofNat (48 + j)] := by
  have h1 : Lib.decDigits j = [UInt8.ofNat (48 + j)] := by rw [Lib.decDigits, dif_pos (by omega)]
  unfold vN
  rw [h1]
theorem vN_term (j : Nat) (h : j < 4) : termB (true, vN j) = true := by
  rw [vN_lit j h]
  rcases (show j = 0 ∨ j = 1 ∨ j = 2 ∨ j = 3 by omega) with rfl | rfl | rfl | rfl
  · kernel_rfl
  · kernel_rfl
  · kernel_rfl
  · kernel_rfl
theorem newN_lt {ns : List (List UInt8)} (hl : ns.length ≤ 4) (s : List UInt8) : (posF ns s 0).getD 0 < 4 := by
  cases h : posF ns s 0 with
  | none => simp
  | some j => have := (posF_lt h).2.1; simp; omega
theorem canT_term {ns : List (List UInt8)} (hl : ns.length ≤ 4) {t : Tm} (h : termB t = true) : termB (canT ns t) = true := by
  obtain ⟨v, s⟩ := t
  cases v with
  | false => rw [canT_const rfl]; exact h
  | true => rw [canT_var]; exact vN_term _ (newN_lt hl s)
theorem argsL_drop (ns : List (List UInt8)) (k : Nat) (a : Atm) : (argsL (partC ns k a)).drop k = (argsL a).drop k := by
  obtain ⟨s, p, n, t0, t1, t2, t3⟩ := a
  unfold argsL partC
  match k with
  | 0 => rfl
  | 1 => rfl
  | 2 => rfl
  | 3 => rfl
  | j + 4 => simp
/-- A valid atom's canonical form is valid. -/
theorem check_can {a : Atm} (h : checkA a = 0) : checkA (canA a) = 0 := by
  obtain ⟨n, hn, e1, e2⟩ := valid_len h
  have e3 : (canA a).1 = a.1 := rfl
  have e4 : (canA a).2.1 = a.2.1 := rfl
  have e5 : (canA a).2.2.1 = a.2.2.1 := rfl
  have hn2 : a.2.2.1.toNat = n := by rw [e1]; rfl
  have e6 : (argsL (canA a)).take n = ((argsL a).take n).map (canT (namesA a true)) := by unfold canA; rw [e2, argsL_partC]
  have e7 : (argsL (canA a)).drop n = (argsL a).drop n := by unfold canA; rw [e2, argsL_drop]
  unfold checkA at h ⊢
  rw [e3, e4, e5, hn2, e6, e7]
  rw [hn2] at h
  split at h
  · cases h
  · next h1 =>
    rw [if_neg h1]
    split at h
    · cases h
    · next h2 =>
      rw [if_neg h2]
      split at h
      · cases h
      · next h3 =>
        split at h
        · cases h
        · next h4 =>
          rw [if_neg, if_neg h4]
          simp only [Bool.not_eq_true', Bool.not_eq_false] at h3 ⊢
          rw [List.all_eq_true] at h3 ⊢
          intro t ht
          obtain ⟨u, hu, rfl⟩ := List.mem_map.1 ht
          exact canT_term (namesA_len a) (h3 u hu)
theorem pairs_zip (a b : Atm) : pairsA a b = ((argsL a).take (countA a)).zip ((argsL b).take (countA a)) := by
  unfold pairsA
  rw [List.zip, List.take_zipWith]
/-- What a canonical form matches, the atom matches. -/
theorem match_can {a x : Atm} (ka : checkA a = 0) (kx : checkA x = 0) (h : (extH [] (canA a) x).isSome = true) : (extH [] a x).isSome = true := by
  unfold extH at h ⊢
  have e3 : (canA a).1 = a.1 := rfl
  have e4 : (canA a).2.1 = a.2.1 := rfl
  have e5 : (canA a).2.2.1 = a.2.2.1 := rfl
  rw [e3, e4, e5] at h
  split at h
  · next hc =>
    rw [if_pos hc]
    have hcc : countA a = countA x := by unfold countA; rw [hc.1.2.2]
    have hcc2 : countA (canA a) = countA x := hcc
    have hNP := named_pairs ka kx hcc
    have hNP2 := named_pairs (check_can ka) kx hcc2
    have hG := ground_pairs (a := a) hc.2 hcc
    have hG2 := ground_pairs (a := canA a) hc.2 hcc2
    rw [matchG_F (P := pairsA (canA a) x) (fun q hq => (hNP2 q hq).2), match_uni (fun b hb => by cases hb) hG2] at h
    rw [matchG_F (P := pairsA a x) (fun q hq => (hNP q hq).2), match_uni (fun b hb => by cases hb) hG]
    obtain ⟨m, hm⟩ := Option.isSome_iff_exists.1 h
    obtain ⟨_, _, hs⟩ := uni_sound InvB.nil hNP2 hm
    have hz : pairsA (canA a) x = (pairsA a x).map fun q => (canT (namesA a true) q.1, q.2) := by
      rw [pairs_zip, pairs_zip]
      have e6 : countA (canA a) = countA a := rfl
      rw [e6]
      unfold canA
      rw [argsL_partC, List.zip_map_left]
      rfl
    let σ : Tm → Tm := fun t => if t.1 then termS m (canT (namesA a true) t) else t
    have hσ : ∀ t : Tm, t.1 = false → σ t = t := fun t ht => by show (if t.1 = true then _ else t) = t; rw [ht]; rfl
    obtain ⟨r, hr, _⟩ := uni_most hσ InvB.nil hNP (fun t => by rw [termS_nil]) (fun q hq => by
      have hq2 : (canT (namesA a true) q.1, q.2) ∈ pairsA (canA a) x := by rw [hz]; exact List.mem_map.2 ⟨q, hq, rfl⟩
      have h1 := hs _ hq2
      have h2 := hG q hq
      rw [hσ q.2 h2]
      rw [termS_const m h2] at h1
      show (if q.1.1 = true then termS m (canT (namesA a true) q.1) else q.1) = q.2
      cases hv : q.1.1 with
      | true => rw [if_pos rfl]; exact h1
      | false =>
        rw [canT_const hv, termS_const m hv] at h1
        exact h1)
    have hr2 : uniF (pairsA a x) [] = some r := hr
    rw [hr2]; rfl
  · cases h
theorem tadd_t1 {B g : Nat} {Z : Nat → Prop} {S : List TCall} (i : Nat) (a_s a_p : List UInt8) (a_n : Int) (a_v0 a_v1 a_v2 a_v3 : Bool) (a_l0 a_l1 a_l2 a_l3 : List UInt8) (w : World) (h : Tab w B g Z S) (hi : i < S.length) (hf : FitsN ((a_s, a_p, a_n, (a_v0, a_l0), (a_v1, a_l1), (a_v2, a_l2), (a_v3, a_l3)) : Atm)) (hE : Env w) (hkc : checkA (S[i]).1 = 0) (hx : addOK (S[i]).1 ((a_s, a_p, a_n, (a_v0, a_l0), (a_v1, a_l1), (a_v2, a_l2), (a_v3, a_l3)) : Atm) = false) :
    Calls Tryd.prog 21 #[.pointer (some ⟨g, 0, none⟩), .int .i64 (i : Int), .agg #[.string ⟨a_s.toArray⟩, .string ⟨a_p.toArray⟩, .int .i64 a_n, .bool a_v0, .string ⟨a_l0.toArray⟩, .bool a_v1, .string ⟨a_l1.toArray⟩, .bool a_v2, .string ⟨a_l2.toArray⟩, .bool a_v3, .string ⟨a_l3.toArray⟩]] w fun e w' => e = .returned (.tuple #[.bool false, .int .i64 2]) ∧ Since w w' := by
  obtain ⟨⟨mp, np, cv, R, h1, h2⟩, h3⟩ := h
  cases hm : (extH [] (S[i]).1 ((a_s, a_p, a_n, (a_v0, a_l0), (a_v1, a_l1), (a_v2, a_l2), (a_v3, a_l3)) : Atm)).isSome with
  | false => exact tadd_bad1 i a_s a_p a_n a_v0 a_v1 a_v2 a_v3 a_l0 a_l1 a_l2 a_l3 w h1 hi hf hE hkc hm
  | true =>
    refine tadd_bad2 i a_s a_p a_n a_v0 a_v1 a_v2 a_v3 a_l0 a_l1 a_l2 a_l3 w h1 hi hf hE hkc hm (fun hk => ?_)
    unfold addOK at hx
    rw [hm, hk] at hx
    cases hx
theorem addOK_parts {c a : Atm} (h : addOK c a = true) : checkA a = 0 ∧ (extH [] c a).isSome = true := by
  unfold addOK at h
  rw [Bool.and_eq_true] at h
  exact ⟨by simpa using h.1, h.2⟩
theorem tadd_t2 {B g : Nat} {Z : Nat → Prop} {S : List TCall} (i : Nat) (a_s a_p : List UInt8) (a_n : Int) (a_v0 a_v1 a_v2 a_v3 : Bool) (a_l0 a_l1 a_l2 a_l3 : List UInt8) (w : World) (h : Tab w B g Z S) (hi : i < S.length) (hf : FitsN ((a_s, a_p, a_n, (a_v0, a_l0), (a_v1, a_l1), (a_v2, a_l2), (a_v3, a_l3)) : Atm)) (hE : Env w) (hkc : checkA (S[i]).1 = 0) (hx : addOK (S[i]).1 ((a_s, a_p, a_n, (a_v0, a_l0), (a_v1, a_l1), (a_v2, a_l2), (a_v3, a_l3)) : Atm) = true) (hin : ((a_s, a_p, a_n, (a_v0, a_l0), (a_v1, a_l1), (a_v2, a_l2), (a_v3, a_l3)) : Atm) ∈ (S[i]).2.1) :
    Calls Tryd.prog 21 #[.pointer (some ⟨g, 0, none⟩), .int .i64 (i : Int), .agg #[.string ⟨a_s.toArray⟩, .string ⟨a_p.toArray⟩, .int .i64 a_n, .bool a_v0, .string ⟨a_l0.toArray⟩, .bool a_v1, .string ⟨a_l1.toArray⟩, .bool a_v2, .string ⟨a_l2.toArray⟩, .bool a_v3, .string ⟨a_l3.toArray⟩]] w fun e w' => e = .returned (.tuple #[.bool false, .int .i64 0]) ∧ Since w w' := by
  obtain ⟨⟨mp, np, cv, R, h1, h2⟩, h3⟩ := h
  obtain ⟨hk, hm⟩ := addOK_parts hx
  cases hp : posF (S[i]).2.1 ((a_s, a_p, a_n, (a_v0, a_l0), (a_v1, a_l1), (a_v2, a_l2), (a_v3, a_l3)) : Atm) 0 with
  | none => exact absurd hin (posF_none.1 hp)
  | some j => exact tadd_old i a_s a_p a_n a_v0 a_v1 a_v2 a_v3 a_l0 a_l1 a_l2 a_l3 w h1 hi hf hE hkc hm hk j hp
theorem tadd_t3 {B g : Nat} {Z : Nat → Prop} {S : List TCall} (i : Nat) (a_s a_p : List UInt8) (a_n : Int) (a_v0 a_v1 a_v2 a_v3 : Bool) (a_l0 a_l1 a_l2 a_l3 : List UInt8) (w : World) (h : Tab w B g Z S) (hi : i < S.length) (hf : FitsN ((a_s, a_p, a_n, (a_v0, a_l0), (a_v1, a_l1), (a_v2, a_l2), (a_v3, a_l3)) : Atm)) (hE : Env w) (hkc : checkA (S[i]).1 = 0) (hx : addOK (S[i]).1 ((a_s, a_p, a_n, (a_v0, a_l0), (a_v1, a_l1), (a_v2, a_l2), (a_v3, a_l3)) : Atm) = true) (hin : ¬ ((a_s, a_p, a_n, (a_v0, a_l0), (a_v1, a_l1), (a_v2, a_l2), (a_v3, a_l3)) : Atm) ∈ (S[i]).2.1) (hl : (S[i]).2.1.length < 100000) (hcn : cntS S < 1000000) :
    Calls Tryd.prog 21 #[.pointer (some ⟨g, 0, none⟩), .int .i64 (i : Int), .agg #[.string ⟨a_s.toArray⟩, .string ⟨a_p.toArray⟩, .int .i64 a_n, .bool a_v0, .string ⟨a_l0.toArray⟩, .bool a_v1, .string ⟨a_l1.toArray⟩, .bool a_v2, .string ⟨a_l2.toArray⟩, .bool a_v3, .string ⟨a_l3.toArray⟩]] w fun e w' => e = .returned (.tuple #[.bool true, .int .i64 0]) ∧ TOp Z B g w w' (S.set i (addC S[i] ((a_s, a_p, a_n, (a_v0, a_l0), (a_v1, a_l1), (a_v2, a_l2), (a_v3, a_l3)) : Atm))) := by
  have hB := h.le
  obtain ⟨⟨mp, np, cv, R, h1, h2⟩, h3⟩ := h
  obtain ⟨hk, hm⟩ := addOK_parts hx
  refine (tadd_new i a_s a_p a_n a_v0 a_v1 a_v2 a_v3 a_l0 a_l1 a_l2 a_l3 w h1 hi hf hE hkc hm hk (posF_none.2 hin) hl hcn hB).mono ?_
  rintro e w' ⟨rfl, R', k1, k2, k3⟩
  exact ⟨rfl, TOp.of h2 h3 hB k1 k3 k2⟩
theorem tadd_tn {B g : Nat} {Z : Nat → Prop} {S : List TCall} (i : Int) (a_s a_p : List UInt8) (a_n : Int) (a_v0 a_v1 a_v2 a_v3 : Bool) (a_l0 a_l1 a_l2 a_l3 : List UInt8) (w : World) (h : Tab w B g Z S) (hi : i < 0 ∨ (S.length : Int) ≤ i) :
    Calls Tryd.prog 21 #[.pointer (some ⟨g, 0, none⟩), .int .i64 i, .agg #[.string ⟨a_s.toArray⟩, .string ⟨a_p.toArray⟩, .int .i64 a_n, .bool a_v0, .string ⟨a_l0.toArray⟩, .bool a_v1, .string ⟨a_l1.toArray⟩, .bool a_v2, .string ⟨a_l2.toArray⟩, .bool a_v3, .string ⟨a_l3.toArray⟩]] w fun e w' => e = .returned (.tuple #[.bool false, .int .i64 13]) ∧ Since w w' := by
  obtain ⟨⟨mp, np, cv, R, h1, h2⟩, h3⟩ := h
  exact tadd_no i a_s a_p a_n a_v0 a_v1 a_v2 a_v3 a_l0 a_l1 a_l2 a_l3 w h1 hi
set_option maxHeartbeats 1000000 in
set_option maxRecDepth 100000 in
theorem neqg_sameA {o : Oper} {x y : Operand} {ev : Operand → Value} (a_s a_p : List UInt8) (a_n : Int) (a_v0 a_v1 a_v2 a_v3 : Bool) (a_l0 a_l1 a_l2 a_l3 : List UInt8) (ho : o.op = Op.binOp .neq 34 x y 34) (hx : ev x = .agg #[.string ⟨a_s.toArray⟩, .string ⟨a_p.toArray⟩, .int .i64 a_n, .bool a_v0, .string ⟨a_l0.toArray⟩, .bool a_v1, .string ⟨a_l1.toArray⟩, .bool a_v2, .string ⟨a_l2.toArray⟩, .bool a_v3, .string ⟨a_l3.toArray⟩]) (hy : ev y = .agg #[.string ⟨a_s.toArray⟩, .string ⟨a_p.toArray⟩, .int .i64 a_n, .bool a_v0, .string ⟨a_l0.toArray⟩, .bool a_v1, .string ⟨a_l1.toArray⟩, .bool a_v2, .string ⟨a_l2.toArray⟩, .bool a_v3, .string ⟨a_l3.toArray⟩]) (W : World) :
    (execOp ev o).run Tryd.prog W = .ok (.value (.bool false)) W := by
  simp only [execOp, ho]
  go_simp
set_option maxHeartbeats 4000000 in
set_option maxRecDepth 100000 in
theorem same_atms (v1 v2 : Value) (L : List Atm) (w : World) (h1 : ARow w v1 L) (h2 : ARow w v2 L) (hm : L.length ≤ 1000000) :
    Calls Tryd.prog 24 #[v1, v2] w fun e w' => e = .returned (.bool true) ∧ Since w w' := by
  obtain ⟨a1, c1, rfl⟩ := h1.slice
  obtain ⟨a2, c2, rfl⟩ := h2.slice
  have H1 := Lib.hid h1
  have H2 := Lib.hid h2
  clear h1 h2
  go_enter Tryd.func24, Tryd.ntmps24
  go_wp2_with fail
  go_loopw [5] (fun i wr => ∃ k : Nat, k ≤ L.length ∧ i = .int .i64 (k : Int) ∧ Since w wr) (fun i _ => L.length - (intOf i).toNat)
  case atStart => exact ⟨0, Nat.zero_le _, rfl, Since.refl _⟩
  case round =>
  rename World => w1
  obtain ⟨k, hk, rfl, hS⟩ := hrel
  by_cases hlt : k < L.length
  · have hlt2 : (k : Int) < (L.length : Int) := by omega
    have hlt0 : (0 : Int) ≤ (k : Int) := by omega
    obtain ⟨b, ob, e1, hc, hat⟩ := H1.out.get (by omega)
    obtain ⟨d, od, e2, hd, hau⟩ := H2.out.get (by omega)
    have d1 := hat k hlt
    have d2 := hau k hlt
    obtain ⟨⟨x_s, x_p, x_n, ⟨x_v0, x_l0⟩, ⟨x_v1, x_l1⟩, ⟨x_v2, x_l2⟩, ⟨x_v3, x_l3⟩⟩, hx⟩ : ∃ x, Hid (x = L[k]) := ⟨L[k], rfl⟩
    rw [← hx.out] at d1 d2
    have xA0 : At w b (ob + k * 11) #[.string ⟨x_s.toArray⟩, .string ⟨x_p.toArray⟩, .int .i64 x_n, .bool x_v0, .string ⟨x_l0.toArray⟩, .bool x_v1, .string ⟨x_l1.toArray⟩, .bool x_v2, .string ⟨x_l2.toArray⟩, .bool x_v3, .string ⟨x_l3.toArray⟩] := d1
    have yA0 : At w d (od + k * 11) #[.string ⟨x_s.toArray⟩, .string ⟨x_p.toArray⟩, .int .i64 x_n, .bool x_v0, .string ⟨x_l0.toArray⟩, .bool x_v1, .string ⟨x_l1.toArray⟩, .bool x_v2, .string ⟨x_l2.toArray⟩, .bool x_v3, .string ⟨x_l3.toArray⟩] := d2
    have xA := xA0.next hS
    have yA := yA0.next hS
    subst e1 e2
    clear hat hau d1 d2 xA0 yA0
    go_wp2_with fail
    replace hS := hS.trans ((Since.refl w1).drew)
    replace xA := xA.next ((Since.refl w1).drew)
    replace yA := yA.next ((Since.refl w1).drew)
    refine hx_begin (S := fun W => (Since w W) ∧ (At W b (ob + k * 11) #[.string ⟨x_s.toArray⟩, .string ⟨x_p.toArray⟩, .int .i64 x_n, .bool x_v0, .string ⟨x_l0.toArray⟩, .bool x_v1, .string ⟨x_l1.toArray⟩, .bool x_v2, .string ⟨x_l2.toArray⟩, .bool x_v3, .string ⟨x_l3.toArray⟩]) ∧ (At W d (od + k * 11) #[.string ⟨x_s.toArray⟩, .string ⟨x_p.toArray⟩, .int .i64 x_n, .bool x_v0, .string ⟨x_l0.toArray⟩, .bool x_v1, .string ⟨x_l1.toArray⟩, .bool x_v2, .string ⟨x_l2.toArray⟩, .bool x_v3, .string ⟨x_l3.toArray⟩])) (by kernel_rfl) ⟨hS, xA, yA⟩ (by kernel_rfl) (fun _ _ _ _ _ h => h) (fun hns hQ => ?_)
    refine hx_take (i := 0) (oi := _) (v := .slice (some ⟨b, ob, none⟩) L.length c1) rfl rfl hns (by kernel_rfl) (by kernel_rfl) hQ (by kernel_rfl) (fun _ _ => by kernel_rfl) ⟨hS, xA, yA⟩ ?_
    refine hx_take (i := 1) (oi := _) (v := .int .i64 (k : Int)) rfl rfl hns (by kernel_rfl) (by kernel_rfl) hQ (by kernel_rfl) (fun _ _ => by kernel_rfl) ⟨hS, xA, yA⟩ ?_
    refine hx_take (i := 2) (oi := _) (v := .pointer (some ⟨b, ob + k * 11, none⟩)) rfl rfl hns (by kernel_rfl) (by kernel_rfl) hQ (by kernel_rfl) (fun W _ => ix_sl (n := L.length) (c := c1) (K := 11) rfl (by kernel_rfl) (by kernel_rfl) (by kernel_rfl) rfl hlt W) ⟨hS, xA, yA⟩ ?_
    refine hx_take (i := 3) (oi := _) (v := .agg #[.string ⟨x_s.toArray⟩, .string ⟨x_p.toArray⟩, .int .i64 x_n, .bool x_v0, .string ⟨x_l0.toArray⟩, .bool x_v1, .string ⟨x_l1.toArray⟩, .bool x_v2, .string ⟨x_l2.toArray⟩, .bool x_v3, .string ⟨x_l3.toArray⟩]) rfl rfl hns (by kernel_rfl) (by kernel_rfl) hQ (by kernel_rfl) (fun W hW => ld_at rfl (by kernel_rfl) (by kernel_rfl) (by kernel_rfl) W (hW.2.1)) ⟨hS, xA, yA⟩ ?_
    refine hx_take (i := 4) (oi := _) (v := .slice (some ⟨d, od, none⟩) L.length c2) rfl rfl hns (by kernel_rfl) (by kernel_rfl) hQ (by kernel_rfl) (fun _ _ => by kernel_rfl) ⟨hS, xA, yA⟩ ?_
    refine hx_take (i := 5) (oi := _) (v := .int .i64 (k : Int)) rfl rfl hns (by kernel_rfl) (by kernel_rfl) hQ (by kernel_rfl) (fun _ _ => by kernel_rfl) ⟨hS, xA, yA⟩ ?_
    refine hx_take (i := 6) (oi := _) (v := .pointer (some ⟨d, od + k * 11, none⟩)) rfl rfl hns (by kernel_rfl) (by kernel_rfl) hQ (by kernel_rfl) (fun W _ => ix_sl (n := L.length) (c := c2) (K := 11) rfl (by kernel_rfl) (by kernel_rfl) (by kernel_rfl) rfl hlt W) ⟨hS, xA, yA⟩ ?_
    refine hx_take (i := 7) (oi := _) (v := .agg #[.string ⟨x_s.toArray⟩, .string ⟨x_p.toArray⟩, .int .i64 x_n, .bool x_v0, .string ⟨x_l0.toArray⟩, .bool x_v1, .string ⟨x_l1.toArray⟩, .bool x_v2, .string ⟨x_l2.toArray⟩, .bool x_v3, .string ⟨x_l3.toArray⟩]) rfl rfl hns (by kernel_rfl) (by kernel_rfl) hQ (by kernel_rfl) (fun W hW => ld_at rfl (by kernel_rfl) (by kernel_rfl) (by kernel_rfl) W (hW.2.2)) ⟨hS, xA, yA⟩ ?_
    refine hx_take (i := 8) (oi := _) (v := .bool false) rfl rfl hns (by kernel_rfl) (by kernel_rfl) hQ (by kernel_rfl) (fun W _ => neqg_sameA x_s x_p x_n x_v0 x_v1 x_v2 x_v3 x_l0 x_l1 x_l2 x_l3 rfl (by kernel_rfl) (by kernel_rfl) W) ⟨hS, xA, yA⟩ ?_
    refine wpAnyH_done (by kernel_rfl) ?_ _
    clear hns hQ
    simp only [List.set_cons_zero, List.set_cons_succ]
    clear xA yA
    go_wp2_with fail
    go_roundw
    case rel => exact ⟨k + 1, by omega, by go_num, hS⟩
    case measure => simp [intOf]; omega
  have hlt2 : ¬ (k : Int) < (L.length : Int) := by omega
  go_wp2_with fail
  go_ret
  exact ⟨rfl, hS⟩
end Go.Proofs.YtbgdljcgbhhfdaaDoor
